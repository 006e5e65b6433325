/- What hands back a new row. -/
import Derived.Test.YthdemajmlidefaaBase
namespace Go.Proofs.Ythdemajmlidefaa.Base
open Go.RowKit Go.Proofs.YthdemajmlidefaaW.PrintWords
/-- A new row is handed back; nothing that was there has changed. -/
def RetR {α : Type} (d : Kd α) (t : Nat) (xs : List α) (w : World) (e : Ending) (w' : World) : Prop := ∃ v, e = .returned v ∧ d.R t w' w.heap.size (fun _ => True) v xs ∧ Below w.heap.size w w'
theorem R_lt_block {w : World} {base n c t : Nat} {ok : Nat → Prop} {ad : Addr} {q : List UInt8} (h : byte.R t w base ok (.slice (some ad) n c) q) : ad.block < w.heap.size := by
  obtain ⟨inner, ho⟩ := Kd.R_own h
  have := own_lt ho
  rcases ho.2 with ⟨h0, _⟩ | ⟨g, cap, cur, h0, _⟩
  · cases h0
  · injection h0 with h0
    injection h0 with h0
    subst h0
    exact this g rfl
theorem R_C {w : World} {base n c t : Nat} {ok : Nat → Prop} {A : Option Addr} {q : List UInt8} (h : byte.R t w base ok (.slice A n c) q) : byte.C w A n q := by
  obtain ⟨A', c', he, hle, hC⟩ := Kd.R_reads h
  injection he with h1 h2 h3
  rw [h1, h2]
  exact hC
theorem R_le {w : World} {base n c t : Nat} {ok : Nat → Prop} {A : Option Addr} {q : List UInt8} (h : byte.R t w base ok (.slice A n c) q) : n ≤ c := by
  obtain ⟨A', c', he, hle, hC⟩ := Kd.R_reads h
  injection he with h1 h2 h3
  omega
/-- A key's value: sixteen bytes. -/
def keyV (k : List UInt8) : Array Value := (k.map fun b => Value.int .u8 (b.toNat : Int)).toArray
theorem keyV_size (k : List UInt8) : (keyV k).size = k.length := by simp [keyV]
end Go.Proofs.Ythdemajmlidefaa.Base
