/- Pieces; how many a message has: walked. -/
import Derived.Test.YtgfkdebbdjojmaaClone
import Derived.Test.YtgfkdebbdjojmaaRegB
namespace Go.Proofs.Ytgfkdebbdjojmaa.Frag
open Go.RowKit Go.Proofs.YtgfkdebbdjojmaaW.PrintWords Go.Proofs.Ytgfkdebbdjojmaa.Base
set_option linter.unusedVariables false
set_option linter.unusedSimpArgs false
abbrev Pc := Bool × Bool × List UInt8
def zPc : Pc := (false, false, [])
def pcK : Kd Pc := Kd.pair Kd.bool (Kd.pair Kd.bool (Kd.slice 5 byte))
theorem pcK_open {w : World} {x : Pc} {cs : List Value} (h : pcK.K w x cs) : ∃ A c, cs = [.bool x.1, .bool x.2.1, .slice A x.2.2.length c] ∧ x.2.2.length ≤ c ∧ byte.C w A x.2.2.length x.2.2 := by
  obtain ⟨_, _, rfl, rfl, ⟨_, _, rfl, rfl, ⟨A, c, rfl, l, g⟩⟩⟩ := h
  exact ⟨A, c, rfl, l, g⟩
theorem pcK_openM {w : World} {base : Nat} {ok : Nat → Prop} {x : Pc} {cs : List Value} (h : pcK.M w base ok x cs) : ∃ v, cs = [.bool x.1, .bool x.2.1, v] ∧ byte.R 5 w base ok v x.2.2 := by
  obtain ⟨_, _, rfl, rfl, ⟨_, _, rfl, rfl, ⟨v, rfl, g⟩⟩⟩ := h
  exact ⟨v, rfl, g⟩
theorem pcK_mkM (w : World) (base : Nat) (ok : Nat → Prop) (x : Pc) {v : Value} (g : byte.R 5 w base ok v x.2.2) : pcK.M w base ok x [.bool x.1, .bool x.2.1, v] := ⟨[.bool x.1], [.bool x.2.1, v], rfl, rfl, ⟨[.bool x.2.1], [v], rfl, rfl, ⟨v, rfl, g⟩⟩⟩
theorem info_pc : (Try.prog.info? 42).map (fun i => (i.zero, i.size, i.bytes)) = some (some (.agg #[.bool false, .bool false, .slice none 0 0]), 3, 32) := by kernel_rfl
theorem at_pc {w : World} {A : Option Addr} {n : Nat} {xs : List Pc} (h : Kd.C pcK w A n xs) (i : Nat) (h1 : i < n) : ∃ ad A2 c2, A = some ad ∧ w.cell? (ad.add (i * 3)) = some (.bool (xs.getD i zPc).1) ∧ w.cell? ⟨(ad.add (i * 3)).block, (ad.add (i * 3)).off + 1, none⟩ = some (.bool (xs.getD i zPc).2.1) ∧ w.cell? ⟨(ad.add (i * 3)).block, (ad.add (i * 3)).off + 2, none⟩ = some (.slice A2 (xs.getD i zPc).2.2.length c2) ∧ (xs.getD i zPc).2.2.length ≤ c2 ∧ byte.C w A2 (xs.getD i zPc).2.2.length (xs.getD i zPc).2.2 := by
  obtain ⟨ad, c, e, _, hK, hc0⟩ := Kd.C_get h zPc (i : Int) (by omega) (by omega)
  rw [Int.toNat_natCast] at *
  have hc : ∀ j u, c[j]? = some u → w.cell? (ad.add (i * 3 + j)) = some u := hc0
  obtain ⟨A2, c2, rfl, l2, g2⟩ := pcK_open hK
  exact ⟨ad, A2, c2, e, hc 0 _ rfl, by rw [← add_field _ _ 1 (by omega)]; exact hc 1 _ rfl, by rw [← add_field _ _ 2 (by omega)]; exact hc 2 _ rfl, l2, g2⟩
/-- How many pieces there are, or why there are none. -/
def countS (s n : Int) : Int × Int := if n < 1 ∨ n > 65536 ∨ s < 1 then (0, 1) else if s > 65536 then (0, 2) else ((s + n - 1) / n, 0)
theorem count_calls (w : World) (s n : Int) : Calls Try.prog 10 #[.int .i64 s, .int .i64 n] w fun e w' => e = .returned (.tuple #[.int .i64 (countS s n).1, .int .i64 (countS s n).2]) ∧ w = w' := by
  unfold countS
  by_cases h1 : n < 1
  · rw [if_pos (Or.inl h1)]
    go_enter Try.func10, Try.ntmps10
    go_wp2
    go_ret2
    exact ⟨rfl, rfl⟩
  by_cases h2 : n > 65536
  · rw [if_pos (Or.inr (Or.inl h2))]
    go_enter Try.func10, Try.ntmps10
    go_wp2
    go_ret2
    exact ⟨rfl, rfl⟩
  by_cases h3 : s < 1
  · rw [if_pos (Or.inr (Or.inr h3))]
    go_enter Try.func10, Try.ntmps10
    go_wp2
    go_ret2
    exact ⟨rfl, rfl⟩
  rw [if_neg (by omega)]
  by_cases h4 : s > 65536
  · rw [if_pos h4]
    go_enter Try.func10, Try.ntmps10
    go_wp2
    go_ret2
    exact ⟨rfl, rfl⟩
  · rw [if_neg h4]
    go_enter Try.func10, Try.ntmps10
    go_wp2
    go_ret2
    exact ⟨rfl, rfl⟩
end Go.Proofs.Ytgfkdebbdjojmaa.Frag
