/- The texts of one proof, merged: part 2. -/
import Derived.Test.YthiaakjbapgibaaGreatNa1
import Derived.Test.YthiaakjbapgibaaGreatProg
import Derived.Below
import Derived.Deep.Draws
import Derived.Deep.AppendLies
import Derived.Maps.AppendAt
import Derived.OwnWalk
import Derived.Laws.BytesArg
import Derived.Laws.MakeOwn
import Derived.Laws.OwnMore
import Derived.Deep.OwnRows
import Derived.Tactics
import Derived.Lib.ConvBytes
import Derived.Laws.Slices
import Derived.WalkKit
import Derived.KernelRfl
import Derived.RowKit3
import Derived.Deep.LoopGhost
import Derived.Deep.QuietTactic
import Derived.BigQuiet
import Derived.WideLaws
import Derived.Deep.DeepCutAuto
import Derived.Deep.CutBlock
import Derived.Deep.RegionHeld3
import Derived.Laws.Rows
import Derived.Lib.AppendStr
import Derived.ArgAppend
import Derived.Laws.IdiomCopy
import Derived.OrdersHeld
import Derived.Laws.BitsLemmas
import Derived.RowKit
section
namespace Go.Proofs.YthiaakjbapgibaaGreat.PCh
open Go.RowKit Go.Proofs.YthiaakjbapgibaaGreatW.PrintWords Go.Proofs.YthiaakjbapgibaaGreatW.PrintLast Go.Proofs.YthiaakjbapgibaaGreatW.PrintMore
attribute [local go_sem] max2_int min2_int max_two min_two max_three min_three max_four min_four
set_option linter.unusedVariables false
set_option linter.unusedSimpArgs false
structure S195 where
 f0 : Int
 f1 : Int
def k195 : Kd S195 := Kd.iso (Kd.pair (Kd.int .u16) (Kd.int .u16)) (fun x : S195 => (x.f0, x.f1))
structure S123 where
 f0 : Int
 f1 : (List Int)
def k123 : Kd S123 := Kd.iso (Kd.pair (Kd.int .u16) (Kd.slice 5 (Kd.int .u8))) (fun x : S123 => (x.f0, x.f1))
structure S65 where
 f0 : Int
 f1 : Int
 f2 : Int
 f3 : Int
 f4 : Int
 f5 : Int
 f6 : Int
 f7 : Int
 f8 : Int
 f9 : Int
 f10 : (List S195)
 f11 : (List S195)
 f12 : (List Int)
 f13 : (List Int)
 f14 : (List S123)
def k65 : Kd S65 := Kd.iso (Kd.pair (Kd.int .u8) (Kd.pair (Kd.int .u8) (Kd.pair (Kd.int .u32) (Kd.pair (Kd.int .u16) (Kd.pair (Kd.int .u16) (Kd.pair (Kd.int .u32) (Kd.pair (Kd.int .u32) (Kd.pair (Kd.int .u32) (Kd.pair (Kd.int .u16) (Kd.pair (Kd.int .u16) (Kd.pair (Kd.slice 195 k195) (Kd.pair (Kd.slice 195 k195) (Kd.pair (Kd.slice 41 (Kd.int .u32)) (Kd.pair (Kd.slice 5 (Kd.int .u8)) (Kd.slice 123 k123))))))))))))))) (fun x : S65 => (x.f0, x.f1, x.f2, x.f3, x.f4, x.f5, x.f6, x.f7, x.f8, x.f9, x.f10, x.f11, x.f12, x.f13, x.f14))
theorem k65_openM {w : World} {base : Nat} {ok : Nat → Prop} {x : S65} {cs : List Value} (h : k65.M w base ok x cs) : ∃ v10 v11 v12 v13 v14, cs = [.int .u8 x.f0, .int .u8 x.f1, .int .u32 x.f2, .int .u16 x.f3, .int .u16 x.f4, .int .u32 x.f5, .int .u32 x.f6, .int .u32 x.f7, .int .u16 x.f8, .int .u16 x.f9, v10, v11, v12, v13, v14] ∧ k195.R 195 w base ok v10 x.f10 ∧ k195.R 195 w base ok v11 x.f11 ∧ (Kd.int .u32).R 41 w base ok v12 x.f12 ∧ (Kd.int .u8).R 5 w base ok v13 x.f13 ∧ k123.R 123 w base ok v14 x.f14 := by
 obtain ⟨_, _, rfl, rfl, ⟨_, _, rfl, rfl, ⟨_, _, rfl, rfl, ⟨_, _, rfl, rfl, ⟨_, _, rfl, rfl, ⟨_, _, rfl, rfl, ⟨_, _, rfl, rfl, ⟨_, _, rfl, rfl, ⟨_, _, rfl, rfl, ⟨_, _, rfl, rfl, ⟨_, _, rfl, ⟨v10, rfl, g10⟩, ⟨_, _, rfl, ⟨v11, rfl, g11⟩, ⟨_, _, rfl, ⟨v12, rfl, g12⟩, ⟨_, _, rfl, ⟨v13, rfl, g13⟩, ⟨v14, rfl, g14⟩⟩⟩⟩⟩⟩⟩⟩⟩⟩⟩⟩⟩⟩⟩ := h
 exact ⟨v10, v11, v12, v13, v14, rfl, g10, g11, g12, g13, g14⟩
theorem k65_mkM (w : World) (base : Nat) (ok : Nat → Prop) (x : S65) {v10 : Value} (g10 : k195.R 195 w base ok v10 x.f10) {v11 : Value} (g11 : k195.R 195 w base ok v11 x.f11) {v12 : Value} (g12 : (Kd.int .u32).R 41 w base ok v12 x.f12) {v13 : Value} (g13 : (Kd.int .u8).R 5 w base ok v13 x.f13) {v14 : Value} (g14 : k123.R 123 w base ok v14 x.f14) : k65.M w base ok x [.int .u8 x.f0, .int .u8 x.f1, .int .u32 x.f2, .int .u16 x.f3, .int .u16 x.f4, .int .u32 x.f5, .int .u32 x.f6, .int .u32 x.f7, .int .u16 x.f8, .int .u16 x.f9, v10, v11, v12, v13, v14] := ⟨[.int .u8 x.f0], [.int .u8 x.f1, .int .u32 x.f2, .int .u16 x.f3, .int .u16 x.f4, .int .u32 x.f5, .int .u32 x.f6, .int .u32 x.f7, .int .u16 x.f8, .int .u16 x.f9, v10, v11, v12, v13, v14], rfl, rfl, ⟨[.int .u8 x.f1], [.int .u32 x.f2, .int .u16 x.f3, .int .u16 x.f4, .int .u32 x.f5, .int .u32 x.f6, .int .u32 x.f7, .int .u16 x.f8, .int .u16 x.f9, v10, v11, v12, v13, v14], rfl, rfl, ⟨[.int .u32 x.f2], [.int .u16 x.f3, .int .u16 x.f4, .int .u32 x.f5, .int .u32 x.f6, .int .u32 x.f7, .int .u16 x.f8, .int .u16 x.f9, v10, v11, v12, v13, v14], rfl, rfl, ⟨[.int .u16 x.f3], [.int .u16 x.f4, .int .u32 x.f5, .int .u32 x.f6, .int .u32 x.f7, .int .u16 x.f8, .int .u16 x.f9, v10, v11, v12, v13, v14], rfl, rfl, ⟨[.int .u16 x.f4], [.int .u32 x.f5, .int .u32 x.f6, .int .u32 x.f7, .int .u16 x.f8, .int .u16 x.f9, v10, v11, v12, v13, v14], rfl, rfl, ⟨[.int .u32 x.f5], [.int .u32 x.f6, .int .u32 x.f7, .int .u16 x.f8, .int .u16 x.f9, v10, v11, v12, v13, v14], rfl, rfl, ⟨[.int .u32 x.f6], [.int .u32 x.f7, .int .u16 x.f8, .int .u16 x.f9, v10, v11, v12, v13, v14], rfl, rfl, ⟨[.int .u32 x.f7], [.int .u16 x.f8, .int .u16 x.f9, v10, v11, v12, v13, v14], rfl, rfl, ⟨[.int .u16 x.f8], [.int .u16 x.f9, v10, v11, v12, v13, v14], rfl, rfl, ⟨[.int .u16 x.f9], [v10, v11, v12, v13, v14], rfl, rfl, ⟨[v10], [v11, v12, v13, v14], rfl, ⟨v10, rfl, g10⟩, ⟨[v11], [v12, v13, v14], rfl, ⟨v11, rfl, g11⟩, ⟨[v12], [v13, v14], rfl, ⟨v12, rfl, g12⟩, ⟨[v13], [v14], rfl, ⟨v13, rfl, g13⟩, ⟨v14, rfl, g14⟩⟩⟩⟩⟩⟩⟩⟩⟩⟩⟩⟩⟩⟩⟩
structure S71 where
 f0 : Int
 f1 : Int
 f2 : Int
 f3 : Int
 f4 : Int
def z71 : S71 := ⟨(0 : Int), (0 : Int), (0 : Int), (0 : Int), (0 : Int)⟩
def k71 : Kd S71 := Kd.iso (Kd.pair (Kd.int .u32) (Kd.pair (Kd.int .u32) (Kd.pair (Kd.int .u32) (Kd.pair (Kd.int .u16) (Kd.int .u16))))) (fun x : S71 => (x.f0, x.f1, x.f2, x.f3, x.f4))
theorem k71_open {w : World} {x : S71} {cs : List Value} (h : k71.K w x cs) : cs = [.int .u32 x.f0, .int .u32 x.f1, .int .u32 x.f2, .int .u16 x.f3, .int .u16 x.f4] := by
 obtain ⟨_, _, rfl, rfl, ⟨_, _, rfl, rfl, ⟨_, _, rfl, rfl, ⟨_, _, rfl, rfl, rfl⟩⟩⟩⟩ := h
 exact rfl
theorem k71_mkM (w : World) (base : Nat) (ok : Nat → Prop) (x : S71)  : k71.M w base ok x [.int .u32 x.f0, .int .u32 x.f1, .int .u32 x.f2, .int .u16 x.f3, .int .u16 x.f4] := ⟨[.int .u32 x.f0], [.int .u32 x.f1, .int .u32 x.f2, .int .u16 x.f3, .int .u16 x.f4], rfl, rfl, ⟨[.int .u32 x.f1], [.int .u32 x.f2, .int .u16 x.f3, .int .u16 x.f4], rfl, rfl, ⟨[.int .u32 x.f2], [.int .u16 x.f3, .int .u16 x.f4], rfl, rfl, ⟨[.int .u16 x.f3], [.int .u16 x.f4], rfl, rfl, rfl⟩⟩⟩⟩
structure S73 where
 f0 : Int
 f1 : Int
 f2 : (List S65)
 f3 : Int
 f4 : S71
 f5 : Int
def z73 : S73 := ⟨(0 : Int), (0 : Int), ([] : List S65), (0 : Int), z71, (0 : Int)⟩
def k73 : Kd S73 := Kd.iso (Kd.pair (Kd.int .i64) (Kd.pair (Kd.int .u32) (Kd.pair (Kd.slice 65 k65) (Kd.pair (Kd.int .i64) (Kd.pair k71 (Kd.int .i64)))))) (fun x : S73 => (x.f0, x.f1, x.f2, x.f3, x.f4, x.f5))
theorem k73_open {w : World} {x : S73} {cs : List Value} (h : k73.K w x cs) : ∃ A2 c2, cs = [.int .i64 x.f0, .int .u32 x.f1, .slice A2 x.f2.length c2, .int .i64 x.f3, .int .u32 x.f4.f0, .int .u32 x.f4.f1, .int .u32 x.f4.f2, .int .u16 x.f4.f3, .int .u16 x.f4.f4, .int .i64 x.f5] ∧ x.f2.length ≤ c2 ∧ k65.C w A2 x.f2.length x.f2 := by
 obtain ⟨_, _, rfl, rfl, ⟨_, _, rfl, rfl, ⟨_, _, rfl, ⟨A2, c2, rfl, l2, g2⟩, ⟨_, _, rfl, rfl, ⟨_, _, rfl, s4, rfl⟩⟩⟩⟩⟩ := h
 obtain rfl := k71_open s4
 exact ⟨A2, c2, rfl, l2, g2⟩
theorem k73_mkM (w : World) (base : Nat) (ok : Nat → Prop) (x : S73) {v2 : Value} (g2 : k65.R 65 w base ok v2 x.f2) : k73.M w base ok x [.int .i64 x.f0, .int .u32 x.f1, v2, .int .i64 x.f3, .int .u32 x.f4.f0, .int .u32 x.f4.f1, .int .u32 x.f4.f2, .int .u16 x.f4.f3, .int .u16 x.f4.f4, .int .i64 x.f5] := ⟨[.int .i64 x.f0], [.int .u32 x.f1, v2, .int .i64 x.f3, .int .u32 x.f4.f0, .int .u32 x.f4.f1, .int .u32 x.f4.f2, .int .u16 x.f4.f3, .int .u16 x.f4.f4, .int .i64 x.f5], rfl, rfl, ⟨[.int .u32 x.f1], [v2, .int .i64 x.f3, .int .u32 x.f4.f0, .int .u32 x.f4.f1, .int .u32 x.f4.f2, .int .u16 x.f4.f3, .int .u16 x.f4.f4, .int .i64 x.f5], rfl, rfl, ⟨[v2], [.int .i64 x.f3, .int .u32 x.f4.f0, .int .u32 x.f4.f1, .int .u32 x.f4.f2, .int .u16 x.f4.f3, .int .u16 x.f4.f4, .int .i64 x.f5], rfl, ⟨v2, rfl, g2⟩, ⟨[.int .i64 x.f3], [.int .u32 x.f4.f0, .int .u32 x.f4.f1, .int .u32 x.f4.f2, .int .u16 x.f4.f3, .int .u16 x.f4.f4, .int .i64 x.f5], rfl, rfl, ⟨[.int .u32 x.f4.f0, .int .u32 x.f4.f1, .int .u32 x.f4.f2, .int .u16 x.f4.f3, .int .u16 x.f4.f4], [.int .i64 x.f5], rfl, (k71_mkM w base ok x.f4 ), rfl⟩⟩⟩⟩⟩
def rd_T73 (xs : List S73) (i : Int) : S73 := xs.getD i.toNat z73
theorem at_T73 {w : World} {A : Option Addr} {n : Nat} {xs : List S73} (h : Kd.C k73 w A n xs) (i : Int) (h0 : 0 ≤ i) (h1 : i < n) : ∃ ad A2 c2, A = some ad ∧ w.cell? (ad.add (i.toNat * 10)) = some (.int .i64 (rd_T73 xs i).f0) ∧ w.cell? ⟨(ad.add (i.toNat * 10)).block, (ad.add (i.toNat * 10)).off + 1, none⟩ = some (.int .u32 (rd_T73 xs i).f1) ∧ w.cell? ⟨(ad.add (i.toNat * 10)).block, (ad.add (i.toNat * 10)).off + 2, none⟩ = some (.slice A2 (rd_T73 xs i).f2.length c2) ∧ w.cell? ⟨(ad.add (i.toNat * 10)).block, (ad.add (i.toNat * 10)).off + 3, none⟩ = some (.int .i64 (rd_T73 xs i).f3) ∧ w.cell? ⟨(ad.add (i.toNat * 10)).block, (ad.add (i.toNat * 10)).off + 4, none⟩ = some (.int .u32 (rd_T73 xs i).f4.f0) ∧ w.cell? ⟨(ad.add (i.toNat * 10)).block, (ad.add (i.toNat * 10)).off + 5, none⟩ = some (.int .u32 (rd_T73 xs i).f4.f1) ∧ w.cell? ⟨(ad.add (i.toNat * 10)).block, (ad.add (i.toNat * 10)).off + 6, none⟩ = some (.int .u32 (rd_T73 xs i).f4.f2) ∧ w.cell? ⟨(ad.add (i.toNat * 10)).block, (ad.add (i.toNat * 10)).off + 7, none⟩ = some (.int .u16 (rd_T73 xs i).f4.f3) ∧ w.cell? ⟨(ad.add (i.toNat * 10)).block, (ad.add (i.toNat * 10)).off + 8, none⟩ = some (.int .u16 (rd_T73 xs i).f4.f4) ∧ w.cell? ⟨(ad.add (i.toNat * 10)).block, (ad.add (i.toNat * 10)).off + 9, none⟩ = some (.int .i64 (rd_T73 xs i).f5) ∧ (rd_T73 xs i).f2.length ≤ c2 ∧ k65.C w A2 (rd_T73 xs i).f2.length (rd_T73 xs i).f2 := by
 obtain ⟨ad, c, e, _, hK, hc0⟩ := Kd.C_get h z73 i h0 h1
 have hc : ∀ j u, c[j]? = some u → w.cell? (ad.add (i.toNat * 10 + j)) = some u := hc0
 obtain ⟨A2, c2, rfl, l2, g2⟩ := k73_open hK
 exact ⟨ad, A2, c2, e, hc 0 _ rfl, by rw [← add_field _ _ 1 (by omega)]; exact hc 1 _ rfl, by rw [← add_field _ _ 2 (by omega)]; exact hc 2 _ rfl, by rw [← add_field _ _ 3 (by omega)]; exact hc 3 _ rfl, by rw [← add_field _ _ 4 (by omega)]; exact hc 4 _ rfl, by rw [← add_field _ _ 5 (by omega)]; exact hc 5 _ rfl, by rw [← add_field _ _ 6 (by omega)]; exact hc 6 _ rfl, by rw [← add_field _ _ 7 (by omega)]; exact hc 7 _ rfl, by rw [← add_field _ _ 8 (by omega)]; exact hc 8 _ rfl, by rw [← add_field _ _ 9 (by omega)]; exact hc 9 _ rfl, l2, g2⟩
end Go.Proofs.YthiaakjbapgibaaGreat.PCh
end
