/- An offer handed in by value: eleven numbers. -/
import Derived.Test.YthdemajmlidefaaOpen
import Derived.Test.YthdemajmlidefaaCkE
namespace Go.Proofs.Ythdemajmlidefaa.Ck
open Go.ChangeShapes Go.WideShapes Go.ChangeAt Go.RowKit Go.Proofs.YthdemajmlidefaaW.PrintWords Go.Proofs.Ythdemajmlidefaa.Base
set_option linter.unusedVariables false
set_option linter.unusedSimpArgs false
section
variable {H : Type} {enc : TypeId × Value → H} {W : World}
theorem one_u16 {n : Nat} {cs : List Value} {D : DataW H × List MemPlace} (h : DataW.trod enc Try.prog W 0 (fun _ => true) true n 24 cs = some D) : ∃ m : Nat, m < 65536 ∧ cs = [.int .u16 (m : Int)] := by
  obtain ⟨z, rfl, _, hw⟩ := DataW.trod_int Try.underlying24 h
  have := bounds_u16 hw
  exact ⟨z.toNat, by omega, by rw [Int.toNat_of_nonneg this.1]⟩
theorem one_u32 {n : Nat} {cs : List Value} {D : DataW H × List MemPlace} (h : DataW.trod enc Try.prog W 0 (fun _ => true) true n 25 cs = some D) : ∃ m : Nat, m < 4294967296 ∧ cs = [.int .u32 (m : Int)] := by
  obtain ⟨z, rfl, _, hw⟩ := DataW.trod_int Try.underlying25 h
  have := bounds_u32 hw
  exact ⟨z.toNat, by omega, by rw [Int.toNat_of_nonneg this.1]⟩
def offX (a b : Nat) (m0 m1 m2 m3 m4 m5 m6 m7 m8 m9 m10 : Nat) : Nat → Nat
  | 0 => a
  | 1 => b
  | 2 => m0
  | 3 => m1
  | 4 => m2
  | 5 => m3
  | 6 => m4
  | 7 => m5
  | 8 => m6
  | 9 => m7
  | 10 => m8
  | 11 => m9
  | 12 => m10
  | _ => 0
theorem off_fit {x : Nat → Nat} (h0 : x 0 ≤ 1099511627776) (h2 : x 1 ≤ 2147483648) (hx : ∀ i, 2 ≤ i → i < 13 → x i < 256 ^ nF i) : ∀ i, i < 13 → x i < 256 ^ nF i := by
  intro i hi
  rcases i with _ | _ | i
  · exact Nat.lt_of_le_of_lt h0 (by decide)
  · exact Nat.lt_of_le_of_lt h2 (by decide)
  · exact hx _ (by omega) hi
/-- With these for the first two. -/
def withF (x : Nat → Nat) (a b : Nat) : Nat → Nat
  | 0 => a
  | 1 => b
  | i + 2 => x (i + 2)
theorem off_with (x : Nat → Nat) (a b : Nat) : offV (withF x a b) = offV x := rfl
theorem with_fit {x : Nat → Nat} {a b : Nat} (h0 : a ≤ 1099511627776) (h2 : b ≤ 2147483648) (hx : ∀ i, 2 ≤ i → i < 13 → x i < 256 ^ nF i) : ∀ i, i < 13 → withF x a b i < 256 ^ nF i :=
  off_fit h0 h2 (fun i h1 hi => by
    obtain ⟨j, rfl⟩ : ∃ j, i = j + 2 := ⟨i - 2, by omega⟩
    exact hx _ h1 hi)
theorem open_offer {v : Value} {d : DataW H} {p : List MemPlace} {r : Reach} {b0 : Nat} (hv : Value.okWide Try.prog W r b0 27 v) (h : DataW.Trod enc Try.prog W 0 (fun _ => true) true 27 v d p) :
    ∃ x : Nat → Nat, (∀ i, 2 ≤ i → i < 13 → x i < 256 ^ nF i) ∧ v = .agg (offV x) := by
  obtain ⟨fuel, hf⟩ := h
  obtain ⟨xs, m, _, ex, hlen, hl, hel⟩ := DataW.trod_struct Try.underlying27 hf
  have hc : Try.prog.cellsOf 27 = 11 := by kernel_rfl
  rw [hc] at hlen
  obtain ⟨cs, rfl⟩ : ∃ cs, v = .agg cs := by
    cases v with
    | agg cs => exact ⟨cs, rfl⟩
    | _ => simp [Value.cells] at hlen
  have hs : cs.toList.length = 11 := by simpa [Value.cells] using hlen
  have hl2 : xs.length = 11 := hl
  obtain ⟨c0, c1, c2, c3, c4, c5, c6, c7, c8, c9, c10, he⟩ : ∃ c0 c1 c2 c3 c4 c5 c6 c7 c8 c9 c10, cs.toList = [c0, c1, c2, c3, c4, c5, c6, c7, c8, c9, c10] := by
    match h : cs.toList, hs with
    | [c0, c1, c2, c3, c4, c5, c6, c7, c8, c9, c10], _ => exact ⟨_, _, _, _, _, _, _, _, _, _, _, rfl⟩
  obtain ⟨y0, y1, y2, y3, y4, y5, y6, y7, y8, y9, y10, rfl⟩ : ∃ y0 y1 y2 y3 y4 y5 y6 y7 y8 y9 y10, xs = [y0, y1, y2, y3, y4, y5, y6, y7, y8, y9, y10] := by
    match h : xs, hl2 with
    | [y0, y1, y2, y3, y4, y5, y6, y7, y8, y9, y10], _ => exact ⟨_, _, _, _, _, _, _, _, _, _, _, rfl⟩
  have hcs : cs = #[c0, c1, c2, c3, c4, c5, c6, c7, c8, c9, c10] := by rw [← Array.toArray_toList (xs := cs), he]
  subst hcs
  clear hs hl2 hl hlen he
  have c16 : Try.prog.cellsOf 24 = 1 := by kernel_rfl
  have c32 : Try.prog.cellsOf 25 = 1 := by kernel_rfl
  have h0 : DataW.trod enc Try.prog W 0 (fun _ => true) true m 24 (((Value.agg #[c0, c1, c2, c3, c4, c5, c6, c7, c8, c9, c10]).cells.toList.drop 0).take (Try.prog.cellsOf 24)) = some y0 := hel 0 _ rfl
  rw [c16] at h0
  obtain ⟨m0, l0, e0⟩ := one_u16 h0
  have f0 : c0 = .int .u16 (m0 : Int) := by simpa [Value.cells] using e0
  have h1 : DataW.trod enc Try.prog W 0 (fun _ => true) true m 24 (((Value.agg #[c0, c1, c2, c3, c4, c5, c6, c7, c8, c9, c10]).cells.toList.drop 1).take (Try.prog.cellsOf 24)) = some y1 := hel 1 _ rfl
  rw [c16] at h1
  obtain ⟨m1, l1, e1⟩ := one_u16 h1
  have f1 : c1 = .int .u16 (m1 : Int) := by simpa [Value.cells] using e1
  have h2 : DataW.trod enc Try.prog W 0 (fun _ => true) true m 25 (((Value.agg #[c0, c1, c2, c3, c4, c5, c6, c7, c8, c9, c10]).cells.toList.drop 2).take (Try.prog.cellsOf 25)) = some y2 := hel 2 _ rfl
  rw [c32] at h2
  obtain ⟨m2, l2, e2⟩ := one_u32 h2
  have f2 : c2 = .int .u32 (m2 : Int) := by simpa [Value.cells] using e2
  have h3 : DataW.trod enc Try.prog W 0 (fun _ => true) true m 25 (((Value.agg #[c0, c1, c2, c3, c4, c5, c6, c7, c8, c9, c10]).cells.toList.drop 3).take (Try.prog.cellsOf 25)) = some y3 := hel 3 _ rfl
  rw [c32] at h3
  obtain ⟨m3, l3, e3⟩ := one_u32 h3
  have f3 : c3 = .int .u32 (m3 : Int) := by simpa [Value.cells] using e3
  have h4 : DataW.trod enc Try.prog W 0 (fun _ => true) true m 25 (((Value.agg #[c0, c1, c2, c3, c4, c5, c6, c7, c8, c9, c10]).cells.toList.drop 4).take (Try.prog.cellsOf 25)) = some y4 := hel 4 _ rfl
  rw [c32] at h4
  obtain ⟨m4, l4, e4⟩ := one_u32 h4
  have f4 : c4 = .int .u32 (m4 : Int) := by simpa [Value.cells] using e4
  have h5 : DataW.trod enc Try.prog W 0 (fun _ => true) true m 25 (((Value.agg #[c0, c1, c2, c3, c4, c5, c6, c7, c8, c9, c10]).cells.toList.drop 5).take (Try.prog.cellsOf 25)) = some y5 := hel 5 _ rfl
  rw [c32] at h5
  obtain ⟨m5, l5, e5⟩ := one_u32 h5
  have f5 : c5 = .int .u32 (m5 : Int) := by simpa [Value.cells] using e5
  have h6 : DataW.trod enc Try.prog W 0 (fun _ => true) true m 25 (((Value.agg #[c0, c1, c2, c3, c4, c5, c6, c7, c8, c9, c10]).cells.toList.drop 6).take (Try.prog.cellsOf 25)) = some y6 := hel 6 _ rfl
  rw [c32] at h6
  obtain ⟨m6, l6, e6⟩ := one_u32 h6
  have f6 : c6 = .int .u32 (m6 : Int) := by simpa [Value.cells] using e6
  have h7 : DataW.trod enc Try.prog W 0 (fun _ => true) true m 24 (((Value.agg #[c0, c1, c2, c3, c4, c5, c6, c7, c8, c9, c10]).cells.toList.drop 7).take (Try.prog.cellsOf 24)) = some y7 := hel 7 _ rfl
  rw [c16] at h7
  obtain ⟨m7, l7, e7⟩ := one_u16 h7
  have f7 : c7 = .int .u16 (m7 : Int) := by simpa [Value.cells] using e7
  have h8 : DataW.trod enc Try.prog W 0 (fun _ => true) true m 24 (((Value.agg #[c0, c1, c2, c3, c4, c5, c6, c7, c8, c9, c10]).cells.toList.drop 8).take (Try.prog.cellsOf 24)) = some y8 := hel 8 _ rfl
  rw [c16] at h8
  obtain ⟨m8, l8, e8⟩ := one_u16 h8
  have f8 : c8 = .int .u16 (m8 : Int) := by simpa [Value.cells] using e8
  have h9 : DataW.trod enc Try.prog W 0 (fun _ => true) true m 25 (((Value.agg #[c0, c1, c2, c3, c4, c5, c6, c7, c8, c9, c10]).cells.toList.drop 9).take (Try.prog.cellsOf 25)) = some y9 := hel 9 _ rfl
  rw [c32] at h9
  obtain ⟨m9, l9, e9⟩ := one_u32 h9
  have f9 : c9 = .int .u32 (m9 : Int) := by simpa [Value.cells] using e9
  have h10 : DataW.trod enc Try.prog W 0 (fun _ => true) true m 25 (((Value.agg #[c0, c1, c2, c3, c4, c5, c6, c7, c8, c9, c10]).cells.toList.drop 10).take (Try.prog.cellsOf 25)) = some y10 := hel 10 _ rfl
  rw [c32] at h10
  obtain ⟨m10, l10, e10⟩ := one_u32 h10
  have f10 : c10 = .int .u32 (m10 : Int) := by simpa [Value.cells] using e10
  refine ⟨offX 0 0 m0 m1 m2 m3 m4 m5 m6 m7 m8 m9 m10, fun i h1 hi => ?_, by subst f0 f1 f2 f3 f4 f5 f6 f7 f8 f9 f10; rfl⟩
  have hcase : i = 2 ∨ i = 3 ∨ i = 4 ∨ i = 5 ∨ i = 6 ∨ i = 7 ∨ i = 8 ∨ i = 9 ∨ i = 10 ∨ i = 11 ∨ i = 12 := by omega
  rcases hcase with rfl | rfl | rfl | rfl | rfl | rfl | rfl | rfl | rfl | rfl | rfl
  · exact l0
  · exact l1
  · exact l2
  · exact l3
  · exact l4
  · exact l5
  · exact l6
  · exact l7
  · exact l8
  · exact l9
  · exact l10
end
end Go.Proofs.Ythdemajmlidefaa.Ck
