/- The fields, and a state's bytes: walked. (Printed by gen/CkB.py.) -/
import Derived.Test.YthdemajmlidefaaCkA
namespace Go.Proofs.Ythdemajmlidefaa.Ck
open Go.RowKit Go.Proofs.YthdemajmlidefaaW.PrintWords Go.Proofs.YthdemajmlidefaaW.PrintLast Go.Proofs.Ythdemajmlidefaa.Base
set_option linter.unusedVariables false
set_option linter.unusedSimpArgs false
/-- A field in memory. -/
def FldAt (W : World) (ad : Addr) (i : Nat) : Prop := ∃ b, W.cell? (ad.add (i * 3)) = some (.int .i64 (nF i : Nat)) ∧ W.cell? ⟨(ad.add (i * 3)).block, (ad.add (i * 3)).off + 1, none⟩ = some (.func (.func (gF i)) #[] #[.pointer (some ⟨b, 0, none⟩)]) ∧ W.cell? ⟨(ad.add (i * 3)).block, (ad.add (i * 3)).off + 2, none⟩ = some (.func (.func (sF i)) #[] #[.pointer (some ⟨b, 0, none⟩)]) ∧ W.heap[b]? = some (.cells #[atV i] (bT i) (0, 0))
theorem FldAt.below {W W' : World} {ad : Addr} {i : Nat} (h : FldAt W ad i) (hb : Below W.heap.size W W') : FldAt W' ad i := by
  obtain ⟨b, h1, h2, h3, h4⟩ := h
  exact ⟨b, pw_cell_below hb h1, pw_cell_below hb h2, pw_cell_below hb h3, blk_below h4 hb⟩
set_option maxHeartbeats 2000000 in
theorem fields_calls (w : World) : Calls Try.prog 20 #[] w fun e w' => ∃ ad, e = .returned (.slice (some ad) 13 13) ∧ (∀ i, i < 13 → FldAt w' ad i) ∧ Below w.heap.size w w' := by
  go_enter Try.func20, Try.ntmps20
  go_wp2_with fail
  refine (count_calls 8 31 w).mono ?_
  rintro e w1 ⟨rfl, hk, hB⟩
  have H0 := Lib.hid hk
  have HB := Lib.hid hB
  clear hk hB
  go_wp2_with fail
  refine (count_calls 4 32 w1).mono ?_
  rintro e w2 ⟨rfl, hk, hB⟩
  replace H0 := Lib.hid (blk_below H0.out hB)
  have H1 := Lib.hid hk
  replace HB := Lib.hid (below_then HB.out HB.out.size hB)
  clear hk hB
  generalize w1.heap.size = b1 at H1 ⊢
  go_wp2_with fail
  refine (short_calls 34 w2).mono ?_
  rintro e w3 ⟨rfl, hk, hB⟩
  replace H0 := Lib.hid (blk_below H0.out hB)
  replace H1 := Lib.hid (blk_below H1.out hB)
  have H2 := Lib.hid hk
  replace HB := Lib.hid (below_then HB.out HB.out.size hB)
  clear hk hB
  generalize w2.heap.size = b2 at H2 ⊢
  go_wp2_with fail
  refine (short_calls 35 w3).mono ?_
  rintro e w4 ⟨rfl, hk, hB⟩
  replace H0 := Lib.hid (blk_below H0.out hB)
  replace H1 := Lib.hid (blk_below H1.out hB)
  replace H2 := Lib.hid (blk_below H2.out hB)
  have H3 := Lib.hid hk
  replace HB := Lib.hid (below_then HB.out HB.out.size hB)
  clear hk hB
  generalize w3.heap.size = b3 at H3 ⊢
  go_wp2_with fail
  refine (long_calls 37 w4).mono ?_
  rintro e w5 ⟨rfl, hk, hB⟩
  replace H0 := Lib.hid (blk_below H0.out hB)
  replace H1 := Lib.hid (blk_below H1.out hB)
  replace H2 := Lib.hid (blk_below H2.out hB)
  replace H3 := Lib.hid (blk_below H3.out hB)
  have H4 := Lib.hid hk
  replace HB := Lib.hid (below_then HB.out HB.out.size hB)
  clear hk hB
  generalize w4.heap.size = b4 at H4 ⊢
  go_wp2_with fail
  refine (long_calls 38 w5).mono ?_
  rintro e w6 ⟨rfl, hk, hB⟩
  replace H0 := Lib.hid (blk_below H0.out hB)
  replace H1 := Lib.hid (blk_below H1.out hB)
  replace H2 := Lib.hid (blk_below H2.out hB)
  replace H3 := Lib.hid (blk_below H3.out hB)
  replace H4 := Lib.hid (blk_below H4.out hB)
  have H5 := Lib.hid hk
  replace HB := Lib.hid (below_then HB.out HB.out.size hB)
  clear hk hB
  generalize w5.heap.size = b5 at H5 ⊢
  go_wp2_with fail
  refine (long_calls 39 w6).mono ?_
  rintro e w7 ⟨rfl, hk, hB⟩
  replace H0 := Lib.hid (blk_below H0.out hB)
  replace H1 := Lib.hid (blk_below H1.out hB)
  replace H2 := Lib.hid (blk_below H2.out hB)
  replace H3 := Lib.hid (blk_below H3.out hB)
  replace H4 := Lib.hid (blk_below H4.out hB)
  replace H5 := Lib.hid (blk_below H5.out hB)
  have H6 := Lib.hid hk
  replace HB := Lib.hid (below_then HB.out HB.out.size hB)
  clear hk hB
  generalize w6.heap.size = b6 at H6 ⊢
  go_wp2_with fail
  refine (long_calls 40 w7).mono ?_
  rintro e w8 ⟨rfl, hk, hB⟩
  replace H0 := Lib.hid (blk_below H0.out hB)
  replace H1 := Lib.hid (blk_below H1.out hB)
  replace H2 := Lib.hid (blk_below H2.out hB)
  replace H3 := Lib.hid (blk_below H3.out hB)
  replace H4 := Lib.hid (blk_below H4.out hB)
  replace H5 := Lib.hid (blk_below H5.out hB)
  replace H6 := Lib.hid (blk_below H6.out hB)
  have H7 := Lib.hid hk
  replace HB := Lib.hid (below_then HB.out HB.out.size hB)
  clear hk hB
  generalize w7.heap.size = b7 at H7 ⊢
  go_wp2_with fail
  refine (long_calls 41 w8).mono ?_
  rintro e w9 ⟨rfl, hk, hB⟩
  replace H0 := Lib.hid (blk_below H0.out hB)
  replace H1 := Lib.hid (blk_below H1.out hB)
  replace H2 := Lib.hid (blk_below H2.out hB)
  replace H3 := Lib.hid (blk_below H3.out hB)
  replace H4 := Lib.hid (blk_below H4.out hB)
  replace H5 := Lib.hid (blk_below H5.out hB)
  replace H6 := Lib.hid (blk_below H6.out hB)
  replace H7 := Lib.hid (blk_below H7.out hB)
  have H8 := Lib.hid hk
  replace HB := Lib.hid (below_then HB.out HB.out.size hB)
  clear hk hB
  generalize w8.heap.size = b8 at H8 ⊢
  go_wp2_with fail
  refine (short_calls 42 w9).mono ?_
  rintro e w10 ⟨rfl, hk, hB⟩
  replace H0 := Lib.hid (blk_below H0.out hB)
  replace H1 := Lib.hid (blk_below H1.out hB)
  replace H2 := Lib.hid (blk_below H2.out hB)
  replace H3 := Lib.hid (blk_below H3.out hB)
  replace H4 := Lib.hid (blk_below H4.out hB)
  replace H5 := Lib.hid (blk_below H5.out hB)
  replace H6 := Lib.hid (blk_below H6.out hB)
  replace H7 := Lib.hid (blk_below H7.out hB)
  replace H8 := Lib.hid (blk_below H8.out hB)
  have H9 := Lib.hid hk
  replace HB := Lib.hid (below_then HB.out HB.out.size hB)
  clear hk hB
  generalize w9.heap.size = b9 at H9 ⊢
  go_wp2_with fail
  refine (short_calls 43 w10).mono ?_
  rintro e w11 ⟨rfl, hk, hB⟩
  replace H0 := Lib.hid (blk_below H0.out hB)
  replace H1 := Lib.hid (blk_below H1.out hB)
  replace H2 := Lib.hid (blk_below H2.out hB)
  replace H3 := Lib.hid (blk_below H3.out hB)
  replace H4 := Lib.hid (blk_below H4.out hB)
  replace H5 := Lib.hid (blk_below H5.out hB)
  replace H6 := Lib.hid (blk_below H6.out hB)
  replace H7 := Lib.hid (blk_below H7.out hB)
  replace H8 := Lib.hid (blk_below H8.out hB)
  replace H9 := Lib.hid (blk_below H9.out hB)
  have H10 := Lib.hid hk
  replace HB := Lib.hid (below_then HB.out HB.out.size hB)
  clear hk hB
  generalize w10.heap.size = b10 at H10 ⊢
  go_wp2_with fail
  refine (long_calls 44 w11).mono ?_
  rintro e w12 ⟨rfl, hk, hB⟩
  replace H0 := Lib.hid (blk_below H0.out hB)
  replace H1 := Lib.hid (blk_below H1.out hB)
  replace H2 := Lib.hid (blk_below H2.out hB)
  replace H3 := Lib.hid (blk_below H3.out hB)
  replace H4 := Lib.hid (blk_below H4.out hB)
  replace H5 := Lib.hid (blk_below H5.out hB)
  replace H6 := Lib.hid (blk_below H6.out hB)
  replace H7 := Lib.hid (blk_below H7.out hB)
  replace H8 := Lib.hid (blk_below H8.out hB)
  replace H9 := Lib.hid (blk_below H9.out hB)
  replace H10 := Lib.hid (blk_below H10.out hB)
  have H11 := Lib.hid hk
  replace HB := Lib.hid (below_then HB.out HB.out.size hB)
  clear hk hB
  generalize w11.heap.size = b11 at H11 ⊢
  go_wp2_with fail
  refine (long_calls 45 w12).mono ?_
  rintro e w13 ⟨rfl, hk, hB⟩
  replace H0 := Lib.hid (blk_below H0.out hB)
  replace H1 := Lib.hid (blk_below H1.out hB)
  replace H2 := Lib.hid (blk_below H2.out hB)
  replace H3 := Lib.hid (blk_below H3.out hB)
  replace H4 := Lib.hid (blk_below H4.out hB)
  replace H5 := Lib.hid (blk_below H5.out hB)
  replace H6 := Lib.hid (blk_below H6.out hB)
  replace H7 := Lib.hid (blk_below H7.out hB)
  replace H8 := Lib.hid (blk_below H8.out hB)
  replace H9 := Lib.hid (blk_below H9.out hB)
  replace H10 := Lib.hid (blk_below H10.out hB)
  replace H11 := Lib.hid (blk_below H11.out hB)
  have H12 := Lib.hid hk
  replace HB := Lib.hid (below_then HB.out HB.out.size hB)
  clear hk hB
  generalize w12.heap.size = b12 at H12 ⊢
  go_wp2
  go_ret
  have HN := blk_new w13 (.cells #[.int .i64 8, .func (.func 52) #[] #[.pointer (some ⟨w.heap.size, 0, none⟩)], .func (.func 53) #[] #[.pointer (some ⟨w.heap.size, 0, none⟩)], .int .i64 4, .func (.func 52) #[] #[.pointer (some ⟨b1, 0, none⟩)], .func (.func 53) #[] #[.pointer (some ⟨b1, 0, none⟩)], .int .i64 2, .func (.func 54) #[] #[.pointer (some ⟨b2, 0, none⟩)], .func (.func 55) #[] #[.pointer (some ⟨b2, 0, none⟩)], .int .i64 2, .func (.func 54) #[] #[.pointer (some ⟨b3, 0, none⟩)], .func (.func 55) #[] #[.pointer (some ⟨b3, 0, none⟩)], .int .i64 4, .func (.func 56) #[] #[.pointer (some ⟨b4, 0, none⟩)], .func (.func 57) #[] #[.pointer (some ⟨b4, 0, none⟩)], .int .i64 4, .func (.func 56) #[] #[.pointer (some ⟨b5, 0, none⟩)], .func (.func 57) #[] #[.pointer (some ⟨b5, 0, none⟩)], .int .i64 4, .func (.func 56) #[] #[.pointer (some ⟨b6, 0, none⟩)], .func (.func 57) #[] #[.pointer (some ⟨b6, 0, none⟩)], .int .i64 4, .func (.func 56) #[] #[.pointer (some ⟨b7, 0, none⟩)], .func (.func 57) #[] #[.pointer (some ⟨b7, 0, none⟩)], .int .i64 4, .func (.func 56) #[] #[.pointer (some ⟨b8, 0, none⟩)], .func (.func 57) #[] #[.pointer (some ⟨b8, 0, none⟩)], .int .i64 2, .func (.func 54) #[] #[.pointer (some ⟨b9, 0, none⟩)], .func (.func 55) #[] #[.pointer (some ⟨b9, 0, none⟩)], .int .i64 2, .func (.func 54) #[] #[.pointer (some ⟨b10, 0, none⟩)], .func (.func 55) #[] #[.pointer (some ⟨b10, 0, none⟩)], .int .i64 4, .func (.func 56) #[] #[.pointer (some ⟨b11, 0, none⟩)], .func (.func 57) #[] #[.pointer (some ⟨b11, 0, none⟩)], .int .i64 4, .func (.func 56) #[] #[.pointer (some ⟨b12, 0, none⟩)], .func (.func 57) #[] #[.pointer (some ⟨b12, 0, none⟩)]] 71)
  refine ⟨_, rfl, fun i hi => ?_, below_then HB.out HB.out.size (below_alloc (Below.refl _ _) _)⟩
  match i, hi with
  | 0, _ => exact ⟨_, (blk_cell HN 0).trans rfl, (blk_cell HN 1).trans rfl, (blk_cell HN 2).trans rfl, blk_alloc H0.out _⟩
  | 1, _ => exact ⟨_, (blk_cell HN 3).trans rfl, (blk_cell HN 4).trans rfl, (blk_cell HN 5).trans rfl, blk_alloc H1.out _⟩
  | 2, _ => exact ⟨_, (blk_cell HN 6).trans rfl, (blk_cell HN 7).trans rfl, (blk_cell HN 8).trans rfl, blk_alloc H2.out _⟩
  | 3, _ => exact ⟨_, (blk_cell HN 9).trans rfl, (blk_cell HN 10).trans rfl, (blk_cell HN 11).trans rfl, blk_alloc H3.out _⟩
  | 4, _ => exact ⟨_, (blk_cell HN 12).trans rfl, (blk_cell HN 13).trans rfl, (blk_cell HN 14).trans rfl, blk_alloc H4.out _⟩
  | 5, _ => exact ⟨_, (blk_cell HN 15).trans rfl, (blk_cell HN 16).trans rfl, (blk_cell HN 17).trans rfl, blk_alloc H5.out _⟩
  | 6, _ => exact ⟨_, (blk_cell HN 18).trans rfl, (blk_cell HN 19).trans rfl, (blk_cell HN 20).trans rfl, blk_alloc H6.out _⟩
  | 7, _ => exact ⟨_, (blk_cell HN 21).trans rfl, (blk_cell HN 22).trans rfl, (blk_cell HN 23).trans rfl, blk_alloc H7.out _⟩
  | 8, _ => exact ⟨_, (blk_cell HN 24).trans rfl, (blk_cell HN 25).trans rfl, (blk_cell HN 26).trans rfl, blk_alloc H8.out _⟩
  | 9, _ => exact ⟨_, (blk_cell HN 27).trans rfl, (blk_cell HN 28).trans rfl, (blk_cell HN 29).trans rfl, blk_alloc H9.out _⟩
  | 10, _ => exact ⟨_, (blk_cell HN 30).trans rfl, (blk_cell HN 31).trans rfl, (blk_cell HN 32).trans rfl, blk_alloc H10.out _⟩
  | 11, _ => exact ⟨_, (blk_cell HN 33).trans rfl, (blk_cell HN 34).trans rfl, (blk_cell HN 35).trans rfl, blk_alloc H11.out _⟩
  | 12, _ => exact ⟨_, (blk_cell HN 36).trans rfl, (blk_cell HN 37).trans rfl, (blk_cell HN 38).trans rfl, blk_alloc H12.out _⟩
end Go.Proofs.Ythdemajmlidefaa.Ck
