/- The reference's Look: walked. -/
import Derived.Test.YthdemajmlidefaaCkH
namespace Go.Proofs.Ythdemajmlidefaa.Ck
open Go.RowKit Go.Proofs.YthdemajmlidefaaW.PrintWords Go.Proofs.YthdemajmlidefaaW.PrintLast Go.Proofs.Ythdemajmlidefaa.Base Go.Proofs.Ythdemajmlidefaa.Mac
set_option linter.unusedVariables false
set_option linter.unusedSimpArgs false
def refLookT4 : Bool × List (List Nat × List Nat) := (true, [([], []), ([], []), ([1], [1]), ([2], [2]), ([], []), ([4, 2], [4]), ([5], [5]), ([0, 5, 0], [0]), ([3, 7, 0, 1, 2, 3, 7], [3]), ([6, 8, 0, 1, 2, 3, 4, 5, 6, 7, 8], [6]), ([9, 0, 1, 2, 3, 4, 5, 6, 7, 8, 9], [])])
def refLookB4 : List Nat := [0, 0, 2, 6, 0, 22, 54, 55, 191, 511, 1023]
theorem refLooktab4 : Go.Proofs.YthdemajmlidefaaW.PrintLast.rtab .any (Go.Proofs.YthdemajmlidefaaW.PrintLast.opsOf Try.f14 4) = refLookT4 := by kernel_rfl
theorem refLookbits4 : Go.Proofs.YthdemajmlidefaaW.PrintLast.waitsOk refLookT4.2 refLookB4 = true := by kernel_rfl
set_option maxHeartbeats 400000 in
theorem refLook_good (w : World) (A : Option Addr) (c : Nat) (l : List UInt8) (hb : byte.C w A l.length l) (hc : l.length ≤ c) (h : lookB l = true) :
    Calls Try.prog 14 #[.slice A l.length c] w fun e w' => e = .returned (.tuple #[.agg (offV (valF l)), .int .i64 (valF l 0 : Nat), .int .i64 (valF l 1 : Nat), .int .i64 0]) ∧ Below w.heap.size w w' := by
  obtain ⟨hl, h0, h1, h2⟩ := of_decide_eq_true h
  have HGB := Lib.hid (blk_new w (.cells (offV zF) 27))
  have HB := Lib.hid (below_alloc (Below.refl w.heap.size w) (.cells (offV zF) 27))
  have HG0 := Lib.hid (fun (W : World) (hW : Below w.heap.size w W) => (show Calls Try.prog 27 #[.slice A l.length c, .int .i64 0, .int .i64 8] W fun e w' => e = .returned (.int .u64 (valF l 0 : Nat)) ∧ w' = W from refGet_calls W A c l (Kd.C_below hb hW) 0 8 (by decide) (by omega) (by omega)))
  have HG1 := Lib.hid (fun (W : World) (hW : Below w.heap.size w W) => (show Calls Try.prog 27 #[.slice A l.length c, .int .i64 8, .int .i64 4] W fun e w' => e = .returned (.int .u64 (valF l 1 : Nat)) ∧ w' = W from refGet_calls W A c l (Kd.C_below hb hW) 8 4 (by decide) (by omega) (by omega)))
  have HG2 := Lib.hid (fun (W : World) (hW : Below w.heap.size w W) => (show Calls Try.prog 27 #[.slice A l.length c, .int .i64 12, .int .i64 2] W fun e w' => e = .returned (.int .u64 (valF l 2 : Nat)) ∧ w' = W from refGet_calls W A c l (Kd.C_below hb hW) 12 2 (by decide) (by omega) (by omega)))
  have HG3 := Lib.hid (fun (W : World) (hW : Below w.heap.size w W) => (show Calls Try.prog 27 #[.slice A l.length c, .int .i64 14, .int .i64 2] W fun e w' => e = .returned (.int .u64 (valF l 3 : Nat)) ∧ w' = W from refGet_calls W A c l (Kd.C_below hb hW) 14 2 (by decide) (by omega) (by omega)))
  have HG4 := Lib.hid (fun (W : World) (hW : Below w.heap.size w W) => (show Calls Try.prog 27 #[.slice A l.length c, .int .i64 16, .int .i64 4] W fun e w' => e = .returned (.int .u64 (valF l 4 : Nat)) ∧ w' = W from refGet_calls W A c l (Kd.C_below hb hW) 16 4 (by decide) (by omega) (by omega)))
  have HG5 := Lib.hid (fun (W : World) (hW : Below w.heap.size w W) => (show Calls Try.prog 27 #[.slice A l.length c, .int .i64 20, .int .i64 4] W fun e w' => e = .returned (.int .u64 (valF l 5 : Nat)) ∧ w' = W from refGet_calls W A c l (Kd.C_below hb hW) 20 4 (by decide) (by omega) (by omega)))
  have HG6 := Lib.hid (fun (W : World) (hW : Below w.heap.size w W) => (show Calls Try.prog 27 #[.slice A l.length c, .int .i64 24, .int .i64 4] W fun e w' => e = .returned (.int .u64 (valF l 6 : Nat)) ∧ w' = W from refGet_calls W A c l (Kd.C_below hb hW) 24 4 (by decide) (by omega) (by omega)))
  have HG7 := Lib.hid (fun (W : World) (hW : Below w.heap.size w W) => (show Calls Try.prog 27 #[.slice A l.length c, .int .i64 28, .int .i64 4] W fun e w' => e = .returned (.int .u64 (valF l 7 : Nat)) ∧ w' = W from refGet_calls W A c l (Kd.C_below hb hW) 28 4 (by decide) (by omega) (by omega)))
  have HG8 := Lib.hid (fun (W : World) (hW : Below w.heap.size w W) => (show Calls Try.prog 27 #[.slice A l.length c, .int .i64 32, .int .i64 4] W fun e w' => e = .returned (.int .u64 (valF l 8 : Nat)) ∧ w' = W from refGet_calls W A c l (Kd.C_below hb hW) 32 4 (by decide) (by omega) (by omega)))
  have HG9 := Lib.hid (fun (W : World) (hW : Below w.heap.size w W) => (show Calls Try.prog 27 #[.slice A l.length c, .int .i64 36, .int .i64 2] W fun e w' => e = .returned (.int .u64 (valF l 9 : Nat)) ∧ w' = W from refGet_calls W A c l (Kd.C_below hb hW) 36 2 (by decide) (by omega) (by omega)))
  have HG10 := Lib.hid (fun (W : World) (hW : Below w.heap.size w W) => (show Calls Try.prog 27 #[.slice A l.length c, .int .i64 38, .int .i64 2] W fun e w' => e = .returned (.int .u64 (valF l 10 : Nat)) ∧ w' = W from refGet_calls W A c l (Kd.C_below hb hW) 38 2 (by decide) (by omega) (by omega)))
  have HG11 := Lib.hid (fun (W : World) (hW : Below w.heap.size w W) => (show Calls Try.prog 27 #[.slice A l.length c, .int .i64 40, .int .i64 4] W fun e w' => e = .returned (.int .u64 (valF l 11 : Nat)) ∧ w' = W from refGet_calls W A c l (Kd.C_below hb hW) 40 4 (by decide) (by omega) (by omega)))
  have HG12 := Lib.hid (fun (W : World) (hW : Below w.heap.size w W) => (show Calls Try.prog 27 #[.slice A l.length c, .int .i64 44, .int .i64 4] W fun e w' => e = .returned (.int .u64 (valF l 12 : Nat)) ∧ w' = W from refGet_calls W A c l (Kd.C_below hb hW) 44 4 (by decide) (by omega) (by omega)))
  have hx := valF_lt l
  have hne : ((l.length : Int) != 56) = false := by simp [hl]
  clear hb h
  generalize valF l = x at *
  generalize hN : l.length = N at *
  clear hN hl
  have i0 : ¬ ((x 0 : Nat) : Int) > 1099511627776 := by omega
  have i1 : ¬ ((x 1 : Nat) : Int) < 1 := by omega
  have i2 : ¬ ((x 1 : Nat) : Int) > 2147483648 := by omega
  have y1 : x 1 < 4294967296 := hx 1
  have y2 : x 2 < 65536 := hx 2
  have y3 : x 3 < 65536 := hx 3
  have y4 : x 4 < 4294967296 := hx 4
  have y5 : x 5 < 4294967296 := hx 5
  have y6 : x 6 < 4294967296 := hx 6
  have y7 : x 7 < 4294967296 := hx 7
  have y8 : x 8 < 4294967296 := hx 8
  have y9 : x 9 < 65536 := hx 9
  have y10 : x 10 < 65536 := hx 10
  have y11 : x 11 < 4294967296 := hx 11
  have y12 : x 12 < 4294967296 := hx 12
  clear hx
  have WX0 := Lib.hid (show wrap64 ((x 0 : Nat) : Int) = ((x 0 : Nat) : Int) by first | (unfold wrap64; omega) | (simp [wrap64]; omega))
  have WX1 := Lib.hid (show wrap64 ((x 1 : Nat) : Int) = ((x 1 : Nat) : Int) by first | (unfold wrap64; omega) | (simp [wrap64]; omega))
  go_enter Try.func14, Try.ntmps14
  go_wp2_with fail
  refine (HG0.out _ HB.out).mono ?_
  rintro e w' ⟨rfl, rfl⟩
  go_wp2_with fail
  refine (HG1.out _ HB.out).mono ?_
  rintro e w' ⟨rfl, rfl⟩
  go_wp2_with fail
  refine (HG1.out _ HB.out).mono ?_
  rintro e w' ⟨rfl, rfl⟩
  go_wp2_with fail
  refine (HG2.out _ HB.out).mono ?_
  rintro e w' ⟨rfl, rfl⟩
  go_wp2_with fail
  refine (HG3.out _ HB.out).mono ?_
  rintro e w' ⟨rfl, rfl⟩
  go_wp2_with fail
  refine (HG4.out _ HB.out).mono ?_
  rintro e w' ⟨rfl, rfl⟩
  go_wp2_with fail
  refine (HG5.out _ HB.out).mono ?_
  rintro e w' ⟨rfl, rfl⟩
  go_wp2_with fail
  refine (HG6.out _ HB.out).mono ?_
  rintro e w' ⟨rfl, rfl⟩
  go_wp2_with fail
  refine (HG7.out _ HB.out).mono ?_
  rintro e w' ⟨rfl, rfl⟩
  go_wp2_with fail
  refine (HG8.out _ HB.out).mono ?_
  rintro e w' ⟨rfl, rfl⟩
  go_wp2_with fail
  refine (HG9.out _ HB.out).mono ?_
  rintro e w' ⟨rfl, rfl⟩
  go_wp2_with fail
  refine (HG10.out _ HB.out).mono ?_
  rintro e w' ⟨rfl, rfl⟩
  go_wp2_with fail
  refine (HG11.out _ HB.out).mono ?_
  rintro e w' ⟨rfl, rfl⟩
  go_wp2_with fail
  refine (HG12.out _ HB.out).mono ?_
  rintro e w' ⟨rfl, rfl⟩
  go_upto_region 4 with (fail)
  have hs6 := blk_new (w.alloc (.cells (offV zF) 27)) (.cells #[.int .u16 (x 2 : Nat), .int .u16 (x 3 : Nat), .int .u32 (x 4 : Nat), .int .u32 (x 5 : Nat), .int .u32 (x 6 : Nat), .int .u32 (x 7 : Nat), .int .u32 (x 8 : Nat), .int .u16 (x 9 : Nat), .int .u16 (x 10 : Nat), .int .u32 (x 11 : Nat), .int .u32 (x 12 : Nat)] 27)
  rw [World.size_alloc] at hs6
  have HS1 := Lib.hid hs6
  have HGB1 := Lib.hid (blk_alloc HGB.out (.cells #[.int .u16 (x 2 : Nat), .int .u16 (x 3 : Nat), .int .u32 (x 4 : Nat), .int .u32 (x 5 : Nat), .int .u32 (x 6 : Nat), .int .u32 (x 7 : Nat), .int .u32 (x 8 : Nat), .int .u16 (x 9 : Nat), .int .u16 (x 10 : Nat), .int .u32 (x 11 : Nat), .int .u32 (x 12 : Nat)] 27))
  have HB1 := Lib.hid (HB.out.alloc (by simp) (.cells #[.int .u16 (x 2 : Nat), .int .u16 (x 3 : Nat), .int .u32 (x 4 : Nat), .int .u32 (x 5 : Nat), .int .u32 (x 6 : Nat), .int .u32 (x 7 : Nat), .int .u32 (x 8 : Nat), .int .u16 (x 9 : Nat), .int .u16 (x 10 : Nat), .int .u32 (x 11 : Nat), .int .u32 (x 12 : Nat)] 27))
  clear hs6 HGB HB HG2 HG3 HG4 HG5 HG6 HG7 HG8 HG9 HG10 HG11 HG12
  have hne6 : w.heap.size + 1 ≠ w.heap.size := by omega
  generalize hW1 : (w.alloc (.cells (offV zF) 27)).alloc (.cells #[.int .u16 (x 2 : Nat), .int .u16 (x 3 : Nat), .int .u32 (x 4 : Nat), .int .u32 (x 5 : Nat), .int .u32 (x 6 : Nat), .int .u32 (x 7 : Nat), .int .u32 (x 8 : Nat), .int .u16 (x 9 : Nat), .int .u16 (x 10 : Nat), .int .u32 (x 11 : Nat), .int .u32 (x 12 : Nat)] 27) = W1 at *
  generalize hg6 : w.heap.size + 1 = g6 at *
  generalize hg2 : w.heap.size = g2 at *
  have HSG := Lib.hid hne6
  clear hne6 hg6 hW1
  have B := True.intro
  have S := True.intro
  have G := True.intro
  refine start_ (n := 11) (S := fun w' => True) (ds := []) #[false, false, false, false, false, false, false, false, false, false, false] (by kernel_rfl) rfl rfl trivial (fun hHeld => ?_)
  refine with_tabW refLooktab4 refLookbits4 (fun HT_ HW_ => ?_)
  refine pure_ (i := 1) (N := some 61) (v := ?_) (a' := ?_) #[false, true, false, false, false, false, false, false, false, false, false] rfl rfl (any_of HT_.out (by kernel_rfl)) (fun _ _ _ h => h) (Or.inl ⟨by rfl, ?_⟩) ?_ ?_
  rotate_left
  · intro w'
    go_simp
    with_reducible rfl
  rotate_left
  · simp only [Act.put, List.setIfInBounds_toArray, List.set_cons_zero, List.set_cons_succ, i64_w, i32_w]
    rfl
  refine pure_ (i := 4) (N := some 64) (v := ?_) (a' := ?_) #[false, true, false, false, true, false, false, false, false, false, false] rfl rfl (any_of HT_.out (by kernel_rfl)) (fun _ _ _ h => h) (Or.inl ⟨by rfl, ?_⟩) ?_ ?_
  rotate_left
  · intro w'
    go_simp
    with_reducible rfl
  rotate_left
  · simp only [Act.put, List.setIfInBounds_toArray, List.set_cons_zero, List.set_cons_succ, i64_w, i32_w]
    rfl
  refine inv_at [0, 2, 3, 5, 6, 7, 8, 9, 10] (fun a0_ b a w' => a = putSel a0_ b [(0, 60, .agg #[.int .u16 (x 2 : Nat), .int .u16 (x 3 : Nat), .int .u32 (x 4 : Nat), .int .u32 (x 5 : Nat), .int .u32 (x 6 : Nat), .int .u32 (x 7 : Nat), .int .u32 (x 8 : Nat), .int .u16 (x 9 : Nat), .int .u16 (x 10 : Nat), .int .u32 (x 11 : Nat), .int .u32 (x 12 : Nat)]), (2, 62, .int .u64 (x 0 : Nat)), (3, 63, .int .i64 (x 0 : Nat)), (5, 65, .int .u64 (x 1 : Nat)), (6, 66, .int .i64 (x 1 : Nat)), (8, 3, .int .i64 (x 0 : Nat)), (9, 4, .int .i64 (x 1 : Nat)), (10, 5, .int .i64 0)] ∧ (Below g2 w w') ∧ (w'.heap[g6]? = some (.cells #[.int .u16 (x 2 : Nat), .int .u16 (x 3 : Nat), .int .u32 (x 4 : Nat), .int .u32 (x 5 : Nat), .int .u32 (x 6 : Nat), .int .u32 (x 7 : Nat), .int .u32 (x 8 : Nat), .int .u16 (x 9 : Nat), .int .u16 (x 10 : Nat), .int .u32 (x 11 : Nat), .int .u32 (x 12 : Nat)] 27 (0, 0))) ∧ (b 7 = false → w'.heap[g2]? = some (.cells (offV zF) 27 (0, 0))) ∧ (b 7 = true → w'.heap[g2]? = some (.cells #[.int .u16 (x 2 : Nat), .int .u16 (x 3 : Nat), .int .u32 (x 4 : Nat), .int .u32 (x 5 : Nat), .int .u32 (x 6 : Nat), .int .u32 (x 7 : Nat), .int .u32 (x 8 : Nat), .int .u16 (x 9 : Nat), .int .u16 (x 10 : Nat), .int .u32 (x 11 : Nat), .int .u32 (x 12 : Nat)] 27 (0, 0)))) HT_.out HW_.out (by kernel_rfl) (by kernel_rfl) ?_ ?_ ?_
  · exact ⟨by simp only [putSel, Bool.false_eq_true, if_false], HB1.out.drew, HS1.out, fun _ => HGB1.out, fun h_ => absurd h_ (by decide)⟩
  · skip
    clear B G S
    refine steps_cons ?_ ?_
    · rintro b a w' ⟨ha, Q_B, Q_S, Q_G, Q_T⟩ hb_ hon hoff
      refine ⟨_, rfl, fun K hK => ?_⟩
      have e6 : a.tmps[6]? = some (.pointer (some ⟨g6, 0, none⟩)) := by rw [ha]; exact (putSel_off rfl).trans rfl
      replace ha := Aside0.mk ha
      have B := Aside0.mk Q_B
      have S := Aside0.mk Q_S
      have G := Aside0.mk (Q_G (hoff 7 (by kernel_rfl)))
      refine value_ (w1 := w') (v := .agg #[.int .u16 (x 2 : Nat), .int .u16 (x 3 : Nat), .int .u32 (x 4 : Nat), .int .u32 (x 5 : Nat), .int .u32 (x 6 : Nat), .int .u32 (x 7 : Nat), .int .u32 (x 8 : Nat), .int .u16 (x 9 : Nat), .int .u16 (x 10 : Nat), .int .u32 (x 11 : Nat), .int .u32 (x 12 : Nat)]) (by rfl) rfl (exec_load_row 27 (.tmp 6) rfl (eval_of e6) S.out Try.underlying27 rfl (by kernel_rfl)) ?_
      refine hK.out _ _ ⟨(by rw [ha.out]; exact putSel_upk 0 hb_ rfl rfl rfl), B.out, S.out, fun _ => G.out, fun h0_ => absurd ((hoff 7 (by kernel_rfl)).symm.trans h0_) (by decide)⟩
    refine steps_cons ?_ ?_
    · rintro b a w' ⟨ha, Q_B, Q_S, Q_G, Q_T⟩ hb_ hon hoff
      refine ⟨_, rfl, fun K hK => ?_⟩
      have e61 : a.tmps[61]? = some (.slice A N c) := by rw [ha]; exact (putSel_off rfl).trans rfl
      replace ha := Aside0.mk ha
      have B := Aside0.mk Q_B
      have S := Aside0.mk Q_S
      have G := Aside0.mk (Q_G (hoff 7 (by kernel_rfl)))
      refine goes_ Try.func27 (by kernel_rfl) rfl #[.slice A N c, .int .i64 0, .int .i64 8] (by rfl) rfl rfl (by first | (simp only [List.map_toArray, List.map_cons, List.map_nil, Act.eval, Array.getD_eq_getD_getElem?, Option.getD_some, e61]; done) | (simp only [List.map_toArray, List.map_cons, List.map_nil, Act.eval, Array.getD_eq_getD_getElem?, Option.getD_some, e61]; rfl)) ?_
      refine (HG0.out w' B.out).mono ?_
      rintro e w1 ⟨rfl, rfl⟩
      refine ⟨_, rfl, ?_⟩
      refine hK.out _ _ ⟨(by rw [ha.out]; exact putSel_upk 1 hb_ rfl rfl rfl), B.out, S.out, fun _ => G.out, fun h0_ => absurd ((hoff 7 (by kernel_rfl)).symm.trans h0_) (by decide)⟩
    refine steps_cons ?_ ?_
    · rintro b a w' ⟨ha, Q_B, Q_S, Q_G, Q_T⟩ hb_ hon hoff
      refine ⟨_, rfl, fun K hK => ?_⟩
      have e62 : a.tmps[62]? = some (.int .u64 (x 0 : Nat)) := by rw [ha]; exact putSel_on (e := (2, 62, .int .u64 (x 0 : Nat))) 1 rfl rfl (hon 2 (by kernel_rfl)) rfl
      replace ha := Aside0.mk ha
      have B := Aside0.mk Q_B
      have S := Aside0.mk Q_S
      refine value_ (w1 := w') (v := .int .i64 (x 0 : Nat)) (by rfl) rfl (by go_simp; first | done | rfl | (simp only [i64_w]; exact WX0.out)) ?_
      refine hK.out _ _ ⟨(by rw [ha.out]; exact putSel_upk 2 hb_ rfl rfl rfl), B.out, S.out, fun h0_ => (Q_G h0_), fun h0_ => (Q_T h0_)⟩
    refine steps_cons ?_ ?_
    · rintro b a w' ⟨ha, Q_B, Q_S, Q_G, Q_T⟩ hb_ hon hoff
      refine ⟨_, rfl, fun K hK => ?_⟩
      have e64 : a.tmps[64]? = some (.slice A N c) := by rw [ha]; exact (putSel_off rfl).trans rfl
      replace ha := Aside0.mk ha
      have B := Aside0.mk Q_B
      have S := Aside0.mk Q_S
      have G := Aside0.mk (Q_G (hoff 7 (by kernel_rfl)))
      refine goes_ Try.func27 (by kernel_rfl) rfl #[.slice A N c, .int .i64 8, .int .i64 4] (by rfl) rfl rfl (by first | (simp only [List.map_toArray, List.map_cons, List.map_nil, Act.eval, Array.getD_eq_getD_getElem?, Option.getD_some, e64]; done) | (simp only [List.map_toArray, List.map_cons, List.map_nil, Act.eval, Array.getD_eq_getD_getElem?, Option.getD_some, e64]; rfl)) ?_
      refine (HG1.out w' B.out).mono ?_
      rintro e w1 ⟨rfl, rfl⟩
      refine ⟨_, rfl, ?_⟩
      refine hK.out _ _ ⟨(by rw [ha.out]; exact putSel_upk 3 hb_ rfl rfl rfl), B.out, S.out, fun _ => G.out, fun h0_ => absurd ((hoff 7 (by kernel_rfl)).symm.trans h0_) (by decide)⟩
    refine steps_cons ?_ ?_
    · rintro b a w' ⟨ha, Q_B, Q_S, Q_G, Q_T⟩ hb_ hon hoff
      refine ⟨_, rfl, fun K hK => ?_⟩
      have e65 : a.tmps[65]? = some (.int .u64 (x 1 : Nat)) := by rw [ha]; exact putSel_on (e := (5, 65, .int .u64 (x 1 : Nat))) 3 rfl rfl (hon 5 (by kernel_rfl)) rfl
      replace ha := Aside0.mk ha
      have B := Aside0.mk Q_B
      have S := Aside0.mk Q_S
      refine value_ (w1 := w') (v := .int .i64 (x 1 : Nat)) (by rfl) rfl (by go_simp; first | done | rfl | (simp only [i64_w]; exact WX1.out)) ?_
      refine hK.out _ _ ⟨(by rw [ha.out]; exact putSel_upk 4 hb_ rfl rfl rfl), B.out, S.out, fun h0_ => (Q_G h0_), fun h0_ => (Q_T h0_)⟩
    refine steps_cons ?_ ?_
    · rintro b a w' ⟨ha, Q_B, Q_S, Q_G, Q_T⟩ hb_ hon hoff
      refine ⟨_, rfl, fun K hK => ?_⟩
      have e2 : a.tmps[2]? = some (.pointer (some ⟨g2, 0, none⟩)) := by rw [ha]; exact (putSel_off rfl).trans rfl
      have e60 : a.tmps[60]? = some (.agg #[.int .u16 (x 2 : Nat), .int .u16 (x 3 : Nat), .int .u32 (x 4 : Nat), .int .u32 (x 5 : Nat), .int .u32 (x 6 : Nat), .int .u32 (x 7 : Nat), .int .u32 (x 8 : Nat), .int .u16 (x 9 : Nat), .int .u16 (x 10 : Nat), .int .u32 (x 11 : Nat), .int .u32 (x 12 : Nat)]) := by rw [ha]; exact putSel_on (e := (0, 60, .agg #[.int .u16 (x 2 : Nat), .int .u16 (x 3 : Nat), .int .u32 (x 4 : Nat), .int .u32 (x 5 : Nat), .int .u32 (x 6 : Nat), .int .u32 (x 7 : Nat), .int .u32 (x 8 : Nat), .int .u16 (x 9 : Nat), .int .u16 (x 10 : Nat), .int .u32 (x 11 : Nat), .int .u32 (x 12 : Nat)])) 0 rfl rfl (hon 0 (by kernel_rfl)) rfl
      replace ha := Aside0.mk ha
      have B := Aside0.mk Q_B
      have S := Aside0.mk Q_S
      have G := Aside0.mk (Q_G hb_)
      refine skip_ (w1 := w'.setRow g2 #[.int .u16 (x 2 : Nat), .int .u16 (x 3 : Nat), .int .u32 (x 4 : Nat), .int .u32 (x 5 : Nat), .int .u32 (x 6 : Nat), .int .u32 (x 7 : Nat), .int .u32 (x 8 : Nat), .int .u16 (x 9 : Nat), .int .u16 (x 10 : Nat), .int .u32 (x 11 : Nat), .int .u32 (x 12 : Nat)]) (by rfl) rfl (exec_store_row 27 (.tmp 2) (.tmp 60) rfl (eval_of e2) (eval_of e60) G.out (by kernel_rfl) rfl (by simp [Value.oneCell'])) ?_
      refine hK.out _ _ ⟨(by rw [ha.out]; exact putSel_none (v := undef) rfl), below_setRow B.out (Nat.le_refl _) _, (setRow_other w' g2 g6 _ HSG.out).trans S.out, fun h0_ => absurd ((up_self b 7).symm.trans h0_) (by decide), fun _ => setRow_heap w' g2 _ _ _ _ G.out⟩
    refine steps_cons ?_ ?_
    · rintro b a w' ⟨ha, Q_B, Q_S, Q_G, Q_T⟩ hb_ hon hoff
      refine ⟨_, rfl, fun K hK => ?_⟩
      have e63 : a.tmps[63]? = some (.int .i64 (x 0 : Nat)) := by rw [ha]; exact putSel_on (e := (3, 63, .int .i64 (x 0 : Nat))) 2 rfl rfl (hon 3 (by kernel_rfl)) rfl
      replace ha := Aside0.mk ha
      have B := Aside0.mk Q_B
      have S := Aside0.mk Q_S
      have T := Aside0.mk (Q_T (hon 7 (by kernel_rfl)))
      refine value_ (w1 := w') (v := .int .i64 (x 0 : Nat)) (by rfl) rfl ?_ ?_
      · go_simp
        (try simp only [i64_w])
        try rfl
      refine hK.out _ _ ⟨(by rw [ha.out]; exact putSel_upk 5 hb_ rfl rfl rfl), Q_B, Q_S, fun h0_ => absurd ((hon 7 (by kernel_rfl)).symm.trans h0_) (by decide), Q_T⟩
    refine steps_cons ?_ ?_
    · rintro b a w' ⟨ha, Q_B, Q_S, Q_G, Q_T⟩ hb_ hon hoff
      refine ⟨_, rfl, fun K hK => ?_⟩
      have e66 : a.tmps[66]? = some (.int .i64 (x 1 : Nat)) := by rw [ha]; exact putSel_on (e := (6, 66, .int .i64 (x 1 : Nat))) 4 rfl rfl (hon 6 (by kernel_rfl)) rfl
      replace ha := Aside0.mk ha
      have B := Aside0.mk Q_B
      have S := Aside0.mk Q_S
      have T := Aside0.mk (Q_T (hon 7 (by kernel_rfl)))
      refine value_ (w1 := w') (v := .int .i64 (x 1 : Nat)) (by rfl) rfl ?_ ?_
      · go_simp
        (try simp only [i64_w])
        try rfl
      refine hK.out _ _ ⟨(by rw [ha.out]; exact putSel_upk 6 hb_ rfl rfl rfl), Q_B, Q_S, fun h0_ => absurd ((hon 7 (by kernel_rfl)).symm.trans h0_) (by decide), Q_T⟩
    refine steps_cons ?_ ?_
    · rintro b a w' ⟨ha, Q_B, Q_S, Q_G, Q_T⟩ hb_ hon hoff
      refine ⟨_, rfl, fun K hK => ?_⟩
      replace ha := Aside0.mk ha
      have B := Aside0.mk Q_B
      have S := Aside0.mk Q_S
      have T := Aside0.mk (Q_T (hon 7 (by kernel_rfl)))
      refine value_ (w1 := w') (v := .int .i64 0) (by rfl) rfl ?_ ?_
      · go_simp
        (try simp only [i64_w])
        try rfl
      refine hK.out _ _ ⟨(by rw [ha.out]; exact putSel_upk 7 hb_ rfl rfl rfl), Q_B, Q_S, fun h0_ => absurd ((hon 7 (by kernel_rfl)).symm.trans h0_) (by decide), Q_T⟩
    exact steps_nil
  rintro b a w' hall ⟨ha, Q_B, Q_S, Q_G, Q_T⟩
  clear B G S
  have hb0_ := hall 0 (by kernel_rfl)
  have hb2_ := hall 2 (by kernel_rfl)
  have hb3_ := hall 3 (by kernel_rfl)
  have hb5_ := hall 5 (by kernel_rfl)
  have hb6_ := hall 6 (by kernel_rfl)
  have hb7_ := hall 7 (by kernel_rfl)
  have hb8_ := hall 8 (by kernel_rfl)
  have hb9_ := hall 9 (by kernel_rfl)
  have hb10_ := hall 10 (by kernel_rfl)
  subst ha
  simp only [putSel, hb0_, hb2_, hb3_, hb5_, hb6_, hb7_, hb8_, hb9_, hb10_, if_true, Act.put, List.setIfInBounds_toArray, List.set_cons_zero, List.set_cons_succ]
  have B := Aside0.mk Q_B
  clear Q_B
  have S := Aside0.mk Q_S
  clear Q_S
  clear Q_G
  have T := Aside0.mk (Q_T hb7_)
  clear Q_T
  clear hall hb0_ hb2_ hb3_ hb5_ hb6_ hb7_ hb8_ hb9_ hb10_
  have HT1 := Lib.hid T.out
  have HT2 := Lib.hid B.out
  clear T B S
  go_wp2
  refine bodyPost_ret (results_cttt rfl _ _ g2 27 _ (0, 0) _ rfl HT1.out Try.underlying27 rfl (by kernel_rfl)) rfl ?_
  exact ⟨rfl, by rw [hg2]; exact HT2.out⟩
end Go.Proofs.Ythdemajmlidefaa.Ck
