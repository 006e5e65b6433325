/- A piece more is put, and where its row lies: walked. -/
import Derived.Test.YtgfkdebbdjojmaaFragF
import Derived.Test.YtgfkdebbdjojmaaWApart
import Derived.Test.YtgfkdebbdjojmaaWMore
namespace Go.Proofs.Ytgfkdebbdjojmaa.Frag
open Go.RowKit Go.Proofs.YtgfkdebbdjojmaaW.PrintWords Go.Proofs.YtgfkdebbdjojmaaW.PrintLast Go.Proofs.Ytgfkdebbdjojmaa.Base
set_option linter.unusedVariables false
set_option linter.unusedSimpArgs false
/-- A piece more of a message. -/
theorem put_more2 (wB w : World) (base gj i : Nat) (p : Pc) (A : Option Addr) (c : Nat) (vo vp : Value) (fr : Int) (acc : List UInt8) (hg : w.heap[gj]? = some (.cells #[vo, vp, .int .i64 fr, .bool true] 59 (0, 0))) (hl : p.2.2.length ≠ 0) (hb : p.1 = false)
    (hC : byte.C w A p.2.2.length p.2.2) (hR0 : byte.R 5 w base (fun k => k ≠ gj) vp acc) (hgb : base ≤ gj) (hBl : Below base wB w) (hbw : base ≤ wB.heap.size) (hlen : acc.length + p.2.2.length ≤ 140737488355328) :
    Calls Try.prog 21 #[.pointer (some ⟨gj, 0, none⟩), .int .i64 (i : Int), pcV p A c] w fun e w' => e = .returned (.tuple #[]) ∧ ∃ v', w'.heap[gj]? = some (.cells #[vo, v', .int .i64 fr, .bool true] 59 (0, 0)) ∧ byte.R 5 w' base (fun k => k ≠ gj) v' (acc ++ p.2.2) ∧ Below base wB w' ∧ Only (fun k => k = gj ∨ some k = vp.ownBlock) w w' ∧ (v'.ownBlock = vp.ownBlock ∨ ∃ b, v'.ownBlock = some b ∧ w.heap.size ≤ b) := by
  obtain ⟨Av, cv, rfl⟩ := Kd.R_slice hR0
  unfold pcV
  have k3 : (w.alloc (.cells #[.bool false, .bool p.2.1, .slice A p.2.2.length c] 42)).cell? ⟨gj, 3, none⟩ = some (.bool true) := blk_cell (blk_alloc hg _) 3
  have h0' : (((p.2.2.length : Nat) : Int) == 0) = false := beq_eq_false_iff_ne.2 (by omega)
  rw [hb]
  have HG0 := Lib.hid hg
  have HC0 := Lib.hid hC
  have HR0 := Lib.hid hR0
  have HB0 := Lib.hid hBl
  clear hb hl hg hC hR0 hBl
  generalize p.2.2 = data at *
  generalize p.2.1 = b2 at *
  generalize hg5 : w.heap.size = g5 at *
  go_enter Try.func21, Try.ntmps21
  go_wp2
  go_quiet (fail)
  go_upto_region 5 with (fail)
  have hgw : gj < w.heap.size := blk_lt HG0.out
  have hbox := blk_drewN (blk_new w (.cells #[.bool false, .bool b2, .slice A data.length c] 42)) nq
  have HGS := Lib.hid (blk_drewN (blk_alloc HG0.out (.cells #[.bool false, .bool b2, .slice A data.length c] 42)) nq)
  have HD := Lib.hid (Kd.C_drewN (Kd.C_alloc HC0.out (.cells #[.bool false, .bool b2, .slice A data.length c] 42)) nq)
  have HR := Lib.hid (Kd.R_drewN (Kd.R_alloc HR0.out (.cells #[.bool false, .bool b2, .slice A data.length c] 42)) nq)
  have HBB := Lib.hid (pw_below_drewN (HB0.out.alloc (by have := HB0.out.size; omega) (.cells #[.bool false, .bool b2, .slice A data.length c] 42)) nq)
  have HOS := Lib.hid (((Only.refl (fun k => k = gj ∨ some k = (Value.slice Av acc.length cv).ownBlock) w).alloc (.cells #[.bool false, .bool b2, .slice A data.length c] 42)).drewN nq)
  have HSZ := Lib.hid (show w.heap.size ≤ ((w.alloc (.cells #[.bool false, .bool b2, .slice A data.length c] 42)).drewN nq).heap.size by simp)
  have hbS : base ≤ ((w.alloc (.cells #[.bool false, .bool b2, .slice A data.length c] 42)).drewN nq).heap.size := by have := HBB.out.size; omega
  rw [hg5] at hbox HSZ
  clear HG0 HC0 HR0 HB0 k3 h0'
  generalize (w.alloc (.cells #[.bool false, .bool b2, .slice A data.length c] 42)).drewN nq = wS at *
  have k1 := Lib.hid (show wS.cell? ⟨gj, 1, none⟩ = some (.slice Av acc.length cv) from blk_cell HGS.out 1)
  have kd := Lib.hid (show wS.cell? ⟨g5, 2, none⟩ = some (.slice A data.length c) from blk_cell hbox 2)
  have HGG := Lib.hid (fun (w2 : World) (h : Below wS.heap.size wS w2) => blk_below HGS.out h)
  have hgS : gj < wS.heap.size := blk_lt HGS.out
  have HNG := Lib.hid (fun e : (Value.slice Av acc.length cv).ownBlock = some gj => HR.out.1 gj e rfl)
  clear hbox hgw hg5
  have B := True.intro
  refine start_ (n := 11) (S := fun w' => True) (ds := []) #[false, false, false, false, false, false, false, false, false, false, false] (by kernel_rfl) rfl rfl trivial (fun hHeld => ?_)
  refine with_tabW puttab5 putbits5 (fun HT_ HW_ => ?_)
  refine pure_ (i := 0) (N := some 34) (v := ?_) (a' := ?_) #[true, false, false, false, false, false, false, false, false, false, false] rfl rfl (any_of HT_.out (by kernel_rfl)) (fun _ _ _ h => h) (Or.inl ⟨by rfl, ?_⟩) ?_ ?_
  rotate_left
  · intro w'
    go_simp
    with_reducible rfl
  rotate_left
  · simp only [Act.put, List.setIfInBounds_toArray, List.set_cons_zero, List.set_cons_succ, i64_w, i32_w]
    rfl
  refine pure_ (i := 1) (N := some 35) (v := ?_) (a' := ?_) #[true, true, false, false, false, false, false, false, false, false, false] rfl rfl (any_of HT_.out (by kernel_rfl)) (fun _ _ _ h => h) (Or.inl ⟨by rfl, ?_⟩) ?_ ?_
  rotate_left
  · intro w'
    go_simp
    with_reducible rfl
  rotate_left
  · simp only [Act.put, List.setIfInBounds_toArray, List.set_cons_zero, List.set_cons_succ, i64_w, i32_w]
    rfl
  refine inv_at [2, 3, 4, 5, 6, 7, 8, 9, 10] (fun a0_ b a w' => ∃ (v9 : Value), a = putSel a0_ b [(2, 36, .pointer (some ⟨gj, 0, none⟩)), (3, 37, .pointer (some ⟨gj, 1, none⟩)), (4, 38, .slice Av acc.length cv), (5, 39, .pointer (some ⟨g5, 2, none⟩)), (6, 40, .slice A data.length c), (7, 41, v9), (8, 42, .pointer (some ⟨gj, 0, none⟩)), (9, 43, .pointer (some ⟨gj, 1, none⟩))] ∧ (b 7 = false → Below wS.heap.size wS w') ∧ (b 7 = true → b 10 = false → byte.R 5 w' base (fun k => k ≠ gj) v9 (acc ++ data) ∧ Below base wB w' ∧ w'.heap[gj]? = some (.cells #[vo, .slice Av acc.length cv, .int .i64 fr, .bool true] 59 (0, 0)) ∧ Only (fun k => k = gj ∨ some k = (Value.slice Av acc.length cv).ownBlock) wS w' ∧ (v9.ownBlock = (Value.slice Av acc.length cv).ownBlock ∨ ∃ b, v9.ownBlock = some b ∧ wS.heap.size ≤ b)) ∧ (b 10 = true → w'.heap[gj]? = some (.cells #[vo, v9, .int .i64 fr, .bool true] 59 (0, 0)) ∧ byte.R 5 w' base (fun k => k ≠ gj) v9 (acc ++ data) ∧ Below base wB w' ∧ Only (fun k => k = gj ∨ some k = (Value.slice Av acc.length cv).ownBlock) wS w' ∧ (v9.ownBlock = (Value.slice Av acc.length cv).ownBlock ∨ ∃ b, v9.ownBlock = some b ∧ wS.heap.size ≤ b))) HT_.out HW_.out (by kernel_rfl) (by kernel_rfl) ?_ ?_ ?_
  · exact ⟨undef, by simp only [putSel, Bool.false_eq_true, if_false], fun _ => below_drew (Below.refl _ _), fun h_ => absurd h_ (by decide), fun h_ => absurd h_ (by decide)⟩
  · skip
    clear B
    refine steps_cons ?_ ?_
    · rintro b a w' ⟨v9, ha, Q_B, Q_S1, Q_S2⟩ hb_ hon hoff
      refine ⟨_, rfl, fun K hK => ?_⟩
      have e35 : a.tmps[35]? = some (.pointer (some ⟨gj, 0, none⟩)) := by rw [ha]; exact (putSel_off rfl).trans rfl
      replace ha := Aside0.mk ha
      have B := Aside0.mk (Q_B (hoff 7 (by kernel_rfl)))
      refine value_ (w1 := w') (v := .pointer (some ⟨gj, 0, none⟩)) (by rfl) rfl ?_ ?_
      · go_simp
        (try simp only [i64_w])
        try rfl
      refine hK.out _ _ ⟨v9, (by rw [ha.out]; exact putSel_upk 0 hb_ rfl rfl rfl), Q_B, fun h0_ _ => absurd ((hoff 7 (by kernel_rfl)).symm.trans h0_) (by decide), fun h0_ => absurd ((hoff 10 (by kernel_rfl)).symm.trans h0_) (by decide)⟩
    refine steps_cons ?_ ?_
    · rintro b a w' ⟨v9, ha, Q_B, Q_S1, Q_S2⟩ hb_ hon hoff
      refine ⟨_, rfl, fun K hK => ?_⟩
      have e36 : a.tmps[36]? = some (.pointer (some ⟨gj, 0, none⟩)) := by rw [ha]; exact putSel_on (e := (2, 36, .pointer (some ⟨gj, 0, none⟩))) 0 rfl rfl (hon 2 (by kernel_rfl)) rfl
      replace ha := Aside0.mk ha
      have B := Aside0.mk (Q_B (hoff 7 (by kernel_rfl)))
      refine value_ (w1 := w') (v := .pointer (some ⟨gj, 1, none⟩)) (by rfl) rfl ?_ ?_
      · go_simp
        (try simp only [i64_w])
        try rfl
      refine hK.out _ _ ⟨v9, (by rw [ha.out]; exact putSel_upk 1 hb_ rfl rfl rfl), Q_B, fun h0_ _ => absurd ((hoff 7 (by kernel_rfl)).symm.trans h0_) (by decide), fun h0_ => absurd ((hoff 10 (by kernel_rfl)).symm.trans h0_) (by decide)⟩
    refine steps_cons ?_ ?_
    · rintro b a w' ⟨v9, ha, Q_B, Q_S1, Q_S2⟩ hb_ hon hoff
      refine ⟨_, rfl, fun K hK => ?_⟩
      have e37 : a.tmps[37]? = some (.pointer (some ⟨gj, 1, none⟩)) := by rw [ha]; exact putSel_on (e := (3, 37, .pointer (some ⟨gj, 1, none⟩))) 1 rfl rfl (hon 3 (by kernel_rfl)) rfl
      replace ha := Aside0.mk ha
      have B := Aside0.mk (Q_B (hoff 7 (by kernel_rfl)))
      have hs := pw_cell_below B.out k1.out
      refine value_ (w1 := w') (v := .slice Av acc.length cv) (by rfl) rfl ?_ ?_
      · go_simp
        (try simp only [i64_w])
        try rfl
      refine hK.out _ _ ⟨v9, (by rw [ha.out]; exact putSel_upk 2 hb_ rfl rfl rfl), Q_B, fun h0_ _ => absurd ((hoff 7 (by kernel_rfl)).symm.trans h0_) (by decide), fun h0_ => absurd ((hoff 10 (by kernel_rfl)).symm.trans h0_) (by decide)⟩
    refine steps_cons ?_ ?_
    · rintro b a w' ⟨v9, ha, Q_B, Q_S1, Q_S2⟩ hb_ hon hoff
      refine ⟨_, rfl, fun K hK => ?_⟩
      have e5 : a.tmps[5]? = some (.pointer (some ⟨g5, 0, none⟩)) := by rw [ha]; exact (putSel_off rfl).trans rfl
      replace ha := Aside0.mk ha
      have B := Aside0.mk (Q_B (hoff 7 (by kernel_rfl)))
      refine value_ (w1 := w') (v := .pointer (some ⟨g5, 2, none⟩)) (by rfl) rfl ?_ ?_
      · go_simp
        (try simp only [i64_w])
        try rfl
      refine hK.out _ _ ⟨v9, (by rw [ha.out]; exact putSel_upk 3 hb_ rfl rfl rfl), Q_B, fun h0_ _ => absurd ((hoff 7 (by kernel_rfl)).symm.trans h0_) (by decide), fun h0_ => absurd ((hoff 10 (by kernel_rfl)).symm.trans h0_) (by decide)⟩
    refine steps_cons ?_ ?_
    · rintro b a w' ⟨v9, ha, Q_B, Q_S1, Q_S2⟩ hb_ hon hoff
      refine ⟨_, rfl, fun K hK => ?_⟩
      have e39 : a.tmps[39]? = some (.pointer (some ⟨g5, 2, none⟩)) := by rw [ha]; exact putSel_on (e := (5, 39, .pointer (some ⟨g5, 2, none⟩))) 3 rfl rfl (hon 5 (by kernel_rfl)) rfl
      replace ha := Aside0.mk ha
      have B := Aside0.mk (Q_B (hoff 7 (by kernel_rfl)))
      have hs := pw_cell_below B.out kd.out
      refine value_ (w1 := w') (v := .slice A data.length c) (by rfl) rfl ?_ ?_
      · go_simp
        (try simp only [i64_w])
        try rfl
      refine hK.out _ _ ⟨v9, (by rw [ha.out]; exact putSel_upk 4 hb_ rfl rfl rfl), Q_B, fun h0_ _ => absurd ((hoff 7 (by kernel_rfl)).symm.trans h0_) (by decide), fun h0_ => absurd ((hoff 10 (by kernel_rfl)).symm.trans h0_) (by decide)⟩
    refine steps_cons ?_ ?_
    · rintro b a w' ⟨v9, ha, Q_B, Q_S1, Q_S2⟩ hb_ hon hoff
      refine ⟨_, rfl, fun K hK => ?_⟩
      have e38 : a.tmps[38]? = some (.slice Av acc.length cv) := by rw [ha]; exact putSel_on (e := (4, 38, .slice Av acc.length cv)) 2 rfl rfl (hon 4 (by kernel_rfl)) rfl
      have e40 : a.tmps[40]? = some (.slice A data.length c) := by rw [ha]; exact putSel_on (e := (6, 40, .slice A data.length c)) 4 rfl rfl (hon 6 (by kernel_rfl)) rfl
      replace ha := Aside0.mk ha
      have B := Aside0.mk (Q_B hb_)
      refine Kd.R_append_rows_step byte (Rr := fun x cs => byte.K w' x cs) (w0 := wB) (W := w') base (by rfl) _ _ 22 5 _ 1 rfl Try.underlying22 info_u8 rfl (by decide) (by decide) (.slice Av acc.length cv) acc data A data.length c (fun k => k ≠ gj) (fun _ => False) (eval_of e38) (eval_of e40) (Kd.R_below HR.out B.out) (Kd.C_below HD.out B.out) (fun x cs h => h) (fun k hk => hk.elim) (fun k hk => by have := B.out.size; omega) (HBB.out.trans (B.out.mono hbS)) (Nat.le_trans hbS B.out.size) (by first | omega | (simp; omega)) ?_
      intro v1 w1 hR1 hB1 hG1 hat1
      refine hK.out _ _ ⟨v1, (by rw [ha.out]; exact putSel_upk 5 hb_ rfl rfl rfl), fun h0_ => absurd ((up_self b 7).symm.trans h0_) (by decide), fun _ _ => ⟨hR1, hB1, blk_grown (HGG.out w' B.out) hG1 (fun e => HNG.out e.symm), (Only.of_below B.out).grown hG1 (fun k _ e => Or.inr e.symm), hat1.imp id (fun ⟨b, e, h⟩ => ⟨b, e, Nat.le_trans B.out.size h⟩)⟩, fun h0_ => absurd ((hoff 10 (by kernel_rfl)).symm.trans h0_) (by decide)⟩
    refine steps_cons ?_ ?_
    · rintro b a w' ⟨v9, ha, Q_B, Q_S1, Q_S2⟩ hb_ hon hoff
      refine ⟨_, rfl, fun K hK => ?_⟩
      have e34 : a.tmps[34]? = some (.pointer (some ⟨gj, 0, none⟩)) := by rw [ha]; exact (putSel_off rfl).trans rfl
      replace ha := Aside0.mk ha
      have S1 := Aside0.mk (Q_S1 (hon 7 (by kernel_rfl)) (hoff 10 (by kernel_rfl)))
      refine value_ (w1 := w') (v := .pointer (some ⟨gj, 0, none⟩)) (by rfl) rfl ?_ ?_
      · go_simp
        (try simp only [i64_w])
        try rfl
      refine hK.out _ _ ⟨v9, (by rw [ha.out]; exact putSel_upk 6 hb_ rfl rfl rfl), fun h0_ => absurd ((hon 7 (by kernel_rfl)).symm.trans h0_) (by decide), Q_S1, fun h0_ => absurd ((hoff 10 (by kernel_rfl)).symm.trans h0_) (by decide)⟩
    refine steps_cons ?_ ?_
    · rintro b a w' ⟨v9, ha, Q_B, Q_S1, Q_S2⟩ hb_ hon hoff
      refine ⟨_, rfl, fun K hK => ?_⟩
      have e42 : a.tmps[42]? = some (.pointer (some ⟨gj, 0, none⟩)) := by rw [ha]; exact putSel_on (e := (8, 42, .pointer (some ⟨gj, 0, none⟩))) 6 rfl rfl (hon 8 (by kernel_rfl)) rfl
      replace ha := Aside0.mk ha
      have S1 := Aside0.mk (Q_S1 (hon 7 (by kernel_rfl)) (hoff 10 (by kernel_rfl)))
      refine value_ (w1 := w') (v := .pointer (some ⟨gj, 1, none⟩)) (by rfl) rfl ?_ ?_
      · go_simp
        (try simp only [i64_w])
        try rfl
      refine hK.out _ _ ⟨v9, (by rw [ha.out]; exact putSel_upk 7 hb_ rfl rfl rfl), fun h0_ => absurd ((hon 7 (by kernel_rfl)).symm.trans h0_) (by decide), Q_S1, fun h0_ => absurd ((hoff 10 (by kernel_rfl)).symm.trans h0_) (by decide)⟩
    refine steps_cons ?_ ?_
    · rintro b a w' ⟨v9, ha, Q_B, Q_S1, Q_S2⟩ hb_ hon hoff
      refine ⟨_, rfl, fun K hK => ?_⟩
      have e43 : a.tmps[43]? = some (.pointer (some ⟨gj, 1, none⟩)) := by rw [ha]; exact putSel_on (e := (9, 43, .pointer (some ⟨gj, 1, none⟩))) 7 rfl rfl (hon 9 (by kernel_rfl)) rfl
      have e41 : a.tmps[41]? = some (v9) := by rw [ha]; exact putSel_on (e := (7, 41, v9)) 5 rfl rfl (hon 7 (by kernel_rfl)) rfl
      replace ha := Aside0.mk ha
      have S1 := Aside0.mk (Q_S1 (hon 7 (by kernel_rfl)) hb_)
      obtain ⟨hR1, hB1, hG1, hO1, hA1⟩ := S1.out
      obtain ⟨A7, c7, hv9⟩ := Kd.R_slice hR1
      have hs := blk_cell hG1 1
      have hf := blk_frozen hG1 1
      refine skip_ (w1 := w'.setCell ⟨gj, 1, none⟩ v9) (by rfl) rfl (by generalize (acc ++ data).length = zl at hv9; rw [hv9] at e41 ⊢; go_simp; try rfl) ?_
      refine hK.out _ _ ⟨v9, (by rw [ha.out]; exact putSel_none (v := undef) rfl), fun h0_ => absurd ((hon 7 (by kernel_rfl)).symm.trans h0_) (by decide), fun _ h1_ => absurd ((up_self b 10).symm.trans h1_) (by decide), fun _ => ⟨blk_put hG1 1 v9 rfl, Kd.R_far hR1 (p := ⟨gj, 1, none⟩) (fun k hk => hk) _, hB1.setCell (p := ⟨gj, 1, none⟩) hgb _, hO1.setCell (p := ⟨gj, 1, none⟩) (fun _ => Or.inl rfl) _, hA1⟩⟩
    exact steps_nil
  rintro b a w' hall ⟨v9, ha, Q_B, Q_S1, Q_S2⟩
  clear B
  have hb2_ := hall 2 (by kernel_rfl)
  have hb3_ := hall 3 (by kernel_rfl)
  have hb4_ := hall 4 (by kernel_rfl)
  have hb5_ := hall 5 (by kernel_rfl)
  have hb6_ := hall 6 (by kernel_rfl)
  have hb7_ := hall 7 (by kernel_rfl)
  have hb8_ := hall 8 (by kernel_rfl)
  have hb9_ := hall 9 (by kernel_rfl)
  have hb10_ := hall 10 (by kernel_rfl)
  subst ha
  simp only [putSel, hb2_, hb3_, hb4_, hb5_, hb6_, hb7_, hb8_, hb9_, hb10_, if_true, Act.put, List.setIfInBounds_toArray, List.set_cons_zero, List.set_cons_succ]
  clear Q_B
  clear Q_S1
  have S2 := Aside0.mk (Q_S2 hb10_)
  clear Q_S2
  clear hall hb2_ hb3_ hb4_ hb5_ hb6_ hb7_ hb8_ hb9_ hb10_
  obtain ⟨hg9, hR9, hB9, hO9, hA9⟩ := S2.out
  have HA9 := Lib.hid hA9
  have H9 := Lib.hid hR9
  have HB9 := Lib.hid hB9
  have HO9 := Lib.hid (HOS.out.trans hO9 (fun k hk h => h))
  have HG9 := Lib.hid hg9
  clear hg9 hR9 hB9 hO9 hA9 S2
  go_wp2
  go_end0
  exact ⟨rfl, v9, HG9.out, H9.out, HB9.out, HO9.out, HA9.out.imp id (fun ⟨b, e, h⟩ => ⟨b, e, Nat.le_trans HSZ.out h⟩)⟩
end Go.Proofs.Ytgfkdebbdjojmaa.Frag
