/- A piece is put: walked. -/
import Derived.Test.YtgfkdebbdjojmaaFragD
import Derived.Test.YtgfkdebbdjojmaaWApart
import Derived.Test.YtgfkdebbdjojmaaWMore
namespace Go.Proofs.Ytgfkdebbdjojmaa.Frag
open Go.RowKit Go.Proofs.YtgfkdebbdjojmaaW.PrintWords Go.Proofs.YtgfkdebbdjojmaaW.PrintLast Go.Proofs.Ytgfkdebbdjojmaa.Base
set_option linter.unusedVariables false
set_option linter.unusedSimpArgs false
def putT5 : Bool × List (List Nat × List Nat) := (true, [([], []), ([], []), ([1], [1]), ([2], [2]), ([3], [3]), ([], []), ([5], [5]), ([4, 6], [4, 6]), ([0, 0, 1, 2, 3, 4, 5, 6, 7], [0]), ([8, 0, 1, 2, 3, 4, 5, 6, 7], [8]), ([9, 7, 7, 0, 1, 2, 3, 4, 5, 6, 7], [7, 9])])
def putB5 : List Nat := [0, 0, 2, 6, 14, 0, 32, 126, 255, 511, 1023]
theorem puttab5 : Go.Proofs.YtgfkdebbdjojmaaW.PrintLast.rtab .any (Go.Proofs.YtgfkdebbdjojmaaW.PrintLast.opsOf Try.f21 5) = putT5 := by kernel_rfl
theorem putbits5 : Go.Proofs.YtgfkdebbdjojmaaW.PrintLast.waitsOk putT5.2 putB5 = true := by kernel_rfl
theorem _root_.Go.Proofs.Ytgfkdebbdjojmaa.Base.Only.grown {S : Nat → Prop} {a w w1 : World} {row : Option Nat} (h : Only S a w) (hg : w.grownBy w1 row) (hr : ∀ k, k < a.heap.size → row = some k → S k) : Only S a w1 :=
  ⟨hg.os.trans h.os, hg.tape.trans h.tape, hg.output.trans h.output, Nat.le_trans h.size hg.size, fun k hk hn => (hg.block k (Nat.lt_of_lt_of_le hk h.size) (fun e => hn (hr k hk e.symm))).trans (h.block k hk hn)⟩
theorem byte_far {w : World} {A : Option Addr} {n : Nat} {l : List UInt8} (h : byte.C w A n l) {p : Addr} (hp : ∀ ad, A = some ad → ad.block ≠ p.block) (u : Value) : byte.C (w.setCell p u) A n l := by
  obtain ⟨h1, h2, h3⟩ := h
  refine ⟨h1, h2, fun hn => ?_⟩
  obtain ⟨ad, e, hc⟩ := h3 hn
  refine ⟨ad, e, fun j q hj => ?_⟩
  obtain ⟨c, hl, hk, hcell⟩ := hc j q hj
  refine ⟨c, hl, hk, fun i v hv => ?_⟩
  rw [← hcell i v hv]
  exact cell_far (by rw [add_block]; exact hp ad e) u
def pcV (p : Pc) (A : Option Addr) (c : Nat) : Value := .agg #[.bool p.1, .bool p.2.1, .slice A p.2.2.length c]
theorem quiet_drawn {w w' : World} {B : Nat} (h : Drawn0 w w') (hB : Below B w w) : Below B w w' := by
  obtain ⟨n, rfl⟩ := h
  exact pw_below_drewN hB n
/-- A piece at fault. -/
theorem put_fault (w : World) (gj i : Nat) (p : Pc) (A : Option Addr) (c : Nat) (vo vp : Value) (fr : Int) (inb : Bool) (hg : w.heap[gj]? = some (.cells #[vo, vp, .int .i64 fr, .bool inb] 59 (0, 0))) (hf : p.2.2.length = 0 ∨ p.1 = inb) (hi : i ≤ 140737488355328) :
    Calls Try.prog 21 #[.pointer (some ⟨gj, 0, none⟩), .int .i64 (i : Int), pcV p A c] w fun e w' => e = .panicked [{ v := faultV i 150, recovered := false }] ∧ Below w.heap.size w w' := by
  unfold pcV
  have k3 : (w.alloc (.cells #[.bool p.1, .bool p.2.1, .slice A p.2.2.length c] 42)).cell? ⟨gj, 3, none⟩ = some (.bool inb) := blk_cell (blk_alloc hg _) 3
  clear hg
  by_cases h0 : p.2.2.length = 0
  · have h0' : (((p.2.2.length : Nat) : Int) == 0) = true := by simp [h0]
    clear hf h0
    generalize p.2.2.length = n at *
    go_enter Try.func21, Try.ntmps21
    go_wp2
    go_quiet (fail)
    go_wp2
    exact ⟨rfl, rfl, pw_below_drewN (below_alloc (Below.refl _ _) _) _⟩
  · have h1 : p.1 = inb := hf.resolve_left h0
    have h0' : (((p.2.2.length : Nat) : Int) == 0) = false := beq_eq_false_iff_ne.2 (by omega)
    have hbb : (p.1 == inb) = true := by simp [h1]
    clear hf h0 h1
    generalize p.2.2.length = n at *
    generalize p.1 = b1 at *
    go_enter Try.func21, Try.ntmps21
    go_wp2
    go_quiet (fail)
    go_wp2
    exact ⟨rfl, rfl, pw_below_drewN (below_alloc (Below.refl _ _) _) _⟩
/-- A piece more of a message. -/
theorem put_more (wB w : World) (base gj i : Nat) (p : Pc) (A : Option Addr) (c : Nat) (vo vp : Value) (fr : Int) (acc : List UInt8) (hg : w.heap[gj]? = some (.cells #[vo, vp, .int .i64 fr, .bool true] 59 (0, 0))) (hl : p.2.2.length ≠ 0) (hb : p.1 = false)
    (hC : byte.C w A p.2.2.length p.2.2) (hR0 : byte.R 5 w base (fun k => k ≠ gj) vp acc) (hgb : base ≤ gj) (hBl : Below base wB w) (hbw : base ≤ wB.heap.size) (hlen : acc.length + p.2.2.length ≤ 140737488355328) :
    Calls Try.prog 21 #[.pointer (some ⟨gj, 0, none⟩), .int .i64 (i : Int), pcV p A c] w fun e w' => e = .returned (.tuple #[]) ∧ ∃ v', w'.heap[gj]? = some (.cells #[vo, v', .int .i64 fr, .bool true] 59 (0, 0)) ∧ byte.R 5 w' base (fun k => k ≠ gj) v' (acc ++ p.2.2) ∧ Below base wB w' ∧ Only (fun k => k = gj ∨ some k = vp.ownBlock) w w' := by
  obtain ⟨Av, cv, rfl⟩ := Kd.R_slice hR0
  unfold pcV
  have k3 : (w.alloc (.cells #[.bool false, .bool p.2.1, .slice A p.2.2.length c] 42)).cell? ⟨gj, 3, none⟩ = some (.bool true) := blk_cell (blk_alloc hg _) 3
  have h0' : (((p.2.2.length : Nat) : Int) == 0) = false := beq_eq_false_iff_ne.2 (by omega)
  rw [hb]
  have HG0 := Lib.hid hg
  have HC0 := Lib.hid hC
  have HR0 := Lib.hid hR0
  have HB0 := Lib.hid hBl
  clear hb hl hg hC hR0 hBl
  generalize p.2.2 = data at *
  generalize p.2.1 = b2 at *
  generalize hg5 : w.heap.size = g5 at *
  go_enter Try.func21, Try.ntmps21
  go_wp2
  go_quiet (fail)
  go_upto_region 5 with (fail)
  have hgw : gj < w.heap.size := blk_lt HG0.out
  have hbox := blk_drewN (blk_new w (.cells #[.bool false, .bool b2, .slice A data.length c] 42)) nq
  have HGS := Lib.hid (blk_drewN (blk_alloc HG0.out (.cells #[.bool false, .bool b2, .slice A data.length c] 42)) nq)
  have HD := Lib.hid (Kd.C_drewN (Kd.C_alloc HC0.out (.cells #[.bool false, .bool b2, .slice A data.length c] 42)) nq)
  have HR := Lib.hid (Kd.R_drewN (Kd.R_alloc HR0.out (.cells #[.bool false, .bool b2, .slice A data.length c] 42)) nq)
  have HBB := Lib.hid (pw_below_drewN (HB0.out.alloc (by have := HB0.out.size; omega) (.cells #[.bool false, .bool b2, .slice A data.length c] 42)) nq)
  have HOS := Lib.hid (((Only.refl (fun k => k = gj ∨ some k = (Value.slice Av acc.length cv).ownBlock) w).alloc (.cells #[.bool false, .bool b2, .slice A data.length c] 42)).drewN nq)
  have hbS : base ≤ ((w.alloc (.cells #[.bool false, .bool b2, .slice A data.length c] 42)).drewN nq).heap.size := by have := HBB.out.size; omega
  rw [hg5] at hbox
  clear HG0 HC0 HR0 HB0 k3 h0'
  generalize (w.alloc (.cells #[.bool false, .bool b2, .slice A data.length c] 42)).drewN nq = wS at *
  have k1 := Lib.hid (show wS.cell? ⟨gj, 1, none⟩ = some (.slice Av acc.length cv) from blk_cell HGS.out 1)
  have kd := Lib.hid (show wS.cell? ⟨g5, 2, none⟩ = some (.slice A data.length c) from blk_cell hbox 2)
  have HGG := Lib.hid (fun (w2 : World) (h : Below wS.heap.size wS w2) => blk_below HGS.out h)
  have hgS : gj < wS.heap.size := blk_lt HGS.out
  have HNG := Lib.hid (fun e : (Value.slice Av acc.length cv).ownBlock = some gj => HR.out.1 gj e rfl)
  clear hbox hgw hg5
  have B := True.intro
  refine start_ (n := 11) (S := fun w' => True) (ds := []) #[false, false, false, false, false, false, false, false, false, false, false] (by kernel_rfl) rfl rfl trivial (fun hHeld => ?_)
  refine with_tabW puttab5 putbits5 (fun HT_ HW_ => ?_)
  refine pure_ (i := 0) (N := some 34) (v := ?_) (a' := ?_) #[true, false, false, false, false, false, false, false, false, false, false] rfl rfl (any_of HT_.out (by kernel_rfl)) (fun _ _ _ h => h) (Or.inl ⟨by rfl, ?_⟩) ?_ ?_
  rotate_left
  · intro w'
    go_simp
    with_reducible rfl
  rotate_left
  · simp only [Act.put, List.setIfInBounds_toArray, List.set_cons_zero, List.set_cons_succ, i64_w, i32_w]
    rfl
  refine pure_ (i := 1) (N := some 35) (v := ?_) (a' := ?_) #[true, true, false, false, false, false, false, false, false, false, false] rfl rfl (any_of HT_.out (by kernel_rfl)) (fun _ _ _ h => h) (Or.inl ⟨by rfl, ?_⟩) ?_ ?_
  rotate_left
  · intro w'
    go_simp
    with_reducible rfl
  rotate_left
  · simp only [Act.put, List.setIfInBounds_toArray, List.set_cons_zero, List.set_cons_succ, i64_w, i32_w]
    rfl
  refine inv_at [2, 3, 4, 5, 6, 7, 8, 9, 10] (fun a0_ b a w' => ∃ (v9 : Value), a = putSel a0_ b [(2, 36, .pointer (some ⟨gj, 0, none⟩)), (3, 37, .pointer (some ⟨gj, 1, none⟩)), (4, 38, .slice Av acc.length cv), (5, 39, .pointer (some ⟨g5, 2, none⟩)), (6, 40, .slice A data.length c), (7, 41, v9), (8, 42, .pointer (some ⟨gj, 0, none⟩)), (9, 43, .pointer (some ⟨gj, 1, none⟩))] ∧ (b 7 = false → Below wS.heap.size wS w') ∧ (b 7 = true → b 10 = false → byte.R 5 w' base (fun k => k ≠ gj) v9 (acc ++ data) ∧ Below base wB w' ∧ w'.heap[gj]? = some (.cells #[vo, .slice Av acc.length cv, .int .i64 fr, .bool true] 59 (0, 0)) ∧ Only (fun k => k = gj ∨ some k = (Value.slice Av acc.length cv).ownBlock) wS w') ∧ (b 10 = true → w'.heap[gj]? = some (.cells #[vo, v9, .int .i64 fr, .bool true] 59 (0, 0)) ∧ byte.R 5 w' base (fun k => k ≠ gj) v9 (acc ++ data) ∧ Below base wB w' ∧ Only (fun k => k = gj ∨ some k = (Value.slice Av acc.length cv).ownBlock) wS w')) HT_.out HW_.out (by kernel_rfl) (by kernel_rfl) ?_ ?_ ?_
  · exact ⟨undef, by simp only [putSel, Bool.false_eq_true, if_false], fun _ => below_drew (Below.refl _ _), fun h_ => absurd h_ (by decide), fun h_ => absurd h_ (by decide)⟩
  · skip
    clear B
    refine steps_cons ?_ ?_
    · rintro b a w' ⟨v9, ha, Q_B, Q_S1, Q_S2⟩ hb_ hon hoff
      refine ⟨_, rfl, fun K hK => ?_⟩
      have e35 : a.tmps[35]? = some (.pointer (some ⟨gj, 0, none⟩)) := by rw [ha]; exact (putSel_off rfl).trans rfl
      replace ha := Aside0.mk ha
      have B := Aside0.mk (Q_B (hoff 7 (by kernel_rfl)))
      refine value_ (w1 := w') (v := .pointer (some ⟨gj, 0, none⟩)) (by rfl) rfl ?_ ?_
      · go_simp
        (try simp only [i64_w])
        try rfl
      refine hK.out _ _ ⟨v9, (by rw [ha.out]; exact putSel_upk 0 hb_ rfl rfl rfl), Q_B, fun h0_ _ => absurd ((hoff 7 (by kernel_rfl)).symm.trans h0_) (by decide), fun h0_ => absurd ((hoff 10 (by kernel_rfl)).symm.trans h0_) (by decide)⟩
    refine steps_cons ?_ ?_
    · rintro b a w' ⟨v9, ha, Q_B, Q_S1, Q_S2⟩ hb_ hon hoff
      refine ⟨_, rfl, fun K hK => ?_⟩
      have e36 : a.tmps[36]? = some (.pointer (some ⟨gj, 0, none⟩)) := by rw [ha]; exact putSel_on (e := (2, 36, .pointer (some ⟨gj, 0, none⟩))) 0 rfl rfl (hon 2 (by kernel_rfl)) rfl
      replace ha := Aside0.mk ha
      have B := Aside0.mk (Q_B (hoff 7 (by kernel_rfl)))
      refine value_ (w1 := w') (v := .pointer (some ⟨gj, 1, none⟩)) (by rfl) rfl ?_ ?_
      · go_simp
        (try simp only [i64_w])
        try rfl
      refine hK.out _ _ ⟨v9, (by rw [ha.out]; exact putSel_upk 1 hb_ rfl rfl rfl), Q_B, fun h0_ _ => absurd ((hoff 7 (by kernel_rfl)).symm.trans h0_) (by decide), fun h0_ => absurd ((hoff 10 (by kernel_rfl)).symm.trans h0_) (by decide)⟩
    refine steps_cons ?_ ?_
    · rintro b a w' ⟨v9, ha, Q_B, Q_S1, Q_S2⟩ hb_ hon hoff
      refine ⟨_, rfl, fun K hK => ?_⟩
      have e37 : a.tmps[37]? = some (.pointer (some ⟨gj, 1, none⟩)) := by rw [ha]; exact putSel_on (e := (3, 37, .pointer (some ⟨gj, 1, none⟩))) 1 rfl rfl (hon 3 (by kernel_rfl)) rfl
      replace ha := Aside0.mk ha
      have B := Aside0.mk (Q_B (hoff 7 (by kernel_rfl)))
      have hs := pw_cell_below B.out k1.out
      refine value_ (w1 := w') (v := .slice Av acc.length cv) (by rfl) rfl ?_ ?_
      · go_simp
        (try simp only [i64_w])
        try rfl
      refine hK.out _ _ ⟨v9, (by rw [ha.out]; exact putSel_upk 2 hb_ rfl rfl rfl), Q_B, fun h0_ _ => absurd ((hoff 7 (by kernel_rfl)).symm.trans h0_) (by decide), fun h0_ => absurd ((hoff 10 (by kernel_rfl)).symm.trans h0_) (by decide)⟩
    refine steps_cons ?_ ?_
    · rintro b a w' ⟨v9, ha, Q_B, Q_S1, Q_S2⟩ hb_ hon hoff
      refine ⟨_, rfl, fun K hK => ?_⟩
      have e5 : a.tmps[5]? = some (.pointer (some ⟨g5, 0, none⟩)) := by rw [ha]; exact (putSel_off rfl).trans rfl
      replace ha := Aside0.mk ha
      have B := Aside0.mk (Q_B (hoff 7 (by kernel_rfl)))
      refine value_ (w1 := w') (v := .pointer (some ⟨g5, 2, none⟩)) (by rfl) rfl ?_ ?_
      · go_simp
        (try simp only [i64_w])
        try rfl
      refine hK.out _ _ ⟨v9, (by rw [ha.out]; exact putSel_upk 3 hb_ rfl rfl rfl), Q_B, fun h0_ _ => absurd ((hoff 7 (by kernel_rfl)).symm.trans h0_) (by decide), fun h0_ => absurd ((hoff 10 (by kernel_rfl)).symm.trans h0_) (by decide)⟩
    refine steps_cons ?_ ?_
    · rintro b a w' ⟨v9, ha, Q_B, Q_S1, Q_S2⟩ hb_ hon hoff
      refine ⟨_, rfl, fun K hK => ?_⟩
      have e39 : a.tmps[39]? = some (.pointer (some ⟨g5, 2, none⟩)) := by rw [ha]; exact putSel_on (e := (5, 39, .pointer (some ⟨g5, 2, none⟩))) 3 rfl rfl (hon 5 (by kernel_rfl)) rfl
      replace ha := Aside0.mk ha
      have B := Aside0.mk (Q_B (hoff 7 (by kernel_rfl)))
      have hs := pw_cell_below B.out kd.out
      refine value_ (w1 := w') (v := .slice A data.length c) (by rfl) rfl ?_ ?_
      · go_simp
        (try simp only [i64_w])
        try rfl
      refine hK.out _ _ ⟨v9, (by rw [ha.out]; exact putSel_upk 4 hb_ rfl rfl rfl), Q_B, fun h0_ _ => absurd ((hoff 7 (by kernel_rfl)).symm.trans h0_) (by decide), fun h0_ => absurd ((hoff 10 (by kernel_rfl)).symm.trans h0_) (by decide)⟩
    refine steps_cons ?_ ?_
    · rintro b a w' ⟨v9, ha, Q_B, Q_S1, Q_S2⟩ hb_ hon hoff
      refine ⟨_, rfl, fun K hK => ?_⟩
      have e38 : a.tmps[38]? = some (.slice Av acc.length cv) := by rw [ha]; exact putSel_on (e := (4, 38, .slice Av acc.length cv)) 2 rfl rfl (hon 4 (by kernel_rfl)) rfl
      have e40 : a.tmps[40]? = some (.slice A data.length c) := by rw [ha]; exact putSel_on (e := (6, 40, .slice A data.length c)) 4 rfl rfl (hon 6 (by kernel_rfl)) rfl
      replace ha := Aside0.mk ha
      have B := Aside0.mk (Q_B hb_)
      refine Kd.R_append_rows_step byte (Rr := fun x cs => byte.K w' x cs) (w0 := wB) (W := w') base (by rfl) _ _ 22 5 _ 1 rfl Try.underlying22 info_u8 rfl (by decide) (by decide) (.slice Av acc.length cv) acc data A data.length c (fun k => k ≠ gj) (fun _ => False) (eval_of e38) (eval_of e40) (Kd.R_below HR.out B.out) (Kd.C_below HD.out B.out) (fun x cs h => h) (fun k hk => hk.elim) (fun k hk => by have := B.out.size; omega) (HBB.out.trans (B.out.mono hbS)) (Nat.le_trans hbS B.out.size) (by first | omega | (simp; omega)) ?_
      intro v1 w1 hR1 hB1 hG1 hat1
      refine hK.out _ _ ⟨v1, (by rw [ha.out]; exact putSel_upk 5 hb_ rfl rfl rfl), fun h0_ => absurd ((up_self b 7).symm.trans h0_) (by decide), fun _ _ => ⟨hR1, hB1, blk_grown (HGG.out w' B.out) hG1 (fun e => HNG.out e.symm), (Only.of_below B.out).grown hG1 (fun k _ e => Or.inr e.symm)⟩, fun h0_ => absurd ((hoff 10 (by kernel_rfl)).symm.trans h0_) (by decide)⟩
    refine steps_cons ?_ ?_
    · rintro b a w' ⟨v9, ha, Q_B, Q_S1, Q_S2⟩ hb_ hon hoff
      refine ⟨_, rfl, fun K hK => ?_⟩
      have e34 : a.tmps[34]? = some (.pointer (some ⟨gj, 0, none⟩)) := by rw [ha]; exact (putSel_off rfl).trans rfl
      replace ha := Aside0.mk ha
      have S1 := Aside0.mk (Q_S1 (hon 7 (by kernel_rfl)) (hoff 10 (by kernel_rfl)))
      refine value_ (w1 := w') (v := .pointer (some ⟨gj, 0, none⟩)) (by rfl) rfl ?_ ?_
      · go_simp
        (try simp only [i64_w])
        try rfl
      refine hK.out _ _ ⟨v9, (by rw [ha.out]; exact putSel_upk 6 hb_ rfl rfl rfl), fun h0_ => absurd ((hon 7 (by kernel_rfl)).symm.trans h0_) (by decide), Q_S1, fun h0_ => absurd ((hoff 10 (by kernel_rfl)).symm.trans h0_) (by decide)⟩
    refine steps_cons ?_ ?_
    · rintro b a w' ⟨v9, ha, Q_B, Q_S1, Q_S2⟩ hb_ hon hoff
      refine ⟨_, rfl, fun K hK => ?_⟩
      have e42 : a.tmps[42]? = some (.pointer (some ⟨gj, 0, none⟩)) := by rw [ha]; exact putSel_on (e := (8, 42, .pointer (some ⟨gj, 0, none⟩))) 6 rfl rfl (hon 8 (by kernel_rfl)) rfl
      replace ha := Aside0.mk ha
      have S1 := Aside0.mk (Q_S1 (hon 7 (by kernel_rfl)) (hoff 10 (by kernel_rfl)))
      refine value_ (w1 := w') (v := .pointer (some ⟨gj, 1, none⟩)) (by rfl) rfl ?_ ?_
      · go_simp
        (try simp only [i64_w])
        try rfl
      refine hK.out _ _ ⟨v9, (by rw [ha.out]; exact putSel_upk 7 hb_ rfl rfl rfl), fun h0_ => absurd ((hon 7 (by kernel_rfl)).symm.trans h0_) (by decide), Q_S1, fun h0_ => absurd ((hoff 10 (by kernel_rfl)).symm.trans h0_) (by decide)⟩
    refine steps_cons ?_ ?_
    · rintro b a w' ⟨v9, ha, Q_B, Q_S1, Q_S2⟩ hb_ hon hoff
      refine ⟨_, rfl, fun K hK => ?_⟩
      have e43 : a.tmps[43]? = some (.pointer (some ⟨gj, 1, none⟩)) := by rw [ha]; exact putSel_on (e := (9, 43, .pointer (some ⟨gj, 1, none⟩))) 7 rfl rfl (hon 9 (by kernel_rfl)) rfl
      have e41 : a.tmps[41]? = some (v9) := by rw [ha]; exact putSel_on (e := (7, 41, v9)) 5 rfl rfl (hon 7 (by kernel_rfl)) rfl
      replace ha := Aside0.mk ha
      have S1 := Aside0.mk (Q_S1 (hon 7 (by kernel_rfl)) hb_)
      obtain ⟨hR1, hB1, hG1, hO1⟩ := S1.out
      obtain ⟨A7, c7, hv9⟩ := Kd.R_slice hR1
      have hs := blk_cell hG1 1
      have hf := blk_frozen hG1 1
      refine skip_ (w1 := w'.setCell ⟨gj, 1, none⟩ v9) (by rfl) rfl (by generalize (acc ++ data).length = zl at hv9; rw [hv9] at e41 ⊢; go_simp; try rfl) ?_
      refine hK.out _ _ ⟨v9, (by rw [ha.out]; exact putSel_none (v := undef) rfl), fun h0_ => absurd ((hon 7 (by kernel_rfl)).symm.trans h0_) (by decide), fun _ h1_ => absurd ((up_self b 10).symm.trans h1_) (by decide), fun _ => ⟨blk_put hG1 1 v9 rfl, Kd.R_far hR1 (p := ⟨gj, 1, none⟩) (fun k hk => hk) _, hB1.setCell (p := ⟨gj, 1, none⟩) hgb _, hO1.setCell (p := ⟨gj, 1, none⟩) (fun _ => Or.inl rfl) _⟩⟩
    exact steps_nil
  rintro b a w' hall ⟨v9, ha, Q_B, Q_S1, Q_S2⟩
  clear B
  have hb2_ := hall 2 (by kernel_rfl)
  have hb3_ := hall 3 (by kernel_rfl)
  have hb4_ := hall 4 (by kernel_rfl)
  have hb5_ := hall 5 (by kernel_rfl)
  have hb6_ := hall 6 (by kernel_rfl)
  have hb7_ := hall 7 (by kernel_rfl)
  have hb8_ := hall 8 (by kernel_rfl)
  have hb9_ := hall 9 (by kernel_rfl)
  have hb10_ := hall 10 (by kernel_rfl)
  subst ha
  simp only [putSel, hb2_, hb3_, hb4_, hb5_, hb6_, hb7_, hb8_, hb9_, hb10_, if_true, Act.put, List.setIfInBounds_toArray, List.set_cons_zero, List.set_cons_succ]
  clear Q_B
  clear Q_S1
  have S2 := Aside0.mk (Q_S2 hb10_)
  clear Q_S2
  clear hall hb2_ hb3_ hb4_ hb5_ hb6_ hb7_ hb8_ hb9_ hb10_
  obtain ⟨hg9, hR9, hB9, hO9⟩ := S2.out
  have H9 := Lib.hid hR9
  have HB9 := Lib.hid hB9
  have HO9 := Lib.hid (HOS.out.trans hO9 (fun k hk h => h))
  have HG9 := Lib.hid hg9
  clear hg9 hR9 hB9 hO9 S2
  go_wp2
  go_end0
  exact ⟨rfl, v9, HG9.out, H9.out, HB9.out, HO9.out⟩
/-- The first piece of a message. -/
theorem put_begin (w : World) (gj i : Nat) (p : Pc) (A : Option Addr) (c : Nat) (vo vp : Value) (fr0 : Int) (hg : w.heap[gj]? = some (.cells #[vo, vp, .int .i64 fr0, .bool false] 59 (0, 0))) (hl : p.2.2.length ≠ 0) (hb : p.1 = true)
    (hC : byte.C w A p.2.2.length p.2.2) (hlen : p.2.2.length ≤ 140737488355328) (hvp : ∃ A2 n2 c2, vp = .slice A2 n2 c2) (hfar : ∀ ad, A = some ad → ad.block ≠ gj) :
    Calls Try.prog 21 #[.pointer (some ⟨gj, 0, none⟩), .int .i64 (i : Int), pcV p A c] w fun e w' => e = .returned (.tuple #[]) ∧ ∃ v', w'.heap[gj]? = some (.cells #[vo, v', .int .i64 (i : Int), .bool true] 59 (0, 0)) ∧ byte.R 5 w' w.heap.size (fun _ => True) v' p.2.2 ∧ Only (fun k => k = gj) w w' := by
  obtain ⟨A2, n2, c2, rfl⟩ := hvp
  unfold pcV
  have h0' : (((p.2.2.length : Nat) : Int) == 0) = false := beq_eq_false_iff_ne.2 (by omega)
  rw [hb]
  have hgw : gj < w.heap.size := blk_lt hg
  have hbox := blk_new w (.cells #[.bool true, .bool p.2.1, .slice A p.2.2.length c] 42)
  have hga := blk_alloc hg (.cells #[.bool true, .bool p.2.1, .slice A p.2.2.length c] 42)
  have HCA := Lib.hid (Kd.C_alloc hC (.cells #[.bool true, .bool p.2.1, .slice A p.2.2.length c] 42))
  have HOA := Lib.hid ((Only.refl (fun k => k = gj) w).alloc (.cells #[.bool true, .bool p.2.1, .slice A p.2.2.length c] 42))
  have hsz : (w.alloc (.cells #[.bool true, .bool p.2.1, .slice A p.2.2.length c] 42)).heap.size = w.heap.size + 1 := by simp
  have hbe := below_alloc (Below.refl w.heap.size w) (.cells #[.bool true, .bool p.2.1, .slice A p.2.2.length c] 42)
  clear hb hl hg hC hbe
  generalize p.2.2 = data at *
  generalize p.2.1 = b2 at *
  have HBX0 := Lib.hid hbox
  have HGA0 := Lib.hid hga
  clear hbox hga
  go_enter Try.func21, Try.ntmps21
  go_upto_region 1 with (fail)
  have hbox := HBX0.out
  have hga := HGA0.out
  clear HBX0 HGA0
  generalize w.alloc (.cells #[.bool true, .bool b2, .slice A data.length c] 42) = WA at *
  have hne : gj ≠ w.heap.size := by omega
  generalize hg5 : w.heap.size = g5 at *
  have q0 := blk_cell hbox 0
  have q2 := blk_cell hbox 2
  have j1 := blk_cell hga 1
  have j2 := blk_cell hga 2
  have j3 := blk_cell hga 3
  have f1 := blk_frozen hga 1
  have f2 := blk_frozen hga 2
  have f3 := blk_frozen hga 3
  have HBX := Lib.hid hbox
  have HGA := Lib.hid hga
  clear hbox hga
  go_quiet (fail)
  go_upto_region 5 with (fail)
  have HGS := Lib.hid (show ((((WA.drewN nq).setCell ⟨gj, 1, none⟩ (.slice none 0 0)).setCell ⟨gj, 2, none⟩ (.int .i64 (i : Int))).setCell ⟨gj, 3, none⟩ (.bool true)).heap[gj]? = some (.cells #[vo, .slice none 0 0, .int .i64 (i : Int), .bool true] 59 (0, 0)) from blk_put (blk_put (blk_put (blk_drewN HGA.out nq) 1 (.slice none 0 0) rfl) 2 (.int .i64 (i : Int)) rfl) 3 (.bool true) rfl)
  have hbx := blk_far (p := ⟨gj, 3, none⟩) (blk_far (p := ⟨gj, 2, none⟩) (blk_far (p := ⟨gj, 1, none⟩) (blk_drewN HBX.out nq) (Ne.symm hne) (.slice none 0 0)) (Ne.symm hne) (.int .i64 (i : Int))) (Ne.symm hne) (.bool true)
  have HD := Lib.hid (byte_far (p := ⟨gj, 3, none⟩) (byte_far (p := ⟨gj, 2, none⟩) (byte_far (p := ⟨gj, 1, none⟩) (Kd.C_drewN HCA.out nq) hfar (.slice none 0 0)) hfar (.int .i64 (i : Int))) hfar (.bool true))
  have HOS := Lib.hid ((((HOA.out.drewN nq).setCell (p := ⟨gj, 1, none⟩) (fun _ => rfl) (.slice none 0 0)).setCell (p := ⟨gj, 2, none⟩) (fun _ => rfl) (.int .i64 (i : Int))).setCell (p := ⟨gj, 3, none⟩) (fun _ => rfl) (.bool true))
  have hszS : ((((WA.drewN nq).setCell ⟨gj, 1, none⟩ (.slice none 0 0)).setCell ⟨gj, 2, none⟩ (.int .i64 (i : Int))).setCell ⟨gj, 3, none⟩ (.bool true)).heap.size = g5 + 1 := by simpa [World.setCell] using hsz
  clear HGA HBX HCA HOA q0 q2 j1 j2 j3 f1 f2 f3 h0'
  generalize (((WA.drewN nq).setCell ⟨gj, 1, none⟩ (.slice none 0 0)).setCell ⟨gj, 2, none⟩ (.int .i64 (i : Int))).setCell ⟨gj, 3, none⟩ (.bool true) = wS at *
  have k1 := Lib.hid (show wS.cell? ⟨gj, 1, none⟩ = some (.slice none 0 0) from blk_cell HGS.out 1)
  have kd := Lib.hid (show wS.cell? ⟨g5, 2, none⟩ = some (.slice A data.length c) from blk_cell hbx 2)
  have HGG := Lib.hid (fun (w2 : World) (h : Below wS.heap.size wS w2) => blk_below HGS.out h)
  have hgS : gj < wS.heap.size := blk_lt HGS.out
  have HNG := Lib.hid (show (Value.slice none 0 0).ownBlock = some gj → False from fun e => by cases e)
  have HR := Lib.hid (Kd.R_nil byte 5 wS g5 (fun k => k ≠ gj))
  have HBB := Lib.hid (Below.refl g5 wS)
  have hbS : g5 ≤ wS.heap.size := by omega
  have HSZ := Lib.hid hg5
  clear hbx hfar hsz hszS hg5
  have B := True.intro
  refine start_ (n := 11) (S := fun w' => True) (ds := []) #[false, false, false, false, false, false, false, false, false, false, false] (by kernel_rfl) rfl rfl trivial (fun hHeld => ?_)
  refine with_tabW puttab5 putbits5 (fun HT_ HW_ => ?_)
  refine pure_ (i := 0) (N := some 34) (v := ?_) (a' := ?_) #[true, false, false, false, false, false, false, false, false, false, false] rfl rfl (any_of HT_.out (by kernel_rfl)) (fun _ _ _ h => h) (Or.inl ⟨by rfl, ?_⟩) ?_ ?_
  rotate_left
  · intro w'
    go_simp
    with_reducible rfl
  rotate_left
  · simp only [Act.put, List.setIfInBounds_toArray, List.set_cons_zero, List.set_cons_succ, i64_w, i32_w]
    rfl
  refine pure_ (i := 1) (N := some 35) (v := ?_) (a' := ?_) #[true, true, false, false, false, false, false, false, false, false, false] rfl rfl (any_of HT_.out (by kernel_rfl)) (fun _ _ _ h => h) (Or.inl ⟨by rfl, ?_⟩) ?_ ?_
  rotate_left
  · intro w'
    go_simp
    with_reducible rfl
  rotate_left
  · simp only [Act.put, List.setIfInBounds_toArray, List.set_cons_zero, List.set_cons_succ, i64_w, i32_w]
    rfl
  refine inv_at [2, 3, 4, 5, 6, 7, 8, 9, 10] (fun a0_ b a w' => ∃ (v9 : Value), a = putSel a0_ b [(2, 36, .pointer (some ⟨gj, 0, none⟩)), (3, 37, .pointer (some ⟨gj, 1, none⟩)), (4, 38, .slice none 0 0), (5, 39, .pointer (some ⟨g5, 2, none⟩)), (6, 40, .slice A data.length c), (7, 41, v9), (8, 42, .pointer (some ⟨gj, 0, none⟩)), (9, 43, .pointer (some ⟨gj, 1, none⟩))] ∧ (b 7 = false → Below wS.heap.size wS w') ∧ (b 7 = true → b 10 = false → byte.R 5 w' g5 (fun k => k ≠ gj) v9 (([] : List UInt8) ++ data) ∧ True ∧ w'.heap[gj]? = some (.cells #[vo, .slice none 0 0, .int .i64 (i : Int), .bool true] 59 (0, 0)) ∧ Only (fun k => k = gj) wS w') ∧ (b 10 = true → w'.heap[gj]? = some (.cells #[vo, v9, .int .i64 (i : Int), .bool true] 59 (0, 0)) ∧ byte.R 5 w' g5 (fun k => k ≠ gj) v9 (([] : List UInt8) ++ data) ∧ True ∧ Only (fun k => k = gj) wS w')) HT_.out HW_.out (by kernel_rfl) (by kernel_rfl) ?_ ?_ ?_
  · exact ⟨undef, by simp only [putSel, Bool.false_eq_true, if_false], fun _ => below_drew (Below.refl _ _), fun h_ => absurd h_ (by decide), fun h_ => absurd h_ (by decide)⟩
  · skip
    clear B
    refine steps_cons ?_ ?_
    · rintro b a w' ⟨v9, ha, Q_B, Q_S1, Q_S2⟩ hb_ hon hoff
      refine ⟨_, rfl, fun K hK => ?_⟩
      have e35 : a.tmps[35]? = some (.pointer (some ⟨gj, 0, none⟩)) := by rw [ha]; exact (putSel_off rfl).trans rfl
      replace ha := Aside0.mk ha
      have B := Aside0.mk (Q_B (hoff 7 (by kernel_rfl)))
      refine value_ (w1 := w') (v := .pointer (some ⟨gj, 0, none⟩)) (by rfl) rfl ?_ ?_
      · go_simp
        (try simp only [i64_w])
        try rfl
      refine hK.out _ _ ⟨v9, (by rw [ha.out]; exact putSel_upk 0 hb_ rfl rfl rfl), Q_B, fun h0_ _ => absurd ((hoff 7 (by kernel_rfl)).symm.trans h0_) (by decide), fun h0_ => absurd ((hoff 10 (by kernel_rfl)).symm.trans h0_) (by decide)⟩
    refine steps_cons ?_ ?_
    · rintro b a w' ⟨v9, ha, Q_B, Q_S1, Q_S2⟩ hb_ hon hoff
      refine ⟨_, rfl, fun K hK => ?_⟩
      have e36 : a.tmps[36]? = some (.pointer (some ⟨gj, 0, none⟩)) := by rw [ha]; exact putSel_on (e := (2, 36, .pointer (some ⟨gj, 0, none⟩))) 0 rfl rfl (hon 2 (by kernel_rfl)) rfl
      replace ha := Aside0.mk ha
      have B := Aside0.mk (Q_B (hoff 7 (by kernel_rfl)))
      refine value_ (w1 := w') (v := .pointer (some ⟨gj, 1, none⟩)) (by rfl) rfl ?_ ?_
      · go_simp
        (try simp only [i64_w])
        try rfl
      refine hK.out _ _ ⟨v9, (by rw [ha.out]; exact putSel_upk 1 hb_ rfl rfl rfl), Q_B, fun h0_ _ => absurd ((hoff 7 (by kernel_rfl)).symm.trans h0_) (by decide), fun h0_ => absurd ((hoff 10 (by kernel_rfl)).symm.trans h0_) (by decide)⟩
    refine steps_cons ?_ ?_
    · rintro b a w' ⟨v9, ha, Q_B, Q_S1, Q_S2⟩ hb_ hon hoff
      refine ⟨_, rfl, fun K hK => ?_⟩
      have e37 : a.tmps[37]? = some (.pointer (some ⟨gj, 1, none⟩)) := by rw [ha]; exact putSel_on (e := (3, 37, .pointer (some ⟨gj, 1, none⟩))) 1 rfl rfl (hon 3 (by kernel_rfl)) rfl
      replace ha := Aside0.mk ha
      have B := Aside0.mk (Q_B (hoff 7 (by kernel_rfl)))
      have hs := pw_cell_below B.out k1.out
      refine value_ (w1 := w') (v := .slice none 0 0) (by rfl) rfl ?_ ?_
      · go_simp
        (try simp only [i64_w])
        try rfl
      refine hK.out _ _ ⟨v9, (by rw [ha.out]; exact putSel_upk 2 hb_ rfl rfl rfl), Q_B, fun h0_ _ => absurd ((hoff 7 (by kernel_rfl)).symm.trans h0_) (by decide), fun h0_ => absurd ((hoff 10 (by kernel_rfl)).symm.trans h0_) (by decide)⟩
    refine steps_cons ?_ ?_
    · rintro b a w' ⟨v9, ha, Q_B, Q_S1, Q_S2⟩ hb_ hon hoff
      refine ⟨_, rfl, fun K hK => ?_⟩
      have e5 : a.tmps[5]? = some (.pointer (some ⟨g5, 0, none⟩)) := by rw [ha]; exact (putSel_off rfl).trans rfl
      replace ha := Aside0.mk ha
      have B := Aside0.mk (Q_B (hoff 7 (by kernel_rfl)))
      refine value_ (w1 := w') (v := .pointer (some ⟨g5, 2, none⟩)) (by rfl) rfl ?_ ?_
      · go_simp
        (try simp only [i64_w])
        try rfl
      refine hK.out _ _ ⟨v9, (by rw [ha.out]; exact putSel_upk 3 hb_ rfl rfl rfl), Q_B, fun h0_ _ => absurd ((hoff 7 (by kernel_rfl)).symm.trans h0_) (by decide), fun h0_ => absurd ((hoff 10 (by kernel_rfl)).symm.trans h0_) (by decide)⟩
    refine steps_cons ?_ ?_
    · rintro b a w' ⟨v9, ha, Q_B, Q_S1, Q_S2⟩ hb_ hon hoff
      refine ⟨_, rfl, fun K hK => ?_⟩
      have e39 : a.tmps[39]? = some (.pointer (some ⟨g5, 2, none⟩)) := by rw [ha]; exact putSel_on (e := (5, 39, .pointer (some ⟨g5, 2, none⟩))) 3 rfl rfl (hon 5 (by kernel_rfl)) rfl
      replace ha := Aside0.mk ha
      have B := Aside0.mk (Q_B (hoff 7 (by kernel_rfl)))
      have hs := pw_cell_below B.out kd.out
      refine value_ (w1 := w') (v := .slice A data.length c) (by rfl) rfl ?_ ?_
      · go_simp
        (try simp only [i64_w])
        try rfl
      refine hK.out _ _ ⟨v9, (by rw [ha.out]; exact putSel_upk 4 hb_ rfl rfl rfl), Q_B, fun h0_ _ => absurd ((hoff 7 (by kernel_rfl)).symm.trans h0_) (by decide), fun h0_ => absurd ((hoff 10 (by kernel_rfl)).symm.trans h0_) (by decide)⟩
    refine steps_cons ?_ ?_
    · rintro b a w' ⟨v9, ha, Q_B, Q_S1, Q_S2⟩ hb_ hon hoff
      refine ⟨_, rfl, fun K hK => ?_⟩
      have e38 : a.tmps[38]? = some (.slice none 0 0) := by rw [ha]; exact putSel_on (e := (4, 38, .slice none 0 0)) 2 rfl rfl (hon 4 (by kernel_rfl)) rfl
      have e40 : a.tmps[40]? = some (.slice A data.length c) := by rw [ha]; exact putSel_on (e := (6, 40, .slice A data.length c)) 4 rfl rfl (hon 6 (by kernel_rfl)) rfl
      replace ha := Aside0.mk ha
      have B := Aside0.mk (Q_B hb_)
      refine Kd.R_append_rows_step byte (Rr := fun x cs => byte.K w' x cs) (w0 := wS) (W := w') g5 (by rfl) _ _ 22 5 _ 1 rfl Try.underlying22 info_u8 rfl (by decide) (by decide) (.slice none 0 0) ([] : List UInt8) data A data.length c (fun k => k ≠ gj) (fun _ => False) (eval_of e38) (eval_of e40) (Kd.R_below HR.out B.out) (Kd.C_below HD.out B.out) (fun x cs h => h) (fun k hk => hk.elim) (fun k hk => by have := B.out.size; omega) (HBB.out.trans (B.out.mono hbS)) (Nat.le_trans hbS B.out.size) (by first | omega | (simp; omega)) ?_
      intro v1 w1 hR1 hB1 hG1 hat1
      refine hK.out _ _ ⟨v1, (by rw [ha.out]; exact putSel_upk 5 hb_ rfl rfl rfl), fun h0_ => absurd ((up_self b 7).symm.trans h0_) (by decide), fun _ _ => ⟨hR1, trivial, blk_grown (HGG.out w' B.out) hG1 (fun e => HNG.out e.symm), (Only.of_below B.out).grown hG1 (fun k _ e => by cases e)⟩, fun h0_ => absurd ((hoff 10 (by kernel_rfl)).symm.trans h0_) (by decide)⟩
    refine steps_cons ?_ ?_
    · rintro b a w' ⟨v9, ha, Q_B, Q_S1, Q_S2⟩ hb_ hon hoff
      refine ⟨_, rfl, fun K hK => ?_⟩
      have e34 : a.tmps[34]? = some (.pointer (some ⟨gj, 0, none⟩)) := by rw [ha]; exact (putSel_off rfl).trans rfl
      replace ha := Aside0.mk ha
      have S1 := Aside0.mk (Q_S1 (hon 7 (by kernel_rfl)) (hoff 10 (by kernel_rfl)))
      refine value_ (w1 := w') (v := .pointer (some ⟨gj, 0, none⟩)) (by rfl) rfl ?_ ?_
      · go_simp
        (try simp only [i64_w])
        try rfl
      refine hK.out _ _ ⟨v9, (by rw [ha.out]; exact putSel_upk 6 hb_ rfl rfl rfl), fun h0_ => absurd ((hon 7 (by kernel_rfl)).symm.trans h0_) (by decide), Q_S1, fun h0_ => absurd ((hoff 10 (by kernel_rfl)).symm.trans h0_) (by decide)⟩
    refine steps_cons ?_ ?_
    · rintro b a w' ⟨v9, ha, Q_B, Q_S1, Q_S2⟩ hb_ hon hoff
      refine ⟨_, rfl, fun K hK => ?_⟩
      have e42 : a.tmps[42]? = some (.pointer (some ⟨gj, 0, none⟩)) := by rw [ha]; exact putSel_on (e := (8, 42, .pointer (some ⟨gj, 0, none⟩))) 6 rfl rfl (hon 8 (by kernel_rfl)) rfl
      replace ha := Aside0.mk ha
      have S1 := Aside0.mk (Q_S1 (hon 7 (by kernel_rfl)) (hoff 10 (by kernel_rfl)))
      refine value_ (w1 := w') (v := .pointer (some ⟨gj, 1, none⟩)) (by rfl) rfl ?_ ?_
      · go_simp
        (try simp only [i64_w])
        try rfl
      refine hK.out _ _ ⟨v9, (by rw [ha.out]; exact putSel_upk 7 hb_ rfl rfl rfl), fun h0_ => absurd ((hon 7 (by kernel_rfl)).symm.trans h0_) (by decide), Q_S1, fun h0_ => absurd ((hoff 10 (by kernel_rfl)).symm.trans h0_) (by decide)⟩
    refine steps_cons ?_ ?_
    · rintro b a w' ⟨v9, ha, Q_B, Q_S1, Q_S2⟩ hb_ hon hoff
      refine ⟨_, rfl, fun K hK => ?_⟩
      have e43 : a.tmps[43]? = some (.pointer (some ⟨gj, 1, none⟩)) := by rw [ha]; exact putSel_on (e := (9, 43, .pointer (some ⟨gj, 1, none⟩))) 7 rfl rfl (hon 9 (by kernel_rfl)) rfl
      have e41 : a.tmps[41]? = some (v9) := by rw [ha]; exact putSel_on (e := (7, 41, v9)) 5 rfl rfl (hon 7 (by kernel_rfl)) rfl
      replace ha := Aside0.mk ha
      have S1 := Aside0.mk (Q_S1 (hon 7 (by kernel_rfl)) hb_)
      obtain ⟨hR1, hB1, hG1, hO1⟩ := S1.out
      obtain ⟨A7, c7, hv9⟩ := Kd.R_slice hR1
      have hs := blk_cell hG1 1
      have hf := blk_frozen hG1 1
      refine skip_ (w1 := w'.setCell ⟨gj, 1, none⟩ v9) (by rfl) rfl (by generalize (([] : List UInt8) ++ data).length = zl at hv9; rw [hv9] at e41 ⊢; go_simp; try rfl) ?_
      refine hK.out _ _ ⟨v9, (by rw [ha.out]; exact putSel_none (v := undef) rfl), fun h0_ => absurd ((hon 7 (by kernel_rfl)).symm.trans h0_) (by decide), fun _ h1_ => absurd ((up_self b 10).symm.trans h1_) (by decide), fun _ => ⟨blk_put hG1 1 v9 rfl, Kd.R_far hR1 (p := ⟨gj, 1, none⟩) (fun k hk => hk) _, trivial, hO1.setCell (p := ⟨gj, 1, none⟩) (fun _ => rfl) _⟩⟩
    exact steps_nil
  rintro b a w' hall ⟨v9, ha, Q_B, Q_S1, Q_S2⟩
  clear B
  have hb2_ := hall 2 (by kernel_rfl)
  have hb3_ := hall 3 (by kernel_rfl)
  have hb4_ := hall 4 (by kernel_rfl)
  have hb5_ := hall 5 (by kernel_rfl)
  have hb6_ := hall 6 (by kernel_rfl)
  have hb7_ := hall 7 (by kernel_rfl)
  have hb8_ := hall 8 (by kernel_rfl)
  have hb9_ := hall 9 (by kernel_rfl)
  have hb10_ := hall 10 (by kernel_rfl)
  subst ha
  simp only [putSel, hb2_, hb3_, hb4_, hb5_, hb6_, hb7_, hb8_, hb9_, hb10_, if_true, Act.put, List.setIfInBounds_toArray, List.set_cons_zero, List.set_cons_succ]
  clear Q_B
  clear Q_S1
  have S2 := Aside0.mk (Q_S2 hb10_)
  clear Q_S2
  clear hall hb2_ hb3_ hb4_ hb5_ hb6_ hb7_ hb8_ hb9_ hb10_
  obtain ⟨hg9, hR9, _, hO9⟩ := S2.out
  have H9 := Lib.hid hR9
  have HO9 := Lib.hid (HOS.out.trans hO9 (fun k hk h => h))
  have HG9 := Lib.hid hg9
  clear hg9 hR9 hO9 S2
  go_wp2
  go_end0
  exact ⟨rfl, v9, HG9.out, by rw [HSZ.out]; exact Kd.R_mono H9.out (fun _ _ => trivial), HO9.out⟩
end Go.Proofs.Ytgfkdebbdjojmaa.Frag
