/- Look: walked. -/
import Derived.Test.YthdemajmlidefaaCkF
import Derived.Laws.Tables
import Derived.Laws.CopyOwn
namespace Go.Proofs.Ythdemajmlidefaa.Ck
open Go.RowKit Go.Proofs.YthdemajmlidefaaW.PrintWords Go.Proofs.YthdemajmlidefaaW.PrintLast Go.Proofs.Ythdemajmlidefaa.Base Go.Proofs.Ythdemajmlidefaa.Mac
set_option linter.unusedVariables false
set_option linter.unusedSimpArgs false
def lookT6 : Bool × List (List Nat × List Nat) := (true, [([], []), ([0], [0]), ([1], [1]), ([2], [2]), ([], []), ([4], [4]), ([5], [5]), ([6], [6]), ([], []), ([8], [8]), ([9], [9]), ([10], [10]), ([3, 0, 1, 2, 3], [3]), ([7, 12, 0, 1, 2, 3, 4, 5, 6, 7, 12], [7]), ([11, 13, 0, 1, 2, 3, 4, 5, 6, 7, 8, 9, 10, 11, 12, 13], [11]), ([14, 0, 1, 2, 3, 4, 5, 6, 7, 8, 9, 10, 11, 12, 13, 14], [])])
def lookB6 : List Nat := [0, 1, 3, 7, 0, 16, 48, 112, 0, 256, 768, 1792, 15, 4351, 16383, 32767]
theorem looktab6 : Go.Proofs.YthdemajmlidefaaW.PrintLast.rtab .any (Go.Proofs.YthdemajmlidefaaW.PrintLast.opsOf Try.f13 6) = lookT6 := by kernel_rfl
theorem lookbits6 : Go.Proofs.YthdemajmlidefaaW.PrintLast.waitsOk lookT6.2 lookB6 = true := by kernel_rfl
theorem exec_store_row {P : Program} {o : Oper} {a : Act} {w : World} (ty : TypeId) (x y : Operand) (ho : o.op = .store ty x y) {g : Nat} {cells : Array Value} (hx : a.eval x = .pointer (some ⟨g, 0, none⟩)) (hy : a.eval y = .agg cells) {t : TypeId} {old : Array Value} (hg : w.heap[g]? = some (.cells old t (0, 0))) (hi : (P.info? ty).map (·.size) = some cells.size)
    (hold : old.size = cells.size) (h1 : cells.all (·.oneCell') = true) : (execOp a.eval o).run P w = .ok .skip (w.setRow g cells) := by
  unfold execOp
  simp only [ho, hx, hy, Instr.storeAt, Instr.sureAddr, Sem.run_bind, Sem.run_pure, Result.andThen_ok, run_storeVar_row w g t ty old cells hg hi hold h1]
theorem results_cttt {P : Program} {fn : Func} {p u v z : Tmp} {ty : TypeId} (h : fn.results = #[.cell p ty, .tmp u, .tmp v, .tmp z]) (tmps : Array Value) (w : World) (g : Nat) (t : TypeId) (cs : Array Value) (fr : Nat × Nat) (d : TypeDesc)
    (hp : tmps.getD p undef = .pointer (some ⟨g, 0, none⟩)) (hg : w.heap[g]? = some (.cells cs t fr))
    (hu : P.underlying ty = some d) (hd : (match d with | .struct _ | .array _ _ => true | _ => false) = true) (hi : (P.info? ty).map (·.size) = some cs.size) :
    (results fn tmps).run P w = .ok (.tuple #[.agg cs, tmps.getD u undef, tmps.getD v undef, tmps.getD z undef]) w := by
  have hp' : tmps[p]?.getD undef = .pointer (some ⟨g, 0, none⟩) := by simpa using hp
  simp [results, h, hp', asAddr, run_loadVar_row w g t ty cs fr d hg hu hd hi]
def lookB (l : List UInt8) : Bool := decide (l.length = 56 ∧ valF l 0 ≤ 1099511627776 ∧ 1 ≤ valF l 1 ∧ valF l 1 ≤ 2147483648)
def zF : Nat → Nat := fun _ => 0
set_option maxHeartbeats 2000000 in
theorem look_good (w : World) (A : Option Addr) (c : Nat) (l : List UInt8) (hb : byte.C w A l.length l) (hc : l.length ≤ c) (h : lookB l = true) :
    Calls Try.prog 13 #[.slice A l.length c] w fun e w' => e = .returned (.tuple #[.agg (offV (valF l)), .int .i64 (valF l 0 : Nat), .int .i64 (valF l 1 : Nat), .int .i64 0]) ∧ Below w.heap.size w w' := by
  obtain ⟨hl, h0, h1, h2⟩ := of_decide_eq_true h
  have HGB := Lib.hid (blk_new w (.cells (offV zF) 27))
  have HB := Lib.hid (below_alloc (Below.refl w.heap.size w) (.cells (offV zF) 27))
  have HC := Lib.hid (fun (W : World) (hW : Below w.heap.size w W) => Kd.C_below hb hW)
  have HRD := Lib.hid (fun (W : World) (ad : Addr) (hW : Below w.heap.size w W) (hf : ∀ i, i < 13 → FldAt W ad i) => read_calls W A c ad l (Kd.C_below hb hW) hc hl hf)
  have HL := Lib.hid (fun W => isLife_calls (valF l 1 : Nat) W)
  rw [show lifeB (valF l 1 : Nat) = true by unfold lifeB; simp; omega] at HL
  have hst : stV (rdN l 13) = stV (valF l) := rfl
  rw [hst] at HRD
  have hn0 : ¬ valF l 0 > 1099511627776 := by omega
  clear hb h hst
  generalize valF l = x at *
  have hne : ((l.length : Int) != 56) = false := by simp [hl]
  generalize hN : l.length = N at *
  clear hN hl
  go_enter Try.func13, Try.ntmps13
  go_wp2_with fail
  have HFC := fields_calls (w.alloc (.cells (offV zF) 27))
  refine HFC.mono ?_
  rintro e w1 ⟨ad, rfl, hF, hB1⟩
  replace HGB := Lib.hid (blk_below HGB.out hB1)
  replace HB := Lib.hid (below_then HB.out HB.out.size hB1)
  have HF := Lib.hid hF
  clear hF hB1 HFC
  go_wp2_with fail
  refine (HRD.out w1 ad HB.out HF.out).mono ?_
  rintro e w2 ⟨hor, hB2⟩
  replace HGB := Lib.hid (blk_below HGB.out hB2)
  replace HB := Lib.hid (below_then HB.out HB.out.size hB2)
  rcases hor with ⟨hx0, -⟩ | ⟨_, s, rfl, hs⟩
  · exact absurd hx0 hn0
  have HS := Lib.hid hs
  have q12 : w2.cell? ⟨s, 12, none⟩ = some (.int .i64 (x 1 : Nat)) := blk_cell hs 12
  clear hB2 hs HF
  go_upto_region 6 with (go_at_call 18; refine (HL.out _).mono ?_; rintro e w' ⟨rfl, rfl⟩)
  clear q12 HL HRD HC
  generalize hg2 : w.heap.size = g2 at HGB HB ⊢
  generalize w2 = W at *
  have HSG := Lib.hid (blk_ne HS.out HGB.out (by decide))
  have B := True.intro
  have S := True.intro
  have G := True.intro
  refine start_ (n := 16) (S := fun w' => True) (ds := []) #[false, false, false, false, false, false, false, false, false, false, false, false, false, false, false, false] (by kernel_rfl) rfl rfl trivial (fun hHeld => ?_)
  refine with_tabW looktab6 lookbits6 (fun HT_ HW_ => ?_)
  refine pure_ (i := 0) (N := some 29) (v := ?_) (a' := ?_) #[true, false, false, false, false, false, false, false, false, false, false, false, false, false, false, false] rfl rfl (any_of HT_.out (by kernel_rfl)) (fun _ _ _ h => h) (Or.inl ⟨by rfl, ?_⟩) ?_ ?_
  rotate_left
  · intro w'
    go_simp
    with_reducible rfl
  rotate_left
  · simp only [Act.put, List.setIfInBounds_toArray, List.set_cons_zero, List.set_cons_succ, i64_w, i32_w]
    rfl
  refine pure_ (i := 4) (N := some 33) (v := ?_) (a' := ?_) #[true, false, false, false, true, false, false, false, false, false, false, false, false, false, false, false] rfl rfl (any_of HT_.out (by kernel_rfl)) (fun _ _ _ h => h) (Or.inl ⟨by rfl, ?_⟩) ?_ ?_
  rotate_left
  · intro w'
    go_simp
    with_reducible rfl
  rotate_left
  · simp only [Act.put, List.setIfInBounds_toArray, List.set_cons_zero, List.set_cons_succ, i64_w, i32_w]
    rfl
  refine pure_ (i := 8) (N := some 37) (v := ?_) (a' := ?_) #[true, false, false, false, true, false, false, false, true, false, false, false, false, false, false, false] rfl rfl (any_of HT_.out (by kernel_rfl)) (fun _ _ _ h => h) (Or.inl ⟨by rfl, ?_⟩) ?_ ?_
  rotate_left
  · intro w'
    go_simp
    with_reducible rfl
  rotate_left
  · simp only [Act.put, List.setIfInBounds_toArray, List.set_cons_zero, List.set_cons_succ, i64_w, i32_w]
    rfl
  refine inv_at [1, 2, 3, 5, 6, 7, 9, 10, 11, 12, 13, 14, 15] (fun a0_ b a w' => a = putSel a0_ b [(1, 30, .pointer (some ⟨s, 0, none⟩)), (2, 31, .pointer (some ⟨s, 0, none⟩)), (3, 32, .agg #[.int .u16 (x 2 : Nat), .int .u16 (x 3 : Nat), .int .u32 (x 4 : Nat), .int .u32 (x 5 : Nat), .int .u32 (x 6 : Nat), .int .u32 (x 7 : Nat), .int .u32 (x 8 : Nat), .int .u16 (x 9 : Nat), .int .u16 (x 10 : Nat), .int .u32 (x 11 : Nat), .int .u32 (x 12 : Nat)]), (5, 34, .pointer (some ⟨s, 0, none⟩)), (6, 35, .pointer (some ⟨s, 11, none⟩)), (7, 36, .int .i64 (x 0 : Nat)), (9, 38, .pointer (some ⟨s, 0, none⟩)), (10, 39, .pointer (some ⟨s, 12, none⟩)), (11, 40, .int .i64 (x 1 : Nat)), (13, 3, .int .i64 (x 0 : Nat)), (14, 4, .int .i64 (x 1 : Nat)), (15, 5, .int .i64 0)] ∧ (Below g2 w w') ∧ (w'.heap[s]? = some (.cells (stV x) STT (0, 0))) ∧ (b 12 = false → w'.heap[g2]? = some (.cells (offV zF) 27 (0, 0))) ∧ (b 12 = true → w'.heap[g2]? = some (.cells #[.int .u16 (x 2 : Nat), .int .u16 (x 3 : Nat), .int .u32 (x 4 : Nat), .int .u32 (x 5 : Nat), .int .u32 (x 6 : Nat), .int .u32 (x 7 : Nat), .int .u32 (x 8 : Nat), .int .u16 (x 9 : Nat), .int .u16 (x 10 : Nat), .int .u32 (x 11 : Nat), .int .u32 (x 12 : Nat)] 27 (0, 0)))) HT_.out HW_.out (by kernel_rfl) (by kernel_rfl) ?_ ?_ ?_
  · exact ⟨by simp only [putSel, Bool.false_eq_true, if_false], HB.out.drew, HS.out, fun _ => HGB.out, fun h_ => absurd h_ (by decide)⟩
  · skip
    clear B G S
    refine steps_cons ?_ ?_
    · rintro b a w' ⟨ha, Q_B, Q_S, Q_G, Q_T⟩ hb_ hon hoff
      refine ⟨_, rfl, fun K hK => ?_⟩
      have e29 : a.tmps[29]? = some (.pointer (some ⟨s, 0, none⟩)) := by rw [ha]; exact (putSel_off rfl).trans rfl
      replace ha := Aside0.mk ha
      have B := Aside0.mk Q_B
      have S := Aside0.mk Q_S
      have G := Aside0.mk (Q_G (hoff 12 (by kernel_rfl)))
      refine value_ (w1 := w') (v := .pointer (some ⟨s, 0, none⟩)) (by rfl) rfl ?_ ?_
      · go_simp
        (try simp only [i64_w])
        try rfl
      refine hK.out _ _ ⟨(by rw [ha.out]; exact putSel_upk 0 hb_ rfl rfl rfl), Q_B, Q_S, Q_G, fun h0_ => absurd ((hoff 12 (by kernel_rfl)).symm.trans h0_) (by decide)⟩
    refine steps_cons ?_ ?_
    · rintro b a w' ⟨ha, Q_B, Q_S, Q_G, Q_T⟩ hb_ hon hoff
      refine ⟨_, rfl, fun K hK => ?_⟩
      have e30 : a.tmps[30]? = some (.pointer (some ⟨s, 0, none⟩)) := by rw [ha]; exact putSel_on (e := (1, 30, .pointer (some ⟨s, 0, none⟩))) 0 rfl rfl (hon 1 (by kernel_rfl)) rfl
      replace ha := Aside0.mk ha
      have B := Aside0.mk Q_B
      have S := Aside0.mk Q_S
      have G := Aside0.mk (Q_G (hoff 12 (by kernel_rfl)))
      refine value_ (w1 := w') (v := .pointer (some ⟨s, 0, none⟩)) (by rfl) rfl ?_ ?_
      · go_simp
        (try simp only [i64_w])
        try rfl
      refine hK.out _ _ ⟨(by rw [ha.out]; exact putSel_upk 1 hb_ rfl rfl rfl), Q_B, Q_S, Q_G, fun h0_ => absurd ((hoff 12 (by kernel_rfl)).symm.trans h0_) (by decide)⟩
    refine steps_cons ?_ ?_
    · rintro b a w' ⟨ha, Q_B, Q_S, Q_G, Q_T⟩ hb_ hon hoff
      refine ⟨_, rfl, fun K hK => ?_⟩
      have e31 : a.tmps[31]? = some (.pointer (some ⟨s, 0, none⟩)) := by rw [ha]; exact putSel_on (e := (2, 31, .pointer (some ⟨s, 0, none⟩))) 1 rfl rfl (hon 2 (by kernel_rfl)) rfl
      replace ha := Aside0.mk ha
      have B := Aside0.mk Q_B
      have S := Aside0.mk Q_S
      have G := Aside0.mk (Q_G (hoff 12 (by kernel_rfl)))
      have c0 : w'.cell? ⟨s, 0, none⟩ = some (.int .u16 (x 2 : Nat)) := blk_cell S.out 0
      have c1 : w'.cell? ⟨s, 1, none⟩ = some (.int .u16 (x 3 : Nat)) := blk_cell S.out 1
      have c2 : w'.cell? ⟨s, 2, none⟩ = some (.int .u32 (x 4 : Nat)) := blk_cell S.out 2
      have c3 : w'.cell? ⟨s, 3, none⟩ = some (.int .u32 (x 5 : Nat)) := blk_cell S.out 3
      have c4 : w'.cell? ⟨s, 4, none⟩ = some (.int .u32 (x 6 : Nat)) := blk_cell S.out 4
      have c5 : w'.cell? ⟨s, 5, none⟩ = some (.int .u32 (x 7 : Nat)) := blk_cell S.out 5
      have c6 : w'.cell? ⟨s, 6, none⟩ = some (.int .u32 (x 8 : Nat)) := blk_cell S.out 6
      have c7 : w'.cell? ⟨s, 7, none⟩ = some (.int .u16 (x 9 : Nat)) := blk_cell S.out 7
      have c8 : w'.cell? ⟨s, 8, none⟩ = some (.int .u16 (x 10 : Nat)) := blk_cell S.out 8
      have c9 : w'.cell? ⟨s, 9, none⟩ = some (.int .u32 (x 11 : Nat)) := blk_cell S.out 9
      have c10 : w'.cell? ⟨s, 10, none⟩ = some (.int .u32 (x 12 : Nat)) := blk_cell S.out 10
      refine value_ (w1 := w') (v := .agg #[.int .u16 (x 2 : Nat), .int .u16 (x 3 : Nat), .int .u32 (x 4 : Nat), .int .u32 (x 5 : Nat), .int .u32 (x 6 : Nat), .int .u32 (x 7 : Nat), .int .u32 (x 8 : Nat), .int .u16 (x 9 : Nat), .int .u16 (x 10 : Nat), .int .u32 (x 11 : Nat), .int .u32 (x 12 : Nat)]) (by rfl) rfl (by go_simp; try rfl) ?_
      refine hK.out _ _ ⟨(by rw [ha.out]; exact putSel_upk 2 hb_ rfl rfl rfl), B.out, S.out, fun _ => G.out, fun h0_ => absurd ((hoff 12 (by kernel_rfl)).symm.trans h0_) (by decide)⟩
    refine steps_cons ?_ ?_
    · rintro b a w' ⟨ha, Q_B, Q_S, Q_G, Q_T⟩ hb_ hon hoff
      refine ⟨_, rfl, fun K hK => ?_⟩
      have e33 : a.tmps[33]? = some (.pointer (some ⟨s, 0, none⟩)) := by rw [ha]; exact (putSel_off rfl).trans rfl
      replace ha := Aside0.mk ha
      have B := Aside0.mk Q_B
      have S := Aside0.mk Q_S
      refine value_ (w1 := w') (v := .pointer (some ⟨s, 0, none⟩)) (by rfl) rfl ?_ ?_
      · go_simp
        (try simp only [i64_w])
        try rfl
      refine hK.out _ _ ⟨(by rw [ha.out]; exact putSel_upk 3 hb_ rfl rfl rfl), Q_B, Q_S, Q_G, Q_T⟩
    refine steps_cons ?_ ?_
    · rintro b a w' ⟨ha, Q_B, Q_S, Q_G, Q_T⟩ hb_ hon hoff
      refine ⟨_, rfl, fun K hK => ?_⟩
      have e34 : a.tmps[34]? = some (.pointer (some ⟨s, 0, none⟩)) := by rw [ha]; exact putSel_on (e := (5, 34, .pointer (some ⟨s, 0, none⟩))) 3 rfl rfl (hon 5 (by kernel_rfl)) rfl
      replace ha := Aside0.mk ha
      have B := Aside0.mk Q_B
      have S := Aside0.mk Q_S
      refine value_ (w1 := w') (v := .pointer (some ⟨s, 11, none⟩)) (by rfl) rfl ?_ ?_
      · go_simp
        (try simp only [i64_w])
        try rfl
      refine hK.out _ _ ⟨(by rw [ha.out]; exact putSel_upk 4 hb_ rfl rfl rfl), Q_B, Q_S, Q_G, Q_T⟩
    refine steps_cons ?_ ?_
    · rintro b a w' ⟨ha, Q_B, Q_S, Q_G, Q_T⟩ hb_ hon hoff
      refine ⟨_, rfl, fun K hK => ?_⟩
      have e35 : a.tmps[35]? = some (.pointer (some ⟨s, 11, none⟩)) := by rw [ha]; exact putSel_on (e := (6, 35, .pointer (some ⟨s, 11, none⟩))) 4 rfl rfl (hon 6 (by kernel_rfl)) rfl
      replace ha := Aside0.mk ha
      have B := Aside0.mk Q_B
      have S := Aside0.mk Q_S
      have c11 : w'.cell? ⟨s, 11, none⟩ = some (.int .i64 (x 0 : Nat)) := blk_cell S.out 11
      refine value_ (w1 := w') (v := .int .i64 (x 0 : Nat)) (by rfl) rfl ?_ ?_
      · go_simp
        (try simp only [i64_w])
        try rfl
      refine hK.out _ _ ⟨(by rw [ha.out]; exact putSel_upk 5 hb_ rfl rfl rfl), Q_B, Q_S, Q_G, Q_T⟩
    refine steps_cons ?_ ?_
    · rintro b a w' ⟨ha, Q_B, Q_S, Q_G, Q_T⟩ hb_ hon hoff
      refine ⟨_, rfl, fun K hK => ?_⟩
      have e37 : a.tmps[37]? = some (.pointer (some ⟨s, 0, none⟩)) := by rw [ha]; exact (putSel_off rfl).trans rfl
      replace ha := Aside0.mk ha
      have B := Aside0.mk Q_B
      have S := Aside0.mk Q_S
      refine value_ (w1 := w') (v := .pointer (some ⟨s, 0, none⟩)) (by rfl) rfl ?_ ?_
      · go_simp
        (try simp only [i64_w])
        try rfl
      refine hK.out _ _ ⟨(by rw [ha.out]; exact putSel_upk 6 hb_ rfl rfl rfl), Q_B, Q_S, Q_G, Q_T⟩
    refine steps_cons ?_ ?_
    · rintro b a w' ⟨ha, Q_B, Q_S, Q_G, Q_T⟩ hb_ hon hoff
      refine ⟨_, rfl, fun K hK => ?_⟩
      have e38 : a.tmps[38]? = some (.pointer (some ⟨s, 0, none⟩)) := by rw [ha]; exact putSel_on (e := (9, 38, .pointer (some ⟨s, 0, none⟩))) 6 rfl rfl (hon 9 (by kernel_rfl)) rfl
      replace ha := Aside0.mk ha
      have B := Aside0.mk Q_B
      have S := Aside0.mk Q_S
      refine value_ (w1 := w') (v := .pointer (some ⟨s, 12, none⟩)) (by rfl) rfl ?_ ?_
      · go_simp
        (try simp only [i64_w])
        try rfl
      refine hK.out _ _ ⟨(by rw [ha.out]; exact putSel_upk 7 hb_ rfl rfl rfl), Q_B, Q_S, Q_G, Q_T⟩
    refine steps_cons ?_ ?_
    · rintro b a w' ⟨ha, Q_B, Q_S, Q_G, Q_T⟩ hb_ hon hoff
      refine ⟨_, rfl, fun K hK => ?_⟩
      have e39 : a.tmps[39]? = some (.pointer (some ⟨s, 12, none⟩)) := by rw [ha]; exact putSel_on (e := (10, 39, .pointer (some ⟨s, 12, none⟩))) 7 rfl rfl (hon 10 (by kernel_rfl)) rfl
      replace ha := Aside0.mk ha
      have B := Aside0.mk Q_B
      have S := Aside0.mk Q_S
      have c12 : w'.cell? ⟨s, 12, none⟩ = some (.int .i64 (x 1 : Nat)) := blk_cell S.out 12
      refine value_ (w1 := w') (v := .int .i64 (x 1 : Nat)) (by rfl) rfl ?_ ?_
      · go_simp
        (try simp only [i64_w])
        try rfl
      refine hK.out _ _ ⟨(by rw [ha.out]; exact putSel_upk 8 hb_ rfl rfl rfl), Q_B, Q_S, Q_G, Q_T⟩
    refine steps_cons ?_ ?_
    · rintro b a w' ⟨ha, Q_B, Q_S, Q_G, Q_T⟩ hb_ hon hoff
      refine ⟨_, rfl, fun K hK => ?_⟩
      have e2 : a.tmps[2]? = some (.pointer (some ⟨g2, 0, none⟩)) := by rw [ha]; exact (putSel_off rfl).trans rfl
      have e32 : a.tmps[32]? = some (.agg #[.int .u16 (x 2 : Nat), .int .u16 (x 3 : Nat), .int .u32 (x 4 : Nat), .int .u32 (x 5 : Nat), .int .u32 (x 6 : Nat), .int .u32 (x 7 : Nat), .int .u32 (x 8 : Nat), .int .u16 (x 9 : Nat), .int .u16 (x 10 : Nat), .int .u32 (x 11 : Nat), .int .u32 (x 12 : Nat)]) := by rw [ha]; exact putSel_on (e := (3, 32, .agg #[.int .u16 (x 2 : Nat), .int .u16 (x 3 : Nat), .int .u32 (x 4 : Nat), .int .u32 (x 5 : Nat), .int .u32 (x 6 : Nat), .int .u32 (x 7 : Nat), .int .u32 (x 8 : Nat), .int .u16 (x 9 : Nat), .int .u16 (x 10 : Nat), .int .u32 (x 11 : Nat), .int .u32 (x 12 : Nat)])) 2 rfl rfl (hon 3 (by kernel_rfl)) rfl
      replace ha := Aside0.mk ha
      have B := Aside0.mk Q_B
      have S := Aside0.mk Q_S
      have G := Aside0.mk (Q_G hb_)
      refine skip_ (w1 := w'.setRow g2 #[.int .u16 (x 2 : Nat), .int .u16 (x 3 : Nat), .int .u32 (x 4 : Nat), .int .u32 (x 5 : Nat), .int .u32 (x 6 : Nat), .int .u32 (x 7 : Nat), .int .u32 (x 8 : Nat), .int .u16 (x 9 : Nat), .int .u16 (x 10 : Nat), .int .u32 (x 11 : Nat), .int .u32 (x 12 : Nat)]) (by rfl) rfl (exec_store_row 27 (.tmp 2) (.tmp 32) rfl (eval_of e2) (eval_of e32) G.out (by kernel_rfl) rfl (by simp [Value.oneCell'])) ?_
      refine hK.out _ _ ⟨(by rw [ha.out]; exact putSel_none (v := undef) rfl), below_setRow B.out (Nat.le_refl _) _, (setRow_other w' g2 s _ HSG.out).trans S.out, fun h0_ => absurd ((up_self b 12).symm.trans h0_) (by decide), fun _ => setRow_heap w' g2 _ _ _ _ G.out⟩
    refine steps_cons ?_ ?_
    · rintro b a w' ⟨ha, Q_B, Q_S, Q_G, Q_T⟩ hb_ hon hoff
      refine ⟨_, rfl, fun K hK => ?_⟩
      have e36 : a.tmps[36]? = some (.int .i64 (x 0 : Nat)) := by rw [ha]; exact putSel_on (e := (7, 36, .int .i64 (x 0 : Nat))) 5 rfl rfl (hon 7 (by kernel_rfl)) rfl
      replace ha := Aside0.mk ha
      have B := Aside0.mk Q_B
      have S := Aside0.mk Q_S
      have T := Aside0.mk (Q_T (hon 12 (by kernel_rfl)))
      refine value_ (w1 := w') (v := .int .i64 (x 0 : Nat)) (by rfl) rfl ?_ ?_
      · go_simp
        (try simp only [i64_w])
        try rfl
      refine hK.out _ _ ⟨(by rw [ha.out]; exact putSel_upk 9 hb_ rfl rfl rfl), Q_B, Q_S, fun h0_ => absurd ((hon 12 (by kernel_rfl)).symm.trans h0_) (by decide), Q_T⟩
    refine steps_cons ?_ ?_
    · rintro b a w' ⟨ha, Q_B, Q_S, Q_G, Q_T⟩ hb_ hon hoff
      refine ⟨_, rfl, fun K hK => ?_⟩
      have e40 : a.tmps[40]? = some (.int .i64 (x 1 : Nat)) := by rw [ha]; exact putSel_on (e := (11, 40, .int .i64 (x 1 : Nat))) 8 rfl rfl (hon 11 (by kernel_rfl)) rfl
      replace ha := Aside0.mk ha
      have B := Aside0.mk Q_B
      have S := Aside0.mk Q_S
      have T := Aside0.mk (Q_T (hon 12 (by kernel_rfl)))
      refine value_ (w1 := w') (v := .int .i64 (x 1 : Nat)) (by rfl) rfl ?_ ?_
      · go_simp
        (try simp only [i64_w])
        try rfl
      refine hK.out _ _ ⟨(by rw [ha.out]; exact putSel_upk 10 hb_ rfl rfl rfl), Q_B, Q_S, fun h0_ => absurd ((hon 12 (by kernel_rfl)).symm.trans h0_) (by decide), Q_T⟩
    refine steps_cons ?_ ?_
    · rintro b a w' ⟨ha, Q_B, Q_S, Q_G, Q_T⟩ hb_ hon hoff
      refine ⟨_, rfl, fun K hK => ?_⟩
      replace ha := Aside0.mk ha
      have B := Aside0.mk Q_B
      have S := Aside0.mk Q_S
      have T := Aside0.mk (Q_T (hon 12 (by kernel_rfl)))
      refine value_ (w1 := w') (v := .int .i64 0) (by rfl) rfl ?_ ?_
      · go_simp
        (try simp only [i64_w])
        try rfl
      refine hK.out _ _ ⟨(by rw [ha.out]; exact putSel_upk 11 hb_ rfl rfl rfl), Q_B, Q_S, fun h0_ => absurd ((hon 12 (by kernel_rfl)).symm.trans h0_) (by decide), Q_T⟩
    exact steps_nil
  rintro b a w' hall ⟨ha, Q_B, Q_S, Q_G, Q_T⟩
  clear B G S
  have hb1_ := hall 1 (by kernel_rfl)
  have hb2_ := hall 2 (by kernel_rfl)
  have hb3_ := hall 3 (by kernel_rfl)
  have hb5_ := hall 5 (by kernel_rfl)
  have hb6_ := hall 6 (by kernel_rfl)
  have hb7_ := hall 7 (by kernel_rfl)
  have hb9_ := hall 9 (by kernel_rfl)
  have hb10_ := hall 10 (by kernel_rfl)
  have hb11_ := hall 11 (by kernel_rfl)
  have hb12_ := hall 12 (by kernel_rfl)
  have hb13_ := hall 13 (by kernel_rfl)
  have hb14_ := hall 14 (by kernel_rfl)
  have hb15_ := hall 15 (by kernel_rfl)
  subst ha
  simp only [putSel, hb1_, hb2_, hb3_, hb5_, hb6_, hb7_, hb9_, hb10_, hb11_, hb12_, hb13_, hb14_, hb15_, if_true, Act.put, List.setIfInBounds_toArray, List.set_cons_zero, List.set_cons_succ]
  have B := Aside0.mk Q_B
  clear Q_B
  have S := Aside0.mk Q_S
  clear Q_S
  clear Q_G
  have T := Aside0.mk (Q_T hb12_)
  clear Q_T
  clear hall hb1_ hb2_ hb3_ hb5_ hb6_ hb7_ hb9_ hb10_ hb11_ hb12_ hb13_ hb14_ hb15_
  have HT1 := Lib.hid T.out
  have HT2 := Lib.hid B.out
  clear T B S
  go_wp2
  refine bodyPost_ret (results_cttt rfl _ _ g2 27 _ (0, 0) _ rfl HT1.out Try.underlying27 rfl (by kernel_rfl)) rfl ?_
  exact ⟨rfl, by rw [hg2]; exact HT2.out⟩
end Go.Proofs.Ythdemajmlidefaa.Ck
