/- The statement ChunkEncodes of ropewalk/ropewalklaw06.ChunkEncodes. Proved from the walk Ch.encodes_row. -/
import Derived.Test.YtjmadnpicidbeaaEa6
section
namespace Go.Proofs.Ytjmadnpicidbeaa.Ch
open Go.RowKit Go.Proofs.YtjmadnpicidbeaaW.PrintWords Go.Proofs.YtjmadnpicidbeaaW.PrintLast Go.Proofs.Ytjmadnpicidbeaa.Base Go.Proofs.Ytjmadnpicidbeaa.PCh Go.Proofs.Ytjmadnpicidbeaa.ParDec Go.Proofs.Ytjmadnpicidbeaa.ParEnc
set_option maxRecDepth 100000
set_option linter.unusedVariables false
set_option linter.unusedSimpArgs false
def lawencT8 : Bool × List (List Nat × List Nat) := (true, [([], []), ([], []), ([0, 1], [0, 1]), ([2], [2]), ([3], [3]), ([], []), ([], []), ([5, 6], [5, 6]), ([7], [7]), ([8, 4], [8]), ([4, 9], [4, 9]), ([10, 9], [10]), ([11], [11]), ([11], [11]), ([12, 13, 11], [11, 12, 13]), ([14, 11], [11, 14]), ([15, 11, 11], [11, 15]), ([11], [11]), ([11], [11]), ([17, 18, 11], [11, 17, 18]), ([19, 11], [11, 19]), ([20, 16, 11], [11, 20]), ([16, 21, 11], [11, 16, 21]), ([11, 22], [11, 22])])
def lawencB8 : List Nat := [0, 0, 3, 7, 15, 0, 0, 96, 224, 511, 1023, 2047, 4095, 4095, 16383, 32767, 65535, 4095, 4095, 397311, 921599, 2097151, 4194303, 8388607]
theorem lawenctab8 : Go.Proofs.YtjmadnpicidbeaaW.PrintLast.rtab .any (Go.Proofs.YtjmadnpicidbeaaW.PrintLast.opsOf Try.f6 8) = lawencT8 := by kernel_rfl
theorem lawencbits8 : Go.Proofs.YtjmadnpicidbeaaW.PrintLast.waitsOk lawencT8.2 lawencB8 = true := by kernel_rfl
theorem fourL_in (l : List Int) : ∀ b ∈ fourL l, inB b := by
  induction l with
  | nil => intro b h; cases h
  | cons n r ih =>
    intro b h
    unfold fourL at h
    rcases List.mem_append.1 h with h | h
    · simp only [List.mem_cons, List.not_mem_nil, or_false] at h
      unfold inB
      omega
    · exact ih b h
theorem twoL_in (l : List Int) : ∀ b ∈ twoL l, inB b := by
  induction l with
  | nil => intro b h; cases h
  | cons n r ih =>
    intro b h
    unfold twoL at h
    rcases List.mem_append.1 h with h | h
    · simp only [List.mem_cons, List.not_mem_nil, or_false] at h
      unfold inB
      omega
    · exact ih b h
theorem nil_in : ∀ b ∈ ([] : List Int), inB b := fun _ h => by cases h
theorem app_in {a b : List Int} (ha : ∀ x ∈ a, inB x) (hb : ∀ x ∈ b, inB x) : ∀ x ∈ a ++ b, inB x := fun x h => (List.mem_append.1 h).elim (ha x) (hb x)
theorem encP_in {ps : List PrmS} (h : ∀ p ∈ ps, okQ p) : ∀ b ∈ (encP ps).1, inB b := by
  unfold encP
  by_cases hl : ps.length > 256
  · rw [if_pos hl]; exact nil_in
  rw [if_neg hl]
  by_cases hs : allShort ps
  · rw [runB_short ps hs]
    exact fold_in ps [] nil_in (fun q hq => ⟨(h q hq).1.1, (h q hq).1.2, by have := hs q hq; omega, fun x hx => (h q hq).2 x hx⟩)
  · rw [runB_long ps hs]; exact nil_in
theorem value_in {x : Chk} (h : OkC x) : ∀ b ∈ valueD x, inB b := by
  unfold valueD
  split
  · unfold valData; exact app_in (app_in (app_in (fourL_in _) (twoL_in _)) (fourL_in _)) h.r13
  split
  · exact app_in (app_in (app_in (fourL_in _) (twoL_in _)) (fourL_in _)) (encP_in h.r14)
  split
  · exact app_in (app_in (app_in (fourL_in _) (twoL_in _)) (twoL_in _)) (fourL_in _)
  split
  · exact app_in (app_in (app_in (app_in (fourL_in _) (twoL_in _)) (twoL_in _)) (twoL_in _)) (fourL_in _)
  split
  · exact encP_in h.r14
  split
  · exact fourL_in _
  split
  · exact nil_in
  · exact h.r13
theorem chunk_in {x : Chk} (h : OkC x) : ∀ b ∈ chunkL x, inB b := by
  unfold chunkL
  refine app_in (app_in (app_in ?_ (twoL_in _)) (value_in h)) ?_
  · intro b hb
    simp only [List.mem_cons, List.not_mem_nil, or_false] at hb
    rcases hb with rfl | rfl
    · exact h.r0
    · exact h.r1
  · intro b hb
    unfold padL at hb
    rw [(List.mem_replicate.1 hb).2]
    unfold inB
    omega
theorem flat_in (l : List Chk) (h : ∀ x ∈ l, OkC x) : ∀ b ∈ flatL l, inB b := by
  induction l with
  | nil => exact nil_in
  | cons x r ih => exact app_in (chunk_in (h x (List.mem_cons_self ..))) (ih (fun y hy => h y (List.mem_cons_of_mem _ hy)))
theorem enc_in {l : List Chk} (h : ∀ x ∈ l, OkC x) : ∀ b ∈ (encD l).1, inB b := by
  by_cases e : (encD l).2 = 0
  · rw [(enc_good e).2.1]; exact flat_in l h
  · rw [enc_bad e]; exact nil_in
set_option maxHeartbeats 8000000 in
theorem encodes_row {w : World} (A : Option Addr) (c : Nat) (l : List Chk) (hb : Kd.C k30 w A l.length l) (hc : l.length ≤ c) (hp : l.length * 152 ≤ 140737488351232 ∧ ∀ x ∈ l, OkC x) :
    Calls Try.prog 6 #[.slice A l.length c] w fun e w' => e = .returned (.bool true) ∧ Below w.heap.size w w' := by
  have HE := Lib.hid (fun (W : World) (h : Below w.heap.size w W) => encode_any W A c l (Kd.C_below hb h) (fun x hx => Nat.le_trans (hp.2 x hx).l13 (by decide)))
  have HR := Lib.hid (fun (W : World) (h : Below w.heap.size w W) => rencode_calls W A c l (Kd.C_below hb h) hp.2)
  have HC := Lib.hid (fun (W : World) (h : Below w.heap.size w W) => Kd.C_below hb h)
  have HOK := Lib.hid hp.2
  have HLL := Lib.hid hp.1
  have hin := enc_in hp.2
  have HSE := Lib.hid (str_eq hin hin)
  clear hb hp hin
  generalize encD l = E at *
  obtain ⟨eb, ec⟩ := E
  dsimp only at HE HR HSE
  rw [decide_eq_true (rfl : eb = eb)] at HSE
  go_enter Try.func6, Try.ntmps6
  go_wp2_with fail
  refine (HE.out w (Below.refl _ _)).mono ?_
  rintro e w1 ⟨v1, rfl, hR1, hB1⟩
  obtain ⟨A1, c1, rfl, hle1, hC1⟩ := Kd.R_reads hR1
  have HB1 := Lib.hid hB1
  have HC1 := Lib.hid (fun (W : World) (h : Below w1.heap.size w1 W) => Kd.C_below hC1 h)
  clear hR1 hB1 hC1 hle1
  go_wp2_with fail
  refine (HR.out w1 HB1.out).mono ?_
  rintro e w2 ⟨v2, rfl, hR2, hB2⟩
  obtain ⟨A2, c2, rfl, hle2, hC2⟩ := Kd.R_reads hR2
  have HB2 := Lib.hid (below_then HB1.out HB1.out.size hB2)
  have k1 := Kd.C_string (P := Try.prog) (c := c1) Try.underlying22 Try.underlying5 Try.underlying9 (HC1.out w2 hB2)
  have k2 := Kd.C_string (P := Try.prog) (c := c2) Try.underlying22 Try.underlying5 Try.underlying9 hC2
  clear hR2 hB2 hC2 hle2 HE HR HC1
  have hse := HSE.out
  generalize strOfNums eb = se at *
  go_wp2_with fail
  refine (awake_calls w2).mono ?_
  rintro e w3 ⟨rfl, hB3⟩
  have HB3 := Lib.hid (below_then HB2.out HB2.out.size hB3)
  clear hB3 k1 k2 HB2 HB1 HSE
  go_wp2
  have hm := HLL.out
  go_loopw [7] (fun v7 wr => ∃ (i : Nat), i ≤ l.length ∧ v7 = .int .i64 (i : Int) ∧ Hid (Below w.heap.size w wr)) (fun v7 _ => l.length - (intOf v7).toNat)
  case atStart => exact ⟨0, Nat.zero_le _, rfl, HB3.out⟩
  case round =>
    clear HB3
    obtain ⟨i, hi, rfl, HB⟩ := hrel
    by_cases hlt : i < l.length
    · obtain ⟨ad, x, L, rfl, hd, hxm, hcell, hx⟩ := chk_at (HC.out wr HB.out) i hlt
      have HOX := Lib.hid (HOK.out x hxm)
      have HK := Lib.hid (fun (W : World) (h : Below wr.heap.size wr W) => check_any W x L (hx.below h) (Nat.le_trans HOX.out.l13 (by decide)))
      have HRK := Lib.hid (fun (W : World) (h : Below wr.heap.size wr W) => rcheck_calls W x L (hx.below h) HOX.out)
      have HS := Lib.hid (fun (W : World) (h : Below wr.heap.size wr W) => size_calls W x L (hx.below h) HOX.out.l13)
      have HRS := Lib.hid (fun (W : World) (h : Below wr.heap.size wr W) => rsize_calls W x L (hx.below h) HOX.out)
      have HXS := Lib.hid (show (Try.prog.info? 30).map (·.size) = some (CV x L).size by kernel_rfl)
      have HCL := Lib.hid hcell
      clear hcell hd hxm hx HOX
      generalize checkD x = q at *
      generalize ((sizeD x : Nat) : Int) = sz at *
      generalize CV x L = CX at *
      go_upto_region 8 with (fail)
      have HBW := Lib.hid (Below.refl wr.heap.size wr)
      have B := True.intro
      refine start_ (n := 24) (S := fun w' => True) (ds := []) #[false, false, false, false, false, false, false, false, false, false, false, false, false, false, false, false, false, false, false, false, false, false, false, false] (by kernel_rfl) rfl rfl trivial (fun hHeld => ?_)
      refine with_tabW lawenctab8 lawencbits8 (fun HT_ HW_ => ?_)
      refine pure_ (i := 0) (N := some 38) (v := ?_) (a' := ?_) #[true, false, false, false, false, false, false, false, false, false, false, false, false, false, false, false, false, false, false, false, false, false, false, false] rfl rfl (any_of HT_.out (by kernel_rfl)) (fun _ _ _ h => h) (Or.inl ⟨by rfl, ?_⟩) ?_ ?_
      rotate_left
      · intro w'
        go_simp
        with_reducible rfl
      rotate_left
      · simp only [Act.put, List.setIfInBounds_toArray, List.set_cons_zero, List.set_cons_succ, i64_w, i32_w]
        rfl
      refine pure_ (i := 1) (N := some 39) (v := ?_) (a' := ?_) #[true, true, false, false, false, false, false, false, false, false, false, false, false, false, false, false, false, false, false, false, false, false, false, false] rfl rfl (any_of HT_.out (by kernel_rfl)) (fun _ _ _ h => h) (Or.inl ⟨by rfl, ?_⟩) ?_ ?_
      rotate_left
      · intro w'
        go_simp
        with_reducible rfl
      rotate_left
      · simp only [Act.put, List.setIfInBounds_toArray, List.set_cons_zero, List.set_cons_succ, i64_w, i32_w]
        rfl
      refine pure_ (i := 5) (N := some 43) (v := ?_) (a' := ?_) #[true, true, false, false, false, true, false, false, false, false, false, false, false, false, false, false, false, false, false, false, false, false, false, false] rfl rfl (any_of HT_.out (by kernel_rfl)) (fun _ _ _ h => h) (Or.inl ⟨by rfl, ?_⟩) ?_ ?_
      rotate_left
      · intro w'
        go_simp
        with_reducible rfl
      rotate_left
      · simp only [Act.put, List.setIfInBounds_toArray, List.set_cons_zero, List.set_cons_succ, i64_w, i32_w]
        rfl
      refine pure_ (i := 6) (N := some 44) (v := ?_) (a' := ?_) #[true, true, false, false, false, true, true, false, false, false, false, false, false, false, false, false, false, false, false, false, false, false, false, false] rfl rfl (any_of HT_.out (by kernel_rfl)) (fun _ _ _ h => h) (Or.inl ⟨by rfl, ?_⟩) ?_ ?_
      rotate_left
      · intro w'
        go_simp
        with_reducible rfl
      rotate_left
      · simp only [Act.put, List.setIfInBounds_toArray, List.set_cons_zero, List.set_cons_succ, i64_w, i32_w]
        rfl
      refine inv_at [2, 3, 4, 7, 8, 9, 10, 11, 12, 13, 14, 15, 16, 17, 18, 19, 20, 21, 22, 23] (fun a0_ b a w' => a = putSel a0_ b [(2, 40, .pointer (some (ad.add (i * 15)))), (3, 41, .agg CX), (4, 42, .int .i64 q), (7, 45, .pointer (some (ad.add (i * 15)))), (8, 46, .agg CX), (9, 47, .int .i64 q), (10, 48, .bool false), (11, 49, .bool false), (12, 50, .slice (some ad) l.length c), (13, 51, .int .i64 (i : Int)), (14, 52, .pointer (some (ad.add (i * 15)))), (15, 53, .agg CX), (16, 54, .int .i64 sz), (17, 55, .slice (some ad) l.length c), (18, 56, .int .i64 (i : Int)), (19, 57, .pointer (some (ad.add (i * 15)))), (20, 58, .agg CX), (21, 59, .int .i64 sz), (22, 60, .bool false), (23, 61, .bool false)] ∧ (Below wr.heap.size wr w')) HT_.out HW_.out (by kernel_rfl) (by kernel_rfl) ?_ ?_ ?_
      · exact ⟨by simp only [putSel, Bool.false_eq_true, if_false], below_drew HBW.out⟩
      · skip
        clear B
        refine steps_cons ?_ ?_
        · rintro b a w' ⟨ha, Q_B⟩ hb_ hon hoff
          refine ⟨_, rfl, fun K hK => ?_⟩
          have e38 : a.tmps[38]? = some (.slice (some ad) l.length c) := by rw [ha]; exact (putSel_off rfl).trans rfl
          have e39 : a.tmps[39]? = some (.int .i64 (i : Int)) := by rw [ha]; exact (putSel_off rfl).trans rfl
          replace ha := Aside0.mk ha
          have B := Aside0.mk Q_B
          refine value_ (w1 := w') (v := .pointer (some (ad.add (i * 15)))) (by rfl) rfl ?_ ?_
          · go_simp
            (try simp only [i64_w])
            try rfl
          refine hK.out _ _ ⟨(by rw [ha.out]; exact putSel_upk 0 hb_ rfl rfl rfl), Q_B⟩
        refine steps_cons ?_ ?_
        · rintro b a w' ⟨ha, Q_B⟩ hb_ hon hoff
          refine ⟨_, rfl, fun K hK => ?_⟩
          have e40 : a.tmps[40]? = some (.pointer (some (ad.add (i * 15)))) := by rw [ha]; exact putSel_on (e := (2, 40, .pointer (some (ad.add (i * 15))))) 0 rfl rfl (hon 2 (by kernel_rfl)) rfl
          replace ha := Aside0.mk ha
          have B := Aside0.mk Q_B
          refine value_ (w1 := w') (v := .agg CX) (by rfl) rfl (exec_load_cells 30 (.tmp 40) rfl (eval_of e40) CX _ (fun j v hv => pw_cell_below B.out (HCL.out j v hv)) Try.underlying30 rfl HXS.out) ?_
          refine hK.out _ _ ⟨(by rw [ha.out]; exact putSel_upk 1 hb_ rfl rfl rfl), B.out⟩
        refine steps_cons ?_ ?_
        · rintro b a w' ⟨ha, Q_B⟩ hb_ hon hoff
          refine ⟨_, rfl, fun K hK => ?_⟩
          have e41 : a.tmps[41]? = some (.agg CX) := by rw [ha]; exact putSel_on (e := (3, 41, .agg CX)) 1 rfl rfl (hon 3 (by kernel_rfl)) rfl
          replace ha := Aside0.mk ha
          have B := Aside0.mk Q_B
          refine goes_ Try.func16 (by kernel_rfl) rfl #[.agg CX] (by rfl) rfl rfl (by first | (simp only [List.map_toArray, List.map_cons, List.map_nil, Act.eval, Array.getD_eq_getD_getElem?, Option.getD_some, e41]; done) | (simp only [List.map_toArray, List.map_cons, List.map_nil, Act.eval, Array.getD_eq_getD_getElem?, Option.getD_some, e41]; rfl)) ?_
          refine (HK.out w' B.out).mono ?_
          rintro e w1 ⟨rfl, hB1⟩
          refine ⟨_, rfl, ?_⟩
          refine hK.out _ _ ⟨(by rw [ha.out]; exact putSel_upk 2 hb_ rfl rfl rfl), B.out.trans (hB1.mono B.out.size)⟩
        refine steps_cons ?_ ?_
        · rintro b a w' ⟨ha, Q_B⟩ hb_ hon hoff
          refine ⟨_, rfl, fun K hK => ?_⟩
          have e43 : a.tmps[43]? = some (.slice (some ad) l.length c) := by rw [ha]; exact (putSel_off rfl).trans rfl
          have e44 : a.tmps[44]? = some (.int .i64 (i : Int)) := by rw [ha]; exact (putSel_off rfl).trans rfl
          replace ha := Aside0.mk ha
          have B := Aside0.mk Q_B
          refine value_ (w1 := w') (v := .pointer (some (ad.add (i * 15)))) (by rfl) rfl ?_ ?_
          · go_simp
            (try simp only [i64_w])
            try rfl
          refine hK.out _ _ ⟨(by rw [ha.out]; exact putSel_upk 3 hb_ rfl rfl rfl), Q_B⟩
        refine steps_cons ?_ ?_
        · rintro b a w' ⟨ha, Q_B⟩ hb_ hon hoff
          refine ⟨_, rfl, fun K hK => ?_⟩
          have e45 : a.tmps[45]? = some (.pointer (some (ad.add (i * 15)))) := by rw [ha]; exact putSel_on (e := (7, 45, .pointer (some (ad.add (i * 15))))) 3 rfl rfl (hon 7 (by kernel_rfl)) rfl
          replace ha := Aside0.mk ha
          have B := Aside0.mk Q_B
          refine value_ (w1 := w') (v := .agg CX) (by rfl) rfl (exec_load_cells 30 (.tmp 45) rfl (eval_of e45) CX _ (fun j v hv => pw_cell_below B.out (HCL.out j v hv)) Try.underlying30 rfl HXS.out) ?_
          refine hK.out _ _ ⟨(by rw [ha.out]; exact putSel_upk 4 hb_ rfl rfl rfl), B.out⟩
        refine steps_cons ?_ ?_
        · rintro b a w' ⟨ha, Q_B⟩ hb_ hon hoff
          refine ⟨_, rfl, fun K hK => ?_⟩
          have e46 : a.tmps[46]? = some (.agg CX) := by rw [ha]; exact putSel_on (e := (8, 46, .agg CX)) 4 rfl rfl (hon 8 (by kernel_rfl)) rfl
          replace ha := Aside0.mk ha
          have B := Aside0.mk Q_B
          refine goes_ Try.func19 (by kernel_rfl) rfl #[.agg CX] (by rfl) rfl rfl (by first | (simp only [List.map_toArray, List.map_cons, List.map_nil, Act.eval, Array.getD_eq_getD_getElem?, Option.getD_some, e46]; done) | (simp only [List.map_toArray, List.map_cons, List.map_nil, Act.eval, Array.getD_eq_getD_getElem?, Option.getD_some, e46]; rfl)) ?_
          refine (HRK.out w' B.out).mono ?_
          rintro e w1 ⟨rfl, hB1⟩
          refine ⟨_, rfl, ?_⟩
          refine hK.out _ _ ⟨(by rw [ha.out]; exact putSel_upk 5 hb_ rfl rfl rfl), B.out.trans (hB1.mono B.out.size)⟩
        refine steps_cons ?_ ?_
        · rintro b a w' ⟨ha, Q_B⟩ hb_ hon hoff
          refine ⟨_, rfl, fun K hK => ?_⟩
          have e42 : a.tmps[42]? = some (.int .i64 q) := by rw [ha]; exact putSel_on (e := (4, 42, .int .i64 q)) 2 rfl rfl (hon 4 (by kernel_rfl)) rfl
          have e47 : a.tmps[47]? = some (.int .i64 q) := by rw [ha]; exact putSel_on (e := (9, 47, .int .i64 q)) 5 rfl rfl (hon 9 (by kernel_rfl)) rfl
          replace ha := Aside0.mk ha
          have B := Aside0.mk Q_B
          refine value_ (w1 := w') (v := .bool false) (by rfl) rfl ?_ ?_
          · go_simp
            (try simp only [i64_w])
            try rfl
          refine hK.out _ _ ⟨(by rw [ha.out]; exact putSel_upk 6 hb_ rfl rfl rfl), Q_B⟩
        refine steps_cons ?_ ?_
        · rintro b a w' ⟨ha, Q_B⟩ hb_ hon hoff
          refine ⟨_, rfl, fun K hK => ?_⟩
          have e48 : a.tmps[48]? = some (.bool false) := by rw [ha]; exact putSel_on (e := (10, 48, .bool false)) 6 rfl rfl (hon 10 (by kernel_rfl)) rfl
          replace ha := Aside0.mk ha
          have B := Aside0.mk Q_B
          refine value_ (w1 := w') (v := .bool false) (by rfl) rfl ?_ ?_
          · go_simp
            (try simp only [i64_w])
            try rfl
          refine hK.out _ _ ⟨(by rw [ha.out]; exact putSel_upk 7 hb_ rfl rfl rfl), Q_B⟩
        refine steps_cons ?_ ?_
        · rintro b a w' ⟨ha, Q_B⟩ hb_ hon hoff
          refine ⟨_, rfl, fun K hK => ?_⟩
          have e0 : a.tmps[0]? = some (.slice (some ad) l.length c) := by rw [ha]; exact (putSel_off rfl).trans rfl
          have e49 : a.tmps[49]? = some (.bool false) := by rw [ha]; exact putSel_on (e := (11, 49, .bool false)) 7 rfl rfl (hon 11 (by kernel_rfl)) rfl
          replace ha := Aside0.mk ha
          have B := Aside0.mk Q_B
          refine value_ (w1 := w') (v := .slice (some ad) l.length c) (wanted_on rfl rfl rfl (e49.trans (by first | rfl | (simp [*]; done)))) rfl ?_ ?_
          · go_simp
            (try simp only [i64_w])
            try rfl
          refine hK.out _ _ ⟨(by rw [ha.out]; exact putSel_upk 8 hb_ rfl rfl rfl), Q_B⟩
        refine steps_cons ?_ ?_
        · rintro b a w' ⟨ha, Q_B⟩ hb_ hon hoff
          refine ⟨_, rfl, fun K hK => ?_⟩
          have e7 : a.tmps[7]? = some (.int .i64 (i : Int)) := by rw [ha]; exact (putSel_off rfl).trans rfl
          have e49 : a.tmps[49]? = some (.bool false) := by rw [ha]; exact putSel_on (e := (11, 49, .bool false)) 7 rfl rfl (hon 11 (by kernel_rfl)) rfl
          replace ha := Aside0.mk ha
          have B := Aside0.mk Q_B
          refine value_ (w1 := w') (v := .int .i64 (i : Int)) (wanted_on rfl rfl rfl (e49.trans (by first | rfl | (simp [*]; done)))) rfl ?_ ?_
          · go_simp
            (try simp only [i64_w])
            try rfl
          refine hK.out _ _ ⟨(by rw [ha.out]; exact putSel_upk 9 hb_ rfl rfl rfl), Q_B⟩
        refine steps_cons ?_ ?_
        · rintro b a w' ⟨ha, Q_B⟩ hb_ hon hoff
          refine ⟨_, rfl, fun K hK => ?_⟩
          have e50 : a.tmps[50]? = some (.slice (some ad) l.length c) := by rw [ha]; exact putSel_on (e := (12, 50, .slice (some ad) l.length c)) 8 rfl rfl (hon 12 (by kernel_rfl)) rfl
          have e51 : a.tmps[51]? = some (.int .i64 (i : Int)) := by rw [ha]; exact putSel_on (e := (13, 51, .int .i64 (i : Int))) 9 rfl rfl (hon 13 (by kernel_rfl)) rfl
          have e49 : a.tmps[49]? = some (.bool false) := by rw [ha]; exact putSel_on (e := (11, 49, .bool false)) 7 rfl rfl (hon 11 (by kernel_rfl)) rfl
          replace ha := Aside0.mk ha
          have B := Aside0.mk Q_B
          refine value_ (w1 := w') (v := .pointer (some (ad.add (i * 15)))) (wanted_on rfl rfl rfl (e49.trans (by first | rfl | (simp [*]; done)))) rfl ?_ ?_
          · go_simp
            (try simp only [i64_w])
            try rfl
          refine hK.out _ _ ⟨(by rw [ha.out]; exact putSel_upk 10 hb_ rfl rfl rfl), Q_B⟩
        refine steps_cons ?_ ?_
        · rintro b a w' ⟨ha, Q_B⟩ hb_ hon hoff
          refine ⟨_, rfl, fun K hK => ?_⟩
          have e52 : a.tmps[52]? = some (.pointer (some (ad.add (i * 15)))) := by rw [ha]; exact putSel_on (e := (14, 52, .pointer (some (ad.add (i * 15))))) 10 rfl rfl (hon 14 (by kernel_rfl)) rfl
          have e49 : a.tmps[49]? = some (.bool false) := by rw [ha]; exact putSel_on (e := (11, 49, .bool false)) 7 rfl rfl (hon 11 (by kernel_rfl)) rfl
          replace ha := Aside0.mk ha
          have B := Aside0.mk Q_B
          refine value_ (w1 := w') (v := .agg CX) (wanted_on rfl rfl rfl (e49.trans (by first | rfl | (simp [*]; done)))) rfl (exec_load_cells 30 (.tmp 52) rfl (eval_of e52) CX _ (fun j v hv => pw_cell_below B.out (HCL.out j v hv)) Try.underlying30 rfl HXS.out) ?_
          refine hK.out _ _ ⟨(by rw [ha.out]; exact putSel_upk 11 hb_ rfl rfl rfl), B.out⟩
        refine steps_cons ?_ ?_
        · rintro b a w' ⟨ha, Q_B⟩ hb_ hon hoff
          refine ⟨_, rfl, fun K hK => ?_⟩
          have e53 : a.tmps[53]? = some (.agg CX) := by rw [ha]; exact putSel_on (e := (15, 53, .agg CX)) 11 rfl rfl (hon 15 (by kernel_rfl)) rfl
          have e49 : a.tmps[49]? = some (.bool false) := by rw [ha]; exact putSel_on (e := (11, 49, .bool false)) 7 rfl rfl (hon 11 (by kernel_rfl)) rfl
          replace ha := Aside0.mk ha
          have B := Aside0.mk Q_B
          refine goes_ Try.func20 (by kernel_rfl) rfl #[.agg CX] (wanted_on rfl rfl rfl (e49.trans (by first | rfl | (simp [*]; done)))) rfl rfl (by first | (simp only [List.map_toArray, List.map_cons, List.map_nil, Act.eval, Array.getD_eq_getD_getElem?, Option.getD_some, e53, e49]; done) | (simp only [List.map_toArray, List.map_cons, List.map_nil, Act.eval, Array.getD_eq_getD_getElem?, Option.getD_some, e53, e49]; rfl)) ?_
          refine (HS.out w' B.out).mono ?_
          rintro e w1 ⟨rfl, hB1⟩
          refine ⟨_, rfl, ?_⟩
          refine hK.out _ _ ⟨(by rw [ha.out]; exact putSel_upk 12 hb_ rfl rfl rfl), B.out.trans (hB1.mono B.out.size)⟩
        refine steps_cons ?_ ?_
        · rintro b a w' ⟨ha, Q_B⟩ hb_ hon hoff
          refine ⟨_, rfl, fun K hK => ?_⟩
          have e0 : a.tmps[0]? = some (.slice (some ad) l.length c) := by rw [ha]; exact (putSel_off rfl).trans rfl
          have e49 : a.tmps[49]? = some (.bool false) := by rw [ha]; exact putSel_on (e := (11, 49, .bool false)) 7 rfl rfl (hon 11 (by kernel_rfl)) rfl
          replace ha := Aside0.mk ha
          have B := Aside0.mk Q_B
          refine value_ (w1 := w') (v := .slice (some ad) l.length c) (wanted_on rfl rfl rfl (e49.trans (by first | rfl | (simp [*]; done)))) rfl ?_ ?_
          · go_simp
            (try simp only [i64_w])
            try rfl
          refine hK.out _ _ ⟨(by rw [ha.out]; exact putSel_upk 13 hb_ rfl rfl rfl), Q_B⟩
        refine steps_cons ?_ ?_
        · rintro b a w' ⟨ha, Q_B⟩ hb_ hon hoff
          refine ⟨_, rfl, fun K hK => ?_⟩
          have e7 : a.tmps[7]? = some (.int .i64 (i : Int)) := by rw [ha]; exact (putSel_off rfl).trans rfl
          have e49 : a.tmps[49]? = some (.bool false) := by rw [ha]; exact putSel_on (e := (11, 49, .bool false)) 7 rfl rfl (hon 11 (by kernel_rfl)) rfl
          replace ha := Aside0.mk ha
          have B := Aside0.mk Q_B
          refine value_ (w1 := w') (v := .int .i64 (i : Int)) (wanted_on rfl rfl rfl (e49.trans (by first | rfl | (simp [*]; done)))) rfl ?_ ?_
          · go_simp
            (try simp only [i64_w])
            try rfl
          refine hK.out _ _ ⟨(by rw [ha.out]; exact putSel_upk 14 hb_ rfl rfl rfl), Q_B⟩
        refine steps_cons ?_ ?_
        · rintro b a w' ⟨ha, Q_B⟩ hb_ hon hoff
          refine ⟨_, rfl, fun K hK => ?_⟩
          have e55 : a.tmps[55]? = some (.slice (some ad) l.length c) := by rw [ha]; exact putSel_on (e := (17, 55, .slice (some ad) l.length c)) 13 rfl rfl (hon 17 (by kernel_rfl)) rfl
          have e56 : a.tmps[56]? = some (.int .i64 (i : Int)) := by rw [ha]; exact putSel_on (e := (18, 56, .int .i64 (i : Int))) 14 rfl rfl (hon 18 (by kernel_rfl)) rfl
          have e49 : a.tmps[49]? = some (.bool false) := by rw [ha]; exact putSel_on (e := (11, 49, .bool false)) 7 rfl rfl (hon 11 (by kernel_rfl)) rfl
          replace ha := Aside0.mk ha
          have B := Aside0.mk Q_B
          refine value_ (w1 := w') (v := .pointer (some (ad.add (i * 15)))) (wanted_on rfl rfl rfl (e49.trans (by first | rfl | (simp [*]; done)))) rfl ?_ ?_
          · go_simp
            (try simp only [i64_w])
            try rfl
          refine hK.out _ _ ⟨(by rw [ha.out]; exact putSel_upk 15 hb_ rfl rfl rfl), Q_B⟩
        refine steps_cons ?_ ?_
        · rintro b a w' ⟨ha, Q_B⟩ hb_ hon hoff
          refine ⟨_, rfl, fun K hK => ?_⟩
          have e57 : a.tmps[57]? = some (.pointer (some (ad.add (i * 15)))) := by rw [ha]; exact putSel_on (e := (19, 57, .pointer (some (ad.add (i * 15))))) 15 rfl rfl (hon 19 (by kernel_rfl)) rfl
          have e49 : a.tmps[49]? = some (.bool false) := by rw [ha]; exact putSel_on (e := (11, 49, .bool false)) 7 rfl rfl (hon 11 (by kernel_rfl)) rfl
          replace ha := Aside0.mk ha
          have B := Aside0.mk Q_B
          refine value_ (w1 := w') (v := .agg CX) (wanted_on rfl rfl rfl (e49.trans (by first | rfl | (simp [*]; done)))) rfl (exec_load_cells 30 (.tmp 57) rfl (eval_of e57) CX _ (fun j v hv => pw_cell_below B.out (HCL.out j v hv)) Try.underlying30 rfl HXS.out) ?_
          refine hK.out _ _ ⟨(by rw [ha.out]; exact putSel_upk 16 hb_ rfl rfl rfl), B.out⟩
        refine steps_cons ?_ ?_
        · rintro b a w' ⟨ha, Q_B⟩ hb_ hon hoff
          refine ⟨_, rfl, fun K hK => ?_⟩
          have e58 : a.tmps[58]? = some (.agg CX) := by rw [ha]; exact putSel_on (e := (20, 58, .agg CX)) 16 rfl rfl (hon 20 (by kernel_rfl)) rfl
          have e49 : a.tmps[49]? = some (.bool false) := by rw [ha]; exact putSel_on (e := (11, 49, .bool false)) 7 rfl rfl (hon 11 (by kernel_rfl)) rfl
          replace ha := Aside0.mk ha
          have B := Aside0.mk Q_B
          refine goes_ Try.func17 (by kernel_rfl) rfl #[.agg CX] (wanted_on rfl rfl rfl (e49.trans (by first | rfl | (simp [*]; done)))) rfl rfl (by first | (simp only [List.map_toArray, List.map_cons, List.map_nil, Act.eval, Array.getD_eq_getD_getElem?, Option.getD_some, e58, e49]; done) | (simp only [List.map_toArray, List.map_cons, List.map_nil, Act.eval, Array.getD_eq_getD_getElem?, Option.getD_some, e58, e49]; rfl)) ?_
          refine (HRS.out w' B.out).mono ?_
          rintro e w1 ⟨rfl, hB1⟩
          refine ⟨_, rfl, ?_⟩
          refine hK.out _ _ ⟨(by rw [ha.out]; exact putSel_upk 17 hb_ rfl rfl rfl), B.out.trans (hB1.mono B.out.size)⟩
        refine steps_cons ?_ ?_
        · rintro b a w' ⟨ha, Q_B⟩ hb_ hon hoff
          refine ⟨_, rfl, fun K hK => ?_⟩
          have e54 : a.tmps[54]? = some (.int .i64 sz) := by rw [ha]; exact putSel_on (e := (16, 54, .int .i64 sz)) 12 rfl rfl (hon 16 (by kernel_rfl)) rfl
          have e59 : a.tmps[59]? = some (.int .i64 sz) := by rw [ha]; exact putSel_on (e := (21, 59, .int .i64 sz)) 17 rfl rfl (hon 21 (by kernel_rfl)) rfl
          have e49 : a.tmps[49]? = some (.bool false) := by rw [ha]; exact putSel_on (e := (11, 49, .bool false)) 7 rfl rfl (hon 11 (by kernel_rfl)) rfl
          replace ha := Aside0.mk ha
          have B := Aside0.mk Q_B
          refine value_ (w1 := w') (v := .bool false) (wanted_on rfl rfl rfl (e49.trans (by first | rfl | (simp [*]; done)))) rfl ?_ ?_
          · go_simp
            (try simp only [i64_w])
            try rfl
          refine hK.out _ _ ⟨(by rw [ha.out]; exact putSel_upk 18 hb_ rfl rfl rfl), Q_B⟩
        refine steps_cons ?_ ?_
        · rintro b a w' ⟨ha, Q_B⟩ hb_ hon hoff
          refine ⟨_, rfl, fun K hK => ?_⟩
          have e49 : a.tmps[49]? = some (.bool false) := by rw [ha]; exact putSel_on (e := (11, 49, .bool false)) 7 rfl rfl (hon 11 (by kernel_rfl)) rfl
          have e60 : a.tmps[60]? = some (.bool false) := by rw [ha]; exact putSel_on (e := (22, 60, .bool false)) 18 rfl rfl (hon 22 (by kernel_rfl)) rfl
          replace ha := Aside0.mk ha
          have B := Aside0.mk Q_B
          refine value_ (w1 := w') (v := .bool false) (by rfl) rfl ?_ ?_
          · go_simp
            (try simp only [i64_w])
            try rfl
          refine hK.out _ _ ⟨(by rw [ha.out]; exact putSel_upk 19 hb_ rfl rfl rfl), Q_B⟩
        exact steps_nil
      rintro b a w' hall ⟨ha, Q_B⟩
      clear B
      have hb2_ := hall 2 (by kernel_rfl)
      have hb3_ := hall 3 (by kernel_rfl)
      have hb4_ := hall 4 (by kernel_rfl)
      have hb7_ := hall 7 (by kernel_rfl)
      have hb8_ := hall 8 (by kernel_rfl)
      have hb9_ := hall 9 (by kernel_rfl)
      have hb10_ := hall 10 (by kernel_rfl)
      have hb11_ := hall 11 (by kernel_rfl)
      have hb12_ := hall 12 (by kernel_rfl)
      have hb13_ := hall 13 (by kernel_rfl)
      have hb14_ := hall 14 (by kernel_rfl)
      have hb15_ := hall 15 (by kernel_rfl)
      have hb16_ := hall 16 (by kernel_rfl)
      have hb17_ := hall 17 (by kernel_rfl)
      have hb18_ := hall 18 (by kernel_rfl)
      have hb19_ := hall 19 (by kernel_rfl)
      have hb20_ := hall 20 (by kernel_rfl)
      have hb21_ := hall 21 (by kernel_rfl)
      have hb22_ := hall 22 (by kernel_rfl)
      have hb23_ := hall 23 (by kernel_rfl)
      subst ha
      simp only [putSel, hb2_, hb3_, hb4_, hb7_, hb8_, hb9_, hb10_, hb11_, hb12_, hb13_, hb14_, hb15_, hb16_, hb17_, hb18_, hb19_, hb20_, hb21_, hb22_, hb23_, if_true, Act.put, List.setIfInBounds_toArray, List.set_cons_zero, List.set_cons_succ]
      have B := Aside0.mk Q_B
      clear Q_B
      clear hall hb2_ hb3_ hb4_ hb7_ hb8_ hb9_ hb10_ hb11_ hb12_ hb13_ hb14_ hb15_ hb16_ hb17_ hb18_ hb19_ hb20_ hb21_ hb22_ hb23_
      have HB2 := Lib.hid (below_then HB.out HB.out.size B.out)
      clear B HB HK HRK HS HRS HCL HXS
      go_wp2
      go_roundw
      case rel => exact ⟨i + 1, by omega, by go_num, HB2⟩
      case measure => simp [intOf]; omega
    · obtain rfl : i = l.length := by omega
      go_wp2
      go_ret
      exact ⟨rfl, HB.out⟩
end Go.Proofs.Ytjmadnpicidbeaa.Ch
end
section
namespace Go.Proofs.Ytjmadnpicidbeaa.chunkEncodes
open Go.ChangeShapes Go.WideShapes Go.ChangeAt Go.RowKit Go.Proofs.Ytjmadnpicidbeaa.Base
open Go.ChangeMaps (open_string shut_string)
set_option linter.unusedVariables false
set_option maxRecDepth 100000 in
theorem contract (H : Type) (enc : TypeId × Value → H) (W : World) (base : Nat) (args : Array Value) (ds gs : List (DataW H)) (before : List MemPlace)
    (hval : ∀ (j : Nat) t v, Try.f6.params[j]? = some t → args[j]? = some v → Value.okWide Try.prog W .any base t v)
    (hW : DataW.Whole enc Try.prog Try.f6.params.toList Rows.chunkEncodesSpec.vars false W args.toList ds gs before)
    (hsz0 : (DataW.weightsEach Try.prog (Try.f6.params.toList ++ (OpenSpec.ofChange Rows.chunkEncodesSpec).bare.plain.varTypes Try.prog) (ds ++ gs)).all (· ≤ reachBytes) = true)
    (hL : laidMetH Try.prog Rows.chunkEncodesRow.laid W) :
    Calls Try.prog 6 args W fun e W' => ∃ v, e = .returned v ∧ Rows.chunkEncodesSpec.post enc Try.prog Try.f6 false true false false W args v W' := by
  have hW' := hW
  obtain ⟨p, q, hA0, hV, rfl, hfz, hnd⟩ := hW
  have hA : DataW.TrodAll enc Try.prog W 0 (fun _ => true) true Try.f6.params.toList args.toList ds p := hA0
  rw [Try.params6] at hA hval
  obtain ⟨v0, vs0, d0, ds0, p0, q0, hargs, rfl, rfl, h0, r0⟩ := trodAll_cons hA
  obtain ⟨rfl, rfl, rfl⟩ := trodAll_nil r0
  obtain rfl : args = #[v0] := by cases args; simp_all
  obtain ⟨rfl, rfl⟩ := trodVars_none hV
  have hsz := hsz0
  rw [Try.params6] at hsz
  obtain ⟨a0, len0, cap0, rfl⟩ := okWide_slice Try.underlying41 (hval 0 41 v0 rfl rfl)
  have k0 := h0
  have lt0 : ∀ x ∈ p0, x.block < W.heap.size := by obtain ⟨m, hm⟩ := k0; exact DataW.trod_lt m _ _ _ hm
  obtain ⟨l0, rfl, hc0, hb0, hw0, hp0⟩ := OpensP.arg (Classical.choose_spec Ch.opens_chks) h0 (short_part hsz (j := 0) rfl rfl)
  clear hA0 hsz hsz0
  refine (Ch.encodes_row a0 cap0 l0 hb0 hc0 hp0).mono fun e W' ⟨he, bel⟩ => ?_
  subst he
  exact ⟨_, rfl, _, _, _, [], _, [], hW', trodAll_mk1 (shut_bool Try.underlying4 _), (trodAll_cons_mk (Below.trod laidOut (by kernel_rfl) (of_decide_eq_true (by kernel_rfl)) k0 bel lt0) trodAll_mk0), rfl, bel.frame _, fun h => by cases h⟩
noncomputable def laidWorld (os : Os) : World := World.holding Try.prog os ⟨#[], #[], []⟩
theorem laid_met (os : Os) : laidMet Try.prog Rows.chunkEncodesRow.laid ((laidWorld os).forCall (fun _ _ => 0) ⟨#[], #[.slice none 0 0], []⟩).memory :=
  laidMet_of_run' 8 (by kernel_rfl) (by kernel_rfl)
theorem reads (os : Os) {H : Type} (enc : TypeId × Value → H) : ∃ places, DataW.whole enc Try.prog ((laidWorld os).forCall (fun _ _ => 0) ⟨#[], #[.slice none 0 0], []⟩).memory Try.f6.params.toList Rows.chunkEncodesSpec.vars false (#[.slice none 0 0] : Array Value).toList 8 = some ([.nil], [], places) :=
  ⟨[], by kernel_rfl⟩
set_option maxRecDepth 100000 in
theorem lifted (os : Os) (started : os.Started) (H : Type) (enc : TypeId × Value → H) (F : Stop.Interp) :
    ReturnsInHanded {} Try.checked os 6 .any ((OpenSpec.ofChange Rows.chunkEncodesSpec).preRow enc Try.prog Try.f6 Rows.chunkEncodesRow.domain false Rows.chunkEncodesRow.laid) (((OpenSpec.ofChange Rows.chunkEncodesSpec).at F).post enc Try.prog Try.f6 false true false false) := by
  obtain ⟨places, hx⟩ := reads os enc
  refine returnsInHanded_of_row (C := Try.checked) (s := (OpenSpec.ofChange Rows.chunkEncodesSpec)) own started (by kernel_rfl) Try.func6
    (witness_row_at (enc := enc) (C := Try.checked) false (laidWorld os) #[.slice none 0 0] rfl (by kernel_rfl) (by kernel_rfl) (by kernel_rfl)
      (OpenSpec.preRow_of_cond 8 hx (by kernel_rfl) (fun k hk => by cases hk) (by kernel_rfl) (laid_met os))) ?_
  intro W base args ds gs before hval hW _ hcond hsz hL _ _
  exact contract H enc W base args ds gs before hval hW hsz hL
theorem said : Rows.ChunkEncodesSaid :=
  OpenClaim.holds_of_cond 6 Try.f6 rfl rfl rfl rfl rfl rfl rfl ⟨rfl, rfl, rfl, rfl, rfl⟩ rfl rfl rfl rfl rfl (by kernel_rfl) Try.func6 (by kernel_rfl)
    (of_decide_eq_true (by kernel_rfl)) (by unfold Func.isWrapper; first | (rw [if_pos (by decide +kernel)]; kernel_rfl) | (rw [if_neg (by decide +kernel)]; exact ⟨rfl, rfl⟩))
    (fun os started H enc _ F => by rw [OpenClaim.pre_eq_preRow]; exact lifted os started H enc F)
theorem chunkEncodes_holds : Rows.ChunkEncodesSaid := said
#print axioms chunkEncodes_holds
end Go.Proofs.Ytjmadnpicidbeaa.chunkEncodes
end
