/- The statement ChunkSames of ropewalk/ropewalklaw06.ChunkSames. Proved from the walk Ch.sames_row. -/
import Derived.Test.YtjmadnpicidbeaaSa5
section
namespace Go.Proofs.Ytjmadnpicidbeaa.Ch
open Go.RowKit Go.Proofs.YtjmadnpicidbeaaW.PrintWords Go.Proofs.YtjmadnpicidbeaaW.PrintLast Go.Proofs.Ytjmadnpicidbeaa.Base Go.Proofs.Ytjmadnpicidbeaa.PCh Go.Proofs.Ytjmadnpicidbeaa.ParDec Go.Proofs.Ytjmadnpicidbeaa.ParEnc
set_option maxRecDepth 100000
set_option linter.unusedVariables false
set_option linter.unusedSimpArgs false
def samesT1 : Bool × List (List Nat × List Nat) := (true, [([], []), ([], []), ([0, 1], [0, 1]), ([], []), ([], []), ([3, 4, 2], [3, 4]), ([2, 5], [2, 5]), ([6, 5], [6]), ([7], [7]), ([7], [7]), ([8, 9, 7, 7], [7, 8, 9]), ([7, 10], [7, 10]), ([11, 10], [11]), ([12, 12], [12]), ([12, 13], [12, 13]), ([14, 13, 0, 1, 2, 3, 4, 5, 6, 7, 8, 9, 10, 11, 12, 13, 14], [14])])
def samesB1 : List Nat := [0, 0, 3, 0, 0, 31, 63, 127, 255, 255, 1023, 2047, 4095, 8191, 16383, 32767]
theorem samestab1 : Go.Proofs.YtjmadnpicidbeaaW.PrintLast.rtab .any (Go.Proofs.YtjmadnpicidbeaaW.PrintLast.opsOf Try.f4 1) = samesT1 := by kernel_rfl
theorem samesbits1 : Go.Proofs.YtjmadnpicidbeaaW.PrintLast.waitsOk samesT1.2 samesB1 = true := by kernel_rfl
set_option maxHeartbeats 2000000 in
theorem sames_walk (w : World) (x y : Chk) (L M : Lay) (hx : CR w x L) (hy : CR w y M) (ox : OkB x) (oy : OkB y) :
    Calls Try.prog 4 #[.agg (CV x L), .agg (CV y M)] w fun e w' => e = .returned (.bool true) ∧ Below w.heap.size w w' := by
  have hb2 : Below w.heap.size w ((w.alloc (.cells (CV x L) 30)).alloc (.cells (CV y M) 30)) := below_alloc (below_alloc (Below.refl _ _) _) _
  have hs2 : ((w.alloc (.cells (CV x L) 30)).alloc (.cells (CV y M) 30)).heap.size = w.heap.size + 2 := by simp
  have hs1 : (w.alloc (.cells (CV x L) 30)).heap.size = w.heap.size + 1 := by simp
  have HA := Lib.hid (show ((w.alloc (.cells (CV x L) 30)).alloc (.cells (CV y M) 30)).heap[w.heap.size]? = some (.cells (CV x L) 30 (0, 0)) from blk_alloc (blk_new _ _) _)
  have HBB := Lib.hid (show ((w.alloc (.cells (CV x L) 30)).alloc (.cells (CV y M) 30)).heap[w.heap.size + 1]? = some (.cells (CV y M) 30 (0, 0)) from by rw [← hs1]; exact blk_new _ _)
  have HXS := Lib.hid (show (Try.prog.info? 30).map (·.size) = some (CV x L).size by kernel_rfl)
  have HYS := Lib.hid (show (Try.prog.info? 30).map (·.size) = some (CV y M).size by kernel_rfl)
  have HSM := Lib.hid (fun (W : World) (h : Below ((w.alloc (.cells (CV x L) 30)).alloc (.cells (CV y M) 30)).heap.size ((w.alloc (.cells (CV x L) 30)).alloc (.cells (CV y M) 30)) W) => same_calls W x y L M ((hx.below hb2).below h) ((hy.below hb2).below h))
  have HRS := Lib.hid (fun (W : World) (h : Below ((w.alloc (.cells (CV x L) 30)).alloc (.cells (CV y M) 30)).heap.size ((w.alloc (.cells (CV x L) 30)).alloc (.cells (CV y M) 30)) W) => rsame_calls W x y L M ((hx.below hb2).below h) ((hy.below hb2).below h) ox oy)
  have HSS := Lib.hid (fun (W : World) (h : Below ((w.alloc (.cells (CV x L) 30)).alloc (.cells (CV y M) 30)).heap.size ((w.alloc (.cells (CV x L) 30)).alloc (.cells (CV y M) 30)) W) => same_calls W x x L L ((hx.below hb2).below h) ((hx.below hb2).below h))
  rw [show decide (x = x) = true from decide_eq_true rfl] at HSS
  have HB := Lib.hid hb2
  have HZ := Lib.hid hs2
  clear hx hy ox oy hb2 hs2 hs1
  generalize decide (x = y) = q at *
  generalize CV x L = CX at *
  generalize CV y M = CY at *
  go_enter Try.func4, Try.ntmps4
  go_upto_region 1 with (fail)
  generalize ((w.alloc (.cells CX 30)).alloc (.cells CY 30)) = W at *
  generalize hga : w.heap.size = ga at *
  generalize ga + 1 = gb at *
  have B := True.intro
  refine start_ (n := 16) (S := fun w' => True) (ds := []) #[false, false, false, false, false, false, false, false, false, false, false, false, false, false, false, false] (by kernel_rfl) rfl rfl trivial (fun hHeld => ?_)
  refine with_tabW samestab1 samesbits1 (fun HT_ HW_ => ?_)
  refine inv_at [0, 1, 2, 3, 4, 5, 6, 7, 8, 9, 10, 11, 12, 13, 14, 15] (fun a0_ b a w' => a = putSel a0_ b [(0, 5, .agg CX), (1, 6, .agg CY), (2, 7, .bool q), (3, 8, .agg CX), (4, 9, .agg CY), (5, 10, .bool q), (6, 11, .bool true), (7, 12, .bool true), (8, 13, .agg CX), (9, 14, .agg CX), (10, 15, .bool true), (11, 16, .bool true), (12, 17, .bool true), (13, 18, .bool true), (14, 19, .bool true), (15, 4, .bool true)] ∧ (Below W.heap.size W w')) HT_.out HW_.out (by kernel_rfl) (by kernel_rfl) ?_ ?_ ?_
  · exact ⟨by simp only [putSel, Bool.false_eq_true, if_false], below_drew (Below.refl _ _)⟩
  · skip
    clear B
    refine steps_cons ?_ ?_
    · rintro b a w' ⟨ha, Q_B⟩ hb_ hon hoff
      refine ⟨_, rfl, fun K hK => ?_⟩
      have e2 : a.tmps[2]? = some (.pointer (some ⟨ga, 0, none⟩)) := by rw [ha]; exact (putSel_off rfl).trans rfl
      replace ha := Aside0.mk ha
      have B := Aside0.mk Q_B
      refine value_ (w1 := w') (v := .agg CX) (by rfl) rfl (exec_load_row 30 (.tmp 2) rfl (eval_of e2) (blk_below HA.out B.out) Try.underlying30 rfl HXS.out) ?_
      refine hK.out _ _ ⟨(by rw [ha.out]; exact putSel_upk 0 hb_ rfl rfl rfl), B.out⟩
    refine steps_cons ?_ ?_
    · rintro b a w' ⟨ha, Q_B⟩ hb_ hon hoff
      refine ⟨_, rfl, fun K hK => ?_⟩
      have e3 : a.tmps[3]? = some (.pointer (some ⟨gb, 0, none⟩)) := by rw [ha]; exact (putSel_off rfl).trans rfl
      replace ha := Aside0.mk ha
      have B := Aside0.mk Q_B
      refine value_ (w1 := w') (v := .agg CY) (by rfl) rfl (exec_load_row 30 (.tmp 3) rfl (eval_of e3) (blk_below HBB.out B.out) Try.underlying30 rfl HYS.out) ?_
      refine hK.out _ _ ⟨(by rw [ha.out]; exact putSel_upk 1 hb_ rfl rfl rfl), B.out⟩
    refine steps_cons ?_ ?_
    · rintro b a w' ⟨ha, Q_B⟩ hb_ hon hoff
      refine ⟨_, rfl, fun K hK => ?_⟩
      have e5 : a.tmps[5]? = some (.agg CX) := by rw [ha]; exact putSel_on (e := (0, 5, .agg CX)) 0 rfl rfl (hon 0 (by kernel_rfl)) rfl
      have e6 : a.tmps[6]? = some (.agg CY) := by rw [ha]; exact putSel_on (e := (1, 6, .agg CY)) 1 rfl rfl (hon 1 (by kernel_rfl)) rfl
      replace ha := Aside0.mk ha
      have B := Aside0.mk Q_B
      refine goes_ Try.func14 (by kernel_rfl) rfl #[.agg CX, .agg CY] (by rfl) rfl rfl (by first | (simp only [List.map_toArray, List.map_cons, List.map_nil, Act.eval, Array.getD_eq_getD_getElem?, Option.getD_some, e5, e6]; done) | (simp only [List.map_toArray, List.map_cons, List.map_nil, Act.eval, Array.getD_eq_getD_getElem?, Option.getD_some, e5, e6]; rfl)) ?_
      refine (HSM.out w' B.out).mono ?_
      rintro e w1 ⟨rfl, hB1⟩
      refine ⟨_, rfl, ?_⟩
      refine hK.out _ _ ⟨(by rw [ha.out]; exact putSel_upk 2 hb_ rfl rfl rfl), below_then B.out B.out.size hB1⟩
    refine steps_cons ?_ ?_
    · rintro b a w' ⟨ha, Q_B⟩ hb_ hon hoff
      refine ⟨_, rfl, fun K hK => ?_⟩
      have e2 : a.tmps[2]? = some (.pointer (some ⟨ga, 0, none⟩)) := by rw [ha]; exact (putSel_off rfl).trans rfl
      replace ha := Aside0.mk ha
      have B := Aside0.mk Q_B
      refine value_ (w1 := w') (v := .agg CX) (by rfl) rfl (exec_load_row 30 (.tmp 2) rfl (eval_of e2) (blk_below HA.out B.out) Try.underlying30 rfl HXS.out) ?_
      refine hK.out _ _ ⟨(by rw [ha.out]; exact putSel_upk 3 hb_ rfl rfl rfl), B.out⟩
    refine steps_cons ?_ ?_
    · rintro b a w' ⟨ha, Q_B⟩ hb_ hon hoff
      refine ⟨_, rfl, fun K hK => ?_⟩
      have e3 : a.tmps[3]? = some (.pointer (some ⟨gb, 0, none⟩)) := by rw [ha]; exact (putSel_off rfl).trans rfl
      replace ha := Aside0.mk ha
      have B := Aside0.mk Q_B
      refine value_ (w1 := w') (v := .agg CY) (by rfl) rfl (exec_load_row 30 (.tmp 3) rfl (eval_of e3) (blk_below HBB.out B.out) Try.underlying30 rfl HYS.out) ?_
      refine hK.out _ _ ⟨(by rw [ha.out]; exact putSel_upk 4 hb_ rfl rfl rfl), B.out⟩
    refine steps_cons ?_ ?_
    · rintro b a w' ⟨ha, Q_B⟩ hb_ hon hoff
      refine ⟨_, rfl, fun K hK => ?_⟩
      have e8 : a.tmps[8]? = some (.agg CX) := by rw [ha]; exact putSel_on (e := (3, 8, .agg CX)) 3 rfl rfl (hon 3 (by kernel_rfl)) rfl
      have e9 : a.tmps[9]? = some (.agg CY) := by rw [ha]; exact putSel_on (e := (4, 9, .agg CY)) 4 rfl rfl (hon 4 (by kernel_rfl)) rfl
      replace ha := Aside0.mk ha
      have B := Aside0.mk Q_B
      refine goes_ Try.func12 (by kernel_rfl) rfl #[.agg CX, .agg CY] (by rfl) rfl rfl (by first | (simp only [List.map_toArray, List.map_cons, List.map_nil, Act.eval, Array.getD_eq_getD_getElem?, Option.getD_some, e8, e9]; done) | (simp only [List.map_toArray, List.map_cons, List.map_nil, Act.eval, Array.getD_eq_getD_getElem?, Option.getD_some, e8, e9]; rfl)) ?_
      refine (HRS.out w' B.out).mono ?_
      rintro e w1 ⟨rfl, hB1⟩
      refine ⟨_, rfl, ?_⟩
      refine hK.out _ _ ⟨(by rw [ha.out]; exact putSel_upk 5 hb_ rfl rfl rfl), below_then B.out B.out.size hB1⟩
    refine steps_cons ?_ ?_
    · rintro b a w' ⟨ha, Q_B⟩ hb_ hon hoff
      refine ⟨_, rfl, fun K hK => ?_⟩
      have e7 : a.tmps[7]? = some (.bool q) := by rw [ha]; exact putSel_on (e := (2, 7, .bool q)) 2 rfl rfl (hon 2 (by kernel_rfl)) rfl
      have e10 : a.tmps[10]? = some (.bool q) := by rw [ha]; exact putSel_on (e := (5, 10, .bool q)) 5 rfl rfl (hon 5 (by kernel_rfl)) rfl
      replace ha := Aside0.mk ha
      have B := Aside0.mk Q_B
      refine value_ (w1 := w') (v := .bool true) (by rfl) rfl ?_ ?_
      · go_simp
        (try simp only [i64_w])
        try rfl
      refine hK.out _ _ ⟨(by rw [ha.out]; exact putSel_upk 6 hb_ rfl rfl rfl), Q_B⟩
    refine steps_cons ?_ ?_
    · rintro b a w' ⟨ha, Q_B⟩ hb_ hon hoff
      refine ⟨_, rfl, fun K hK => ?_⟩
      have e11 : a.tmps[11]? = some (.bool true) := by rw [ha]; exact putSel_on (e := (6, 11, .bool true)) 6 rfl rfl (hon 6 (by kernel_rfl)) rfl
      replace ha := Aside0.mk ha
      have B := Aside0.mk Q_B
      refine value_ (w1 := w') (v := .bool true) (by rfl) rfl ?_ ?_
      · go_simp
        (try simp only [i64_w])
        try rfl
      refine hK.out _ _ ⟨(by rw [ha.out]; exact putSel_upk 7 hb_ rfl rfl rfl), Q_B⟩
    refine steps_cons ?_ ?_
    · rintro b a w' ⟨ha, Q_B⟩ hb_ hon hoff
      refine ⟨_, rfl, fun K hK => ?_⟩
      have e2 : a.tmps[2]? = some (.pointer (some ⟨ga, 0, none⟩)) := by rw [ha]; exact (putSel_off rfl).trans rfl
      have e12 : a.tmps[12]? = some (.bool true) := by rw [ha]; exact putSel_on (e := (7, 12, .bool true)) 7 rfl rfl (hon 7 (by kernel_rfl)) rfl
      replace ha := Aside0.mk ha
      have B := Aside0.mk Q_B
      refine value_ (w1 := w') (v := .agg CX) (wanted_on rfl rfl rfl (e12.trans (by first | rfl | (simp [*]; done)))) rfl (exec_load_row 30 (.tmp 2) rfl (eval_of e2) (blk_below HA.out B.out) Try.underlying30 rfl HXS.out) ?_
      refine hK.out _ _ ⟨(by rw [ha.out]; exact putSel_upk 8 hb_ rfl rfl rfl), B.out⟩
    refine steps_cons ?_ ?_
    · rintro b a w' ⟨ha, Q_B⟩ hb_ hon hoff
      refine ⟨_, rfl, fun K hK => ?_⟩
      have e2 : a.tmps[2]? = some (.pointer (some ⟨ga, 0, none⟩)) := by rw [ha]; exact (putSel_off rfl).trans rfl
      have e12 : a.tmps[12]? = some (.bool true) := by rw [ha]; exact putSel_on (e := (7, 12, .bool true)) 7 rfl rfl (hon 7 (by kernel_rfl)) rfl
      replace ha := Aside0.mk ha
      have B := Aside0.mk Q_B
      refine value_ (w1 := w') (v := .agg CX) (wanted_on rfl rfl rfl (e12.trans (by first | rfl | (simp [*]; done)))) rfl (exec_load_row 30 (.tmp 2) rfl (eval_of e2) (blk_below HA.out B.out) Try.underlying30 rfl HXS.out) ?_
      refine hK.out _ _ ⟨(by rw [ha.out]; exact putSel_upk 9 hb_ rfl rfl rfl), B.out⟩
    refine steps_cons ?_ ?_
    · rintro b a w' ⟨ha, Q_B⟩ hb_ hon hoff
      refine ⟨_, rfl, fun K hK => ?_⟩
      have e13 : a.tmps[13]? = some (.agg CX) := by rw [ha]; exact putSel_on (e := (8, 13, .agg CX)) 8 rfl rfl (hon 8 (by kernel_rfl)) rfl
      have e14 : a.tmps[14]? = some (.agg CX) := by rw [ha]; exact putSel_on (e := (9, 14, .agg CX)) 9 rfl rfl (hon 9 (by kernel_rfl)) rfl
      have e12 : a.tmps[12]? = some (.bool true) := by rw [ha]; exact putSel_on (e := (7, 12, .bool true)) 7 rfl rfl (hon 7 (by kernel_rfl)) rfl
      replace ha := Aside0.mk ha
      have B := Aside0.mk Q_B
      refine goes_ Try.func14 (by kernel_rfl) rfl #[.agg CX, .agg CX] (wanted_on rfl rfl rfl (e12.trans (by first | rfl | (simp [*]; done)))) rfl rfl (by first | (simp only [List.map_toArray, List.map_cons, List.map_nil, Act.eval, Array.getD_eq_getD_getElem?, Option.getD_some, e13, e14, e12]; done) | (simp only [List.map_toArray, List.map_cons, List.map_nil, Act.eval, Array.getD_eq_getD_getElem?, Option.getD_some, e13, e14, e12]; rfl)) ?_
      refine (HSS.out w' B.out).mono ?_
      rintro e w1 ⟨rfl, hB1⟩
      refine ⟨_, rfl, ?_⟩
      refine hK.out _ _ ⟨(by rw [ha.out]; exact putSel_upk 10 hb_ rfl rfl rfl), below_then B.out B.out.size hB1⟩
    refine steps_cons ?_ ?_
    · rintro b a w' ⟨ha, Q_B⟩ hb_ hon hoff
      refine ⟨_, rfl, fun K hK => ?_⟩
      have e12 : a.tmps[12]? = some (.bool true) := by rw [ha]; exact putSel_on (e := (7, 12, .bool true)) 7 rfl rfl (hon 7 (by kernel_rfl)) rfl
      have e15 : a.tmps[15]? = some (.bool true) := by rw [ha]; exact putSel_on (e := (10, 15, .bool true)) 10 rfl rfl (hon 10 (by kernel_rfl)) rfl
      replace ha := Aside0.mk ha
      have B := Aside0.mk Q_B
      refine value_ (w1 := w') (v := .bool true) (by rfl) rfl ?_ ?_
      · go_simp
        (try simp only [i64_w])
        try rfl
      refine hK.out _ _ ⟨(by rw [ha.out]; exact putSel_upk 11 hb_ rfl rfl rfl), Q_B⟩
    refine steps_cons ?_ ?_
    · rintro b a w' ⟨ha, Q_B⟩ hb_ hon hoff
      refine ⟨_, rfl, fun K hK => ?_⟩
      have e16 : a.tmps[16]? = some (.bool true) := by rw [ha]; exact putSel_on (e := (11, 16, .bool true)) 11 rfl rfl (hon 11 (by kernel_rfl)) rfl
      replace ha := Aside0.mk ha
      have B := Aside0.mk Q_B
      refine value_ (w1 := w') (v := .bool true) (by rfl) rfl ?_ ?_
      · go_simp
        (try simp only [i64_w])
        try rfl
      refine hK.out _ _ ⟨(by rw [ha.out]; exact putSel_upk 12 hb_ rfl rfl rfl), Q_B⟩
    refine steps_cons ?_ ?_
    · rintro b a w' ⟨ha, Q_B⟩ hb_ hon hoff
      refine ⟨_, rfl, fun K hK => ?_⟩
      have e17 : a.tmps[17]? = some (.bool true) := by rw [ha]; exact putSel_on (e := (12, 17, .bool true)) 12 rfl rfl (hon 12 (by kernel_rfl)) rfl
      replace ha := Aside0.mk ha
      have B := Aside0.mk Q_B
      refine goes_ Try.func13 (by kernel_rfl) rfl #[] (wanted_on rfl rfl rfl (e17.trans (by first | rfl | (simp [*]; done)))) rfl rfl (by first | (simp only [List.map_toArray, List.map_cons, List.map_nil, Act.eval, Array.getD_eq_getD_getElem?, Option.getD_some, e17]; done) | (simp only [List.map_toArray, List.map_cons, List.map_nil, Act.eval, Array.getD_eq_getD_getElem?, Option.getD_some, e17]; rfl)) ?_
      refine (awake_calls w').mono ?_
      rintro e w1 ⟨rfl, hB1⟩
      refine ⟨_, rfl, ?_⟩
      refine hK.out _ _ ⟨(by rw [ha.out]; exact putSel_upk 13 hb_ rfl rfl rfl), below_then B.out B.out.size hB1⟩
    refine steps_cons ?_ ?_
    · rintro b a w' ⟨ha, Q_B⟩ hb_ hon hoff
      refine ⟨_, rfl, fun K hK => ?_⟩
      have e17 : a.tmps[17]? = some (.bool true) := by rw [ha]; exact putSel_on (e := (12, 17, .bool true)) 12 rfl rfl (hon 12 (by kernel_rfl)) rfl
      have e18 : a.tmps[18]? = some (.bool true) := by rw [ha]; exact putSel_on (e := (13, 18, .bool true)) 13 rfl rfl (hon 13 (by kernel_rfl)) rfl
      replace ha := Aside0.mk ha
      have B := Aside0.mk Q_B
      refine value_ (w1 := w') (v := .bool true) (by rfl) rfl ?_ ?_
      · go_simp
        (try simp only [i64_w])
        try rfl
      refine hK.out _ _ ⟨(by rw [ha.out]; exact putSel_upk 14 hb_ rfl rfl rfl), Q_B⟩
    refine steps_cons ?_ ?_
    · rintro b a w' ⟨ha, Q_B⟩ hb_ hon hoff
      refine ⟨_, rfl, fun K hK => ?_⟩
      have e19 : a.tmps[19]? = some (.bool true) := by rw [ha]; exact putSel_on (e := (14, 19, .bool true)) 14 rfl rfl (hon 14 (by kernel_rfl)) rfl
      replace ha := Aside0.mk ha
      have B := Aside0.mk Q_B
      refine value_ (w1 := w') (v := .bool true) (by rfl) rfl ?_ ?_
      · go_simp
        (try simp only [i64_w])
        try rfl
      refine hK.out _ _ ⟨(by rw [ha.out]; exact putSel_upk 15 hb_ rfl rfl rfl), Q_B⟩
    exact steps_nil
  rintro b a w' hall ⟨ha, Q_B⟩
  clear B
  have hb0_ := hall 0 (by kernel_rfl)
  have hb1_ := hall 1 (by kernel_rfl)
  have hb2_ := hall 2 (by kernel_rfl)
  have hb3_ := hall 3 (by kernel_rfl)
  have hb4_ := hall 4 (by kernel_rfl)
  have hb5_ := hall 5 (by kernel_rfl)
  have hb6_ := hall 6 (by kernel_rfl)
  have hb7_ := hall 7 (by kernel_rfl)
  have hb8_ := hall 8 (by kernel_rfl)
  have hb9_ := hall 9 (by kernel_rfl)
  have hb10_ := hall 10 (by kernel_rfl)
  have hb11_ := hall 11 (by kernel_rfl)
  have hb12_ := hall 12 (by kernel_rfl)
  have hb13_ := hall 13 (by kernel_rfl)
  have hb14_ := hall 14 (by kernel_rfl)
  have hb15_ := hall 15 (by kernel_rfl)
  subst ha
  simp only [putSel, hb0_, hb1_, hb2_, hb3_, hb4_, hb5_, hb6_, hb7_, hb8_, hb9_, hb10_, hb11_, hb12_, hb13_, hb14_, hb15_, if_true, Act.put, List.setIfInBounds_toArray, List.set_cons_zero, List.set_cons_succ]
  have B := Aside0.mk Q_B
  clear Q_B
  clear hall hb0_ hb1_ hb2_ hb3_ hb4_ hb5_ hb6_ hb7_ hb8_ hb9_ hb10_ hb11_ hb12_ hb13_ hb14_ hb15_
  have HB2 := Lib.hid B.out
  clear B
  go_wp2
  go_ret
  refine ⟨rfl, ?_⟩
  rw [hga]
  exact HB.out.trans (HB2.out.mono (by have := HZ.out; omega))
theorem sames_row {w : World} (x : Chk) (L : Lay) (hx : CR w x L) (ox : OkC x) (y : Chk) (M : Lay) (hy : CR w y M) (oy : OkC y) :
    Calls Try.prog 4 #[.agg (CV x L), .agg (CV y M)] w fun e w' => e = .returned (.bool true) ∧ Below w.heap.size w w' := sames_walk w x y L M hx hy ox.okB oy.okB
end Go.Proofs.Ytjmadnpicidbeaa.Ch
end
section
namespace Go.Proofs.Ytjmadnpicidbeaa.chunkSames
open Go.ChangeShapes Go.WideShapes Go.ChangeAt Go.RowKit Go.Proofs.Ytjmadnpicidbeaa.Base
open Go.ChangeMaps (open_string shut_string)
set_option linter.unusedVariables false
theorem contract (H : Type) (enc : TypeId × Value → H) (W : World) (base : Nat) (args : Array Value) (ds gs : List (DataW H)) (before : List MemPlace)
    (hval : ∀ (j : Nat) t v, Try.f4.params[j]? = some t → args[j]? = some v → Value.okWide Try.prog W .any base t v)
    (hW : DataW.Whole enc Try.prog Try.f4.params.toList Rows.chunkSamesSpec.vars false W args.toList ds gs before)
    (hsz0 : (DataW.weightsEach Try.prog (Try.f4.params.toList ++ (OpenSpec.ofChange Rows.chunkSamesSpec).bare.plain.varTypes Try.prog) (ds ++ gs)).all (· ≤ reachBytes) = true)
    (hL : laidMetH Try.prog Rows.chunkSamesRow.laid W) :
    Calls Try.prog 4 args W fun e W' => ∃ v, e = .returned v ∧ Rows.chunkSamesSpec.post enc Try.prog Try.f4 false true false false W args v W' := by
  have hW' := hW
  obtain ⟨p, q, hA0, hV, rfl, hfz, hnd⟩ := hW
  have hA : DataW.TrodAll enc Try.prog W 0 (fun _ => true) true Try.f4.params.toList args.toList ds p := hA0
  rw [Try.params4] at hA hval
  obtain ⟨v0, vs0, d0, ds0, p0, q0, hargs, rfl, rfl, h0, r0⟩ := trodAll_cons hA
  obtain ⟨v1, vs1, d1, ds1, p1, q1, rfl, rfl, rfl, h1, r1⟩ := trodAll_cons r0
  obtain ⟨rfl, rfl, rfl⟩ := trodAll_nil r1
  obtain rfl : args = #[v0, v1] := by cases args; simp_all
  obtain ⟨rfl, rfl⟩ := trodVars_none hV
  have hsz := hsz0
  rw [Try.params4] at hsz
  have k0 := h0
  have lt0 : ∀ x ∈ p0, x.block < W.heap.size := by obtain ⟨m, hm⟩ := k0; exact DataW.trod_lt m _ _ _ hm
  obtain ⟨x0, L0, rfl, xr0, xo0⟩ := Ch.open_chunk h0 (short_part hsz (j := 0) rfl rfl)
  have k1 := h1
  have lt1 : ∀ x ∈ p1, x.block < W.heap.size := by obtain ⟨m, hm⟩ := k1; exact DataW.trod_lt m _ _ _ hm
  obtain ⟨x1, L1, rfl, xr1, xo1⟩ := Ch.open_chunk h1 (short_part hsz (j := 1) rfl rfl)
  clear hA0 hsz hsz0
  refine (Ch.sames_row x0 L0 xr0 xo0 x1 L1 xr1 xo1).mono fun e W' ⟨he, bel⟩ => ?_
  subst he
  exact ⟨_, rfl, _, _, _, [], _, [], hW', trodAll_mk1 (shut_bool Try.underlying4 _), (trodAll_cons_mk (Below.trod laidOut (by kernel_rfl) (of_decide_eq_true (by kernel_rfl)) k0 bel lt0) (trodAll_cons_mk (Below.trod laidOut (by kernel_rfl) (of_decide_eq_true (by kernel_rfl)) k1 bel lt1) trodAll_mk0)), rfl, bel.frame _, fun h => by cases h⟩
noncomputable def laidWorld (os : Os) : World := World.holding Try.prog os ⟨#[], #[], []⟩
theorem laid_met (os : Os) : laidMet Try.prog Rows.chunkSamesRow.laid ((laidWorld os).forCall (fun _ _ => 0) ⟨#[], #[.agg #[.int .u8 0, .int .u8 0, .int .u32 0, .int .u16 0, .int .u16 0, .int .u32 0, .int .u32 0, .int .u32 0, .int .u16 0, .int .u16 0, .slice none 0 0, .slice none 0 0, .slice none 0 0, .slice none 0 0, .slice none 0 0], .agg #[.int .u8 0, .int .u8 0, .int .u32 0, .int .u16 0, .int .u16 0, .int .u32 0, .int .u32 0, .int .u32 0, .int .u16 0, .int .u16 0, .slice none 0 0, .slice none 0 0, .slice none 0 0, .slice none 0 0, .slice none 0 0]], []⟩).memory :=
  laidMet_of_run' 8 (by kernel_rfl) (by kernel_rfl)
theorem reads (os : Os) {H : Type} (enc : TypeId × Value → H) : ∃ places, DataW.whole enc Try.prog ((laidWorld os).forCall (fun _ _ => 0) ⟨#[], #[.agg #[.int .u8 0, .int .u8 0, .int .u32 0, .int .u16 0, .int .u16 0, .int .u32 0, .int .u32 0, .int .u32 0, .int .u16 0, .int .u16 0, .slice none 0 0, .slice none 0 0, .slice none 0 0, .slice none 0 0, .slice none 0 0], .agg #[.int .u8 0, .int .u8 0, .int .u32 0, .int .u16 0, .int .u16 0, .int .u32 0, .int .u32 0, .int .u32 0, .int .u16 0, .int .u16 0, .slice none 0 0, .slice none 0 0, .slice none 0 0, .slice none 0 0, .slice none 0 0]], []⟩).memory Try.f4.params.toList Rows.chunkSamesSpec.vars false (#[.agg #[.int .u8 0, .int .u8 0, .int .u32 0, .int .u16 0, .int .u16 0, .int .u32 0, .int .u32 0, .int .u32 0, .int .u16 0, .int .u16 0, .slice none 0 0, .slice none 0 0, .slice none 0 0, .slice none 0 0, .slice none 0 0], .agg #[.int .u8 0, .int .u8 0, .int .u32 0, .int .u16 0, .int .u16 0, .int .u32 0, .int .u32 0, .int .u32 0, .int .u16 0, .int .u16 0, .slice none 0 0, .slice none 0 0, .slice none 0 0, .slice none 0 0, .slice none 0 0]] : Array Value).toList 8 = some ([.agg [.lit (.int .u8 0), .lit (.int .u8 0), .lit (.int .u32 0), .lit (.int .u16 0), .lit (.int .u16 0), .lit (.int .u32 0), .lit (.int .u32 0), .lit (.int .u32 0), .lit (.int .u16 0), .lit (.int .u16 0), .nil, .nil, .nil, .nil, .nil], .agg [.lit (.int .u8 0), .lit (.int .u8 0), .lit (.int .u32 0), .lit (.int .u16 0), .lit (.int .u16 0), .lit (.int .u32 0), .lit (.int .u32 0), .lit (.int .u32 0), .lit (.int .u16 0), .lit (.int .u16 0), .nil, .nil, .nil, .nil, .nil]], [], places) :=
  ⟨[], by kernel_rfl⟩
set_option maxRecDepth 100000 in
theorem lifted (os : Os) (started : os.Started) (H : Type) (enc : TypeId × Value → H) (F : Stop.Interp) :
    ReturnsInHanded {} Try.checked os 4 .any ((OpenSpec.ofChange Rows.chunkSamesSpec).preRow enc Try.prog Try.f4 Rows.chunkSamesRow.domain false Rows.chunkSamesRow.laid) (((OpenSpec.ofChange Rows.chunkSamesSpec).at F).post enc Try.prog Try.f4 false true false false) := by
  obtain ⟨places, hx⟩ := reads os enc
  refine returnsInHanded_of_row (C := Try.checked) (s := (OpenSpec.ofChange Rows.chunkSamesSpec)) own started (by kernel_rfl) Try.func4
    (witness_row_at (enc := enc) (C := Try.checked) false (laidWorld os) #[.agg #[.int .u8 0, .int .u8 0, .int .u32 0, .int .u16 0, .int .u16 0, .int .u32 0, .int .u32 0, .int .u32 0, .int .u16 0, .int .u16 0, .slice none 0 0, .slice none 0 0, .slice none 0 0, .slice none 0 0, .slice none 0 0], .agg #[.int .u8 0, .int .u8 0, .int .u32 0, .int .u16 0, .int .u16 0, .int .u32 0, .int .u32 0, .int .u32 0, .int .u16 0, .int .u16 0, .slice none 0 0, .slice none 0 0, .slice none 0 0, .slice none 0 0, .slice none 0 0]] rfl (by kernel_rfl) (by kernel_rfl) (by kernel_rfl)
      (OpenSpec.preRow_of_cond 8 hx (by kernel_rfl) (fun k hk => by cases hk) (by kernel_rfl) (laid_met os))) ?_
  intro W base args ds gs before hval hW _ hcond hsz hL _ _
  exact contract H enc W base args ds gs before hval hW hsz hL
theorem said : Rows.ChunkSamesSaid :=
  OpenClaim.holds_of_cond 4 Try.f4 rfl rfl rfl rfl rfl rfl rfl ⟨rfl, rfl, rfl, rfl, rfl⟩ rfl rfl rfl rfl rfl (by kernel_rfl) Try.func4 (by kernel_rfl)
    (of_decide_eq_true (by kernel_rfl)) (by unfold Func.isWrapper; first | (rw [if_pos (by decide +kernel)]; kernel_rfl) | (rw [if_neg (by decide +kernel)]; exact ⟨rfl, rfl⟩))
    (fun os started H enc _ F => by rw [OpenClaim.pre_eq_preRow]; exact lifted os started H enc F)
theorem chunkSames_holds : Rows.ChunkSamesSaid := said
#print axioms chunkSames_holds
end Go.Proofs.Ytjmadnpicidbeaa.chunkSames
end
