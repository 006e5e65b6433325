/- The statement MacBytes, walked. -/
import Derived.Test.YtemomlohmnclkaaMacJ
import Derived.Test.YtemomlohmnclkaaRegB
namespace Go.Proofs.Ytemomlohmnclkaa.Mac
open Go.RowKit Go.Proofs.YtemomlohmnclkaaW.PrintWords Go.Proofs.YtemomlohmnclkaaW.PrintLast Go.Proofs.Ytemomlohmnclkaa.Base
set_option linter.unusedVariables false
set_option linter.unusedSimpArgs false
def macBytesT1 : Bool × List (List Nat × List Nat) := (true, [([], []), ([], []), ([0, 1], [0, 1]), ([], []), ([], []), ([3, 4, 2], [3, 4]), ([2, 5], [2, 5]), ([6, 5], [6]), ([7, 7], [7]), ([7, 8], [7, 8]), ([9, 8, 0, 1, 2, 3, 4, 5, 6, 7, 8, 9], [9])])
def macBytesB1 : List Nat := [0, 0, 3, 0, 0, 31, 63, 127, 255, 511, 1023]
theorem macBytestab1 : Go.Proofs.YtemomlohmnclkaaW.PrintLast.rtab .any (Go.Proofs.YtemomlohmnclkaaW.PrintLast.opsOf Try.f3 1) = macBytesT1 := by kernel_rfl
theorem macBytesbits1 : Go.Proofs.YtemomlohmnclkaaW.PrintLast.waitsOk macBytesT1.2 macBytesB1 = true := by kernel_rfl
theorem key_size {k : List UInt8} (hk : k.length = 16) : (Try.prog.info? 23).map (·.size) = some (keyV k).size := by
  have hs : (keyV k).size = 16 := by rw [keyV_size, hk]
  have e : (Try.prog.info? 23).map (·.size) = some 16 := by kernel_rfl
  rw [hs]
  exact e
theorem macBytes_walk (k : List UInt8) (hk : k.length = 16) (w : World) (A : Option Addr) (c : Nat) (l : List UInt8) (hb : byte.C w A l.length l) (hm : l.length ≤ 140737488355328) :
    Calls Try.prog 3 #[.agg (keyV k), .slice A l.length c] w fun e w' => e = .returned (.bool true) ∧ Below w.heap.size w w' := by
  have HK := Lib.hid (show (w.alloc (.cells (keyV k) 23)).heap[w.heap.size]? = some (.cells (keyV k) 23 (0, 0)) from heap_alloc_new _ _)
  have HB := Lib.hid ((Below.refl w.heap.size w).alloc (Nat.le_refl _) (.cells (keyV k) 23))
  have HC := Lib.hid (Kd.C_below hb HB.out)
  have HC1 := Lib.hid (fun (W : World) (h : byte.C W A l.length l) => bytes_calls W k hk A c l h hm)
  have HC2 := Lib.hid (fun (W : World) (h : byte.C W A l.length l) => refBytes_calls W k hk A c l h hm)
  have HKK := Lib.hid (key_size hk)
  clear hb
  generalize bytesS k l = z at *
  go_enter Try.func3, Try.ntmps3
  go_upto_region 1 with (fail)
  generalize w.alloc (.cells (keyV k) 23) = W0 at *
  generalize keyV k = KV at *
  generalize hg : w.heap.size = g at *
  have B := True.intro
  refine start_ (n := 11) (S := fun w' => True) (ds := []) #[false, false, false, false, false, false, false, false, false, false, false] (by kernel_rfl) rfl rfl trivial (fun hHeld => ?_)
  refine with_tabW macBytestab1 macBytesbits1 (fun HT_ HW_ => ?_)
  refine pure_ (i := 1) (N := some 6) (v := ?_) (a' := ?_) #[false, true, false, false, false, false, false, false, false, false, false] rfl rfl (any_of HT_.out (by kernel_rfl)) (fun _ _ _ h => h) (Or.inl ⟨by rfl, ?_⟩) ?_ ?_
  rotate_left
  · intro w'
    go_simp
    with_reducible rfl
  rotate_left
  · simp only [Act.put, List.setIfInBounds_toArray, List.set_cons_zero, List.set_cons_succ, i64_w, i32_w]
    rfl
  refine pure_ (i := 4) (N := some 9) (v := ?_) (a' := ?_) #[false, true, false, false, true, false, false, false, false, false, false] rfl rfl (any_of HT_.out (by kernel_rfl)) (fun _ _ _ h => h) (Or.inl ⟨by rfl, ?_⟩) ?_ ?_
  rotate_left
  · intro w'
    go_simp
    with_reducible rfl
  rotate_left
  · simp only [Act.put, List.setIfInBounds_toArray, List.set_cons_zero, List.set_cons_succ, i64_w, i32_w]
    rfl
  refine inv_at [0, 2, 3, 5, 6, 7, 8, 9, 10] (fun a0_ b a w' => a = putSel a0_ b [(0, 5, .agg KV), (2, 7, .int .u64 (z.toNat : Int)), (3, 8, .agg KV), (5, 10, .int .u64 (z.toNat : Int)), (6, 11, .bool true), (7, 12, .bool true), (8, 13, .bool true), (9, 14, .bool true), (10, 4, .bool true)] ∧ (Below W0.heap.size W0 w')) HT_.out HW_.out (by kernel_rfl) (by kernel_rfl) ?_ ?_ ?_
  · exact ⟨by simp only [putSel, Bool.false_eq_true, if_false], below_drew (Below.refl _ _)⟩
  · skip
    clear B
    refine steps_cons ?_ ?_
    · rintro b a w' ⟨ha, Q_B⟩ hb_ hon hoff
      refine ⟨_, rfl, fun K hK => ?_⟩
      have e2 : a.tmps[2]? = some (.pointer (some ⟨g, 0, none⟩)) := by rw [ha]; exact (putSel_off rfl).trans rfl
      replace ha := Aside0.mk ha
      have B := Aside0.mk Q_B
      refine value_ (w1 := w') (v := .agg KV) (by rfl) rfl (exec_load_row 23 (.tmp 2) rfl (eval_of e2) (blk_below HK.out B.out) Try.underlying23 rfl HKK.out) ?_
      refine hK.out _ _ ⟨(by rw [ha.out]; exact putSel_upk 0 hb_ rfl rfl rfl), B.out⟩
    refine steps_cons ?_ ?_
    · rintro b a w' ⟨ha, Q_B⟩ hb_ hon hoff
      refine ⟨_, rfl, fun K hK => ?_⟩
      have e5 : a.tmps[5]? = some (.agg KV) := by rw [ha]; exact putSel_on (e := (0, 5, .agg KV)) 0 rfl rfl (hon 0 (by kernel_rfl)) rfl
      have e6 : a.tmps[6]? = some (.slice A l.length c) := by rw [ha]; exact (putSel_off rfl).trans rfl
      replace ha := Aside0.mk ha
      have B := Aside0.mk Q_B
      refine goes_ Try.func7 (by kernel_rfl) rfl #[.agg KV, .slice A l.length c] (by rfl) rfl rfl (by first | (simp only [List.map_toArray, List.map_cons, List.map_nil, Act.eval, Array.getD_eq_getD_getElem?, Option.getD_some, e5, e6]; done) | (simp only [List.map_toArray, List.map_cons, List.map_nil, Act.eval, Array.getD_eq_getD_getElem?, Option.getD_some, e5, e6]; rfl)) ?_
      refine (HC1.out w' (Kd.C_below HC.out B.out)).mono ?_
      rintro e w1 ⟨rfl, hB1⟩
      refine ⟨_, rfl, ?_⟩
      refine hK.out _ _ ⟨(by rw [ha.out]; exact putSel_upk 1 hb_ rfl rfl rfl), B.out.trans (hB1.mono B.out.size)⟩
    refine steps_cons ?_ ?_
    · rintro b a w' ⟨ha, Q_B⟩ hb_ hon hoff
      refine ⟨_, rfl, fun K hK => ?_⟩
      have e2 : a.tmps[2]? = some (.pointer (some ⟨g, 0, none⟩)) := by rw [ha]; exact (putSel_off rfl).trans rfl
      replace ha := Aside0.mk ha
      have B := Aside0.mk Q_B
      refine value_ (w1 := w') (v := .agg KV) (by rfl) rfl (exec_load_row 23 (.tmp 2) rfl (eval_of e2) (blk_below HK.out B.out) Try.underlying23 rfl HKK.out) ?_
      refine hK.out _ _ ⟨(by rw [ha.out]; exact putSel_upk 2 hb_ rfl rfl rfl), B.out⟩
    refine steps_cons ?_ ?_
    · rintro b a w' ⟨ha, Q_B⟩ hb_ hon hoff
      refine ⟨_, rfl, fun K hK => ?_⟩
      have e8 : a.tmps[8]? = some (.agg KV) := by rw [ha]; exact putSel_on (e := (3, 8, .agg KV)) 2 rfl rfl (hon 3 (by kernel_rfl)) rfl
      have e9 : a.tmps[9]? = some (.slice A l.length c) := by rw [ha]; exact (putSel_off rfl).trans rfl
      replace ha := Aside0.mk ha
      have B := Aside0.mk Q_B
      refine goes_ Try.func8 (by kernel_rfl) rfl #[.agg KV, .slice A l.length c] (by rfl) rfl rfl (by first | (simp only [List.map_toArray, List.map_cons, List.map_nil, Act.eval, Array.getD_eq_getD_getElem?, Option.getD_some, e8, e9]; done) | (simp only [List.map_toArray, List.map_cons, List.map_nil, Act.eval, Array.getD_eq_getD_getElem?, Option.getD_some, e8, e9]; rfl)) ?_
      refine (HC2.out w' (Kd.C_below HC.out B.out)).mono ?_
      rintro e w1 ⟨rfl, hB1⟩
      refine ⟨_, rfl, ?_⟩
      refine hK.out _ _ ⟨(by rw [ha.out]; exact putSel_upk 3 hb_ rfl rfl rfl), B.out.trans (hB1.mono B.out.size)⟩
    refine steps_cons ?_ ?_
    · rintro b a w' ⟨ha, Q_B⟩ hb_ hon hoff
      refine ⟨_, rfl, fun K hK => ?_⟩
      have e7 : a.tmps[7]? = some (.int .u64 (z.toNat : Int)) := by rw [ha]; exact putSel_on (e := (2, 7, .int .u64 (z.toNat : Int))) 1 rfl rfl (hon 2 (by kernel_rfl)) rfl
      have e10 : a.tmps[10]? = some (.int .u64 (z.toNat : Int)) := by rw [ha]; exact putSel_on (e := (5, 10, .int .u64 (z.toNat : Int))) 3 rfl rfl (hon 5 (by kernel_rfl)) rfl
      replace ha := Aside0.mk ha
      have B := Aside0.mk Q_B
      refine value_ (w1 := w') (v := .bool true) (by rfl) rfl ?_ ?_
      · go_simp
        (try simp only [i64_w])
        try rfl
      refine hK.out _ _ ⟨(by rw [ha.out]; exact putSel_upk 4 hb_ rfl rfl rfl), Q_B⟩
    refine steps_cons ?_ ?_
    · rintro b a w' ⟨ha, Q_B⟩ hb_ hon hoff
      refine ⟨_, rfl, fun K hK => ?_⟩
      have e11 : a.tmps[11]? = some (.bool true) := by rw [ha]; exact putSel_on (e := (6, 11, .bool true)) 4 rfl rfl (hon 6 (by kernel_rfl)) rfl
      replace ha := Aside0.mk ha
      have B := Aside0.mk Q_B
      refine value_ (w1 := w') (v := .bool true) (by rfl) rfl ?_ ?_
      · go_simp
        (try simp only [i64_w])
        try rfl
      refine hK.out _ _ ⟨(by rw [ha.out]; exact putSel_upk 5 hb_ rfl rfl rfl), Q_B⟩
    refine steps_cons ?_ ?_
    · rintro b a w' ⟨ha, Q_B⟩ hb_ hon hoff
      refine ⟨_, rfl, fun K hK => ?_⟩
      have e12 : a.tmps[12]? = some (.bool true) := by rw [ha]; exact putSel_on (e := (7, 12, .bool true)) 5 rfl rfl (hon 7 (by kernel_rfl)) rfl
      replace ha := Aside0.mk ha
      have B := Aside0.mk Q_B
      refine goes_ Try.func9 (by kernel_rfl) rfl #[] (wanted_on rfl rfl rfl (e12.trans (by first | rfl | (simp [*]; done)))) rfl rfl (by first | (simp only [List.map_toArray, List.map_cons, List.map_nil, Act.eval, Array.getD_eq_getD_getElem?, Option.getD_some, e12]; done) | (simp only [List.map_toArray, List.map_cons, List.map_nil, Act.eval, Array.getD_eq_getD_getElem?, Option.getD_some, e12]; rfl)) ?_
      refine (awake_calls w').mono ?_
      rintro e w1 ⟨rfl, hB1⟩
      refine ⟨_, rfl, ?_⟩
      refine hK.out _ _ ⟨(by rw [ha.out]; exact putSel_upk 6 hb_ rfl rfl rfl), B.out.trans (hB1.mono B.out.size)⟩
    refine steps_cons ?_ ?_
    · rintro b a w' ⟨ha, Q_B⟩ hb_ hon hoff
      refine ⟨_, rfl, fun K hK => ?_⟩
      have e12 : a.tmps[12]? = some (.bool true) := by rw [ha]; exact putSel_on (e := (7, 12, .bool true)) 5 rfl rfl (hon 7 (by kernel_rfl)) rfl
      have e13 : a.tmps[13]? = some (.bool true) := by rw [ha]; exact putSel_on (e := (8, 13, .bool true)) 6 rfl rfl (hon 8 (by kernel_rfl)) rfl
      replace ha := Aside0.mk ha
      have B := Aside0.mk Q_B
      refine value_ (w1 := w') (v := .bool true) (by rfl) rfl ?_ ?_
      · go_simp
        (try simp only [i64_w])
        try rfl
      refine hK.out _ _ ⟨(by rw [ha.out]; exact putSel_upk 7 hb_ rfl rfl rfl), Q_B⟩
    refine steps_cons ?_ ?_
    · rintro b a w' ⟨ha, Q_B⟩ hb_ hon hoff
      refine ⟨_, rfl, fun K hK => ?_⟩
      have e14 : a.tmps[14]? = some (.bool true) := by rw [ha]; exact putSel_on (e := (9, 14, .bool true)) 7 rfl rfl (hon 9 (by kernel_rfl)) rfl
      replace ha := Aside0.mk ha
      have B := Aside0.mk Q_B
      refine value_ (w1 := w') (v := .bool true) (by rfl) rfl ?_ ?_
      · go_simp
        (try simp only [i64_w])
        try rfl
      refine hK.out _ _ ⟨(by rw [ha.out]; exact putSel_upk 8 hb_ rfl rfl rfl), Q_B⟩
    exact steps_nil
  rintro b a w' hall ⟨ha, Q_B⟩
  clear B
  have hb0_ := hall 0 (by kernel_rfl)
  have hb2_ := hall 2 (by kernel_rfl)
  have hb3_ := hall 3 (by kernel_rfl)
  have hb5_ := hall 5 (by kernel_rfl)
  have hb6_ := hall 6 (by kernel_rfl)
  have hb7_ := hall 7 (by kernel_rfl)
  have hb8_ := hall 8 (by kernel_rfl)
  have hb9_ := hall 9 (by kernel_rfl)
  have hb10_ := hall 10 (by kernel_rfl)
  subst ha
  simp only [putSel, hb0_, hb2_, hb3_, hb5_, hb6_, hb7_, hb8_, hb9_, hb10_, if_true, Act.put, List.setIfInBounds_toArray, List.set_cons_zero, List.set_cons_succ]
  have B := Aside0.mk Q_B
  clear Q_B
  clear hall hb0_ hb2_ hb3_ hb5_ hb6_ hb7_ hb8_ hb9_ hb10_
  go_wp2
  go_ret
  exact ⟨rfl, by rw [hg]; exact HB.out.trans (B.out.mono (by have := HB.out.size; omega))⟩
end Go.Proofs.Ytemomlohmnclkaa.Mac
