/- The seal of parts in the reference; the statement MacSums: walked. -/
import Derived.Test.YtemomlohmnclkaaMacM
import Derived.Test.YtemomlohmnclkaaRegB
namespace Go.Proofs.Ytemomlohmnclkaa.Mac
open Go.RowKit Go.Proofs.YtemomlohmnclkaaW.PrintWords Go.Proofs.YtemomlohmnclkaaW.PrintLast Go.Proofs.Ytemomlohmnclkaa.Base
set_option linter.unusedVariables false
set_option linter.unusedSimpArgs false
def refSumT1 : Bool × List (List Nat × List Nat) := (true, [([], []), ([], []), ([1], [1]), ([0, 2, 2], [0, 2]), ([3, 3, 0, 1, 2, 3], [3])])
def refSumB1 : List Nat := [0, 0, 2, 7, 15]
theorem refSumtab1 : Go.Proofs.YtemomlohmnclkaaW.PrintLast.rtab .any (Go.Proofs.YtemomlohmnclkaaW.PrintLast.opsOf Try.f14 1) = refSumT1 := by kernel_rfl
theorem refSumbits1 : Go.Proofs.YtemomlohmnclkaaW.PrintLast.waitsOk refSumT1.2 refSumB1 = true := by kernel_rfl
theorem refSum_calls (w : World) (k : List UInt8) (hk : k.length = 16) (A : Option Addr) (c : Nat) (ps : List (List UInt8)) (hp : bytesK.C w A ps.length ps) (hm : (rowL ps).length ≤ 140737488355328) :
    Calls Try.prog 14 #[.agg (keyV k), .slice A ps.length c] w fun e w' => e = .returned (.int .u64 ((sumS k ps).toNat : Int)) ∧ Below w.heap.size w w' := by
  have HK := Lib.hid (show (w.alloc (.cells (keyV k) 23)).heap[w.heap.size]? = some (.cells (keyV k) 23 (0, 0)) from heap_alloc_new _ _)
  have HB := Lib.hid ((Below.refl w.heap.size w).alloc (Nat.le_refl _) (.cells (keyV k) 23))
  have HP := Lib.hid (Kd.C_below hp HB.out)
  have HRW := Lib.hid (fun (W : World) (h : bytesK.C W A ps.length ps) => refRow_calls W A c ps h hm)
  have HBY := Lib.hid (fun (W : World) (A1 : Option Addr) (c1 : Nat) (h : byte.C W A1 (rowL ps).length (rowL ps)) => refBytes_calls W k hk A1 c1 (rowL ps) h hm)
  have HKK := Lib.hid (key_size hk)
  have hz : Hid (sumS k ps = bytesS k (rowL ps)) := rfl
  clear hp
  generalize sumS k ps = z at *
  rw [← hz.out] at HBY
  generalize rowL ps = L at *
  go_enter Try.func14, Try.ntmps14
  go_upto_region 1 with (fail)
  generalize w.alloc (.cells (keyV k) 23) = W0 at *
  generalize keyV k = KV at *
  generalize hg : w.heap.size = g at *
  have B := True.intro
  refine start_ (n := 5) (S := fun w' => True) (ds := []) #[false, false, false, false, false] (by kernel_rfl) rfl rfl trivial (fun hHeld => ?_)
  refine with_tabW refSumtab1 refSumbits1 (fun HT_ HW_ => ?_)
  refine pure_ (i := 1) (N := some 6) (v := ?_) (a' := ?_) #[false, true, false, false, false] rfl rfl (any_of HT_.out (by kernel_rfl)) (fun _ _ _ h => h) (Or.inl ⟨by rfl, ?_⟩) ?_ ?_
  rotate_left
  · intro w'
    go_simp
    with_reducible rfl
  rotate_left
  · simp only [Act.put, List.setIfInBounds_toArray, List.set_cons_zero, List.set_cons_succ, i64_w, i32_w]
    rfl
  refine inv_at [0, 2, 3, 4] (fun a0_ b a w' => ∃ (A1 : Option Addr) (c1 : Nat) (m2_ : Value), a = putSel a0_ b [(0, 5, .agg KV), (2, 7, m2_), (3, 8, .int .u64 (z.toNat : Int)), (4, 4, .int .u64 (z.toNat : Int))] ∧ (Below W0.heap.size W0 w') ∧ (b 2 = true → byte.C w' A1 L.length L) ∧ (b 2 = true → (m2_ : Value) = .slice A1 L.length c1)) HT_.out HW_.out (by kernel_rfl) (by kernel_rfl) ?_ ?_ ?_
  · exact ⟨none, 0, .bool false, by simp only [putSel, Bool.false_eq_true, if_false], below_drew (Below.refl _ _), fun h_ => absurd h_ (by decide), fun h_ => absurd h_ (by decide)⟩
  · skip
    clear B
    refine steps_cons ?_ ?_
    · rintro b a w' ⟨A1, c1, m2_, ha, Q_B, Q_C, Q_X2_⟩ hb_ hon hoff
      refine ⟨_, rfl, fun K hK => ?_⟩
      have e2 : a.tmps[2]? = some (.pointer (some ⟨g, 0, none⟩)) := by rw [ha]; exact (putSel_off rfl).trans rfl
      replace ha := Aside0.mk ha
      have B := Aside0.mk Q_B
      refine value_ (w1 := w') (v := .agg KV) (by rfl) rfl (exec_load_row 23 (.tmp 2) rfl (eval_of e2) (blk_below HK.out B.out) Try.underlying23 rfl HKK.out) ?_
      refine hK.out _ _ ⟨A1, c1, m2_, (by rw [ha.out]; exact putSel_upk 0 hb_ rfl rfl rfl), B.out, fun h0_ => (Q_C h0_), Q_X2_⟩
    refine steps_cons ?_ ?_
    · rintro b a w' ⟨A1, c1, m2_, ha, Q_B, Q_C, Q_X2_⟩ hb_ hon hoff
      refine ⟨_, rfl, fun K hK => ?_⟩
      have e6 : a.tmps[6]? = some (.slice A ps.length c) := by rw [ha]; exact (putSel_off rfl).trans rfl
      replace ha := Aside0.mk ha
      have B := Aside0.mk Q_B
      refine goes_ Try.func15 (by kernel_rfl) rfl #[.slice A ps.length c] (by rfl) rfl rfl (by first | (simp only [List.map_toArray, List.map_cons, List.map_nil, Act.eval, Array.getD_eq_getD_getElem?, Option.getD_some, e6]; done) | (simp only [List.map_toArray, List.map_cons, List.map_nil, Act.eval, Array.getD_eq_getD_getElem?, Option.getD_some, e6]; rfl)) ?_
      refine (HRW.out w' (Kd.C_below HP.out B.out)).mono ?_
      rintro e w1 ⟨v, rfl, hR, hB1⟩; obtain ⟨A2, c2, rfl, hle2, hC2⟩ := Kd.R_reads hR
      refine ⟨_, rfl, ?_⟩
      refine hK.out _ _ ⟨A2, c2, (.slice A2 L.length c2), (by rw [ha.out]; exact putSel_upk 1 hb_ rfl rfl rfl), B.out.trans (hB1.mono B.out.size), fun _ => hC2, fun _ => rfl⟩
    refine steps_cons ?_ ?_
    · rintro b a w' ⟨A1, c1, m2_, ha, Q_B, Q_C, Q_X2_⟩ hb_ hon hoff
      refine ⟨_, rfl, fun K hK => ?_⟩
      have e5 : a.tmps[5]? = some (.agg KV) := by rw [ha]; exact putSel_on (e := (0, 5, .agg KV)) 0 rfl rfl (hon 0 (by kernel_rfl)) rfl
      have e7 : a.tmps[7]? = some (m2_) := by rw [ha]; exact putSel_on (e := (2, 7, m2_)) 1 rfl rfl (hon 2 (by kernel_rfl)) rfl
      rw [Q_X2_ (hon 2 (by kernel_rfl))] at e7
      replace ha := Aside0.mk ha
      have B := Aside0.mk Q_B
      have C := Aside0.mk (Q_C (hon 2 (by kernel_rfl)))
      refine goes_ Try.func8 (by kernel_rfl) rfl #[.agg KV, .slice A1 L.length c1] (by rfl) rfl rfl (by first | (simp only [List.map_toArray, List.map_cons, List.map_nil, Act.eval, Array.getD_eq_getD_getElem?, Option.getD_some, e5, e7]; done) | (simp only [List.map_toArray, List.map_cons, List.map_nil, Act.eval, Array.getD_eq_getD_getElem?, Option.getD_some, e5, e7]; rfl)) ?_
      refine (HBY.out w' A1 c1 C.out).mono ?_
      rintro e w1 ⟨rfl, hB1⟩
      refine ⟨_, rfl, ?_⟩
      refine hK.out _ _ ⟨A1, c1, m2_, (by rw [ha.out]; exact putSel_upk 2 hb_ rfl rfl rfl), B.out.trans (hB1.mono B.out.size), fun _ => Kd.C_below C.out hB1, Q_X2_⟩
    refine steps_cons ?_ ?_
    · rintro b a w' ⟨A1, c1, m2_, ha, Q_B, Q_C, Q_X2_⟩ hb_ hon hoff
      refine ⟨_, rfl, fun K hK => ?_⟩
      have e8 : a.tmps[8]? = some (.int .u64 (z.toNat : Int)) := by rw [ha]; exact putSel_on (e := (3, 8, .int .u64 (z.toNat : Int))) 2 rfl rfl (hon 3 (by kernel_rfl)) rfl
      replace ha := Aside0.mk ha
      have B := Aside0.mk Q_B
      have C := Aside0.mk (Q_C (hon 2 (by kernel_rfl)))
      refine value_ (w1 := w') (v := .int .u64 (z.toNat : Int)) (by rfl) rfl ?_ ?_
      · go_simp
        (try simp only [i64_w])
        try rfl
      refine hK.out _ _ ⟨A1, c1, m2_, (by rw [ha.out]; exact putSel_upk 3 hb_ rfl rfl rfl), Q_B, Q_C, Q_X2_⟩
    exact steps_nil
  rintro b a w' hall ⟨A1, c1, m2_, ha, Q_B, Q_C, Q_X2_⟩
  clear B
  have hb0_ := hall 0 (by kernel_rfl)
  have hb2_ := hall 2 (by kernel_rfl)
  have hb3_ := hall 3 (by kernel_rfl)
  have hb4_ := hall 4 (by kernel_rfl)
  subst ha
  obtain rfl := Q_X2_ hb2_
  simp only [putSel, hb0_, hb2_, hb3_, hb4_, if_true, Act.put, List.setIfInBounds_toArray, List.set_cons_zero, List.set_cons_succ]
  have B := Aside0.mk Q_B
  clear Q_B
  have C := Aside0.mk (Q_C hb2_)
  clear Q_C
  clear hall hb0_ hb2_ hb3_ hb4_
  go_wp2
  go_ret
  exact ⟨rfl, by (try rw [hg]); exact HB.out.trans (B.out.mono (by have := HB.out.size; omega))⟩
def macSumsT1 : Bool × List (List Nat × List Nat) := (true, [([], []), ([], []), ([0, 1], [0, 1]), ([], []), ([], []), ([3, 4, 2], [3, 4]), ([2, 5], [2, 5]), ([6, 5], [6]), ([7], [7]), ([7], [7]), ([8, 9, 7, 7], [7, 8, 9]), ([7], [7]), ([7], [7]), ([12, 10, 7], [7, 12]), ([11, 13, 13, 7], [7, 11, 13]), ([10, 14, 7], [7, 10, 14]), ([7, 15], [7, 15]), ([16, 14], [16]), ([17, 17], [17]), ([17, 18], [17, 18]), ([19, 18, 0, 1, 2, 3, 4, 5, 6, 7, 8, 9, 10, 11, 12, 13, 14, 15, 16, 17, 18, 19], [19])])
def macSumsB1 : List Nat := [0, 0, 3, 0, 0, 31, 63, 127, 255, 255, 1023, 255, 255, 6143, 16383, 32767, 65535, 131071, 262143, 524287, 1048575]
theorem macSumstab1 : Go.Proofs.YtemomlohmnclkaaW.PrintLast.rtab .any (Go.Proofs.YtemomlohmnclkaaW.PrintLast.opsOf Try.f5 1) = macSumsT1 := by kernel_rfl
theorem macSumsbits1 : Go.Proofs.YtemomlohmnclkaaW.PrintLast.waitsOk macSumsT1.2 macSumsB1 = true := by kernel_rfl
set_option maxHeartbeats 4000000 in
theorem macSums_row (k : List UInt8) (hk : k.length = 16) {w : World} (A : Option Addr) (c : Nat) (ps : List (List UInt8)) (hp : bytesK.C w A ps.length ps) (hm : (rowL ps).length ≤ 140737488355328) :
    Calls Try.prog 5 #[.agg (keyV k), .slice A ps.length c] w fun e w' => e = .returned (.bool true) ∧ Below w.heap.size w w' := by
  have HK := Lib.hid (show (w.alloc (.cells (keyV k) 23)).heap[w.heap.size]? = some (.cells (keyV k) 23 (0, 0)) from heap_alloc_new _ _)
  have HB := Lib.hid ((Below.refl w.heap.size w).alloc (Nat.le_refl _) (.cells (keyV k) 23))
  have HP := Lib.hid (Kd.C_below hp HB.out)
  have HS1 := Lib.hid (fun (W : World) (h : bytesK.C W A ps.length ps) => sum_calls W k hk A c ps h hm)
  have HS2 := Lib.hid (fun (W : World) (h : bytesK.C W A ps.length ps) => refSum_calls W k hk A c ps h hm)
  have HRW := Lib.hid (fun (W : World) (h : bytesK.C W A ps.length ps) => refRow_calls W A c ps h hm)
  have HBY := Lib.hid (fun (W : World) (A1 : Option Addr) (c1 : Nat) (h : byte.C W A1 (rowL ps).length (rowL ps)) => bytes_calls W k hk A1 c1 (rowL ps) h hm)
  have HKK := Lib.hid (key_size hk)
  have hz : Hid (sumS k ps = bytesS k (rowL ps)) := rfl
  clear hp
  generalize sumS k ps = z at *
  rw [← hz.out] at HBY
  generalize rowL ps = L at *
  go_enter Try.func5, Try.ntmps5
  go_upto_region 1 with (fail)
  generalize w.alloc (.cells (keyV k) 23) = W0 at *
  generalize keyV k = KV at *
  generalize hg : w.heap.size = g at *
  have B := True.intro
  refine start_ (n := 21) (S := fun w' => True) (ds := []) #[false, false, false, false, false, false, false, false, false, false, false, false, false, false, false, false, false, false, false, false, false] (by kernel_rfl) rfl rfl trivial (fun hHeld => ?_)
  refine with_tabW macSumstab1 macSumsbits1 (fun HT_ HW_ => ?_)
  refine pure_ (i := 1) (N := some 6) (v := ?_) (a' := ?_) #[false, true, false, false, false, false, false, false, false, false, false, false, false, false, false, false, false, false, false, false, false] rfl rfl (any_of HT_.out (by kernel_rfl)) (fun _ _ _ h => h) (Or.inl ⟨by rfl, ?_⟩) ?_ ?_
  rotate_left
  · intro w'
    go_simp
    with_reducible rfl
  rotate_left
  · simp only [Act.put, List.setIfInBounds_toArray, List.set_cons_zero, List.set_cons_succ, i64_w, i32_w]
    rfl
  refine pure_ (i := 4) (N := some 9) (v := ?_) (a' := ?_) #[false, true, false, false, true, false, false, false, false, false, false, false, false, false, false, false, false, false, false, false, false] rfl rfl (any_of HT_.out (by kernel_rfl)) (fun _ _ _ h => h) (Or.inl ⟨by rfl, ?_⟩) ?_ ?_
  rotate_left
  · intro w'
    go_simp
    with_reducible rfl
  rotate_left
  · simp only [Act.put, List.setIfInBounds_toArray, List.set_cons_zero, List.set_cons_succ, i64_w, i32_w]
    rfl
  refine inv_at [0, 2, 3, 5, 6, 7, 8, 9, 10, 11, 12, 13, 14, 15, 16, 17, 18, 19, 20] (fun a0_ b a w' => ∃ (A1 : Option Addr) (c1 : Nat) (m13_ : Value), a = putSel a0_ b [(0, 5, .agg KV), (2, 7, .int .u64 (z.toNat : Int)), (3, 8, .agg KV), (5, 10, .int .u64 (z.toNat : Int)), (6, 11, .bool true), (7, 12, .bool true), (8, 13, .agg KV), (9, 14, .slice A ps.length c), (10, 15, .int .u64 (z.toNat : Int)), (11, 16, .agg KV), (12, 17, .slice A ps.length c), (13, 18, m13_), (14, 19, .int .u64 (z.toNat : Int)), (15, 20, .bool true), (16, 21, .bool true), (17, 22, .bool true), (18, 23, .bool true), (19, 24, .bool true), (20, 4, .bool true)] ∧ (Below W0.heap.size W0 w') ∧ (b 13 = true → byte.C w' A1 L.length L) ∧ (b 13 = true → (m13_ : Value) = .slice A1 L.length c1)) HT_.out HW_.out (by kernel_rfl) (by kernel_rfl) ?_ ?_ ?_
  · exact ⟨none, 0, .bool false, by simp only [putSel, Bool.false_eq_true, if_false], below_drew (Below.refl _ _), fun h_ => absurd h_ (by decide), fun h_ => absurd h_ (by decide)⟩
  · skip
    clear B
    refine steps_cons ?_ ?_
    · rintro b a w' ⟨A1, c1, m13_, ha, Q_B, Q_C, Q_X13_⟩ hb_ hon hoff
      refine ⟨_, rfl, fun K hK => ?_⟩
      have e2 : a.tmps[2]? = some (.pointer (some ⟨g, 0, none⟩)) := by rw [ha]; exact (putSel_off rfl).trans rfl
      replace ha := Aside0.mk ha
      have B := Aside0.mk Q_B
      refine value_ (w1 := w') (v := .agg KV) (by rfl) rfl (exec_load_row 23 (.tmp 2) rfl (eval_of e2) (blk_below HK.out B.out) Try.underlying23 rfl HKK.out) ?_
      refine hK.out _ _ ⟨A1, c1, m13_, (by rw [ha.out]; exact putSel_upk 0 hb_ rfl rfl rfl), B.out, fun h0_ => absurd ((hoff 13 (by kernel_rfl)).symm.trans h0_) (by decide), fun h0_ => absurd ((hoff 13 (by kernel_rfl)).symm.trans h0_) (by decide)⟩
    refine steps_cons ?_ ?_
    · rintro b a w' ⟨A1, c1, m13_, ha, Q_B, Q_C, Q_X13_⟩ hb_ hon hoff
      refine ⟨_, rfl, fun K hK => ?_⟩
      have e5 : a.tmps[5]? = some (.agg KV) := by rw [ha]; exact putSel_on (e := (0, 5, .agg KV)) 0 rfl rfl (hon 0 (by kernel_rfl)) rfl
      have e6 : a.tmps[6]? = some (.slice A ps.length c) := by rw [ha]; exact (putSel_off rfl).trans rfl
      replace ha := Aside0.mk ha
      have B := Aside0.mk Q_B
      refine goes_ Try.func13 (by kernel_rfl) rfl #[.agg KV, .slice A ps.length c] (by rfl) rfl rfl (by first | (simp only [List.map_toArray, List.map_cons, List.map_nil, Act.eval, Array.getD_eq_getD_getElem?, Option.getD_some, e5, e6]; done) | (simp only [List.map_toArray, List.map_cons, List.map_nil, Act.eval, Array.getD_eq_getD_getElem?, Option.getD_some, e5, e6]; rfl)) ?_
      refine (HS1.out w' (Kd.C_below HP.out B.out)).mono ?_
      rintro e w1 ⟨rfl, hB1⟩
      refine ⟨_, rfl, ?_⟩
      refine hK.out _ _ ⟨A1, c1, m13_, (by rw [ha.out]; exact putSel_upk 1 hb_ rfl rfl rfl), B.out.trans (hB1.mono B.out.size), fun h0_ => absurd ((hoff 13 (by kernel_rfl)).symm.trans h0_) (by decide), fun h0_ => absurd ((hoff 13 (by kernel_rfl)).symm.trans h0_) (by decide)⟩
    refine steps_cons ?_ ?_
    · rintro b a w' ⟨A1, c1, m13_, ha, Q_B, Q_C, Q_X13_⟩ hb_ hon hoff
      refine ⟨_, rfl, fun K hK => ?_⟩
      have e2 : a.tmps[2]? = some (.pointer (some ⟨g, 0, none⟩)) := by rw [ha]; exact (putSel_off rfl).trans rfl
      replace ha := Aside0.mk ha
      have B := Aside0.mk Q_B
      refine value_ (w1 := w') (v := .agg KV) (by rfl) rfl (exec_load_row 23 (.tmp 2) rfl (eval_of e2) (blk_below HK.out B.out) Try.underlying23 rfl HKK.out) ?_
      refine hK.out _ _ ⟨A1, c1, m13_, (by rw [ha.out]; exact putSel_upk 2 hb_ rfl rfl rfl), B.out, fun h0_ => absurd ((hoff 13 (by kernel_rfl)).symm.trans h0_) (by decide), fun h0_ => absurd ((hoff 13 (by kernel_rfl)).symm.trans h0_) (by decide)⟩
    refine steps_cons ?_ ?_
    · rintro b a w' ⟨A1, c1, m13_, ha, Q_B, Q_C, Q_X13_⟩ hb_ hon hoff
      refine ⟨_, rfl, fun K hK => ?_⟩
      have e8 : a.tmps[8]? = some (.agg KV) := by rw [ha]; exact putSel_on (e := (3, 8, .agg KV)) 2 rfl rfl (hon 3 (by kernel_rfl)) rfl
      have e9 : a.tmps[9]? = some (.slice A ps.length c) := by rw [ha]; exact (putSel_off rfl).trans rfl
      replace ha := Aside0.mk ha
      have B := Aside0.mk Q_B
      refine goes_ Try.func14 (by kernel_rfl) rfl #[.agg KV, .slice A ps.length c] (by rfl) rfl rfl (by first | (simp only [List.map_toArray, List.map_cons, List.map_nil, Act.eval, Array.getD_eq_getD_getElem?, Option.getD_some, e8, e9]; done) | (simp only [List.map_toArray, List.map_cons, List.map_nil, Act.eval, Array.getD_eq_getD_getElem?, Option.getD_some, e8, e9]; rfl)) ?_
      refine (HS2.out w' (Kd.C_below HP.out B.out)).mono ?_
      rintro e w1 ⟨rfl, hB1⟩
      refine ⟨_, rfl, ?_⟩
      refine hK.out _ _ ⟨A1, c1, m13_, (by rw [ha.out]; exact putSel_upk 3 hb_ rfl rfl rfl), B.out.trans (hB1.mono B.out.size), fun h0_ => absurd ((hoff 13 (by kernel_rfl)).symm.trans h0_) (by decide), fun h0_ => absurd ((hoff 13 (by kernel_rfl)).symm.trans h0_) (by decide)⟩
    refine steps_cons ?_ ?_
    · rintro b a w' ⟨A1, c1, m13_, ha, Q_B, Q_C, Q_X13_⟩ hb_ hon hoff
      refine ⟨_, rfl, fun K hK => ?_⟩
      have e7 : a.tmps[7]? = some (.int .u64 (z.toNat : Int)) := by rw [ha]; exact putSel_on (e := (2, 7, .int .u64 (z.toNat : Int))) 1 rfl rfl (hon 2 (by kernel_rfl)) rfl
      have e10 : a.tmps[10]? = some (.int .u64 (z.toNat : Int)) := by rw [ha]; exact putSel_on (e := (5, 10, .int .u64 (z.toNat : Int))) 3 rfl rfl (hon 5 (by kernel_rfl)) rfl
      replace ha := Aside0.mk ha
      have B := Aside0.mk Q_B
      refine value_ (w1 := w') (v := .bool true) (by rfl) rfl ?_ ?_
      · go_simp
        (try simp only [i64_w])
        try rfl
      refine hK.out _ _ ⟨A1, c1, m13_, (by rw [ha.out]; exact putSel_upk 4 hb_ rfl rfl rfl), Q_B, fun h0_ => absurd ((hoff 13 (by kernel_rfl)).symm.trans h0_) (by decide), fun h0_ => absurd ((hoff 13 (by kernel_rfl)).symm.trans h0_) (by decide)⟩
    refine steps_cons ?_ ?_
    · rintro b a w' ⟨A1, c1, m13_, ha, Q_B, Q_C, Q_X13_⟩ hb_ hon hoff
      refine ⟨_, rfl, fun K hK => ?_⟩
      have e11 : a.tmps[11]? = some (.bool true) := by rw [ha]; exact putSel_on (e := (6, 11, .bool true)) 4 rfl rfl (hon 6 (by kernel_rfl)) rfl
      replace ha := Aside0.mk ha
      have B := Aside0.mk Q_B
      refine value_ (w1 := w') (v := .bool true) (by rfl) rfl ?_ ?_
      · go_simp
        (try simp only [i64_w])
        try rfl
      refine hK.out _ _ ⟨A1, c1, m13_, (by rw [ha.out]; exact putSel_upk 5 hb_ rfl rfl rfl), Q_B, fun h0_ => absurd ((hoff 13 (by kernel_rfl)).symm.trans h0_) (by decide), fun h0_ => absurd ((hoff 13 (by kernel_rfl)).symm.trans h0_) (by decide)⟩
    refine steps_cons ?_ ?_
    · rintro b a w' ⟨A1, c1, m13_, ha, Q_B, Q_C, Q_X13_⟩ hb_ hon hoff
      refine ⟨_, rfl, fun K hK => ?_⟩
      have e2 : a.tmps[2]? = some (.pointer (some ⟨g, 0, none⟩)) := by rw [ha]; exact (putSel_off rfl).trans rfl
      have e12 : a.tmps[12]? = some (.bool true) := by rw [ha]; exact putSel_on (e := (7, 12, .bool true)) 5 rfl rfl (hon 7 (by kernel_rfl)) rfl
      replace ha := Aside0.mk ha
      have B := Aside0.mk Q_B
      refine value_ (w1 := w') (v := .agg KV) (wanted_on rfl rfl rfl (e12.trans (by first | rfl | (simp [*]; done)))) rfl (exec_load_row 23 (.tmp 2) rfl (eval_of e2) (blk_below HK.out B.out) Try.underlying23 rfl HKK.out) ?_
      refine hK.out _ _ ⟨A1, c1, m13_, (by rw [ha.out]; exact putSel_upk 6 hb_ rfl rfl rfl), B.out, fun h0_ => absurd ((hoff 13 (by kernel_rfl)).symm.trans h0_) (by decide), fun h0_ => absurd ((hoff 13 (by kernel_rfl)).symm.trans h0_) (by decide)⟩
    refine steps_cons ?_ ?_
    · rintro b a w' ⟨A1, c1, m13_, ha, Q_B, Q_C, Q_X13_⟩ hb_ hon hoff
      refine ⟨_, rfl, fun K hK => ?_⟩
      have e1 : a.tmps[1]? = some (.slice A ps.length c) := by rw [ha]; exact (putSel_off rfl).trans rfl
      have e12 : a.tmps[12]? = some (.bool true) := by rw [ha]; exact putSel_on (e := (7, 12, .bool true)) 5 rfl rfl (hon 7 (by kernel_rfl)) rfl
      replace ha := Aside0.mk ha
      have B := Aside0.mk Q_B
      refine value_ (w1 := w') (v := .slice A ps.length c) (wanted_on rfl rfl rfl (e12.trans (by first | rfl | (simp [*]; done)))) rfl ?_ ?_
      · go_simp
        (try simp only [i64_w])
        try rfl
      refine hK.out _ _ ⟨A1, c1, m13_, (by rw [ha.out]; exact putSel_upk 7 hb_ rfl rfl rfl), Q_B, fun h0_ => absurd ((hoff 13 (by kernel_rfl)).symm.trans h0_) (by decide), fun h0_ => absurd ((hoff 13 (by kernel_rfl)).symm.trans h0_) (by decide)⟩
    refine steps_cons ?_ ?_
    · rintro b a w' ⟨A1, c1, m13_, ha, Q_B, Q_C, Q_X13_⟩ hb_ hon hoff
      refine ⟨_, rfl, fun K hK => ?_⟩
      have e13 : a.tmps[13]? = some (.agg KV) := by rw [ha]; exact putSel_on (e := (8, 13, .agg KV)) 6 rfl rfl (hon 8 (by kernel_rfl)) rfl
      have e14 : a.tmps[14]? = some (.slice A ps.length c) := by rw [ha]; exact putSel_on (e := (9, 14, .slice A ps.length c)) 7 rfl rfl (hon 9 (by kernel_rfl)) rfl
      have e12 : a.tmps[12]? = some (.bool true) := by rw [ha]; exact putSel_on (e := (7, 12, .bool true)) 5 rfl rfl (hon 7 (by kernel_rfl)) rfl
      replace ha := Aside0.mk ha
      have B := Aside0.mk Q_B
      refine goes_ Try.func13 (by kernel_rfl) rfl #[.agg KV, .slice A ps.length c] (wanted_on rfl rfl rfl (e12.trans (by first | rfl | (simp [*]; done)))) rfl rfl (by first | (simp only [List.map_toArray, List.map_cons, List.map_nil, Act.eval, Array.getD_eq_getD_getElem?, Option.getD_some, e13, e14, e12]; done) | (simp only [List.map_toArray, List.map_cons, List.map_nil, Act.eval, Array.getD_eq_getD_getElem?, Option.getD_some, e13, e14, e12]; rfl)) ?_
      refine (HS1.out w' (Kd.C_below HP.out B.out)).mono ?_
      rintro e w1 ⟨rfl, hB1⟩
      refine ⟨_, rfl, ?_⟩
      refine hK.out _ _ ⟨A1, c1, m13_, (by rw [ha.out]; exact putSel_upk 8 hb_ rfl rfl rfl), B.out.trans (hB1.mono B.out.size), fun h0_ => absurd ((hoff 13 (by kernel_rfl)).symm.trans h0_) (by decide), fun h0_ => absurd ((hoff 13 (by kernel_rfl)).symm.trans h0_) (by decide)⟩
    refine steps_cons ?_ ?_
    · rintro b a w' ⟨A1, c1, m13_, ha, Q_B, Q_C, Q_X13_⟩ hb_ hon hoff
      refine ⟨_, rfl, fun K hK => ?_⟩
      have e2 : a.tmps[2]? = some (.pointer (some ⟨g, 0, none⟩)) := by rw [ha]; exact (putSel_off rfl).trans rfl
      have e12 : a.tmps[12]? = some (.bool true) := by rw [ha]; exact putSel_on (e := (7, 12, .bool true)) 5 rfl rfl (hon 7 (by kernel_rfl)) rfl
      replace ha := Aside0.mk ha
      have B := Aside0.mk Q_B
      refine value_ (w1 := w') (v := .agg KV) (wanted_on rfl rfl rfl (e12.trans (by first | rfl | (simp [*]; done)))) rfl (exec_load_row 23 (.tmp 2) rfl (eval_of e2) (blk_below HK.out B.out) Try.underlying23 rfl HKK.out) ?_
      refine hK.out _ _ ⟨A1, c1, m13_, (by rw [ha.out]; exact putSel_upk 9 hb_ rfl rfl rfl), B.out, fun h0_ => (Q_C h0_), Q_X13_⟩
    refine steps_cons ?_ ?_
    · rintro b a w' ⟨A1, c1, m13_, ha, Q_B, Q_C, Q_X13_⟩ hb_ hon hoff
      refine ⟨_, rfl, fun K hK => ?_⟩
      have e1 : a.tmps[1]? = some (.slice A ps.length c) := by rw [ha]; exact (putSel_off rfl).trans rfl
      have e12 : a.tmps[12]? = some (.bool true) := by rw [ha]; exact putSel_on (e := (7, 12, .bool true)) 5 rfl rfl (hon 7 (by kernel_rfl)) rfl
      replace ha := Aside0.mk ha
      have B := Aside0.mk Q_B
      refine value_ (w1 := w') (v := .slice A ps.length c) (wanted_on rfl rfl rfl (e12.trans (by first | rfl | (simp [*]; done)))) rfl ?_ ?_
      · go_simp
        (try simp only [i64_w])
        try rfl
      refine hK.out _ _ ⟨A1, c1, m13_, (by rw [ha.out]; exact putSel_upk 10 hb_ rfl rfl rfl), Q_B, fun h0_ => absurd ((hoff 13 (by kernel_rfl)).symm.trans h0_) (by decide), fun h0_ => absurd ((hoff 13 (by kernel_rfl)).symm.trans h0_) (by decide)⟩
    refine steps_cons ?_ ?_
    · rintro b a w' ⟨A1, c1, m13_, ha, Q_B, Q_C, Q_X13_⟩ hb_ hon hoff
      refine ⟨_, rfl, fun K hK => ?_⟩
      have e17 : a.tmps[17]? = some (.slice A ps.length c) := by rw [ha]; exact putSel_on (e := (12, 17, .slice A ps.length c)) 10 rfl rfl (hon 12 (by kernel_rfl)) rfl
      have e12 : a.tmps[12]? = some (.bool true) := by rw [ha]; exact putSel_on (e := (7, 12, .bool true)) 5 rfl rfl (hon 7 (by kernel_rfl)) rfl
      replace ha := Aside0.mk ha
      have B := Aside0.mk Q_B
      refine goes_ Try.func15 (by kernel_rfl) rfl #[.slice A ps.length c] (wanted_on rfl rfl rfl (e12.trans (by first | rfl | (simp [*]; done)))) rfl rfl (by first | (simp only [List.map_toArray, List.map_cons, List.map_nil, Act.eval, Array.getD_eq_getD_getElem?, Option.getD_some, e17, e12]; done) | (simp only [List.map_toArray, List.map_cons, List.map_nil, Act.eval, Array.getD_eq_getD_getElem?, Option.getD_some, e17, e12]; rfl)) ?_
      refine (HRW.out w' (Kd.C_below HP.out B.out)).mono ?_
      rintro e w1 ⟨v, rfl, hR, hB1⟩; obtain ⟨A2, c2, rfl, hle2, hC2⟩ := Kd.R_reads hR
      refine ⟨_, rfl, ?_⟩
      refine hK.out _ _ ⟨A2, c2, (.slice A2 L.length c2), (by rw [ha.out]; exact putSel_upk 11 hb_ rfl rfl rfl), B.out.trans (hB1.mono B.out.size), fun _ => hC2, fun _ => rfl⟩
    refine steps_cons ?_ ?_
    · rintro b a w' ⟨A1, c1, m13_, ha, Q_B, Q_C, Q_X13_⟩ hb_ hon hoff
      refine ⟨_, rfl, fun K hK => ?_⟩
      have e16 : a.tmps[16]? = some (.agg KV) := by rw [ha]; exact putSel_on (e := (11, 16, .agg KV)) 9 rfl rfl (hon 11 (by kernel_rfl)) rfl
      have e18 : a.tmps[18]? = some (m13_) := by rw [ha]; exact putSel_on (e := (13, 18, m13_)) 11 rfl rfl (hon 13 (by kernel_rfl)) rfl
      rw [Q_X13_ (hon 13 (by kernel_rfl))] at e18
      have e12 : a.tmps[12]? = some (.bool true) := by rw [ha]; exact putSel_on (e := (7, 12, .bool true)) 5 rfl rfl (hon 7 (by kernel_rfl)) rfl
      replace ha := Aside0.mk ha
      have B := Aside0.mk Q_B
      have C := Aside0.mk (Q_C (hon 13 (by kernel_rfl)))
      refine goes_ Try.func7 (by kernel_rfl) rfl #[.agg KV, .slice A1 L.length c1] (wanted_on rfl rfl rfl (e12.trans (by first | rfl | (simp [*]; done)))) rfl rfl (by first | (simp only [List.map_toArray, List.map_cons, List.map_nil, Act.eval, Array.getD_eq_getD_getElem?, Option.getD_some, e16, e18, e12]; done) | (simp only [List.map_toArray, List.map_cons, List.map_nil, Act.eval, Array.getD_eq_getD_getElem?, Option.getD_some, e16, e18, e12]; rfl)) ?_
      refine (HBY.out w' A1 c1 C.out).mono ?_
      rintro e w1 ⟨rfl, hB1⟩
      refine ⟨_, rfl, ?_⟩
      refine hK.out _ _ ⟨A1, c1, m13_, (by rw [ha.out]; exact putSel_upk 12 hb_ rfl rfl rfl), B.out.trans (hB1.mono B.out.size), fun _ => Kd.C_below C.out hB1, Q_X13_⟩
    refine steps_cons ?_ ?_
    · rintro b a w' ⟨A1, c1, m13_, ha, Q_B, Q_C, Q_X13_⟩ hb_ hon hoff
      refine ⟨_, rfl, fun K hK => ?_⟩
      have e15 : a.tmps[15]? = some (.int .u64 (z.toNat : Int)) := by rw [ha]; exact putSel_on (e := (10, 15, .int .u64 (z.toNat : Int))) 8 rfl rfl (hon 10 (by kernel_rfl)) rfl
      have e19 : a.tmps[19]? = some (.int .u64 (z.toNat : Int)) := by rw [ha]; exact putSel_on (e := (14, 19, .int .u64 (z.toNat : Int))) 12 rfl rfl (hon 14 (by kernel_rfl)) rfl
      have e12 : a.tmps[12]? = some (.bool true) := by rw [ha]; exact putSel_on (e := (7, 12, .bool true)) 5 rfl rfl (hon 7 (by kernel_rfl)) rfl
      replace ha := Aside0.mk ha
      have B := Aside0.mk Q_B
      have C := Aside0.mk (Q_C (hon 13 (by kernel_rfl)))
      refine value_ (w1 := w') (v := .bool true) (wanted_on rfl rfl rfl (e12.trans (by first | rfl | (simp [*]; done)))) rfl ?_ ?_
      · go_simp
        (try simp only [i64_w])
        try rfl
      refine hK.out _ _ ⟨A1, c1, m13_, (by rw [ha.out]; exact putSel_upk 13 hb_ rfl rfl rfl), Q_B, Q_C, Q_X13_⟩
    refine steps_cons ?_ ?_
    · rintro b a w' ⟨A1, c1, m13_, ha, Q_B, Q_C, Q_X13_⟩ hb_ hon hoff
      refine ⟨_, rfl, fun K hK => ?_⟩
      have e12 : a.tmps[12]? = some (.bool true) := by rw [ha]; exact putSel_on (e := (7, 12, .bool true)) 5 rfl rfl (hon 7 (by kernel_rfl)) rfl
      have e20 : a.tmps[20]? = some (.bool true) := by rw [ha]; exact putSel_on (e := (15, 20, .bool true)) 13 rfl rfl (hon 15 (by kernel_rfl)) rfl
      replace ha := Aside0.mk ha
      have B := Aside0.mk Q_B
      have C := Aside0.mk (Q_C (hon 13 (by kernel_rfl)))
      refine value_ (w1 := w') (v := .bool true) (by rfl) rfl ?_ ?_
      · go_simp
        (try simp only [i64_w])
        try rfl
      refine hK.out _ _ ⟨A1, c1, m13_, (by rw [ha.out]; exact putSel_upk 14 hb_ rfl rfl rfl), Q_B, Q_C, Q_X13_⟩
    refine steps_cons ?_ ?_
    · rintro b a w' ⟨A1, c1, m13_, ha, Q_B, Q_C, Q_X13_⟩ hb_ hon hoff
      refine ⟨_, rfl, fun K hK => ?_⟩
      have e21 : a.tmps[21]? = some (.bool true) := by rw [ha]; exact putSel_on (e := (16, 21, .bool true)) 14 rfl rfl (hon 16 (by kernel_rfl)) rfl
      replace ha := Aside0.mk ha
      have B := Aside0.mk Q_B
      have C := Aside0.mk (Q_C (hon 13 (by kernel_rfl)))
      refine value_ (w1 := w') (v := .bool true) (by rfl) rfl ?_ ?_
      · go_simp
        (try simp only [i64_w])
        try rfl
      refine hK.out _ _ ⟨A1, c1, m13_, (by rw [ha.out]; exact putSel_upk 15 hb_ rfl rfl rfl), Q_B, Q_C, Q_X13_⟩
    refine steps_cons ?_ ?_
    · rintro b a w' ⟨A1, c1, m13_, ha, Q_B, Q_C, Q_X13_⟩ hb_ hon hoff
      refine ⟨_, rfl, fun K hK => ?_⟩
      have e22 : a.tmps[22]? = some (.bool true) := by rw [ha]; exact putSel_on (e := (17, 22, .bool true)) 15 rfl rfl (hon 17 (by kernel_rfl)) rfl
      replace ha := Aside0.mk ha
      have B := Aside0.mk Q_B
      have C := Aside0.mk (Q_C (hon 13 (by kernel_rfl)))
      refine goes_ Try.func9 (by kernel_rfl) rfl #[] (wanted_on rfl rfl rfl (e22.trans (by first | rfl | (simp [*]; done)))) rfl rfl (by first | (simp only [List.map_toArray, List.map_cons, List.map_nil, Act.eval, Array.getD_eq_getD_getElem?, Option.getD_some, e22]; done) | (simp only [List.map_toArray, List.map_cons, List.map_nil, Act.eval, Array.getD_eq_getD_getElem?, Option.getD_some, e22]; rfl)) ?_
      refine (awake_calls w').mono ?_
      rintro e w1 ⟨rfl, hB1⟩
      refine ⟨_, rfl, ?_⟩
      refine hK.out _ _ ⟨A1, c1, m13_, (by rw [ha.out]; exact putSel_upk 16 hb_ rfl rfl rfl), B.out.trans (hB1.mono B.out.size), fun _ => Kd.C_below C.out hB1, Q_X13_⟩
    refine steps_cons ?_ ?_
    · rintro b a w' ⟨A1, c1, m13_, ha, Q_B, Q_C, Q_X13_⟩ hb_ hon hoff
      refine ⟨_, rfl, fun K hK => ?_⟩
      have e22 : a.tmps[22]? = some (.bool true) := by rw [ha]; exact putSel_on (e := (17, 22, .bool true)) 15 rfl rfl (hon 17 (by kernel_rfl)) rfl
      have e23 : a.tmps[23]? = some (.bool true) := by rw [ha]; exact putSel_on (e := (18, 23, .bool true)) 16 rfl rfl (hon 18 (by kernel_rfl)) rfl
      replace ha := Aside0.mk ha
      have B := Aside0.mk Q_B
      have C := Aside0.mk (Q_C (hon 13 (by kernel_rfl)))
      refine value_ (w1 := w') (v := .bool true) (by rfl) rfl ?_ ?_
      · go_simp
        (try simp only [i64_w])
        try rfl
      refine hK.out _ _ ⟨A1, c1, m13_, (by rw [ha.out]; exact putSel_upk 17 hb_ rfl rfl rfl), Q_B, Q_C, Q_X13_⟩
    refine steps_cons ?_ ?_
    · rintro b a w' ⟨A1, c1, m13_, ha, Q_B, Q_C, Q_X13_⟩ hb_ hon hoff
      refine ⟨_, rfl, fun K hK => ?_⟩
      have e24 : a.tmps[24]? = some (.bool true) := by rw [ha]; exact putSel_on (e := (19, 24, .bool true)) 17 rfl rfl (hon 19 (by kernel_rfl)) rfl
      replace ha := Aside0.mk ha
      have B := Aside0.mk Q_B
      have C := Aside0.mk (Q_C (hon 13 (by kernel_rfl)))
      refine value_ (w1 := w') (v := .bool true) (by rfl) rfl ?_ ?_
      · go_simp
        (try simp only [i64_w])
        try rfl
      refine hK.out _ _ ⟨A1, c1, m13_, (by rw [ha.out]; exact putSel_upk 18 hb_ rfl rfl rfl), Q_B, Q_C, Q_X13_⟩
    exact steps_nil
  rintro b a w' hall ⟨A1, c1, m13_, ha, Q_B, Q_C, Q_X13_⟩
  clear B
  have hb0_ := hall 0 (by kernel_rfl)
  have hb2_ := hall 2 (by kernel_rfl)
  have hb3_ := hall 3 (by kernel_rfl)
  have hb5_ := hall 5 (by kernel_rfl)
  have hb6_ := hall 6 (by kernel_rfl)
  have hb7_ := hall 7 (by kernel_rfl)
  have hb8_ := hall 8 (by kernel_rfl)
  have hb9_ := hall 9 (by kernel_rfl)
  have hb10_ := hall 10 (by kernel_rfl)
  have hb11_ := hall 11 (by kernel_rfl)
  have hb12_ := hall 12 (by kernel_rfl)
  have hb13_ := hall 13 (by kernel_rfl)
  have hb14_ := hall 14 (by kernel_rfl)
  have hb15_ := hall 15 (by kernel_rfl)
  have hb16_ := hall 16 (by kernel_rfl)
  have hb17_ := hall 17 (by kernel_rfl)
  have hb18_ := hall 18 (by kernel_rfl)
  have hb19_ := hall 19 (by kernel_rfl)
  have hb20_ := hall 20 (by kernel_rfl)
  subst ha
  obtain rfl := Q_X13_ hb13_
  simp only [putSel, hb0_, hb2_, hb3_, hb5_, hb6_, hb7_, hb8_, hb9_, hb10_, hb11_, hb12_, hb13_, hb14_, hb15_, hb16_, hb17_, hb18_, hb19_, hb20_, if_true, Act.put, List.setIfInBounds_toArray, List.set_cons_zero, List.set_cons_succ]
  have B := Aside0.mk Q_B
  clear Q_B
  have C := Aside0.mk (Q_C hb13_)
  clear Q_C
  clear hall hb0_ hb2_ hb3_ hb5_ hb6_ hb7_ hb8_ hb9_ hb10_ hb11_ hb12_ hb13_ hb14_ hb15_ hb16_ hb17_ hb18_ hb19_ hb20_
  go_wp2
  go_ret
  exact ⟨rfl, by (try rw [hg]); exact HB.out.trans (B.out.mono (by have := HB.out.size; omega))⟩
end Go.Proofs.Ytemomlohmnclkaa.Mac
