/- The seal of parts in the reference: walked (for the cookies). -/
import Derived.Test.YthdemajmlidefaaMacMk
import Derived.Test.YthdemajmlidefaaRegB
namespace Go.Proofs.Ythdemajmlidefaa.Mac
open Go.RowKit Go.Proofs.YthdemajmlidefaaW.PrintWords Go.Proofs.YthdemajmlidefaaW.PrintLast Go.Proofs.Ythdemajmlidefaa.Base
set_option linter.unusedVariables false
set_option linter.unusedSimpArgs false
def refSumT1 : Bool × List (List Nat × List Nat) := (true, [([], []), ([], []), ([1], [1]), ([0, 2, 2], [0, 2]), ([3, 3, 0, 1, 2, 3], [3])])
def refSumB1 : List Nat := [0, 0, 2, 7, 15]
theorem refSumtab1 : Go.Proofs.YthdemajmlidefaaW.PrintLast.rtab .any (Go.Proofs.YthdemajmlidefaaW.PrintLast.opsOf Try.f16 1) = refSumT1 := by kernel_rfl
theorem refSumbits1 : Go.Proofs.YthdemajmlidefaaW.PrintLast.waitsOk refSumT1.2 refSumB1 = true := by kernel_rfl
theorem refSum_calls (w : World) (k : List UInt8) (hk : k.length = 16) (A : Option Addr) (c : Nat) (ps : List (List UInt8)) (hp : bytesK.C w A ps.length ps) (hm : (rowL ps).length ≤ 140737488355328) :
    Calls Try.prog 16 #[.agg (keyV k), .slice A ps.length c] w fun e w' => e = .returned (.int .u64 ((sumS k ps).toNat : Int)) ∧ Below w.heap.size w w' := by
  have HK := Lib.hid (show (w.alloc (.cells (keyV k) 23)).heap[w.heap.size]? = some (.cells (keyV k) 23 (0, 0)) from heap_alloc_new _ _)
  have HB := Lib.hid ((Below.refl w.heap.size w).alloc (Nat.le_refl _) (.cells (keyV k) 23))
  have HP := Lib.hid (Kd.C_below hp HB.out)
  have HRW := Lib.hid (fun (W : World) (h : bytesK.C W A ps.length ps) => refRow_calls W A c ps h hm)
  have HBY := Lib.hid (fun (W : World) (A1 : Option Addr) (c1 : Nat) (h : byte.C W A1 (rowL ps).length (rowL ps)) => refBytes_calls W k hk A1 c1 (rowL ps) h hm)
  have HKK := Lib.hid (key_size hk)
  have hz : Hid (sumS k ps = bytesS k (rowL ps)) := rfl
  clear hp
  generalize sumS k ps = z at *
  rw [← hz.out] at HBY
  generalize rowL ps = L at *
  go_enter Try.func16, Try.ntmps16
  go_upto_region 1 with (fail)
  generalize w.alloc (.cells (keyV k) 23) = W0 at *
  generalize keyV k = KV at *
  generalize hg : w.heap.size = g at *
  have B := True.intro
  refine start_ (n := 5) (S := fun w' => True) (ds := []) #[false, false, false, false, false] (by kernel_rfl) rfl rfl trivial (fun hHeld => ?_)
  refine with_tabW refSumtab1 refSumbits1 (fun HT_ HW_ => ?_)
  refine pure_ (i := 1) (N := some 6) (v := ?_) (a' := ?_) #[false, true, false, false, false] rfl rfl (any_of HT_.out (by kernel_rfl)) (fun _ _ _ h => h) (Or.inl ⟨by rfl, ?_⟩) ?_ ?_
  rotate_left
  · intro w'
    go_simp
    with_reducible rfl
  rotate_left
  · simp only [Act.put, List.setIfInBounds_toArray, List.set_cons_zero, List.set_cons_succ, i64_w, i32_w]
    rfl
  refine inv_at [0, 2, 3, 4] (fun a0_ b a w' => ∃ (A1 : Option Addr) (c1 : Nat) (m2_ : Value), a = putSel a0_ b [(0, 5, .agg KV), (2, 7, m2_), (3, 8, .int .u64 (z.toNat : Int)), (4, 4, .int .u64 (z.toNat : Int))] ∧ (Below W0.heap.size W0 w') ∧ (b 2 = true → byte.C w' A1 L.length L) ∧ (b 2 = true → (m2_ : Value) = .slice A1 L.length c1)) HT_.out HW_.out (by kernel_rfl) (by kernel_rfl) ?_ ?_ ?_
  · exact ⟨none, 0, .bool false, by simp only [putSel, Bool.false_eq_true, if_false], below_drew (Below.refl _ _), fun h_ => absurd h_ (by decide), fun h_ => absurd h_ (by decide)⟩
  · skip
    clear B
    refine steps_cons ?_ ?_
    · rintro b a w' ⟨A1, c1, m2_, ha, Q_B, Q_C, Q_X2_⟩ hb_ hon hoff
      refine ⟨_, rfl, fun K hK => ?_⟩
      have e2 : a.tmps[2]? = some (.pointer (some ⟨g, 0, none⟩)) := by rw [ha]; exact (putSel_off rfl).trans rfl
      replace ha := Aside0.mk ha
      have B := Aside0.mk Q_B
      refine value_ (w1 := w') (v := .agg KV) (by rfl) rfl (exec_load_row 23 (.tmp 2) rfl (eval_of e2) (blk_below HK.out B.out) Try.underlying23 rfl HKK.out) ?_
      refine hK.out _ _ ⟨A1, c1, m2_, (by rw [ha.out]; exact putSel_upk 0 hb_ rfl rfl rfl), B.out, fun h0_ => (Q_C h0_), Q_X2_⟩
    refine steps_cons ?_ ?_
    · rintro b a w' ⟨A1, c1, m2_, ha, Q_B, Q_C, Q_X2_⟩ hb_ hon hoff
      refine ⟨_, rfl, fun K hK => ?_⟩
      have e6 : a.tmps[6]? = some (.slice A ps.length c) := by rw [ha]; exact (putSel_off rfl).trans rfl
      replace ha := Aside0.mk ha
      have B := Aside0.mk Q_B
      refine goes_ Try.func29 (by kernel_rfl) rfl #[.slice A ps.length c] (by rfl) rfl rfl (by first | (simp only [List.map_toArray, List.map_cons, List.map_nil, Act.eval, Array.getD_eq_getD_getElem?, Option.getD_some, e6]; done) | (simp only [List.map_toArray, List.map_cons, List.map_nil, Act.eval, Array.getD_eq_getD_getElem?, Option.getD_some, e6]; rfl)) ?_
      refine (HRW.out w' (Kd.C_below HP.out B.out)).mono ?_
      rintro e w1 ⟨v, rfl, hR, hB1⟩; obtain ⟨A2, c2, rfl, hle2, hC2⟩ := Kd.R_reads hR
      refine ⟨_, rfl, ?_⟩
      refine hK.out _ _ ⟨A2, c2, (.slice A2 L.length c2), (by rw [ha.out]; exact putSel_upk 1 hb_ rfl rfl rfl), B.out.trans (hB1.mono B.out.size), fun _ => hC2, fun _ => rfl⟩
    refine steps_cons ?_ ?_
    · rintro b a w' ⟨A1, c1, m2_, ha, Q_B, Q_C, Q_X2_⟩ hb_ hon hoff
      refine ⟨_, rfl, fun K hK => ?_⟩
      have e5 : a.tmps[5]? = some (.agg KV) := by rw [ha]; exact putSel_on (e := (0, 5, .agg KV)) 0 rfl rfl (hon 0 (by kernel_rfl)) rfl
      have e7 : a.tmps[7]? = some (m2_) := by rw [ha]; exact putSel_on (e := (2, 7, m2_)) 1 rfl rfl (hon 2 (by kernel_rfl)) rfl
      rw [Q_X2_ (hon 2 (by kernel_rfl))] at e7
      replace ha := Aside0.mk ha
      have B := Aside0.mk Q_B
      have C := Aside0.mk (Q_C (hon 2 (by kernel_rfl)))
      refine goes_ Try.func28 (by kernel_rfl) rfl #[.agg KV, .slice A1 L.length c1] (by rfl) rfl rfl (by first | (simp only [List.map_toArray, List.map_cons, List.map_nil, Act.eval, Array.getD_eq_getD_getElem?, Option.getD_some, e5, e7]; done) | (simp only [List.map_toArray, List.map_cons, List.map_nil, Act.eval, Array.getD_eq_getD_getElem?, Option.getD_some, e5, e7]; rfl)) ?_
      refine (HBY.out w' A1 c1 C.out).mono ?_
      rintro e w1 ⟨rfl, hB1⟩
      refine ⟨_, rfl, ?_⟩
      refine hK.out _ _ ⟨A1, c1, m2_, (by rw [ha.out]; exact putSel_upk 2 hb_ rfl rfl rfl), B.out.trans (hB1.mono B.out.size), fun _ => Kd.C_below C.out hB1, Q_X2_⟩
    refine steps_cons ?_ ?_
    · rintro b a w' ⟨A1, c1, m2_, ha, Q_B, Q_C, Q_X2_⟩ hb_ hon hoff
      refine ⟨_, rfl, fun K hK => ?_⟩
      have e8 : a.tmps[8]? = some (.int .u64 (z.toNat : Int)) := by rw [ha]; exact putSel_on (e := (3, 8, .int .u64 (z.toNat : Int))) 2 rfl rfl (hon 3 (by kernel_rfl)) rfl
      replace ha := Aside0.mk ha
      have B := Aside0.mk Q_B
      have C := Aside0.mk (Q_C (hon 2 (by kernel_rfl)))
      refine value_ (w1 := w') (v := .int .u64 (z.toNat : Int)) (by rfl) rfl ?_ ?_
      · go_simp
        (try simp only [i64_w])
        try rfl
      refine hK.out _ _ ⟨A1, c1, m2_, (by rw [ha.out]; exact putSel_upk 3 hb_ rfl rfl rfl), Q_B, Q_C, Q_X2_⟩
    exact steps_nil
  rintro b a w' hall ⟨A1, c1, m2_, ha, Q_B, Q_C, Q_X2_⟩
  clear B
  have hb0_ := hall 0 (by kernel_rfl)
  have hb2_ := hall 2 (by kernel_rfl)
  have hb3_ := hall 3 (by kernel_rfl)
  have hb4_ := hall 4 (by kernel_rfl)
  subst ha
  obtain rfl := Q_X2_ hb2_
  simp only [putSel, hb0_, hb2_, hb3_, hb4_, if_true, Act.put, List.setIfInBounds_toArray, List.set_cons_zero, List.set_cons_succ]
  have B := Aside0.mk Q_B
  clear Q_B
  have C := Aside0.mk (Q_C hb2_)
  clear Q_C
  clear hall hb0_ hb2_ hb3_ hb4_
  go_wp2
  go_ret
  exact ⟨rfl, by (try rw [hg]); exact HB.out.trans (B.out.mono (by have := HB.out.size; omega))⟩
end Go.Proofs.Ythdemajmlidefaa.Mac
