/- The texts of one proof, merged: part 4. -/
import Derived.Test.YthiaakjbapgibaaGreatSa3
import Derived.Laws.Rows
import Derived.Laws.EntriesVeiled
import Derived.StillTailTactics
import Derived.WalkSpells
import Derived.Deep.RegionWith
import Derived.RegionTactic
import Derived.ChangeAlike
import Derived.BigRegion
import Derived.Deep.Cut
import Derived.Lib.ConvBytes
import Derived.WalkLawsBesides
import Derived.Defers
import Derived.Recover
import Derived.Laws.Pointers
import Derived.OpenShut
import Derived.Deep.LoopGhost
set_option maxRecDepth 100000
set_option linter.unusedVariables false
set_option linter.unusedSimpArgs false
section
namespace Go.Proofs.YthiaakjbapgibaaGreat.Ch
open Go.RowKit YthiaakjbapgibaaGreatW.PrintWords YthiaakjbapgibaaGreatW.PrintLast Base PCh ParDec ParEnc
structure B1 (w : World) (x : Chk) (L : Lay) (W : World) : Prop where
 x0 : W.heap[w.heap.size]? = some (.cells (CV x L) 65 (0, 0))
 x2 : Below w.heap.size w W
theorem B1.cell {w W : World} {x : Chk} {L : Lay} (h : B1 w x L W) (i : Nat) : W.cell? ⟨w.heap.size, i, none⟩ = (CV x L)[i]? := blk_cell h.x0 i
theorem B1.below {w W W' : World} {x : Chk} {L : Lay} (h : B1 w x L W) (hb : Below W.heap.size W W') : B1 w x L W' := ⟨blk_below h.x0 hb, below_then h.x2 h.x2.size hb⟩
theorem B1.drewN {w W : World} {x : Chk} {L : Lay} (h : B1 w x L W) (n : Nat) : B1 w x L (W.drewN n) := ⟨blk_drewN h.x0 n, pw_below_drewN h.x2 n⟩
theorem B1.new (w : World) (x : Chk) (L : Lay) : B1 w x L (w.alloc (.cells (CV x L) 65)) := ⟨blk_new _ _, below_alloc (Below.refl _ _) _⟩
set_option maxHeartbeats 4000000 in
theorem check_calls (w : World) (x : Chk) (L : Lay) (hx : CR w x L) (hv : ValOk x L) :
  Calls Tryz.prog 60 #[.agg (CV x L)] w fun e w' => e = .returned (.int .i64 (checkD x)) ∧ Below w.heap.size w w' := by
 have HBR := Lh (fun (W : World) (h : Below w.heap.size w W) => bare_calls W x L (hx.below h))
 have HSM := Lh (fun (W : World) (h : Below w.heap.size w W) => same_calls W x (bareD x) L (keepL (hasF x.f0) L) (hx.below h) (keep_CR (hx.below h) _ _))
 have HEN := Lh (fun (W : World) (h : Below w.heap.size w W) => encP_calls W L.A14 L.c14 x.f14 (Kd.C_below hx.h14 h) hx.l14)
 have HXC := Lh (fun (W : World) (h : Below w.heap.size w W) => hx.below h)
 have HXS := Lh (show (Tryz.prog.info? 65).map (·.size) = some (CV x L).size by kernel_rfl)
 have HM13 := Lh hx.h13.2.1
 obtain ⟨CD, hcd⟩ : ∃ CD, checkD x = CD := ⟨_, rfl⟩
 have HCD := Lh hcd
 rw [hcd]
 have X := B1.new w x L
 clear hx hcd
 go_enter Tryz.func60, Tryz.ntmps60
 go_upto_region 1 with (fail)
 refine wp_gen (B1 w x L) X ?_
 clear X
 intro W X
 obtain ⟨q, hq⟩ : ∃ q, decide (x = bareD x) = q := ⟨_, rfl⟩
 rw [hq] at HSM
 have HQ := Lh hq
 clear hq
 have HX0 := Lh X
 have B := True.intro
 refine start_ (n := 6) (S := fun w' => True) (ds := []) #[false, false, false, false, false, false] (by kernel_rfl) rfl rfl trivial (fun hHeld => ?_)
 refine with_tabW checktab1 checkbits1 (fun HT_ HW_ => ?_)
 refine inv_at [0, 1, 2, 3, 4, 5] (fun a0_ b a w' => a = putSel a0_ b [(0, 6, .agg (CV x L)), (1, 7, .agg (CV x L)), (2, 8, .agg (CV (bareD x) (keepL (hasF x.f0) L))), (3, 9, .bool q), (4, 10, .bool (!q)), (5, 5, .bool (!q))] ∧ (Below W.heap.size W w')) HT_.out HW_.out (by kernel_rfl) (by kernel_rfl) ?_ ?_ ?_
 ·exact ⟨by simp only [putSel, Bool.false_eq_true, if_false], below_drew (Below.refl _ _)⟩
 ·skip
  clear B
  refine sc rfl ?_ ?_
  ·rintro b a w' ⟨ha, Q_B⟩ hb_ hon hoff K hK
   have e1 : a.tmps[1]? = some (.pointer (some ⟨w.heap.size, 0, none⟩)) := by rw [ha]; exact (putSel_off rfl).trans rfl
   replace ha := Am ha
   have B := Am Q_B
   refine value_ (w1 := w') (v := .agg (CV x L)) (by rfl) rfl (exec_load_row 65 (.tmp 1) rfl (eval_of e1) (blk_below HX0.out.x0 B.out) Tryz.underlying65 rfl HXS.out) ?_
   refine hK.out _ _ ⟨(puk ha 0 hb_ rfl rfl rfl), B.out⟩
  refine sc rfl ?_ ?_
  ·rintro b a w' ⟨ha, Q_B⟩ hb_ hon hoff K hK
   have e1 : a.tmps[1]? = some (.pointer (some ⟨w.heap.size, 0, none⟩)) := by rw [ha]; exact (putSel_off rfl).trans rfl
   replace ha := Am ha
   have B := Am Q_B
   refine value_ (w1 := w') (v := .agg (CV x L)) (by rfl) rfl (exec_load_row 65 (.tmp 1) rfl (eval_of e1) (blk_below HX0.out.x0 B.out) Tryz.underlying65 rfl HXS.out) ?_
   refine hK.out _ _ ⟨(puk ha 1 hb_ rfl rfl rfl), B.out⟩
  refine sc rfl ?_ ?_
  ·rintro b a w' ⟨ha, Q_B⟩ hb_ hon hoff K hK
   have e7 := psn ha 1 rfl rfl (hon 1 (by kernel_rfl)) rfl
   replace ha := Am ha
   have B := Am Q_B
   refine goes_ Tryz.func103 (by kernel_rfl) rfl #[.agg (CV x L)] (by rfl) rfl rfl (by first | (simp only [List.map_toArray, List.map_cons, List.map_nil, Act.eval, Array.getD_eq_getD_getElem?, Option.getD_some, e7]; done) | (simp only [List.map_toArray, List.map_cons, List.map_nil, Act.eval, Array.getD_eq_getD_getElem?, Option.getD_some, e7]; rfl)) ?_
   refine (HBR.out w' (HX0.out.below B.out).x2).mono ?_
   rintro e w1 ⟨rfl, hB1⟩
   refine ⟨_, rfl, ?_⟩
   refine hK.out _ _ ⟨(puk ha 2 hb_ rfl rfl rfl), B.out.trans (hB1.mono B.out.size)⟩
  refine sc rfl ?_ ?_
  ·rintro b a w' ⟨ha, Q_B⟩ hb_ hon hoff K hK
   have e6 := psn ha 0 rfl rfl (hon 0 (by kernel_rfl)) rfl
   have e8 := psn ha 2 rfl rfl (hon 2 (by kernel_rfl)) rfl
   replace ha := Am ha
   have B := Am Q_B
   refine goes_ Tryz.func102 (by kernel_rfl) rfl #[.agg (CV x L), .agg (CV (bareD x) (keepL (hasF x.f0) L))] (by rfl) rfl rfl (by first | (simp only [List.map_toArray, List.map_cons, List.map_nil, Act.eval, Array.getD_eq_getD_getElem?, Option.getD_some, e6, e8]; done) | (simp only [List.map_toArray, List.map_cons, List.map_nil, Act.eval, Array.getD_eq_getD_getElem?, Option.getD_some, e6, e8]; rfl)) ?_
   refine (HSM.out w' (HX0.out.below B.out).x2).mono ?_
   rintro e w1 ⟨rfl, hB1⟩
   refine ⟨_, rfl, ?_⟩
   refine hK.out _ _ ⟨(puk ha 3 hb_ rfl rfl rfl), B.out.trans (hB1.mono B.out.size)⟩
  refine sc rfl ?_ ?_
  ·rintro b a w' ⟨ha, Q_B⟩ hb_ hon hoff K hK
   have e9 := psn ha 3 rfl rfl (hon 3 (by kernel_rfl)) rfl
   replace ha := Am ha
   refine value_ (w1 := w') (v := .bool (!q)) (by rfl) rfl ?_ ?_
   ·go_simp
    (try simp only [i64_w])
    try rfl
   refine hK.out _ _ ⟨(puk ha 4 hb_ rfl rfl rfl), Q_B⟩
  refine sc rfl ?_ ?_
  ·rintro b a w' ⟨ha, Q_B⟩ hb_ hon hoff K hK
   have e10 := psn ha 4 rfl rfl (hon 4 (by kernel_rfl)) rfl
   replace ha := Am ha
   refine value_ (w1 := w') (v := .bool (!q)) (by rfl) rfl ?_ ?_
   ·go_simp
    (try simp only [i64_w])
    try rfl
   refine hK.out _ _ ⟨(puk ha 5 hb_ rfl rfl rfl), Q_B⟩
  exact steps_nil
 rintro b a w' hall ⟨ha, Q_B⟩
 clear B
 have hb0_ := hall 0 (by kernel_rfl)
 have hb1_ := hall 1 (by kernel_rfl)
 have hb2_ := hall 2 (by kernel_rfl)
 have hb3_ := hall 3 (by kernel_rfl)
 have hb4_ := hall 4 (by kernel_rfl)
 have hb5_ := hall 5 (by kernel_rfl)
 subst ha
 simp only [putSel, hb0_, hb1_, hb2_, hb3_, hb4_, hb5_, if_true, Act.put, List.setIfInBounds_toArray, List.set_cons_zero, List.set_cons_succ]
 have B := Am Q_B
 clear Q_B
 clear hall hb0_ hb1_ hb2_ hb3_ hb4_ hb5_
 replace X := X.below B.out
 clear B HBR HSM HX0
 generalize w' = W at *
 cases q with
 | false =>
  have hC : CD = 63 := by rw [← HCD.out]; unfold checkD; rw [if_pos HQ.out]
  subst hC
  go_wp2
  go_ret
  exact ⟨rfl, X.x2⟩
 | true =>
 have HXE := Lh (show x = bareD x from of_decide_eq_true HQ.out)
 have n1 : ¬ decide (x = bareD x) = false := by rw [HQ.out]; decide
 have hcd := HCD.out
 unfold checkD at hcd
 rw [if_neg n1] at hcd
 clear n1 HCD
 have k0 : W.cell? ⟨w.heap.size, 0, none⟩ = some (.int .u8 x.f0) := X.cell 0
 have k10 : W.cell? ⟨w.heap.size, 10, none⟩ = some (.slice L.A10 x.f10.length L.c10) := X.cell 10
 have k11 : W.cell? ⟨w.heap.size, 11, none⟩ = some (.slice L.A11 x.f11.length L.c11) := X.cell 11
 have k12 : W.cell? ⟨w.heap.size, 12, none⟩ = some (.slice L.A12 x.f12.length L.c12) := X.cell 12
 have k13 : W.cell? ⟨w.heap.size, 13, none⟩ = some (.slice L.A13 x.f13.length L.c13) := X.cell 13
 have k14 : W.cell? ⟨w.heap.size, 14, none⟩ = some (.slice L.A14 x.f14.length L.c14) := X.cell 14
 by_cases h62 : x.f0 = 0 ∧ x.f13.length = 0
 ·rw [if_pos h62] at hcd
  have q0 : (x.f0 == 0) = true := by simp [h62.1]
  have q13 : ((x.f13.length : Int) == 0) = true := by rw [h62.2]; rfl
  subst hcd
  clear h62
  go_wp2
  go_ret
  exact ⟨rfl, X.x2⟩
 rw [if_neg h62] at hcd
 have hbt : beatB x.f14 = true ∨ beatB x.f14 = false := by cases beatB x.f14 <;> simp
 by_cases h61 : (x.f0 = 4 ∨ x.f0 = 5) ∧ beatB x.f14 = false
 ·rw [if_pos h61] at hcd
  have q0 : (x.f0 == 0) = false := by simp; omega
  have HBT := Lh (fun (W' : World) (h : Below w.heap.size w W') => chunk_beat.calls x.f0 x.f1 x.f2 x.f3 x.f4 x.f5 x.f6 x.f7 x.f8 x.f9 L.A10 L.c10 x.f10 L.A11 L.c11 x.f11 L.A12 L.c12 x.f12 L.A13 L.c13 x.f13 L.A14 L.c14 x.f14 false W' (HXC.out W' h).h10 (HXC.out W' h).l10 (HXC.out W' h).h11 (HXC.out W' h).l11 (HXC.out W' h).h12 (HXC.out W' h).l12 (HXC.out W' h).h13 (HXC.out W' h).l13 (HXC.out W' h).h14 (HXC.out W' h).l14 (by rw [beat_f, h61.2]))
  have HIB := Lh (fun W' => isBeat_calls x.f0 W')
  rw [decide_eq_true h61.1] at HIB
  subst hcd
  clear h61 h62 hbt
  go_wp2_with fail
  refine (HIB.out _).mono ?_
  rintro e w2 ⟨rfl, ⟨m2, rfl⟩⟩
  replace X := X.drewN m2
  go_wp2_with (with_reducible refine gate_dst (N := 26) rfl ?_; go_must (refine step_on (wanted_on rfl rfl rfl rfl) (exec_load_row 65 (.tmp 1) rfl rfl X.x0 Tryz.underlying65 rfl HXS.out) ?_))
  refine (HBT.out _ X.x2).mono ?_
  rintro e w2 ⟨rfl, hB2⟩
  replace X := X.below hB2
  go_wp2
  go_ret
  exact ⟨rfl, X.x2⟩
 rw [if_neg h61] at hcd
 have HCD := Lh hcd
 clear hcd
 have hvar : (x.f0 = 0 ∧ ¬ x.f13.length = 0) ∨ (¬ x.f0 = 0 ∧ ¬ (x.f0 = 4 ∨ x.f0 = 5)) ∨ (¬ x.f0 = 0 ∧ (x.f0 = 4 ∨ x.f0 = 5) ∧ beatB x.f14 = true) := by
  by_cases a0 : x.f0 = 0
  ·exact Or.inl ⟨a0, fun e => h62 ⟨a0, e⟩⟩
  ·by_cases a4 : x.f0 = 4 ∨ x.f0 = 5
   ·exact Or.inr (Or.inr ⟨a0, a4, hbt.elim id (fun e => absurd ⟨a4, e⟩ h61)⟩)
   ·exact Or.inr (Or.inl ⟨a0, a4⟩)
 clear h61 h62 hbt
 rcases hvar with ⟨a0, a13⟩ | ⟨a0, a4⟩ | ⟨a0, a4, hbt⟩
 ·have HIB := Lh (fun W' => isBeat_calls x.f0 W')
  rw [decide_eq_false (by omega)] at HIB
  have q0 : (x.f0 == 0) = true := by simp [a0]
  have q13 : ((x.f13.length : Int) == 0) = false := by rw [beq_eq_false_iff_ne]; omega
  clear a0 a13
  go_wp2_with fail
  refine (HIB.out _).mono ?_
  rintro e w2 ⟨rfl, ⟨m2, rfl⟩⟩
  replace X := X.drewN m2
  go_upto_region 7 with (fail)
  refine wp_gen (B1 w x L) X ?_
  clear X k0 k10 k11 k12 k13 k14 q0 q13 HIB
  intro W X
  have k10 : W.cell? ⟨w.heap.size, 10, none⟩ = some (.slice L.A10 x.f10.length L.c10) := X.cell 10
  have k11 : W.cell? ⟨w.heap.size, 11, none⟩ = some (.slice L.A11 x.f11.length L.c11) := X.cell 11
  have k12 : W.cell? ⟨w.heap.size, 12, none⟩ = some (.slice L.A12 x.f12.length L.c12) := X.cell 12
  have k14 : W.cell? ⟨w.heap.size, 14, none⟩ = some (.slice L.A14 x.f14.length L.c14) := X.cell 14
  by_cases hm : 4096 < x.f10.length ∨ 4096 < x.f11.length ∨ 4096 < x.f12.length
  ·have hc := HCD.out
   rw [if_pos hm] at hc
   subst hc
   go_wp2
   all_goals first | (exfalso; omega) | (go_ret; exact ⟨rfl, X.x2⟩)
  have b10 : decide ((4096 : Int) < (x.f10.length : Int)) = false := by simp; omega
  have b11 : decide ((4096 : Int) < (x.f11.length : Int)) = false := by simp; omega
  have b12 : decide ((4096 : Int) < (x.f12.length : Int)) = false := by simp; omega
  have HCE := Lh HCD.out
  rw [if_neg hm] at HCE
  have l10 : x.f10.length ≤ 4096 := by omega
  have l11 : x.f11.length ≤ 4096 := by omega
  have l12 : x.f12.length ≤ 4096 := by omega
  have HEW := Lh (HEN.out W X.x2)
  by_cases he : (encP x.f14).2 = 0
  ·have HVL := Lh (fun (W' : World) (h : Below w.heap.size w W') => hv W' (HXC.out W' h) HXE.out l10 l11 l12 he)
   rw [if_neg (fun e => e he)] at HCE
   rw [he] at HEW
   clear hm he
   unfold ValP at HVL
   go_wp2_with fail
   refine HEW.out.mono ?_
   rintro e w3 ⟨v0, rfl, hR, hB3⟩
   obtain ⟨A0, c0, rfl⟩ := Kd.R_slice hR
   replace X := X.below hB3
   clear hR hB3 k10 k11 k12 k14
   go_wp2_with (with_reducible refine gate_dst (N := 52) rfl ?_; refine wpList_load_row rfl 65 (.tmp 1) rfl _ rfl 65 _ (0, 0) _ X.x0 Tryz.underlying65 rfl HXS.out ?_)
   refine (HVL.out _ X.x2).mono ?_
   rintro e w5 ⟨A9, c9, rfl, hle9, hC9, hB5⟩
   replace X := X.below hB5
   clear hC9 hB5 hle9
   generalize (valueD x).length = vl at *
   by_cases h2 : 65531 < vl
   ·have hc := HCE.out
    rw [if_pos h2] at hc
    subst hc
    go_wp2
    go_ret
    exact ⟨rfl, X.x2⟩
   ·have hc := HCE.out
    rw [if_neg h2] at hc
    subst hc
    go_wp2
    go_ret
    exact ⟨rfl, X.x2⟩
  ·have hc := HCE.out
   rw [if_pos he] at hc
   rw [hc] at HEW he
   have q : (CD != 0) = true := by simp [he]
   clear hm he hc
   go_wp2_with fail
   refine HEW.out.mono ?_
   rintro e w3 ⟨v0, rfl, hR, hB3⟩
   obtain ⟨A0, c0, rfl⟩ := Kd.R_slice hR
   replace X := X.below hB3
   clear hR hB3 k10 k11 k12 k14
   go_wp2
   go_ret
   exact ⟨rfl, X.x2⟩
 ·have HIB := Lh (fun W' => isBeat_calls x.f0 W')
  rw [decide_eq_false a4] at HIB
  have q0 : (x.f0 == 0) = false := by simp [a0]
  clear a0 a4
  go_wp2_with fail
  refine (HIB.out _).mono ?_
  rintro e w2 ⟨rfl, ⟨m2, rfl⟩⟩
  replace X := X.drewN m2
  go_upto_region 7 with (fail)
  refine wp_gen (B1 w x L) X ?_
  clear X k0 k10 k11 k12 k13 k14 q0 HIB
  intro W X
  have k10 : W.cell? ⟨w.heap.size, 10, none⟩ = some (.slice L.A10 x.f10.length L.c10) := X.cell 10
  have k11 : W.cell? ⟨w.heap.size, 11, none⟩ = some (.slice L.A11 x.f11.length L.c11) := X.cell 11
  have k12 : W.cell? ⟨w.heap.size, 12, none⟩ = some (.slice L.A12 x.f12.length L.c12) := X.cell 12
  have k14 : W.cell? ⟨w.heap.size, 14, none⟩ = some (.slice L.A14 x.f14.length L.c14) := X.cell 14
  by_cases hm : 4096 < x.f10.length ∨ 4096 < x.f11.length ∨ 4096 < x.f12.length
  ·have hc := HCD.out
   rw [if_pos hm] at hc
   subst hc
   go_wp2
   all_goals first | (exfalso; omega) | (go_ret; exact ⟨rfl, X.x2⟩)
  have b10 : decide ((4096 : Int) < (x.f10.length : Int)) = false := by simp; omega
  have b11 : decide ((4096 : Int) < (x.f11.length : Int)) = false := by simp; omega
  have b12 : decide ((4096 : Int) < (x.f12.length : Int)) = false := by simp; omega
  have HCE := Lh HCD.out
  rw [if_neg hm] at HCE
  have l10 : x.f10.length ≤ 4096 := by omega
  have l11 : x.f11.length ≤ 4096 := by omega
  have l12 : x.f12.length ≤ 4096 := by omega
  have HEW := Lh (HEN.out W X.x2)
  by_cases he : (encP x.f14).2 = 0
  ·have HVL := Lh (fun (W' : World) (h : Below w.heap.size w W') => hv W' (HXC.out W' h) HXE.out l10 l11 l12 he)
   rw [if_neg (fun e => e he)] at HCE
   rw [he] at HEW
   clear hm he
   unfold ValP at HVL
   go_wp2_with fail
   refine HEW.out.mono ?_
   rintro e w3 ⟨v0, rfl, hR, hB3⟩
   obtain ⟨A0, c0, rfl⟩ := Kd.R_slice hR
   replace X := X.below hB3
   clear hR hB3 k10 k11 k12 k14
   go_wp2_with (with_reducible refine gate_dst (N := 52) rfl ?_; refine wpList_load_row rfl 65 (.tmp 1) rfl _ rfl 65 _ (0, 0) _ X.x0 Tryz.underlying65 rfl HXS.out ?_)
   refine (HVL.out _ X.x2).mono ?_
   rintro e w5 ⟨A9, c9, rfl, hle9, hC9, hB5⟩
   replace X := X.below hB5
   clear hC9 hB5 hle9
   generalize (valueD x).length = vl at *
   by_cases h2 : 65531 < vl
   ·have hc := HCE.out
    rw [if_pos h2] at hc
    subst hc
    go_wp2
    go_ret
    exact ⟨rfl, X.x2⟩
   ·have hc := HCE.out
    rw [if_neg h2] at hc
    subst hc
    go_wp2
    go_ret
    exact ⟨rfl, X.x2⟩
  ·have hc := HCE.out
   rw [if_pos he] at hc
   rw [hc] at HEW he
   have q : (CD != 0) = true := by simp [he]
   clear hm he hc
   go_wp2_with fail
   refine HEW.out.mono ?_
   rintro e w3 ⟨v0, rfl, hR, hB3⟩
   obtain ⟨A0, c0, rfl⟩ := Kd.R_slice hR
   replace X := X.below hB3
   clear hR hB3 k10 k11 k12 k14
   go_wp2
   go_ret
   exact ⟨rfl, X.x2⟩
 ·have HIB := Lh (fun W' => isBeat_calls x.f0 W')
  rw [decide_eq_true a4] at HIB
  have HBT := Lh (fun (W' : World) (h : Below w.heap.size w W') => chunk_beat.calls x.f0 x.f1 x.f2 x.f3 x.f4 x.f5 x.f6 x.f7 x.f8 x.f9 L.A10 L.c10 x.f10 L.A11 L.c11 x.f11 L.A12 L.c12 x.f12 L.A13 L.c13 x.f13 L.A14 L.c14 x.f14 true W' (HXC.out W' h).h10 (HXC.out W' h).l10 (HXC.out W' h).h11 (HXC.out W' h).l11 (HXC.out W' h).h12 (HXC.out W' h).l12 (HXC.out W' h).h13 (HXC.out W' h).l13 (HXC.out W' h).h14 (HXC.out W' h).l14 (by rw [beat_f, hbt]))
  have q0 : (x.f0 == 0) = false := by simp [a0]
  clear a0 a4 hbt
  go_wp2_with fail
  refine (HIB.out _).mono ?_
  rintro e w2 ⟨rfl, ⟨m2, rfl⟩⟩
  replace X := X.drewN m2
  go_wp2_with (with_reducible refine gate_dst (N := 26) rfl ?_; go_must (refine step_on (wanted_on rfl rfl rfl rfl) (exec_load_row 65 (.tmp 1) rfl rfl X.x0 Tryz.underlying65 rfl HXS.out) ?_))
  refine (HBT.out _ X.x2).mono ?_
  rintro e w2 ⟨rfl, hB2⟩
  replace X := X.below hB2
  clear hB2
  go_upto_region 7 with (fail)
  refine wp_gen (B1 w x L) X ?_
  clear X k0 k10 k11 k12 k13 k14 q0 HIB HBT
  intro W X
  have k10 : W.cell? ⟨w.heap.size, 10, none⟩ = some (.slice L.A10 x.f10.length L.c10) := X.cell 10
  have k11 : W.cell? ⟨w.heap.size, 11, none⟩ = some (.slice L.A11 x.f11.length L.c11) := X.cell 11
  have k12 : W.cell? ⟨w.heap.size, 12, none⟩ = some (.slice L.A12 x.f12.length L.c12) := X.cell 12
  have k14 : W.cell? ⟨w.heap.size, 14, none⟩ = some (.slice L.A14 x.f14.length L.c14) := X.cell 14
  by_cases hm : 4096 < x.f10.length ∨ 4096 < x.f11.length ∨ 4096 < x.f12.length
  ·have hc := HCD.out
   rw [if_pos hm] at hc
   subst hc
   go_wp2
   all_goals first | (exfalso; omega) | (go_ret; exact ⟨rfl, X.x2⟩)
  have b10 : decide ((4096 : Int) < (x.f10.length : Int)) = false := by simp; omega
  have b11 : decide ((4096 : Int) < (x.f11.length : Int)) = false := by simp; omega
  have b12 : decide ((4096 : Int) < (x.f12.length : Int)) = false := by simp; omega
  have HCE := Lh HCD.out
  rw [if_neg hm] at HCE
  have l10 : x.f10.length ≤ 4096 := by omega
  have l11 : x.f11.length ≤ 4096 := by omega
  have l12 : x.f12.length ≤ 4096 := by omega
  have HEW := Lh (HEN.out W X.x2)
  by_cases he : (encP x.f14).2 = 0
  ·have HVL := Lh (fun (W' : World) (h : Below w.heap.size w W') => hv W' (HXC.out W' h) HXE.out l10 l11 l12 he)
   rw [if_neg (fun e => e he)] at HCE
   rw [he] at HEW
   clear hm he
   unfold ValP at HVL
   go_wp2_with fail
   refine HEW.out.mono ?_
   rintro e w3 ⟨v0, rfl, hR, hB3⟩
   obtain ⟨A0, c0, rfl⟩ := Kd.R_slice hR
   replace X := X.below hB3
   clear hR hB3 k10 k11 k12 k14
   go_wp2_with (with_reducible refine gate_dst (N := 52) rfl ?_; refine wpList_load_row rfl 65 (.tmp 1) rfl _ rfl 65 _ (0, 0) _ X.x0 Tryz.underlying65 rfl HXS.out ?_)
   refine (HVL.out _ X.x2).mono ?_
   rintro e w5 ⟨A9, c9, rfl, hle9, hC9, hB5⟩
   replace X := X.below hB5
   clear hC9 hB5 hle9
   generalize (valueD x).length = vl at *
   by_cases h2 : 65531 < vl
   ·have hc := HCE.out
    rw [if_pos h2] at hc
    subst hc
    go_wp2
    go_ret
    exact ⟨rfl, X.x2⟩
   ·have hc := HCE.out
    rw [if_neg h2] at hc
    subst hc
    go_wp2
    go_ret
    exact ⟨rfl, X.x2⟩
  ·have hc := HCE.out
   rw [if_pos he] at hc
   rw [hc] at HEW he
   have q : (CD != 0) = true := by simp [he]
   clear hm he hc
   go_wp2_with fail
   refine HEW.out.mono ?_
   rintro e w3 ⟨v0, rfl, hR, hB3⟩
   obtain ⟨A0, c0, rfl⟩ := Kd.R_slice hR
   replace X := X.below hB3
   clear hR hB3 k10 k11 k12 k14
   go_wp2
   go_ret
   exact ⟨rfl, X.x2⟩
end Go.Proofs.YthiaakjbapgibaaGreat.Ch
end
section
namespace Go.Proofs.YthiaakjbapgibaaGreat.As
open Go.RowKit YthiaakjbapgibaaGreatW.PrintWords YthiaakjbapgibaaGreatW.PrintLast Base PCh
abbrev Lay := Go.Proofs.YthiaakjbapgibaaGreat.Ch.Lay
def TV (g : Nat) (tag : Int) (x : Chk) (L : Lay) (now : Int) : Array Value := #[.pointer (some ⟨g, 0, none⟩), .int .u32 tag, .int .u8 x.f0, .int .u8 x.f1, .int .u32 x.f2, .int .u16 x.f3, .int .u16 x.f4, .int .u32 x.f5, .int .u32 x.f6, .int .u32 x.f7, .int .u16 x.f8, .int .u16 x.f9, .slice L.A10 x.f10.length L.c10, .slice L.A11 x.f11.length L.c11, .slice L.A12 x.f12.length L.c12, .slice L.A13 x.f13.length L.c13, .slice L.A14 x.f14.length L.c14, .int .i64 now]
structure TC (B : Nat) (W0 : World) (g gt : Nat) (tag : Int) (x : Chk) (L : Lay) (now : Int) : Prop where
 row : W0.heap[gt]? = some (.cells (TV g tag x L now) 116 (0, 0))
 ne : gt ≠ g
 cr : Stb B W0 fun W => Go.Proofs.YthiaakjbapgibaaGreat.Ch.CR W x L
theorem drop_calls (w : World) : Calls Tryz.prog 109 #[] w fun e w' => e = errA 222 ∧ w = w' := by
 unfold errA
 go_enter Tryz.func109, Tryz.ntmps109
 go_wp2
 exact ⟨rfl, rfl, rfl⟩
section
variable {B : Nat} {W0 W : World} {g gt : Nat} {K : Cfg} {m : Mst} {xs : List Act'} {tag : Int} {x : Chk} {L : Lay} {now : Int}
theorem TC.cell (h : TC B W0 g gt tag x L now) (hO : Only (· = g) W0 W) (i : Nat) : W.cell? ⟨gt, i, none⟩ = (TV g tag x L now)[i]? := blk_cell (hO.blk h.row h.ne) i
def flagB (x : Chk) : Bool := bits .and .u8 x.f1 1 != 0
def ownB (m : Mst) (tag : Int) (x : Chk) : Bool :=
 if x.f0 = 1 then decide (tag = 0) else if (x.f0 = 6 ∨ x.f0 = 14) ∧ flagB x = true then (if m.s < 2 then false else decide (tag = m.pr.f0)) else decide (tag = m.tag)
def OwnP (m : Mst) (tag : Int) (x : Chk) (W : World) (e : Ending) (w' : World) : Prop := (e = if ownB m tag x = true then .returned (.tuple #[]) else errA 221) ∧ W = w'
theorem own_ms (hM : MS B W0 g K m xs W) (hT : TC B W0 g gt tag x L now) : Calls Tryz.prog 108 #[.pointer (some ⟨gt, 0, none⟩)] W (OwnP m tag x W) := by
 have t0 : W.cell? ⟨gt, 0, none⟩ = some (.pointer (some ⟨g, 0, none⟩)) := hT.cell hM.only 0
 have t1 : W.cell? ⟨gt, 1, none⟩ = some (.int .u32 tag) := hT.cell hM.only 1
 have t2 : W.cell? ⟨gt, 2, none⟩ = some (.int .u8 x.f0) := hT.cell hM.only 2
 have t3 : W.cell? ⟨gt, 3, none⟩ = some (.int .u8 x.f1) := hT.cell hM.only 3
 have k0 := hM.k0
 have k1 := hM.k1
 have k3 := hM.k3
 clear hM hT
 unfold OwnP ownB flagB errA
 generalize x.f0 = f0 at *
 generalize x.f1 = f1 at *
 generalize m.tag = mt at *
 generalize m.s = ms at *
 generalize m.pr.f0 = mp at *
 go_enter Tryz.func108, Tryz.ntmps108
 go_wp2
 all_goals clear t0 t1 t2 t3 k0 k1 k3
 all_goals first | (go_end0; refine ⟨?_, rfl⟩; simp_all; done) | (refine ⟨rfl, ?_, rfl⟩; simp_all; done)
end
end Go.Proofs.YthiaakjbapgibaaGreat.As
end
section
namespace Go.Proofs.YthiaakjbapgibaaGreat.As
open Go.RowKit YthiaakjbapgibaaGreatW.PrintWords YthiaakjbapgibaaGreatW.PrintLast Base PCh
section
variable {B : Nat} {W0 W : World} {g gt : Nat} {K : Cfg} {m : Mst} {xs : List Act'} {tag : Int} {x : Chk} {L : Lay} {now : Int}
def abortP (m : Mst) (tag : Int) (x : Chk) : Out := if m.s = 0 then .error 222 else if ownB m tag x = false then .error 221 else .ok (zeroM m, [actDown 1])
def doneP (m : Mst) (tag : Int) (x : Chk) : Out := if m.s = 0 then .error 222 else if ownB m tag x = false then .error 221 else if m.s = 7 then .ok (zeroM m, [actDown 6]) else .error 222
def cackP (m : Mst) (tag : Int) (x : Chk) : Out := if m.s = 0 then .error 222 else if ownB m tag x = false then .error 221 else if m.s = 2 then .ok ({ m with s := 3 }, [actTimer 3 1, actPeer 4 m.pr]) else .error 222
def otherP (m : Mst) (tag : Int) (x : Chk) : Out := if m.s = 0 then .ok (m, [actSend (mkC 6 1 0 0 0 0 0) tag]) else if ownB m tag x = false then .error 221 else if m.s = 1 then .error 222 else .ok (m, [])
def downP (m : Mst) (tag : Int) (x : Chk) : Out := if m.s = 0 then otherP m tag x else if ownB m tag x = false then .error 221 else if m.s = 3 ∨ m.s = 4 then .ok ({ m with s := 6 }, []) else if m.s = 5 then .ok ({ m with s := 7, tr := 0 }, [actSend (mkC 8 0 0 0 0 0 0) m.pr.f0, actTimer 2 2]) else if m.s = 6 ∨ m.s = 7 then .ok (m, []) else .error 222
def sackP (m : Mst) (tag : Int) (x : Chk) : Out := if m.s ≤ 2 then .ok (m, [actSend (mkC 14 1 0 0 0 0 0) tag]) else if ownB m tag x = false then .error 221 else if m.s = 5 ∨ m.s = 7 then .ok (zeroM m, [actSend (mkC 14 0 0 0 0 0 0) m.pr.f0, actDown 6]) else .error 222
theorem abort_t (hM : MS B W0 g K m [] W) (hT : TC B W0 g gt tag x L now) : Calls Tryz.prog 66 #[.pointer (some ⟨gt, 0, none⟩)] W (ClP B W0 g K (abortP m tag x)) := by
 unfold abortP
 have t0 : W.cell? ⟨gt, 0, none⟩ = some (.pointer (some ⟨g, 0, none⟩)) := hT.cell hM.only 0
 have k0 := hM.k0
 have HM := Lh hM
 have HT := Lh hT
 clear hM hT
 by_cases h0 : m.s = 0
 ·rw [if_pos h0]
  rw [h0] at k0
  unfold ClP errA
  go_enter Tryz.func66, Tryz.ntmps66
  go_wp2_with fail
  refine (drop_calls _).mono ?_
  rintro e w1 ⟨rfl, rfl⟩
  exact ⟨rfl, rfl, m, [], HM.out⟩
 rw [if_neg h0]
 have h0a : decide (m.s = 0) = false := decide_eq_false h0
 have h0b : (m.s == 0) = false := by simpa using h0
 have h0c : (m.s != 0) = true := by simpa using h0
 by_cases ho : ownB m tag x = true
 ·rw [if_neg (show ¬ ownB m tag x = false by rw [ho]; decide)]
  unfold ClP
  go_enter Tryz.func66, Tryz.ntmps66
  go_wp2_with fail
  refine (own_ms HM.out HT.out).mono ?_
  rintro e w1 ⟨rfl, rfl⟩
  rw [if_pos ho]
  go_wp2_with fail
  refine (down_ms HM.out (by simp) 1).mono ?_
  rintro e w2 ⟨rfl, hM2, hQ2⟩
  go_wp2
  go_end0
  exact ⟨rfl, hM2⟩
 ·rw [if_pos (show ownB m tag x = false by simpa using ho)]
  unfold ClP errA
  go_enter Tryz.func66, Tryz.ntmps66
  go_wp2_with fail
  refine (own_ms HM.out HT.out).mono ?_
  rintro e w1 ⟨rfl, rfl⟩
  rw [if_neg ho]
  unfold errA
  exact ⟨rfl, rfl, m, [], HM.out⟩
theorem shutDone_t (hM : MS B W0 g K m [] W) (hT : TC B W0 g gt tag x L now) : Calls Tryz.prog 67 #[.pointer (some ⟨gt, 0, none⟩)] W (ClP B W0 g K (doneP m tag x)) := by
 unfold doneP
 have t0 : W.cell? ⟨gt, 0, none⟩ = some (.pointer (some ⟨g, 0, none⟩)) := hT.cell hM.only 0
 have k0 := hM.k0
 have HM := Lh hM
 have HT := Lh hT
 clear hM hT
 by_cases h0 : m.s = 0
 ·rw [if_pos h0]
  rw [h0] at k0
  unfold ClP errA
  go_enter Tryz.func67, Tryz.ntmps67
  go_wp2_with fail
  refine (drop_calls _).mono ?_
  rintro e w1 ⟨rfl, rfl⟩
  exact ⟨rfl, rfl, m, [], HM.out⟩
 rw [if_neg h0]
 have h0a : decide (m.s = 0) = false := decide_eq_false h0
 have h0b : (m.s == 0) = false := by simpa using h0
 have h0c : (m.s != 0) = true := by simpa using h0
 by_cases ho : ownB m tag x = true
 ·rw [if_neg (show ¬ ownB m tag x = false by rw [ho]; decide)]
  by_cases h7 : m.s = 7
  ·rw [if_pos h7]
   rw [h7] at k0
   unfold ClP
   go_enter Tryz.func67, Tryz.ntmps67
   go_wp2_with fail
   refine (own_ms HM.out HT.out).mono ?_
   rintro e w1 ⟨rfl, rfl⟩
   rw [if_pos ho]
   go_wp2_with fail
   refine (down_ms HM.out (by simp) 6).mono ?_
   rintro e w2 ⟨rfl, hM2, hQ2⟩
   go_wp2
   go_end0
   exact ⟨rfl, hM2⟩
  ·rw [if_neg h7]
   have h7a : decide (m.s = 7) = false := decide_eq_false h7
   have h7b : (m.s == 7) = false := by simpa using h7
   have h7c : (m.s != 7) = true := by simpa using h7
   unfold ClP errA
   go_enter Tryz.func67, Tryz.ntmps67
   go_wp2_with fail
   refine (own_ms HM.out HT.out).mono ?_
   rintro e w1 ⟨rfl, rfl⟩
   rw [if_pos ho]
   go_wp2_with fail
   refine (drop_calls _).mono ?_
   rintro e w1 ⟨rfl, rfl⟩
   exact ⟨rfl, rfl, m, [], HM.out⟩
 ·rw [if_pos (show ownB m tag x = false by simpa using ho)]
  unfold ClP errA
  go_enter Tryz.func67, Tryz.ntmps67
  go_wp2_with fail
  refine (own_ms HM.out HT.out).mono ?_
  rintro e w1 ⟨rfl, rfl⟩
  rw [if_neg ho]
  unfold errA
  exact ⟨rfl, rfl, m, [], HM.out⟩
set_option maxHeartbeats 1000000 in
theorem cookieAck_t (hM : MS B W0 g K m [] W) (hT : TC B W0 g gt tag x L now) : Calls Tryz.prog 64 #[.pointer (some ⟨gt, 0, none⟩)] W (ClP B W0 g K (cackP m tag x)) := by
 unfold cackP
 have t0 : W.cell? ⟨gt, 0, none⟩ = some (.pointer (some ⟨g, 0, none⟩)) := hT.cell hM.only 0
 have k0 := hM.k0
 have HM := Lh hM
 have HT := Lh hT
 clear hM hT
 by_cases h0 : m.s = 0
 ·rw [if_pos h0]
  rw [h0] at k0
  unfold ClP errA
  go_enter Tryz.func64, Tryz.ntmps64
  go_wp2_with fail
  refine (drop_calls _).mono ?_
  rintro e w1 ⟨rfl, rfl⟩
  exact ⟨rfl, rfl, m, [], HM.out⟩
 rw [if_neg h0]
 have h0a : decide (m.s = 0) = false := decide_eq_false h0
 have h0b : (m.s == 0) = false := by simpa using h0
 have h0c : (m.s != 0) = true := by simpa using h0
 by_cases ho : ownB m tag x = true
 ·rw [if_neg (show ¬ ownB m tag x = false by rw [ho]; decide)]
  by_cases h2 : m.s = 2
  ·rw [if_pos h2]
   rw [h2] at k0
   have f0 := HM.out.fz 0
   have H3 := Lh (HM.out.set0 3)
   unfold ClP
   go_enter Tryz.func64, Tryz.ntmps64
   go_wp2_with fail
   refine (own_ms HM.out HT.out).mono ?_
   rintro e w1 ⟨rfl, rfl⟩
   rw [if_pos ho]
   go_upto_region 7 with (fail)
   clear k0 f0 t0
   generalize W.setCell ⟨g, 0, none⟩ (.int .i64 3) = W1 at *
   go_wp2_with fail
   refine (stop_ms H3.out (by simp) 1).mono ?_
   rintro e w2 ⟨rfl, hM2, hQ2⟩
   have HM2 := Lh hM2
   have HP := Lh hM2.pr
   clear hM2 hQ2
   go_wp2_with (refine wpList_load_mid rfl 71 _ rfl g 3 rfl _ _ HP.out Tryz.underlying71 rfl (by kernel_rfl) ?_)
   refine (ask_ms HM2.out (by simp) (actPeer 4 m.pr) _ (act_bare B w2 4 0 m.pr 0)).mono ?_
   rintro e w3 ⟨rfl, hM3, hQ3⟩
   go_wp2
   go_end0
   exact ⟨rfl, hM3⟩
  ·rw [if_neg h2]
   have h2a : decide (m.s = 2) = false := decide_eq_false h2
   have h2b : (m.s == 2) = false := by simpa using h2
   have h2c : (m.s != 2) = true := by simpa using h2
   unfold ClP errA
   go_enter Tryz.func64, Tryz.ntmps64
   go_wp2_with fail
   refine (own_ms HM.out HT.out).mono ?_
   rintro e w1 ⟨rfl, rfl⟩
   rw [if_pos ho]
   go_wp2_with fail
   refine (drop_calls _).mono ?_
   rintro e w1 ⟨rfl, rfl⟩
   exact ⟨rfl, rfl, m, [], HM.out⟩
 ·rw [if_pos (show ownB m tag x = false by simpa using ho)]
  unfold ClP errA
  go_enter Tryz.func64, Tryz.ntmps64
  go_wp2_with fail
  refine (own_ms HM.out HT.out).mono ?_
  rintro e w1 ⟨rfl, rfl⟩
  rw [if_neg ho]
  unfold errA
  exact ⟨rfl, rfl, m, [], HM.out⟩
theorem other_t (hM : MS B W0 g K m [] W) (hT : TC B W0 g gt tag x L now) : Calls Tryz.prog 70 #[.pointer (some ⟨gt, 0, none⟩)] W (ClP B W0 g K (otherP m tag x)) := by
 unfold otherP
 have t0 : W.cell? ⟨gt, 0, none⟩ = some (.pointer (some ⟨g, 0, none⟩)) := hT.cell hM.only 0
 have k0 := hM.k0
 have HM := Lh hM
 have HT := Lh hT
 clear hM hT
 by_cases h0 : m.s = 0
 ·rw [if_pos h0]
  rw [h0] at k0
  have t1 : W.cell? ⟨gt, 1, none⟩ = some (.int .u32 tag) := HT.out.cell HM.out.only 1
  unfold ClP
  go_enter Tryz.func70, Tryz.ntmps70
  go_upto_region 1 with (fail)
  refine wp_then 9 (by kernel_rfl) (by kernel_rfl) ?_
  simp only [tks, tk0, dks, dk0]
  repeat (go_big_quiet_step (fail))
  refine wpQuiet_nil ?_
  rintro _ ⟨nq, rfl⟩
  clear t0 t1 k0
  go_wp2_with fail
  refine (send_ms HM.out (pw_below_drewN (Below.refl _ _) nq) (by simp) (mkC 6 1 0 0 0 0 0) _ (mkC_K _ _ _ _ _ _ _) tag).mono ?_
  rintro e w1 ⟨rfl, hM1, hQ1⟩
  go_wp2
  refine bodyPost_ret (results_none rfl _ _ _) rfl ?_
  exact ⟨rfl, hM1⟩
 rw [if_neg h0]
 have h0a : decide (m.s = 0) = false := decide_eq_false h0
 have h0b : (m.s == 0) = false := by simpa using h0
 have h0c : (m.s != 0) = true := by simpa using h0
 by_cases ho : ownB m tag x = true
 ·rw [if_neg (show ¬ ownB m tag x = false by rw [ho]; decide)]
  by_cases h1 : m.s = 1
  ·rw [if_pos h1]
   rw [h1] at k0
   unfold ClP errA
   go_enter Tryz.func70, Tryz.ntmps70
   go_wp2_with fail
   refine (own_ms HM.out HT.out).mono ?_
   rintro e w1 ⟨rfl, rfl⟩
   rw [if_pos ho]
   go_wp2_with fail
   refine (drop_calls _).mono ?_
   rintro e w1 ⟨rfl, rfl⟩
   exact ⟨rfl, rfl, m, [], HM.out⟩
  ·rw [if_neg h1]
   have h1a : decide (m.s = 1) = false := decide_eq_false h1
   have h1b : (m.s == 1) = false := by simpa using h1
   have h1c : (m.s != 1) = true := by simpa using h1
   unfold ClP
   go_enter Tryz.func70, Tryz.ntmps70
   go_wp2_with fail
   refine (own_ms HM.out HT.out).mono ?_
   rintro e w1 ⟨rfl, rfl⟩
   rw [if_pos ho]
   go_wp2
   go_end0
   exact ⟨rfl, HM.out⟩
 ·rw [if_pos (show ownB m tag x = false by simpa using ho)]
  unfold ClP errA
  go_enter Tryz.func70, Tryz.ntmps70
  go_wp2_with fail
  refine (own_ms HM.out HT.out).mono ?_
  rintro e w1 ⟨rfl, rfl⟩
  rw [if_neg ho]
  unfold errA
  exact ⟨rfl, rfl, m, [], HM.out⟩
set_option maxHeartbeats 2000000 in
theorem shutdown_t (hM : MS B W0 g K m [] W) (hT : TC B W0 g gt tag x L now) : Calls Tryz.prog 69 #[.pointer (some ⟨gt, 0, none⟩)] W (ClP B W0 g K (downP m tag x)) := by
 unfold downP
 have t0 : W.cell? ⟨gt, 0, none⟩ = some (.pointer (some ⟨g, 0, none⟩)) := hT.cell hM.only 0
 have k0 := hM.k0
 have HM := Lh hM
 have HT := Lh hT
 clear hM hT
 by_cases h0 : m.s = 0
 ·rw [if_pos h0]
  rw [h0] at k0
  have HO := other_t HM.out HT.out
  unfold otherP at HO ⊢
  rw [if_pos h0] at HO ⊢
  unfold ClP at HO ⊢
  replace HO := Lh HO
  go_enter Tryz.func69, Tryz.ntmps69
  go_wp2_with fail
  refine HO.out.mono ?_
  rintro e w1 ⟨rfl, hM1⟩
  go_wp2
  refine bodyPost_ret (results_none rfl _ _ _) rfl ?_
  exact ⟨rfl, hM1⟩
 rw [if_neg h0]
 have h0a : decide (m.s = 0) = false := decide_eq_false h0
 have h0b : (m.s == 0) = false := by simpa using h0
 have h0c : (m.s != 0) = true := by simpa using h0
 by_cases ho : ownB m tag x = true
 ·rw [if_neg (show ¬ ownB m tag x = false by rw [ho]; decide)]
  by_cases h34 : m.s = 3 ∨ m.s = 4
  ·rw [if_pos h34]
   have f0 := HM.out.fz 0
   have H3 := Lh (HM.out.set0 6)
   unfold ClP
   rcases h34 with h3 | h3
   ·rw [h3] at k0
    go_enter Tryz.func69, Tryz.ntmps69
    go_wp2_with fail
    refine (own_ms HM.out HT.out).mono ?_
    rintro e w1 ⟨rfl, rfl⟩
    rw [if_pos ho]
    go_wp2
    go_end0
    exact ⟨rfl, H3.out⟩
   ·rw [h3] at k0
    go_enter Tryz.func69, Tryz.ntmps69
    go_wp2_with fail
    refine (own_ms HM.out HT.out).mono ?_
    rintro e w1 ⟨rfl, rfl⟩
    rw [if_pos ho]
    go_wp2
    go_end0
    exact ⟨rfl, H3.out⟩
  rw [if_neg h34]
  have h3 : ¬ m.s = 3 := fun h => h34 (Or.inl h)
  have h4 : ¬ m.s = 4 := fun h => h34 (Or.inr h)
  have h3a : decide (m.s = 3) = false := decide_eq_false h3
  have h3b : (m.s == 3) = false := by simpa using h3
  have h3c : (m.s != 3) = true := by simpa using h3
  have h4a : decide (m.s = 4) = false := decide_eq_false h4
  have h4b : (m.s == 4) = false := by simpa using h4
  have h4c : (m.s != 4) = true := by simpa using h4
  by_cases h5 : m.s = 5
  ·rw [if_pos h5]
   rw [h5] at k0
   have f0 := HM.out.fz 0
   have H7 := Lh ((HM.out.set0 7).set9 0)
   have k9' := (HM.out.set0 7).k9
   have f9' := (HM.out.set0 7).fz 9
   unfold ClP
   go_enter Tryz.func69, Tryz.ntmps69
   go_wp2_with fail
   refine (own_ms HM.out HT.out).mono ?_
   rintro e w1 ⟨rfl, rfl⟩
   rw [if_pos ho]
   go_upto_region 11 with (fail)
   clear k0 f0 t0 k9' f9'
   generalize (W.setCell ⟨g, 0, none⟩ (.int .i64 7)).setCell ⟨g, 9, none⟩ (.int .i64 0) = W1 at *
   go_wp2_with fail
   refine (sendShutAck_ms H7.out (by simp)).mono ?_
   rintro e w2 ⟨rfl, hM2, hQ2⟩
   go_wp2
   go_end0
   exact ⟨rfl, hM2⟩
  rw [if_neg h5]
  have h5a : decide (m.s = 5) = false := decide_eq_false h5
  have h5b : (m.s == 5) = false := by simpa using h5
  have h5c : (m.s != 5) = true := by simpa using h5
  by_cases h67 : m.s = 6 ∨ m.s = 7
  ·rw [if_pos h67]
   unfold ClP
   rcases h67 with h6 | h6
   ·rw [h6] at k0
    go_enter Tryz.func69, Tryz.ntmps69
    go_wp2_with fail
    refine (own_ms HM.out HT.out).mono ?_
    rintro e w1 ⟨rfl, rfl⟩
    rw [if_pos ho]
    go_wp2
    go_end0
    exact ⟨rfl, HM.out⟩
   ·rw [h6] at k0
    go_enter Tryz.func69, Tryz.ntmps69
    go_wp2_with fail
    refine (own_ms HM.out HT.out).mono ?_
    rintro e w1 ⟨rfl, rfl⟩
    rw [if_pos ho]
    go_wp2
    go_end0
    exact ⟨rfl, HM.out⟩
  rw [if_neg h67]
  have h6 : ¬ m.s = 6 := fun h => h67 (Or.inl h)
  have h7 : ¬ m.s = 7 := fun h => h67 (Or.inr h)
  have h6a : decide (m.s = 6) = false := decide_eq_false h6
  have h6b : (m.s == 6) = false := by simpa using h6
  have h6c : (m.s != 6) = true := by simpa using h6
  have h7a : decide (m.s = 7) = false := decide_eq_false h7
  have h7b : (m.s == 7) = false := by simpa using h7
  have h7c : (m.s != 7) = true := by simpa using h7
  unfold ClP errA
  go_enter Tryz.func69, Tryz.ntmps69
  go_wp2_with fail
  refine (own_ms HM.out HT.out).mono ?_
  rintro e w1 ⟨rfl, rfl⟩
  rw [if_pos ho]
  go_wp2_with fail
  refine (drop_calls _).mono ?_
  rintro e w1 ⟨rfl, rfl⟩
  exact ⟨rfl, rfl, m, [], HM.out⟩
 ·rw [if_pos (show ownB m tag x = false by simpa using ho)]
  unfold ClP errA
  go_enter Tryz.func69, Tryz.ntmps69
  go_wp2_with fail
  refine (own_ms HM.out HT.out).mono ?_
  rintro e w1 ⟨rfl, rfl⟩
  rw [if_neg ho]
  unfold errA
  exact ⟨rfl, rfl, m, [], HM.out⟩
set_option maxHeartbeats 2000000 in
theorem shutAck_t (hM : MS B W0 g K m [] W) (hT : TC B W0 g gt tag x L now) : Calls Tryz.prog 68 #[.pointer (some ⟨gt, 0, none⟩)] W (ClP B W0 g K (sackP m tag x)) := by
 unfold sackP
 have t0 : W.cell? ⟨gt, 0, none⟩ = some (.pointer (some ⟨g, 0, none⟩)) := hT.cell hM.only 0
 have k0 := hM.k0
 have HM := Lh hM
 have HT := Lh hT
 clear hM hT
 by_cases h2 : m.s ≤ 2
 ·rw [if_pos h2]
  have h2a : decide (m.s ≤ 2) = true := decide_eq_true h2
  have t1 : W.cell? ⟨gt, 1, none⟩ = some (.int .u32 tag) := HT.out.cell HM.out.only 1
  unfold ClP
  go_enter Tryz.func68, Tryz.ntmps68
  go_wp2_with fail
  refine (send_ms HM.out (Below.refl _ _) (by simp) (mkC 14 1 0 0 0 0 0) _ (mkC_K _ _ _ _ _ _ _) tag).mono ?_
  rintro e w1 ⟨rfl, hM1, hQ1⟩
  go_wp2
  refine bodyPost_ret (results_none rfl _ _ _) rfl ?_
  exact ⟨rfl, hM1⟩
 rw [if_neg h2]
 have h2a : decide (m.s ≤ 2) = false := decide_eq_false h2
 by_cases ho : ownB m tag x = true
 ·rw [if_neg (show ¬ ownB m tag x = false by rw [ho]; decide)]
  by_cases h57 : m.s = 5 ∨ m.s = 7
  ·rw [if_pos h57]
   unfold ClP
   rcases h57 with h5 | h5
   ·clear h2a
    rw [h5] at k0
    have h2b : decide ((5 : Int) ≤ 2) = false := by decide
    go_enter Tryz.func68, Tryz.ntmps68
    go_wp2_with fail
    refine (own_ms HM.out HT.out).mono ?_
    rintro e w1 ⟨rfl, rfl⟩
    rw [if_pos ho]
    go_wp2_with fail
    refine (sendPeer_ms HM.out (Below.refl _ _) (by simp) (mkC 14 0 0 0 0 0 0) _ (mkC_K _ _ _ _ _ _ _)).mono ?_
    rintro e w2 ⟨rfl, hM2, hQ2⟩
    have HM2 := Lh hM2
    clear hM2 hQ2
    go_wp2_with fail
    refine (down_ms HM2.out (by simp) 6).mono ?_
    rintro e w3 ⟨rfl, hM3, hQ3⟩
    go_wp2
    go_end0
    exact ⟨rfl, hM3⟩
   ·clear h2a
    rw [h5] at k0
    have h2b : decide ((7 : Int) ≤ 2) = false := by decide
    go_enter Tryz.func68, Tryz.ntmps68
    go_wp2_with fail
    refine (own_ms HM.out HT.out).mono ?_
    rintro e w1 ⟨rfl, rfl⟩
    rw [if_pos ho]
    go_wp2_with fail
    refine (sendPeer_ms HM.out (Below.refl _ _) (by simp) (mkC 14 0 0 0 0 0 0) _ (mkC_K _ _ _ _ _ _ _)).mono ?_
    rintro e w2 ⟨rfl, hM2, hQ2⟩
    have HM2 := Lh hM2
    clear hM2 hQ2
    go_wp2_with fail
    refine (down_ms HM2.out (by simp) 6).mono ?_
    rintro e w3 ⟨rfl, hM3, hQ3⟩
    go_wp2
    go_end0
    exact ⟨rfl, hM3⟩
  ·rw [if_neg h57]
   have h5 : ¬ m.s = 5 := fun h => h57 (Or.inl h)
   have h7 : ¬ m.s = 7 := fun h => h57 (Or.inr h)
   have h5a : decide (m.s = 5) = false := decide_eq_false h5
   have h5b : (m.s == 5) = false := by simpa using h5
   have h5c : (m.s != 5) = true := by simpa using h5
   have h7a : decide (m.s = 7) = false := decide_eq_false h7
   have h7b : (m.s == 7) = false := by simpa using h7
   have h7c : (m.s != 7) = true := by simpa using h7
   unfold ClP errA
   go_enter Tryz.func68, Tryz.ntmps68
   go_wp2_with fail
   refine (own_ms HM.out HT.out).mono ?_
   rintro e w1 ⟨rfl, rfl⟩
   rw [if_pos ho]
   go_wp2_with fail
   refine (drop_calls _).mono ?_
   rintro e w1 ⟨rfl, rfl⟩
   exact ⟨rfl, rfl, m, [], HM.out⟩
 ·rw [if_pos (show ownB m tag x = false by simpa using ho)]
  unfold ClP errA
  go_enter Tryz.func68, Tryz.ntmps68
  go_wp2_with fail
  refine (own_ms HM.out HT.out).mono ?_
  rintro e w1 ⟨rfl, rfl⟩
  rw [if_neg ho]
  unfold errA
  exact ⟨rfl, rfl, m, [], HM.out⟩
end
end Go.Proofs.YthiaakjbapgibaaGreat.As
end
section
namespace Go.Proofs.YthiaakjbapgibaaGreat.Base
open Go.RowKit YthiaakjbapgibaaGreatW.PrintWords YthiaakjbapgibaaGreatW.PrintLast
def updV (vs : Nat → Value) (m : Nat) (v : Value) : Nat → Value := fun j => if j = m then v else vs j
def GvI (C : List Nat) (I : Nat → (Nat → Value) → World → Prop) (L : (Nat → Value) → Sel) (a0 : Act) (b : Nat → Bool) (a : Act) (w : World) : Prop :=
 ∃ (s : Nat) (vs : Nat → Value), s ≤ C.length ∧ (∀ j c, C[j]? = some c → (j < s → b c = true) ∧ (s ≤ j → b c = false)) ∧ a = putSel a0 b (L vs) ∧ I s vs w
def RdL (O B : List Nat) (i : Nat) (L : (Nat → Value) → Sel) (a0 : Act) : List (Tmp × ((Nat → Value) → Value)) → Prop
 | [] => True
 | x :: r => Rd O B i L a0 x.1 x.2 ∧ RdL O B i L a0 r
def Has (a : Act) (vs : Nat → Value) : List (Tmp × ((Nat → Value) → Value)) → Prop
 | [] => True
 | x :: r => a.tmps[x.1]? = some (x.2 vs) ∧ Has a vs r
def ArV (O B : List Nat) (i : Nat) (L : (Nat → Value) → Sel) (a0 : Act) (os : List Operand) (vals : (Nat → Value) → List Value) : Prop :=
 ∀ (b : Nat → Bool) (vs : Nat → Value), (∀ j, (O.contains j && (B.getD i 0).testBit j) = true → b j = true) → (∀ d, (O.contains d && (B.getD d 0).testBit i) = true → b d = false) → os.map (putSel a0 b (L vs)).eval = vals vs
def Wt (ops : Array Oper) (O B : List Nat) (i : Nat) (L : (Nat → Value) → Sel) (a0 : Act) (oi : Oper) (r : Bool) : Prop :=
 ∀ (b : Nat → Bool) (vs : Nat → Value), (∀ j, (O.contains j && (B.getD i 0).testBit j) = true → b j = true) → (∀ d, (O.contains d && (B.getD d 0).testBit i) = true → b d = false) → Region.wanted oi (yielded ops (putSel a0 b (L vs)).tmps) = r
section
variable {P : Program} {ops : Array Oper} {Q : Exit → Act → World → Prop} {B O C : List Nat} {W : World} {I : Nat → (Nat → Value) → World → Prop} {L : (Nat → Value) → Sel} {a0 : Act} {i : Nat} {p : Tmp} {oi : Oper}
theorem has_of : ∀ {ps : List (Tmp × ((Nat → Value) → Value))}, RdL O B i L a0 ps → ∀ (b : Nat → Bool) (vs : Nat → Value), (∀ j, (O.contains j && (B.getD i 0).testBit j) = true → b j = true) → (∀ d, (O.contains d && (B.getD d 0).testBit i) = true → b d = false) → Has (putSel a0 b (L vs)) vs ps
 | [], _, _, _, _, _ => trivial
 | _ :: _, h, b, vs, h1, h2 => ⟨h.1 b vs h1 h2, has_of h.2 b vs h1 h2⟩
theorem arv_n : ArV O B i L a0 [] (fun _ => []) := fun _ _ _ _ => rfl
theorem arv_t {v : (Nat → Value) → Value} {os : List Operand} {vals : (Nat → Value) → List Value} (h0 : Rd O B i L a0 p v) (h : ArV O B i L a0 os vals) : ArV O B i L a0 (.tmp p :: os) (fun vs => v vs :: vals vs) := fun b vs h1 h2 => by rw [List.map_cons, h b vs h1 h2, eval_of (h0 b vs h1 h2)]
theorem wt_none (hg : oi.guard = none) : Wt ops O B i L a0 oi true := fun _ _ _ _ => wanted_none0 hg
theorem wt_on {g : Nat} {u : Bool} {og : Oper} {t : Tmp} (hg : oi.guard = some (g, u)) (ho : ops[g]? = some og) (hd : og.dst = some t) (hr : Rd O B i L a0 t (fun _ => .bool u)) : Wt ops O B i L a0 oi true := fun b vs h1 h2 => wanted_on hg ho hd (hr b vs h1 h2)
theorem wt_off {g : Nat} {u : Bool} {og : Oper} {t : Tmp} (hg : oi.guard = some (g, u)) (ho : ops[g]? = some og) (hd : og.dst = some t) (hr : Rd O B i L a0 t (fun _ => .bool (!u))) : Wt ops O B i L a0 oi false := fun b vs h1 h2 => wanted_off hg ho hd (hr b vs h1 h2)
theorem chain_skip {b : Nat → Bool} {s : Nat} (hC : C.contains i = false) (h1 : ∀ j c, C[j]? = some c → (j < s → b c = true) ∧ (s ≤ j → b c = false)) : ∀ j c, C[j]? = some c → (j < s → up b i c = true) ∧ (s ≤ j → up b i c = false) := by
 intro j c hc
 have hne : c ≠ i := fun e => by
  rw [e] at hc
  have := List.mem_of_getElem? hc
  rw [List.contains_iff_mem.2 this] at hC
  cases hC
 rw [up_ne hne]
 exact h1 j c hc
theorem gv_op (m M : Nat) (ps : List (Tmp × ((Nat → Value) → Value))) (i k : Nat) {t : Tmp} {fv : (Nat → Value) → Value} {oi : Oper} (ho : ops[i]? = some oi) (hd : oi.dst = some t) (hw : Wt ops O B i L a0 oi true) (hL : ∀ vs, (L vs)[k]? = some (i, t, fv vs))
  (hdist : ∀ vs, ((L vs).take k ++ (L vs).drop (k + 1)).all (fun e => !(e.1 == i) && !(e.2.1 == t)) = true) (hC : C.contains i = false) (hmC : Nat.ble m C.length = true) (hmm : (C.take m).all (fun q => O.contains q && (B.getD i 0).testBit q) = true) (hMM : (match C[M]? with | some c => O.contains c && (B.getD c 0).testBit i | none => true) = true) (hr : RdL O B i L a0 ps)
  (hrun : ∀ (a : Act) (w : World) (s : Nat) (vs : Nat → Value), m ≤ s → s ≤ M → I s vs w → Has a vs ps → (execOp a.eval oi).run P w = .ok (.value (fv vs)) w) : StepAt P ops Q B O (GvI C I L a0) i := by
 rintro b a w ⟨s, vs, h0, h1, ha, hI⟩ hb hon hoff
 have hms : m ≤ s := by
  rcases Nat.lt_or_ge s m with h | h
  ·rcases Nat.lt_or_ge s C.length with h2 | h2
   ·have hc := List.getElem?_eq_getElem h2
    have e2 := (h1 s _ hc).2 (Nat.le_refl _)
    have e3 := List.all_eq_true.1 hmm C[s] (List.mem_take_iff_getElem.2 ⟨s, by omega, rfl⟩)
    rw [hon _ e3] at e2
    cases e2
   ·have := Nat.le_of_ble_eq_true hmC
    omega
  ·exact h
 have hsM : s ≤ M := by
  cases hc : C[M]? with
  | none =>
   have := List.getElem?_eq_none_iff.1 hc
   omega
  | some c =>
   rw [hc] at hMM
   rcases Nat.lt_or_ge M s with h | h
   ·have e2 := (h1 M c hc).1 h
    rw [hoff c hMM] at e2
    cases e2
   ·exact h
 refine ⟨oi, ho, fun K hK => ?_⟩
 rw [hd]
 refine value_ (w1 := w) (v := fv vs) (by rw [ha]; exact hw b vs hon hoff) hd (hrun a w s vs hms hsM hI (by rw [ha]; exact has_of hr b vs hon hoff)) (hK.out _ _ ⟨s, vs, h0, chain_skip hC h1, ?_, hI⟩)
 rw [ha]
 exact putSel_upk k hb (hL vs) (set_same (hL vs)) (hdist vs)
theorem gv_off (i k : Nat) {t : Tmp} {oi : Oper} (ho : ops[i]? = some oi) (hd : oi.dst = some t) (hw : Wt ops O B i L a0 oi false) (hL : ∀ vs, (L vs)[k]? = some (i, t, undef))
  (hdist : ∀ vs, ((L vs).take k ++ (L vs).drop (k + 1)).all (fun e => !(e.1 == i) && !(e.2.1 == t)) = true) (hC : C.contains i = false) : StepAt P ops Q B O (GvI C I L a0) i := by
 rintro b a w ⟨s, vs, h0, h1, ha, hI⟩ hb hon hoff
 refine ⟨oi, ho, fun K hK => ?_⟩
 rw [hd, if_neg (by rw [ha, hw b vs hon hoff]; exact Bool.false_ne_true)]
 refine hK.out _ _ ⟨s, vs, h0, chain_skip hC h1, ?_, hI⟩
 rw [ha]
 exact putSel_upk k hb (hL vs) (set_same (hL vs)) (hdist vs)
theorem gv_step (i k m : Nat) {t : Tmp} (hm : C[m]? = some i) (hL : ∀ vs, (L vs)[k]? = some (i, t, vs (m + 1))) (hset : ∀ vs v', (L vs).set k (i, t, v') = L (updV vs (m + 1) v'))
  (hdist : ∀ vs, ((L vs).take k ++ (L vs).drop (k + 1)).all (fun e => !(e.1 == i) && !(e.2.1 == t)) = true) (hnd : (C.take m ++ C.drop (m + 1)).contains i = false) (hprev : (C.take m).all (fun q => O.contains q && (B.getD i 0).testBit q) = true)
  {b : Nat → Bool} {a : Act} {w : World} (hI : GvI C I L a0 b a w) (hb : b i = false) (hon : ∀ j, (O.contains j && (B.getD i 0).testBit j) = true → b j = true) :
  ∃ vs, a = putSel a0 b (L vs) ∧ I m vs w ∧ ∀ v' w', I (m + 1) (updV vs (m + 1) v') w' → GvI C I L a0 (up b i) (a.put (some t) v') w' := by
 obtain ⟨s, vs, h0, h1, ha, hI⟩ := hI
 have hs : s = m := by
  have e1 := h1 m i hm
  rcases Nat.lt_trichotomy s m with h | h | h
  ·have hlt : s < C.length := by
    have := (List.getElem?_eq_some_iff.1 hm).1
    omega
   have hc := List.getElem?_eq_getElem hlt
   have e2 := (h1 s _ hc).2 (Nat.le_refl _)
   have e3 := List.all_eq_true.1 hprev C[s] (List.mem_take_iff_getElem.2 ⟨s, by omega, rfl⟩)
   rw [hon _ e3] at e2
   cases e2
  ·exact h
  ·rw [e1.1 h] at hb
   cases hb
 subst hs
 refine ⟨vs, ha, hI, fun v' w' hI' => ⟨s + 1, updV vs (s + 1) v', ?_, fun j c hc => ?_, ?_, hI'⟩⟩
 ·have := (List.getElem?_eq_some_iff.1 hm).1
  omega
 ·by_cases hj : j = s
  ·subst hj
   rw [hm] at hc
   injection hc with hc
   subst hc
   exact ⟨fun _ => up_self _ _, fun h => absurd h (by omega)⟩
  ·have hne : c ≠ i := fun e => by
    subst e
    have hmem : c ∈ C.take s ++ C.drop (s + 1) := by
     rw [List.mem_append]
     have hl := (List.getElem?_eq_some_iff.1 hc)
     obtain ⟨hl1, hl2⟩ := hl
     by_cases h : j < s
     ·exact Or.inl (List.mem_take_iff_getElem.2 ⟨j, by omega, hl2⟩)
     ·refine Or.inr (List.mem_drop_iff_getElem.2 ⟨j - (s + 1), by omega, ?_⟩)
      rw [← hl2]
      congr 1
      omega
    rw [List.contains_iff_mem.2 hmem] at hnd
    cases hnd
   rw [up_ne hne]
   have := h1 j c hc
   exact ⟨fun h => this.1 (by omega), fun h => this.2 (by omega)⟩
 ·rw [ha]
  exact putSel_upk k hb (hL vs) (hset vs v') (hdist vs)
theorem gv_put (i m : Nat) (hm : C[m]? = some i) (hL : ∀ vs, (L vs).all (fun e => !(e.1 == i)) = true) (hnd : (C.take m ++ C.drop (m + 1)).contains i = false) (hprev : (C.take m).all (fun q => O.contains q && (B.getD i 0).testBit q) = true)
  {b : Nat → Bool} {a : Act} {w : World} (hI : GvI C I L a0 b a w) (hb : b i = false) (hon : ∀ j, (O.contains j && (B.getD i 0).testBit j) = true → b j = true) :
  ∃ vs, a = putSel a0 b (L vs) ∧ I m vs w ∧ ∀ w', I (m + 1) vs w' → GvI C I L a0 (up b i) a w' := by
 obtain ⟨s, vs, h0, h1, ha, hI⟩ := hI
 have hs : s = m := by
  have e1 := h1 m i hm
  rcases Nat.lt_trichotomy s m with h | h | h
  ·have hlt : s < C.length := by
    have := (List.getElem?_eq_some_iff.1 hm).1
    omega
   have hc := List.getElem?_eq_getElem hlt
   have e2 := (h1 s _ hc).2 (Nat.le_refl _)
   have e3 := List.all_eq_true.1 hprev C[s] (List.mem_take_iff_getElem.2 ⟨s, by omega, rfl⟩)
   rw [hon _ e3] at e2
   cases e2
  ·exact h
  ·rw [e1.1 h] at hb
   cases hb
 subst hs
 refine ⟨vs, ha, hI, fun w' hI' => ⟨s + 1, vs, ?_, fun j c hc => ?_, ?_, hI'⟩⟩
 ·have := (List.getElem?_eq_some_iff.1 hm).1
  omega
 ·by_cases hj : j = s
  ·subst hj
   rw [hm] at hc
   injection hc with hc
   subst hc
   exact ⟨fun _ => up_self _ _, fun h => absurd h (by omega)⟩
  ·have hne : c ≠ i := fun e => by
    subst e
    have hmem : c ∈ C.take s ++ C.drop (s + 1) := by
     rw [List.mem_append]
     have hl := (List.getElem?_eq_some_iff.1 hc)
     obtain ⟨hl1, hl2⟩ := hl
     by_cases h : j < s
     ·exact Or.inl (List.mem_take_iff_getElem.2 ⟨j, by omega, hl2⟩)
     ·refine Or.inr (List.mem_drop_iff_getElem.2 ⟨j - (s + 1), by omega, ?_⟩)
      rw [← hl2]
      congr 1
      omega
    rw [List.contains_iff_mem.2 hmem] at hnd
    cases hnd
   rw [up_ne hne]
   have := h1 j c hc
   exact ⟨fun h => this.1 (by omega), fun h => this.2 (by omega)⟩
 ·rw [ha]
  exact (putSel_skip (hL vs)).symm
theorem gv_call (i k m : Nat) {t : Tmp} {vals : (Nat → Value) → List Value} {oi : Oper} {f : FuncId} {fn : Func} {ax : Array Operand} {ts : Array TypeId} (ho : ops[i]? = some oi) (hd : oi.dst = some t) (hw : Wt ops O B i L a0 oi true) (hm : C[m]? = some i) (hL : ∀ vs, (L vs)[k]? = some (i, t, vs (m + 1))) (hset : ∀ vs v', (L vs).set k (i, t, v') = L (updV vs (m + 1) v'))
  (hdist : ∀ vs, ((L vs).take k ++ (L vs).drop (k + 1)).all (fun e => !(e.1 == i) && !(e.2.1 == t)) = true) (hnd : (C.take m ++ C.drop (m + 1)).contains i = false) (hprev : (C.take m).all (fun q => O.contains q && (B.getD i 0).testBit q) = true)
  (hf : P.funcs[f]? = some fn) (hname : (fn.name == "runtime.NumGoroutine") = false) (hbd : fn.body.isSome = true) (hop : oi.op = .call { callee := .value (.func f), args := ax, argTypes := ts })
  (har : ArV O B i L a0 ax.toList vals) (hcall : ∀ vs w, I m vs w → Calls P f (vals vs).toArray w fun e w' => ∃ v', e = .returned v' ∧ I (m + 1) (updV vs (m + 1) v') w') : StepAt P ops Q B O (GvI C I L a0) i := by
 rintro b a w hG hb hon hoff
 obtain ⟨vs, ha, hI, hK2⟩ := gv_step i k m hm hL hset hdist hnd hprev hG hb hon
 refine ⟨oi, ho, fun K hK => ?_⟩
 rw [hd]
 refine goes_ hf hname hbd (vals vs).toArray (by rw [ha]; exact hw b vs hon hoff) hd hop ?_ ?_
 ·apply Array.toList_inj.1
  rw [Array.toList_map, ha, har b vs hon hoff]
 ·refine (hcall vs w hI).mono ?_
  rintro e w' ⟨v', rfl, hI'⟩
  exact ⟨v', rfl, hK.out _ _ (hK2 v' w' hI')⟩
theorem gv_gen (ps : List (Tmp × ((Nat → Value) → Value))) (i k m : Nat) {t : Tmp} {oi : Oper} (ho : ops[i]? = some oi) (hd : oi.dst = some t) (hw : Wt ops O B i L a0 oi true) (hm : C[m]? = some i) (hL : ∀ vs, (L vs)[k]? = some (i, t, vs (m + 1))) (hset : ∀ vs v', (L vs).set k (i, t, v') = L (updV vs (m + 1) v'))
  (hdist : ∀ vs, ((L vs).take k ++ (L vs).drop (k + 1)).all (fun e => !(e.1 == i) && !(e.2.1 == t)) = true) (hnd : (C.take m ++ C.drop (m + 1)).contains i = false) (hprev : (C.take m).all (fun q => O.contains q && (B.getD i 0).testBit q) = true) (hr : RdL O B i L a0 ps)
  (hstep : ∀ (a : Act) (w : World) (K : Act → World → Prop) (vs : Nat → Value), I m vs w → Has a vs ps → Region.wanted oi (yielded ops a.tmps) = true → (∀ v' w', I (m + 1) (updV vs (m + 1) v') w' → K (a.put (some t) v') w') → if Region.wanted oi (yielded ops a.tmps) = true then Oper.wp P oi a w K Q else K (a.put (some t) undef) w) : StepAt P ops Q B O (GvI C I L a0) i := by
 rintro b a w hG hb hon hoff
 obtain ⟨vs, ha, hI, hK2⟩ := gv_step i k m hm hL hset hdist hnd hprev hG hb hon
 refine ⟨oi, ho, fun K hK => ?_⟩
 rw [hd]
 exact hstep a w K vs hI (by rw [ha]; exact has_of hr b vs hon hoff) (by rw [ha]; exact hw b vs hon hoff) (fun v' w' h => hK.out _ _ (hK2 v' w' h))
theorem gv_store (ps : List (Tmp × ((Nat → Value) → Value))) (i m : Nat) {f : (Nat → Value) → World → World} {oi : Oper} (ho : ops[i]? = some oi) (hd : oi.dst = none) (hw : Wt ops O B i L a0 oi true) (hm : C[m]? = some i) (hL : ∀ vs, (L vs).all (fun e => !(e.1 == i)) = true)
  (hnd : (C.take m ++ C.drop (m + 1)).contains i = false) (hprev : (C.take m).all (fun q => O.contains q && (B.getD i 0).testBit q) = true) (hr : RdL O B i L a0 ps)
  (hrun : ∀ (a : Act) (w : World) (vs : Nat → Value), I m vs w → Has a vs ps → (execOp a.eval oi).run P w = .ok .skip (f vs w)) (hI : ∀ vs w, I m vs w → I (m + 1) vs (f vs w)) : StepAt P ops Q B O (GvI C I L a0) i := by
 rintro b a w hG hb hon hoff
 obtain ⟨vs, ha, hIm, hK2⟩ := gv_put i m hm hL hnd hprev hG hb hon
 refine ⟨oi, ho, fun K hK => ?_⟩
 rw [hd]
 exact skip_ (w1 := f vs w) (by rw [ha]; exact hw b vs hon hoff) hd (hrun a w vs hIm (by rw [ha]; exact has_of hr b vs hon hoff)) (hK.out _ _ (hK2 _ (hI vs w hIm)))
theorem grow_v {id : Nat} (O C : List Nat) (I : Nat → (Nat → Value) → World → Prop) (L : (Nat → Value) → Sel) {n : Nat} {l : Array Bool} {Tb : Bool × List (List Nat × List Nat)} (hm : P.follows .mixedOrders = true) (hn : ops.size = n) (hl : Array.replicate n false = l) (hT : rtab .any ops = Tb) (hw : waitsOk Tb.2 B = true) (hk : baseOk Tb.2 O = true) (hl2 : (lof Tb.2.length O (fun _ => false) == l.toList && O.length == n) = true)
  (hLO : ∀ vs, (L vs).all (fun e => O.contains e.1) = true) (hCO : (C.all fun e => O.contains e) = true) (vs0 : Nat → Value) (h0 : I 0 vs0 W.drew) (hs : ∀ i ∈ O, StepAt P ops Q B O (GvI C I L a0) i)
  (hend : ∀ (vs : Nat → Value) (w : World), I C.length vs w → Q .normal (putSel a0 (fun _ => true) (L vs)) w) : Code.wp P (Code.region id ops true) Q a0 W := by
 refine start_ (S := fun _ => True) (ds := []) l hm hn hl trivial (fun _ => ?_)
 refine inv_at O (fun a0 => GvI C I L a0) hT hw hk hl2 ⟨0, vs0, Nat.zero_le _, fun j c _ => ⟨fun h => absurd h (Nat.not_lt_zero _), fun _ => rfl⟩, ?_, h0⟩ hs ?_
 ·generalize L vs0 = LL
  clear hLO hs hend
  induction LL with
  | nil => rfl
  | cons e r ih => unfold putSel; exact ih
 ·rintro b a w hall ⟨s, vs, hs1, h1, ha, hI⟩
  have e1 : putSel a0 b (L vs) = putSel a0 (fun _ => true) (L vs) := putSel_congr (fun e he => hall _ (List.all_eq_true.1 (hLO vs) e he))
  have e2 : s = C.length := by
   rcases Nat.lt_or_ge s C.length with h | h
   ·have hc := List.getElem?_eq_getElem h
    have e2 := (h1 s _ hc).2 (Nat.le_refl _)
    rw [hall _ (List.all_eq_true.1 hCO _ (List.getElem_mem h))] at e2
    cases e2
   ·omega
  rw [ha, e1]
  rw [e2] at hI
  exact hend vs w hI
end
end Go.Proofs.YthiaakjbapgibaaGreat.Base
end
section
namespace Go.Proofs.YthiaakjbapgibaaGreat.Ck
open Go.RowKit YthiaakjbapgibaaGreatW.PrintWords Base
def beN : Nat → Nat → List UInt8
 | 0, _ => []
 | n + 1, x => UInt8.ofNat (x / 256 ^ n) :: beN n x
theorem beN_length (n x : Nat) : (beN n x).length = n := by
 induction n with
 | zero => rfl
 | succ n ih => rw [beN, List.length_cons, ih]
def numBE (a : Nat) (l : List UInt8) : Nat := l.foldl (fun a c => a * 256 + c.toNat) a
theorem numBE_snoc (a : Nat) (l : List UInt8) (c : UInt8) : numBE a (l ++ [c]) = numBE a l * 256 + c.toNat := by unfold numBE; rw [List.foldl_append]; rfl
theorem numBE_lt (l : List UInt8) (a : Nat) : numBE a l < (a + 1) * 256 ^ l.length := by
 induction l generalizing a with
 | nil => simp [numBE]
 | cons c r ih =>
  have h : numBE a (c :: r) = numBE (a * 256 + c.toNat) r := rfl
  rw [h, List.length_cons, Nat.pow_succ, Nat.mul_comm (256 ^ r.length) 256, ← Nat.mul_assoc]
  refine Nat.lt_of_lt_of_le (ih _) (Nat.mul_le_mul_right _ ?_)
  have := c.toNat_lt
  omega
end Go.Proofs.YthiaakjbapgibaaGreat.Ck
end
section
namespace Go.Proofs.YthiaakjbapgibaaGreat.Ck
open Go.RowKit YthiaakjbapgibaaGreatW.PrintWords YthiaakjbapgibaaGreatW.PrintLast Base
def nF : Nat → Nat
 | 0 => 8
 | 1 => 4
 | 2 => 2
 | 3 => 2
 | 4 => 4
 | 5 => 4
 | 6 => 4
 | 7 => 4
 | 8 => 4
 | 9 => 2
 | 10 => 2
 | 11 => 4
 | _ => 4
def aF : Nat → Nat
 | 0 => 171
 | 1 => 172
 | 2 => 174
 | 3 => 175
 | 4 => 177
 | 5 => 178
 | 6 => 179
 | 7 => 180
 | 8 => 181
 | 9 => 182
 | 10 => 183
 | 11 => 184
 | _ => 185
def gF : Nat → Nat
 | 0 => 191
 | 1 => 191
 | 2 => 193
 | 3 => 193
 | 4 => 195
 | 5 => 195
 | 6 => 195
 | 7 => 195
 | 8 => 195
 | 9 => 193
 | 10 => 193
 | 11 => 195
 | _ => 195
def sF : Nat → Nat
 | 0 => 192
 | 1 => 192
 | 2 => 194
 | 3 => 194
 | 4 => 196
 | 5 => 196
 | 6 => 196
 | 7 => 196
 | 8 => 196
 | 9 => 194
 | 10 => 194
 | 11 => 196
 | _ => 196
def bT : Nat → TypeId
 | 0 => 210
 | 1 => 210
 | 2 => 213
 | 3 => 213
 | 4 => 216
 | 5 => 216
 | 6 => 216
 | 7 => 216
 | 8 => 216
 | 9 => 213
 | 10 => 213
 | 11 => 216
 | _ => 216
def cF : Nat → Nat
 | 0 => 11
 | 1 => 12
 | 2 => 0
 | 3 => 1
 | 4 => 2
 | 5 => 3
 | 6 => 4
 | 7 => 5
 | 8 => 6
 | 9 => 7
 | 10 => 8
 | 11 => 9
 | _ => 10
def kF : Nat → IntKind
 | 0 => .i64
 | 1 => .i64
 | 2 => .u16
 | 3 => .u16
 | 4 => .u32
 | 5 => .u32
 | 6 => .u32
 | 7 => .u32
 | 8 => .u32
 | 9 => .u16
 | 10 => .u16
 | 11 => .u32
 | _ => .u32
def stV (x : Nat → Nat) : Array Value := #[.int .u16 (x 2 : Nat), .int .u16 (x 3 : Nat), .int .u32 (x 4 : Nat), .int .u32 (x 5 : Nat), .int .u32 (x 6 : Nat), .int .u32 (x 7 : Nat), .int .u32 (x 8 : Nat), .int .u16 (x 9 : Nat), .int .u16 (x 10 : Nat), .int .u32 (x 11 : Nat), .int .u32 (x 12 : Nat), .int .i64 (x 0 : Nat), .int .i64 (x 1 : Nat)]
def upd (x : Nat → Nat) (i v : Nat) : Nat → Nat := fun j => if j = i then v else x j
def atV (i : Nat) : Value := .func (.func (aF i)) #[] #[]
abbrev STT := 185
theorem at_calls (i : Nat) (hi : i < 13) (s : Nat) (w : World) : Calls Tryz.prog (aF i) #[.pointer (some ⟨s, 0, none⟩)] w fun e w' => e = .returned (.pointer (some ⟨s, cF i, none⟩)) ∧ w' = w := by
 match i, hi with
 | 0, _ =>
  show Calls Tryz.prog 171 _ _ _
  go_enter Tryz.func171, Tryz.ntmps171
  go_wp2
  go_ret
  exact ⟨rfl, rfl⟩
 | 1, _ =>
  show Calls Tryz.prog 172 _ _ _
  go_enter Tryz.func172, Tryz.ntmps172
  go_wp2
  go_ret
  exact ⟨rfl, rfl⟩
 | 2, _ =>
  show Calls Tryz.prog 174 _ _ _
  go_enter Tryz.func174, Tryz.ntmps174
  go_wp2
  go_ret
  exact ⟨rfl, rfl⟩
 | 3, _ =>
  show Calls Tryz.prog 175 _ _ _
  go_enter Tryz.func175, Tryz.ntmps175
  go_wp2
  go_ret
  exact ⟨rfl, rfl⟩
 | 4, _ =>
  show Calls Tryz.prog 177 _ _ _
  go_enter Tryz.func177, Tryz.ntmps177
  go_wp2
  go_ret
  exact ⟨rfl, rfl⟩
 | 5, _ =>
  show Calls Tryz.prog 178 _ _ _
  go_enter Tryz.func178, Tryz.ntmps178
  go_wp2
  go_ret
  exact ⟨rfl, rfl⟩
 | 6, _ =>
  show Calls Tryz.prog 179 _ _ _
  go_enter Tryz.func179, Tryz.ntmps179
  go_wp2
  go_ret
  exact ⟨rfl, rfl⟩
 | 7, _ =>
  show Calls Tryz.prog 180 _ _ _
  go_enter Tryz.func180, Tryz.ntmps180
  go_wp2
  go_ret
  exact ⟨rfl, rfl⟩
 | 8, _ =>
  show Calls Tryz.prog 181 _ _ _
  go_enter Tryz.func181, Tryz.ntmps181
  go_wp2
  go_ret
  exact ⟨rfl, rfl⟩
 | 9, _ =>
  show Calls Tryz.prog 182 _ _ _
  go_enter Tryz.func182, Tryz.ntmps182
  go_wp2
  go_ret
  exact ⟨rfl, rfl⟩
 | 10, _ =>
  show Calls Tryz.prog 183 _ _ _
  go_enter Tryz.func183, Tryz.ntmps183
  go_wp2
  go_ret
  exact ⟨rfl, rfl⟩
 | 11, _ =>
  show Calls Tryz.prog 184 _ _ _
  go_enter Tryz.func184, Tryz.ntmps184
  go_wp2
  go_ret
  exact ⟨rfl, rfl⟩
 | 12, _ =>
  show Calls Tryz.prog 185 _ _ _
  go_enter Tryz.func185, Tryz.ntmps185
  go_wp2
  go_ret
  exact ⟨rfl, rfl⟩
theorem aE (i : Nat) (hi : i < 13) (args : Array Value) (w : World) : (callFunc (aF i) args).run Tryz.prog w = .ok (.enter (aF i) args) w := by
 match i, hi with
 | 0, _ => exact enters_ Tryz.func171 (by kernel_rfl) (by kernel_rfl) args w
 | 1, _ => exact enters_ Tryz.func172 (by kernel_rfl) (by kernel_rfl) args w
 | 2, _ => exact enters_ Tryz.func174 (by kernel_rfl) (by kernel_rfl) args w
 | 3, _ => exact enters_ Tryz.func175 (by kernel_rfl) (by kernel_rfl) args w
 | 4, _ => exact enters_ Tryz.func177 (by kernel_rfl) (by kernel_rfl) args w
 | 5, _ => exact enters_ Tryz.func178 (by kernel_rfl) (by kernel_rfl) args w
 | 6, _ => exact enters_ Tryz.func179 (by kernel_rfl) (by kernel_rfl) args w
 | 7, _ => exact enters_ Tryz.func180 (by kernel_rfl) (by kernel_rfl) args w
 | 8, _ => exact enters_ Tryz.func181 (by kernel_rfl) (by kernel_rfl) args w
 | 9, _ => exact enters_ Tryz.func182 (by kernel_rfl) (by kernel_rfl) args w
 | 10, _ => exact enters_ Tryz.func183 (by kernel_rfl) (by kernel_rfl) args w
 | 11, _ => exact enters_ Tryz.func184 (by kernel_rfl) (by kernel_rfl) args w
 | 12, _ => exact enters_ Tryz.func185 (by kernel_rfl) (by kernel_rfl) args w
theorem gE (i : Nat) (hi : i < 13) (args : Array Value) (w : World) : (callFunc (gF i) args).run Tryz.prog w = .ok (.enter (gF i) args) w := by
 match i, hi with
 | 0, _ => exact enters_ Tryz.func191 (by kernel_rfl) (by kernel_rfl) args w
 | 1, _ => exact enters_ Tryz.func191 (by kernel_rfl) (by kernel_rfl) args w
 | 2, _ => exact enters_ Tryz.func193 (by kernel_rfl) (by kernel_rfl) args w
 | 3, _ => exact enters_ Tryz.func193 (by kernel_rfl) (by kernel_rfl) args w
 | 4, _ => exact enters_ Tryz.func195 (by kernel_rfl) (by kernel_rfl) args w
 | 5, _ => exact enters_ Tryz.func195 (by kernel_rfl) (by kernel_rfl) args w
 | 6, _ => exact enters_ Tryz.func195 (by kernel_rfl) (by kernel_rfl) args w
 | 7, _ => exact enters_ Tryz.func195 (by kernel_rfl) (by kernel_rfl) args w
 | 8, _ => exact enters_ Tryz.func195 (by kernel_rfl) (by kernel_rfl) args w
 | 9, _ => exact enters_ Tryz.func193 (by kernel_rfl) (by kernel_rfl) args w
 | 10, _ => exact enters_ Tryz.func193 (by kernel_rfl) (by kernel_rfl) args w
 | 11, _ => exact enters_ Tryz.func195 (by kernel_rfl) (by kernel_rfl) args w
 | 12, _ => exact enters_ Tryz.func195 (by kernel_rfl) (by kernel_rfl) args w
theorem sE (i : Nat) (hi : i < 13) (args : Array Value) (w : World) : (callFunc (sF i) args).run Tryz.prog w = .ok (.enter (sF i) args) w := by
 match i, hi with
 | 0, _ => exact enters_ Tryz.func192 (by kernel_rfl) (by kernel_rfl) args w
 | 1, _ => exact enters_ Tryz.func192 (by kernel_rfl) (by kernel_rfl) args w
 | 2, _ => exact enters_ Tryz.func194 (by kernel_rfl) (by kernel_rfl) args w
 | 3, _ => exact enters_ Tryz.func194 (by kernel_rfl) (by kernel_rfl) args w
 | 4, _ => exact enters_ Tryz.func196 (by kernel_rfl) (by kernel_rfl) args w
 | 5, _ => exact enters_ Tryz.func196 (by kernel_rfl) (by kernel_rfl) args w
 | 6, _ => exact enters_ Tryz.func196 (by kernel_rfl) (by kernel_rfl) args w
 | 7, _ => exact enters_ Tryz.func196 (by kernel_rfl) (by kernel_rfl) args w
 | 8, _ => exact enters_ Tryz.func196 (by kernel_rfl) (by kernel_rfl) args w
 | 9, _ => exact enters_ Tryz.func194 (by kernel_rfl) (by kernel_rfl) args w
 | 10, _ => exact enters_ Tryz.func194 (by kernel_rfl) (by kernel_rfl) args w
 | 11, _ => exact enters_ Tryz.func196 (by kernel_rfl) (by kernel_rfl) args w
 | 12, _ => exact enters_ Tryz.func196 (by kernel_rfl) (by kernel_rfl) args w
theorem count_get (w : World) (s b k j y : Nat) (k0 : w.cell? ⟨b, 0, none⟩ = some (.func (.func k) #[] #[])) (k1 : w.cell? ⟨s, j, none⟩ = some (.int .i64 (y : Nat))) (hy : y < 9223372036854775808) (hE : ∀ (args : Array Value) (w : World), (callFunc k args).run Tryz.prog w = .ok (.enter k args) w) (hA : Calls Tryz.prog k #[.pointer (some ⟨s, 0, none⟩)] w fun e w' => e = .returned (.pointer (some ⟨s, j, none⟩)) ∧ w' = w) :
  Calls Tryz.prog 191 #[.pointer (some ⟨s, 0, none⟩), .pointer (some ⟨b, 0, none⟩)] w fun e w' => e = .returned (.int .u64 (y : Nat)) ∧ w' = w := by
 have HA := Lh hA
 clear hA
 go_enter Tryz.func191, Tryz.ntmps191
 go_wp2_with fail
 refine HA.out.mono ?_
 rintro e w' ⟨rfl, rfl⟩
 go_wp2
 go_ret
 exact ⟨rfl, rfl⟩
theorem count_set (w : World) (s b k j y : Nat) (u : Value) (k0 : w.cell? ⟨b, 0, none⟩ = some (.func (.func k) #[] #[])) (k1 : w.cell? ⟨s, j, none⟩ = some u) (f1 : w.frozen? ⟨s, j, none⟩ = false) (hy : y < 9223372036854775808) (hE : ∀ (args : Array Value) (w : World), (callFunc k args).run Tryz.prog w = .ok (.enter k args) w) (hA : Calls Tryz.prog k #[.pointer (some ⟨s, 0, none⟩)] w fun e w' => e = .returned (.pointer (some ⟨s, j, none⟩)) ∧ w' = w) :
  Calls Tryz.prog 192 #[.pointer (some ⟨s, 0, none⟩), .int .u64 (y : Nat), .pointer (some ⟨b, 0, none⟩)] w fun e w' => e = .returned (.tuple #[]) ∧ w' = w.setCell ⟨s, j, none⟩ (.int .i64 (y : Nat)) := by
 have HA := Lh hA
 clear hA
 go_enter Tryz.func192, Tryz.ntmps192
 go_wp2_with fail
 refine HA.out.mono ?_
 rintro e w' ⟨rfl, rfl⟩
 go_wp2
 go_end0
 exact ⟨rfl, rfl⟩
theorem short_get (w : World) (s b k j y : Nat) (k0 : w.cell? ⟨b, 0, none⟩ = some (.func (.func k) #[] #[])) (k1 : w.cell? ⟨s, j, none⟩ = some (.int .u16 (y : Nat))) (hy : y < 65536) (hE : ∀ (args : Array Value) (w : World), (callFunc k args).run Tryz.prog w = .ok (.enter k args) w) (hA : Calls Tryz.prog k #[.pointer (some ⟨s, 0, none⟩)] w fun e w' => e = .returned (.pointer (some ⟨s, j, none⟩)) ∧ w' = w) :
  Calls Tryz.prog 193 #[.pointer (some ⟨s, 0, none⟩), .pointer (some ⟨b, 0, none⟩)] w fun e w' => e = .returned (.int .u64 (y : Nat)) ∧ w' = w := by
 have HA := Lh hA
 clear hA
 go_enter Tryz.func193, Tryz.ntmps193
 go_wp2_with fail
 refine HA.out.mono ?_
 rintro e w' ⟨rfl, rfl⟩
 go_wp2
 go_ret
 exact ⟨rfl, rfl⟩
theorem short_set (w : World) (s b k j y : Nat) (u : Value) (k0 : w.cell? ⟨b, 0, none⟩ = some (.func (.func k) #[] #[])) (k1 : w.cell? ⟨s, j, none⟩ = some u) (f1 : w.frozen? ⟨s, j, none⟩ = false) (hy : y < 65536) (hE : ∀ (args : Array Value) (w : World), (callFunc k args).run Tryz.prog w = .ok (.enter k args) w) (hA : Calls Tryz.prog k #[.pointer (some ⟨s, 0, none⟩)] w fun e w' => e = .returned (.pointer (some ⟨s, j, none⟩)) ∧ w' = w) :
  Calls Tryz.prog 194 #[.pointer (some ⟨s, 0, none⟩), .int .u64 (y : Nat), .pointer (some ⟨b, 0, none⟩)] w fun e w' => e = .returned (.tuple #[]) ∧ w' = w.setCell ⟨s, j, none⟩ (.int .u16 (y : Nat)) := by
 have HA := Lh hA
 clear hA
 go_enter Tryz.func194, Tryz.ntmps194
 go_wp2_with fail
 refine HA.out.mono ?_
 rintro e w' ⟨rfl, rfl⟩
 go_wp2
 go_end0
 exact ⟨rfl, rfl⟩
theorem long_get (w : World) (s b k j y : Nat) (k0 : w.cell? ⟨b, 0, none⟩ = some (.func (.func k) #[] #[])) (k1 : w.cell? ⟨s, j, none⟩ = some (.int .u32 (y : Nat))) (hy : y < 4294967296) (hE : ∀ (args : Array Value) (w : World), (callFunc k args).run Tryz.prog w = .ok (.enter k args) w) (hA : Calls Tryz.prog k #[.pointer (some ⟨s, 0, none⟩)] w fun e w' => e = .returned (.pointer (some ⟨s, j, none⟩)) ∧ w' = w) :
  Calls Tryz.prog 195 #[.pointer (some ⟨s, 0, none⟩), .pointer (some ⟨b, 0, none⟩)] w fun e w' => e = .returned (.int .u64 (y : Nat)) ∧ w' = w := by
 have HA := Lh hA
 clear hA
 go_enter Tryz.func195, Tryz.ntmps195
 go_wp2_with fail
 refine HA.out.mono ?_
 rintro e w' ⟨rfl, rfl⟩
 go_wp2
 go_ret
 exact ⟨rfl, rfl⟩
theorem long_set (w : World) (s b k j y : Nat) (u : Value) (k0 : w.cell? ⟨b, 0, none⟩ = some (.func (.func k) #[] #[])) (k1 : w.cell? ⟨s, j, none⟩ = some u) (f1 : w.frozen? ⟨s, j, none⟩ = false) (hy : y < 4294967296) (hE : ∀ (args : Array Value) (w : World), (callFunc k args).run Tryz.prog w = .ok (.enter k args) w) (hA : Calls Tryz.prog k #[.pointer (some ⟨s, 0, none⟩)] w fun e w' => e = .returned (.pointer (some ⟨s, j, none⟩)) ∧ w' = w) :
  Calls Tryz.prog 196 #[.pointer (some ⟨s, 0, none⟩), .int .u64 (y : Nat), .pointer (some ⟨b, 0, none⟩)] w fun e w' => e = .returned (.tuple #[]) ∧ w' = w.setCell ⟨s, j, none⟩ (.int .u32 (y : Nat)) := by
 have HA := Lh hA
 clear hA
 go_enter Tryz.func196, Tryz.ntmps196
 go_wp2_with fail
 refine HA.out.mono ?_
 rintro e w' ⟨rfl, rfl⟩
 go_wp2
 go_end0
 exact ⟨rfl, rfl⟩
theorem get_calls (i : Nat) (hi : i < 13) (w : World) (s b : Nat) (x : Nat → Nat) (hs : w.heap[s]? = some (.cells (stV x) STT (0, 0))) (hb : w.heap[b]? = some (.cells #[atV i] (bT i) (0, 0))) (hx : x i < 256 ^ nF i) (h63 : x i < 9223372036854775808) :
  Calls Tryz.prog (gF i) #[.pointer (some ⟨s, 0, none⟩), .pointer (some ⟨b, 0, none⟩)] w fun e w' => e = .returned (.int .u64 (x i : Nat)) ∧ w' = w := by
 have hA := at_calls i hi s w
 have k0 := blk_cell hb 0
 have k1 := blk_cell hs (cF i)
 match i, hi with
 | 0, _ => exact count_get w s b _ _ _ k0 k1 h63 (aE 0 (by omega)) hA
 | 1, _ => exact count_get w s b _ _ _ k0 k1 h63 (aE 1 (by omega)) hA
 | 2, _ => exact short_get w s b _ _ _ k0 k1 hx (aE 2 (by omega)) hA
 | 3, _ => exact short_get w s b _ _ _ k0 k1 hx (aE 3 (by omega)) hA
 | 4, _ => exact long_get w s b _ _ _ k0 k1 hx (aE 4 (by omega)) hA
 | 5, _ => exact long_get w s b _ _ _ k0 k1 hx (aE 5 (by omega)) hA
 | 6, _ => exact long_get w s b _ _ _ k0 k1 hx (aE 6 (by omega)) hA
 | 7, _ => exact long_get w s b _ _ _ k0 k1 hx (aE 7 (by omega)) hA
 | 8, _ => exact long_get w s b _ _ _ k0 k1 hx (aE 8 (by omega)) hA
 | 9, _ => exact short_get w s b _ _ _ k0 k1 hx (aE 9 (by omega)) hA
 | 10, _ => exact short_get w s b _ _ _ k0 k1 hx (aE 10 (by omega)) hA
 | 11, _ => exact long_get w s b _ _ _ k0 k1 hx (aE 11 (by omega)) hA
 | 12, _ => exact long_get w s b _ _ _ k0 k1 hx (aE 12 (by omega)) hA
theorem st_upd (i : Nat) (hi : i < 13) {w : World} {s : Nat} {x : Nat → Nat} (hs : w.heap[s]? = some (.cells (stV x) STT (0, 0))) (v : Nat) : (w.setCell ⟨s, cF i, none⟩ (.int (kF i) (v : Nat))).heap[s]? = some (.cells (stV (upd x i v)) STT (0, 0)) := by
 match i, hi with
 | 0, _ => exact blk_put hs 11 (.int .i64 (v : Nat)) rfl
 | 1, _ => exact blk_put hs 12 (.int .i64 (v : Nat)) rfl
 | 2, _ => exact blk_put hs 0 (.int .u16 (v : Nat)) rfl
 | 3, _ => exact blk_put hs 1 (.int .u16 (v : Nat)) rfl
 | 4, _ => exact blk_put hs 2 (.int .u32 (v : Nat)) rfl
 | 5, _ => exact blk_put hs 3 (.int .u32 (v : Nat)) rfl
 | 6, _ => exact blk_put hs 4 (.int .u32 (v : Nat)) rfl
 | 7, _ => exact blk_put hs 5 (.int .u32 (v : Nat)) rfl
 | 8, _ => exact blk_put hs 6 (.int .u32 (v : Nat)) rfl
 | 9, _ => exact blk_put hs 7 (.int .u16 (v : Nat)) rfl
 | 10, _ => exact blk_put hs 8 (.int .u16 (v : Nat)) rfl
 | 11, _ => exact blk_put hs 9 (.int .u32 (v : Nat)) rfl
 | 12, _ => exact blk_put hs 10 (.int .u32 (v : Nat)) rfl
theorem set_calls (i : Nat) (hi : i < 13) (w : World) (s b : Nat) (x : Nat → Nat) (v : Nat) (hs : w.heap[s]? = some (.cells (stV x) STT (0, 0))) (hb : w.heap[b]? = some (.cells #[atV i] (bT i) (0, 0))) (hv : v < 256 ^ nF i) (h63 : v < 9223372036854775808) :
  Calls Tryz.prog (sF i) #[.pointer (some ⟨s, 0, none⟩), .int .u64 (v : Nat), .pointer (some ⟨b, 0, none⟩)] w fun e w' => e = .returned (.tuple #[]) ∧ w' = w.setCell ⟨s, cF i, none⟩ (.int (kF i) (v : Nat)) := by
 have hA := at_calls i hi s w
 have k0 := blk_cell hb 0
 have k1 := blk_cell hs (cF i)
 have f1 := blk_frozen hs (cF i)
 match i, hi with
 | 0, _ => exact count_set w s b _ _ v _ k0 k1 f1 h63 (aE 0 (by omega)) hA
 | 1, _ => exact count_set w s b _ _ v _ k0 k1 f1 h63 (aE 1 (by omega)) hA
 | 2, _ => exact short_set w s b _ _ v _ k0 k1 f1 hv (aE 2 (by omega)) hA
 | 3, _ => exact short_set w s b _ _ v _ k0 k1 f1 hv (aE 3 (by omega)) hA
 | 4, _ => exact long_set w s b _ _ v _ k0 k1 f1 hv (aE 4 (by omega)) hA
 | 5, _ => exact long_set w s b _ _ v _ k0 k1 f1 hv (aE 5 (by omega)) hA
 | 6, _ => exact long_set w s b _ _ v _ k0 k1 f1 hv (aE 6 (by omega)) hA
 | 7, _ => exact long_set w s b _ _ v _ k0 k1 f1 hv (aE 7 (by omega)) hA
 | 8, _ => exact long_set w s b _ _ v _ k0 k1 f1 hv (aE 8 (by omega)) hA
 | 9, _ => exact short_set w s b _ _ v _ k0 k1 f1 hv (aE 9 (by omega)) hA
 | 10, _ => exact short_set w s b _ _ v _ k0 k1 f1 hv (aE 10 (by omega)) hA
 | 11, _ => exact long_set w s b _ _ v _ k0 k1 f1 hv (aE 11 (by omega)) hA
 | 12, _ => exact long_set w s b _ _ v _ k0 k1 f1 hv (aE 12 (by omega)) hA
theorem short_calls (k : Nat) (w : World) : Calls Tryz.prog 173 #[.func (.func k) #[] #[]] w fun e w' => e = .returned (.agg #[.int .i64 2, .func (.func 193) #[] #[.pointer (some ⟨w.heap.size, 0, none⟩)], .func (.func 194) #[] #[.pointer (some ⟨w.heap.size, 0, none⟩)]]) ∧ w'.heap[w.heap.size]? = some (.cells #[.func (.func k) #[] #[]] 213 (0, 0)) ∧ Below w.heap.size w w' := by
 have hmf : ∀ (fn : Fn) (first cap : Array Value) (w : World), (Instr.makeFunc fn first cap).run Tryz.prog w = .ok (.func fn first cap) w := fun _ _ _ _ => rfl
 go_enter Tryz.func173, Tryz.ntmps173
 go_wp2
 refine bodyPost_ret (results_cell_row rfl _ _ (w.heap.size + 1) 207 #[.int .i64 2, .func (.func 193) #[] #[.pointer (some ⟨w.heap.size, 0, none⟩)], .func (.func 194) #[] #[.pointer (some ⟨w.heap.size, 0, none⟩)]] (0, 0) _ rfl (by have h := blk_new (w.alloc (.cells #[.func (.func k) #[] #[]] 213)) (.cells #[.int .i64 2, .func (.func 193) #[] #[.pointer (some ⟨w.heap.size, 0, none⟩)], .func (.func 194) #[] #[.pointer (some ⟨w.heap.size, 0, none⟩)]] 207); rw [World.size_alloc] at h; exact h) Tryz.underlying207 rfl (by kernel_rfl)) rfl ?_
 exact ⟨rfl, blk_alloc (blk_new w (.cells #[.func (.func k) #[] #[]] 213)) _, below_alloc (below_alloc (Below.refl _ _) _) _⟩
theorem long_calls (k : Nat) (w : World) : Calls Tryz.prog 176 #[.func (.func k) #[] #[]] w fun e w' => e = .returned (.agg #[.int .i64 4, .func (.func 195) #[] #[.pointer (some ⟨w.heap.size, 0, none⟩)], .func (.func 196) #[] #[.pointer (some ⟨w.heap.size, 0, none⟩)]]) ∧ w'.heap[w.heap.size]? = some (.cells #[.func (.func k) #[] #[]] 216 (0, 0)) ∧ Below w.heap.size w w' := by
 have hmf : ∀ (fn : Fn) (first cap : Array Value) (w : World), (Instr.makeFunc fn first cap).run Tryz.prog w = .ok (.func fn first cap) w := fun _ _ _ _ => rfl
 go_enter Tryz.func176, Tryz.ntmps176
 go_wp2
 refine bodyPost_ret (results_cell_row rfl _ _ (w.heap.size + 1) 207 #[.int .i64 4, .func (.func 195) #[] #[.pointer (some ⟨w.heap.size, 0, none⟩)], .func (.func 196) #[] #[.pointer (some ⟨w.heap.size, 0, none⟩)]] (0, 0) _ rfl (by have h := blk_new (w.alloc (.cells #[.func (.func k) #[] #[]] 216)) (.cells #[.int .i64 4, .func (.func 195) #[] #[.pointer (some ⟨w.heap.size, 0, none⟩)], .func (.func 196) #[] #[.pointer (some ⟨w.heap.size, 0, none⟩)]] 207); rw [World.size_alloc] at h; exact h) Tryz.underlying207 rfl (by kernel_rfl)) rfl ?_
 exact ⟨rfl, blk_alloc (blk_new w (.cells #[.func (.func k) #[] #[]] 216)) _, below_alloc (below_alloc (Below.refl _ _) _) _⟩
theorem count_calls (n : Int) (k : Nat) (w : World) : Calls Tryz.prog 170 #[.int .i64 n, .func (.func k) #[] #[]] w fun e w' => e = .returned (.agg #[.int .i64 n, .func (.func 191) #[] #[.pointer (some ⟨w.heap.size, 0, none⟩)], .func (.func 192) #[] #[.pointer (some ⟨w.heap.size, 0, none⟩)]]) ∧ w'.heap[w.heap.size]? = some (.cells #[.func (.func k) #[] #[]] 210 (0, 0)) ∧ Below w.heap.size w w' := by
 have hmf : ∀ (fn : Fn) (first cap : Array Value) (w : World), (Instr.makeFunc fn first cap).run Tryz.prog w = .ok (.func fn first cap) w := fun _ _ _ _ => rfl
 go_enter Tryz.func170, Tryz.ntmps170
 go_wp2
 refine bodyPost_ret (results_cell_row rfl _ _ (w.heap.size + 1) 207 #[.int .i64 n, .func (.func 191) #[] #[.pointer (some ⟨w.heap.size, 0, none⟩)], .func (.func 192) #[] #[.pointer (some ⟨w.heap.size, 0, none⟩)]] (0, 0) _ rfl (by have h := blk_new (w.alloc (.cells #[.func (.func k) #[] #[]] 210)) (.cells #[.int .i64 n, .func (.func 191) #[] #[.pointer (some ⟨w.heap.size, 0, none⟩)], .func (.func 192) #[] #[.pointer (some ⟨w.heap.size, 0, none⟩)]] 207); rw [World.size_alloc] at h; exact h) Tryz.underlying207 rfl (by kernel_rfl)) rfl ?_
 exact ⟨rfl, blk_alloc (blk_new w (.cells #[.func (.func k) #[] #[]] 210)) _, below_alloc (below_alloc (Below.refl _ _) _) _⟩
end Go.Proofs.YthiaakjbapgibaaGreat.Ck
end
section
namespace Go.Proofs.YthiaakjbapgibaaGreat.Ck
open Go.RowKit YthiaakjbapgibaaGreatW.PrintWords YthiaakjbapgibaaGreatW.PrintLast Base
def FldAt (W : World) (ad : Addr) (i : Nat) : Prop := ∃ b, W.cell? (ad.add (i * 3)) = some (.int .i64 (nF i : Nat)) ∧ W.cell? ⟨(ad.add (i * 3)).block, (ad.add (i * 3)).off + 1, none⟩ = some (.func (.func (gF i)) #[] #[.pointer (some ⟨b, 0, none⟩)]) ∧ W.cell? ⟨(ad.add (i * 3)).block, (ad.add (i * 3)).off + 2, none⟩ = some (.func (.func (sF i)) #[] #[.pointer (some ⟨b, 0, none⟩)]) ∧ W.heap[b]? = some (.cells #[atV i] (bT i) (0, 0))
theorem FldAt.below {W W' : World} {ad : Addr} {i : Nat} (h : FldAt W ad i) (hb : Below W.heap.size W W') : FldAt W' ad i := by
 obtain ⟨b, h1, h2, h3, h4⟩ := h
 exact ⟨b, pw_cell_below hb h1, pw_cell_below hb h2, pw_cell_below hb h3, blk_below h4 hb⟩
set_option maxHeartbeats 2000000 in
theorem fields_calls (w : World) : Calls Tryz.prog 151 #[] w fun e w' => ∃ ad, e = .returned (.slice (some ad) 13 13) ∧ (∀ i, i < 13 → FldAt w' ad i) ∧ Below w.heap.size w w' := by
 go_enter Tryz.func151, Tryz.ntmps151
 go_wp2_with fail
 refine (count_calls 8 171 w).mono ?_
 rintro e w1 ⟨rfl, hk, hB⟩
 have H0 := Lh hk
 have HB := Lh hB
 clear hk hB
 go_wp2_with fail
 refine (count_calls 4 172 w1).mono ?_
 rintro e w2 ⟨rfl, hk, hB⟩
 replace H0 := Lh (blk_below H0.out hB)
 have H1 := Lh hk
 replace HB := Lh (below_then HB.out HB.out.size hB)
 clear hk hB
 generalize w1.heap.size = b1 at H1 ⊢
 go_wp2_with fail
 refine (short_calls 174 w2).mono ?_
 rintro e w3 ⟨rfl, hk, hB⟩
 replace H0 := Lh (blk_below H0.out hB)
 replace H1 := Lh (blk_below H1.out hB)
 have H2 := Lh hk
 replace HB := Lh (below_then HB.out HB.out.size hB)
 clear hk hB
 generalize w2.heap.size = b2 at H2 ⊢
 go_wp2_with fail
 refine (short_calls 175 w3).mono ?_
 rintro e w4 ⟨rfl, hk, hB⟩
 replace H0 := Lh (blk_below H0.out hB)
 replace H1 := Lh (blk_below H1.out hB)
 replace H2 := Lh (blk_below H2.out hB)
 have H3 := Lh hk
 replace HB := Lh (below_then HB.out HB.out.size hB)
 clear hk hB
 generalize w3.heap.size = b3 at H3 ⊢
 go_wp2_with fail
 refine (long_calls 177 w4).mono ?_
 rintro e w5 ⟨rfl, hk, hB⟩
 replace H0 := Lh (blk_below H0.out hB)
 replace H1 := Lh (blk_below H1.out hB)
 replace H2 := Lh (blk_below H2.out hB)
 replace H3 := Lh (blk_below H3.out hB)
 have H4 := Lh hk
 replace HB := Lh (below_then HB.out HB.out.size hB)
 clear hk hB
 generalize w4.heap.size = b4 at H4 ⊢
 go_wp2_with fail
 refine (long_calls 178 w5).mono ?_
 rintro e w6 ⟨rfl, hk, hB⟩
 replace H0 := Lh (blk_below H0.out hB)
 replace H1 := Lh (blk_below H1.out hB)
 replace H2 := Lh (blk_below H2.out hB)
 replace H3 := Lh (blk_below H3.out hB)
 replace H4 := Lh (blk_below H4.out hB)
 have H5 := Lh hk
 replace HB := Lh (below_then HB.out HB.out.size hB)
 clear hk hB
 generalize w5.heap.size = b5 at H5 ⊢
 go_wp2_with fail
 refine (long_calls 179 w6).mono ?_
 rintro e w7 ⟨rfl, hk, hB⟩
 replace H0 := Lh (blk_below H0.out hB)
 replace H1 := Lh (blk_below H1.out hB)
 replace H2 := Lh (blk_below H2.out hB)
 replace H3 := Lh (blk_below H3.out hB)
 replace H4 := Lh (blk_below H4.out hB)
 replace H5 := Lh (blk_below H5.out hB)
 have H6 := Lh hk
 replace HB := Lh (below_then HB.out HB.out.size hB)
 clear hk hB
 generalize w6.heap.size = b6 at H6 ⊢
 go_wp2_with fail
 refine (long_calls 180 w7).mono ?_
 rintro e w8 ⟨rfl, hk, hB⟩
 replace H0 := Lh (blk_below H0.out hB)
 replace H1 := Lh (blk_below H1.out hB)
 replace H2 := Lh (blk_below H2.out hB)
 replace H3 := Lh (blk_below H3.out hB)
 replace H4 := Lh (blk_below H4.out hB)
 replace H5 := Lh (blk_below H5.out hB)
 replace H6 := Lh (blk_below H6.out hB)
 have H7 := Lh hk
 replace HB := Lh (below_then HB.out HB.out.size hB)
 clear hk hB
 generalize w7.heap.size = b7 at H7 ⊢
 go_wp2_with fail
 refine (long_calls 181 w8).mono ?_
 rintro e w9 ⟨rfl, hk, hB⟩
 replace H0 := Lh (blk_below H0.out hB)
 replace H1 := Lh (blk_below H1.out hB)
 replace H2 := Lh (blk_below H2.out hB)
 replace H3 := Lh (blk_below H3.out hB)
 replace H4 := Lh (blk_below H4.out hB)
 replace H5 := Lh (blk_below H5.out hB)
 replace H6 := Lh (blk_below H6.out hB)
 replace H7 := Lh (blk_below H7.out hB)
 have H8 := Lh hk
 replace HB := Lh (below_then HB.out HB.out.size hB)
 clear hk hB
 generalize w8.heap.size = b8 at H8 ⊢
 go_wp2_with fail
 refine (short_calls 182 w9).mono ?_
 rintro e w10 ⟨rfl, hk, hB⟩
 replace H0 := Lh (blk_below H0.out hB)
 replace H1 := Lh (blk_below H1.out hB)
 replace H2 := Lh (blk_below H2.out hB)
 replace H3 := Lh (blk_below H3.out hB)
 replace H4 := Lh (blk_below H4.out hB)
 replace H5 := Lh (blk_below H5.out hB)
 replace H6 := Lh (blk_below H6.out hB)
 replace H7 := Lh (blk_below H7.out hB)
 replace H8 := Lh (blk_below H8.out hB)
 have H9 := Lh hk
 replace HB := Lh (below_then HB.out HB.out.size hB)
 clear hk hB
 generalize w9.heap.size = b9 at H9 ⊢
 go_wp2_with fail
 refine (short_calls 183 w10).mono ?_
 rintro e w11 ⟨rfl, hk, hB⟩
 replace H0 := Lh (blk_below H0.out hB)
 replace H1 := Lh (blk_below H1.out hB)
 replace H2 := Lh (blk_below H2.out hB)
 replace H3 := Lh (blk_below H3.out hB)
 replace H4 := Lh (blk_below H4.out hB)
 replace H5 := Lh (blk_below H5.out hB)
 replace H6 := Lh (blk_below H6.out hB)
 replace H7 := Lh (blk_below H7.out hB)
 replace H8 := Lh (blk_below H8.out hB)
 replace H9 := Lh (blk_below H9.out hB)
 have H10 := Lh hk
 replace HB := Lh (below_then HB.out HB.out.size hB)
 clear hk hB
 generalize w10.heap.size = b10 at H10 ⊢
 go_wp2_with fail
 refine (long_calls 184 w11).mono ?_
 rintro e w12 ⟨rfl, hk, hB⟩
 replace H0 := Lh (blk_below H0.out hB)
 replace H1 := Lh (blk_below H1.out hB)
 replace H2 := Lh (blk_below H2.out hB)
 replace H3 := Lh (blk_below H3.out hB)
 replace H4 := Lh (blk_below H4.out hB)
 replace H5 := Lh (blk_below H5.out hB)
 replace H6 := Lh (blk_below H6.out hB)
 replace H7 := Lh (blk_below H7.out hB)
 replace H8 := Lh (blk_below H8.out hB)
 replace H9 := Lh (blk_below H9.out hB)
 replace H10 := Lh (blk_below H10.out hB)
 have H11 := Lh hk
 replace HB := Lh (below_then HB.out HB.out.size hB)
 clear hk hB
 generalize w11.heap.size = b11 at H11 ⊢
 go_wp2_with fail
 refine (long_calls 185 w12).mono ?_
 rintro e w13 ⟨rfl, hk, hB⟩
 replace H0 := Lh (blk_below H0.out hB)
 replace H1 := Lh (blk_below H1.out hB)
 replace H2 := Lh (blk_below H2.out hB)
 replace H3 := Lh (blk_below H3.out hB)
 replace H4 := Lh (blk_below H4.out hB)
 replace H5 := Lh (blk_below H5.out hB)
 replace H6 := Lh (blk_below H6.out hB)
 replace H7 := Lh (blk_below H7.out hB)
 replace H8 := Lh (blk_below H8.out hB)
 replace H9 := Lh (blk_below H9.out hB)
 replace H10 := Lh (blk_below H10.out hB)
 replace H11 := Lh (blk_below H11.out hB)
 have H12 := Lh hk
 replace HB := Lh (below_then HB.out HB.out.size hB)
 clear hk hB
 generalize w12.heap.size = b12 at H12 ⊢
 go_wp2
 go_ret
 have HN := blk_new w13 (.cells #[.int .i64 8, .func (.func 191) #[] #[.pointer (some ⟨w.heap.size, 0, none⟩)], .func (.func 192) #[] #[.pointer (some ⟨w.heap.size, 0, none⟩)], .int .i64 4, .func (.func 191) #[] #[.pointer (some ⟨b1, 0, none⟩)], .func (.func 192) #[] #[.pointer (some ⟨b1, 0, none⟩)], .int .i64 2, .func (.func 193) #[] #[.pointer (some ⟨b2, 0, none⟩)], .func (.func 194) #[] #[.pointer (some ⟨b2, 0, none⟩)], .int .i64 2, .func (.func 193) #[] #[.pointer (some ⟨b3, 0, none⟩)], .func (.func 194) #[] #[.pointer (some ⟨b3, 0, none⟩)], .int .i64 4, .func (.func 195) #[] #[.pointer (some ⟨b4, 0, none⟩)], .func (.func 196) #[] #[.pointer (some ⟨b4, 0, none⟩)], .int .i64 4, .func (.func 195) #[] #[.pointer (some ⟨b5, 0, none⟩)], .func (.func 196) #[] #[.pointer (some ⟨b5, 0, none⟩)], .int .i64 4, .func (.func 195) #[] #[.pointer (some ⟨b6, 0, none⟩)], .func (.func 196) #[] #[.pointer (some ⟨b6, 0, none⟩)], .int .i64 4, .func (.func 195) #[] #[.pointer (some ⟨b7, 0, none⟩)], .func (.func 196) #[] #[.pointer (some ⟨b7, 0, none⟩)], .int .i64 4, .func (.func 195) #[] #[.pointer (some ⟨b8, 0, none⟩)], .func (.func 196) #[] #[.pointer (some ⟨b8, 0, none⟩)], .int .i64 2, .func (.func 193) #[] #[.pointer (some ⟨b9, 0, none⟩)], .func (.func 194) #[] #[.pointer (some ⟨b9, 0, none⟩)], .int .i64 2, .func (.func 193) #[] #[.pointer (some ⟨b10, 0, none⟩)], .func (.func 194) #[] #[.pointer (some ⟨b10, 0, none⟩)], .int .i64 4, .func (.func 195) #[] #[.pointer (some ⟨b11, 0, none⟩)], .func (.func 196) #[] #[.pointer (some ⟨b11, 0, none⟩)], .int .i64 4, .func (.func 195) #[] #[.pointer (some ⟨b12, 0, none⟩)], .func (.func 196) #[] #[.pointer (some ⟨b12, 0, none⟩)]] 207)
 refine ⟨_, rfl, fun i hi => ?_, below_then HB.out HB.out.size (below_alloc (Below.refl _ _) _)⟩
 match i, hi with
 | 0, _ => exact ⟨_, (blk_cell HN 0).trans rfl, (blk_cell HN 1).trans rfl, (blk_cell HN 2).trans rfl, blk_alloc H0.out _⟩
 | 1, _ => exact ⟨_, (blk_cell HN 3).trans rfl, (blk_cell HN 4).trans rfl, (blk_cell HN 5).trans rfl, blk_alloc H1.out _⟩
 | 2, _ => exact ⟨_, (blk_cell HN 6).trans rfl, (blk_cell HN 7).trans rfl, (blk_cell HN 8).trans rfl, blk_alloc H2.out _⟩
 | 3, _ => exact ⟨_, (blk_cell HN 9).trans rfl, (blk_cell HN 10).trans rfl, (blk_cell HN 11).trans rfl, blk_alloc H3.out _⟩
 | 4, _ => exact ⟨_, (blk_cell HN 12).trans rfl, (blk_cell HN 13).trans rfl, (blk_cell HN 14).trans rfl, blk_alloc H4.out _⟩
 | 5, _ => exact ⟨_, (blk_cell HN 15).trans rfl, (blk_cell HN 16).trans rfl, (blk_cell HN 17).trans rfl, blk_alloc H5.out _⟩
 | 6, _ => exact ⟨_, (blk_cell HN 18).trans rfl, (blk_cell HN 19).trans rfl, (blk_cell HN 20).trans rfl, blk_alloc H6.out _⟩
 | 7, _ => exact ⟨_, (blk_cell HN 21).trans rfl, (blk_cell HN 22).trans rfl, (blk_cell HN 23).trans rfl, blk_alloc H7.out _⟩
 | 8, _ => exact ⟨_, (blk_cell HN 24).trans rfl, (blk_cell HN 25).trans rfl, (blk_cell HN 26).trans rfl, blk_alloc H8.out _⟩
 | 9, _ => exact ⟨_, (blk_cell HN 27).trans rfl, (blk_cell HN 28).trans rfl, (blk_cell HN 29).trans rfl, blk_alloc H9.out _⟩
 | 10, _ => exact ⟨_, (blk_cell HN 30).trans rfl, (blk_cell HN 31).trans rfl, (blk_cell HN 32).trans rfl, blk_alloc H10.out _⟩
 | 11, _ => exact ⟨_, (blk_cell HN 33).trans rfl, (blk_cell HN 34).trans rfl, (blk_cell HN 35).trans rfl, blk_alloc H11.out _⟩
 | 12, _ => exact ⟨_, (blk_cell HN 36).trans rfl, (blk_cell HN 37).trans rfl, (blk_cell HN 38).trans rfl, blk_alloc H12.out _⟩
end Go.Proofs.YthiaakjbapgibaaGreat.Ck
end
section
namespace Go.Proofs.YthiaakjbapgibaaGreat.Ck
open Go.RowKit YthiaakjbapgibaaGreatW.PrintWords YthiaakjbapgibaaGreatW.PrintLast Base
def sealN (x : Nat → Nat) : Nat → List UInt8
 | 0 => []
 | k + 1 => sealN x k ++ beN (nF k) (x k)
def posF : Nat → Nat
 | 0 => 0
 | k + 1 => posF k + nF k
theorem sealN_length (x : Nat → Nat) (k : Nat) : (sealN x k).length = posF k := by
 induction k with
 | zero => rfl
 | succ k ih => rw [sealN, List.length_append, beN_length, ih]; rfl
theorem nF_le (k : Nat) : nF k ≤ 8 := by unfold nF; split <;> decide
theorem posF_le (k : Nat) : posF k ≤ 8 * k := by
 induction k with
 | zero => decide
 | succ k ih => have := nF_le k; unfold posF; omega
theorem byte_be (y j : Nat) : ((y : Int) / 2 ^ (8 * j) % 256) = ((UInt8.ofNat (y / 256 ^ j)).toNat : Int) := by
 have e : (256 : Nat) ^ j = 2 ^ (8 * j) := by rw [Nat.pow_mul]
 rw [UInt8.toNat_ofNat', e]
 simp
theorem K_u8 (w : World) (b : UInt8) (z : Int) (h : (b.toNat : Int) = z) (base : Nat) (ok : Nat → Prop) : byte.M w base ok b [.int .u8 z] := by subst h; rfl
set_option maxHeartbeats 1000000 in
theorem write_calls (w : World) (s : Nat) (ad : Addr) (x : Nat → Nat) (hs : w.heap[s]? = some (.cells (stV x) STT (0, 0))) (hf : ∀ i, i < 13 → FldAt w ad i) (hx : ∀ i, i < 13 → x i < 256 ^ nF i) (h63 : ∀ i, i < 13 → x i < 9223372036854775808) :
  Calls Tryz.prog 165 #[.pointer (some ⟨s, 0, none⟩), .slice (some ad) 13 13] w (RetR byte 5 (sealN x 13) w) := by
 have HS := Lh hs
 have HF := Lh hf
 have HX := Lh hx
 have H63 := Lh h63
 clear hs hf hx h63
 go_enter Tryz.func165, Tryz.ntmps165
 go_wp2
 go_loopw [5, 12] (fun v5 v12 wr => ∃ k : Nat, k ≤ 13 ∧ v12 = .int .i64 k ∧ Hid (byte.R 5 wr w.heap.size (fun _ => True) v5 (sealN x k)) ∧ Hid (Below w.heap.size w wr)) (fun _ v12 _ => 13 - (intOf v12).toNat)
 case atStart => exact ⟨0, by omega, rfl, Kd.R_nil _ _ _ _ _, Below.refl _ _⟩
 case round =>
  obtain ⟨k, hk, rfl, HR, HB⟩ := hrel
  by_cases hlt : k < 13
  ·obtain ⟨b, x0, x1, x2, hbk⟩ := FldAt.below (HF.out k hlt) HB.out
   have hsl := sealN_length x k
   have hpl := posF_le k
   have HSN := Lh (show sealN x (k + 1) = sealN x k ++ beN (nF k) (x k) from rfl)
   have hnl := nF_le k
   have hsr := blk_below HS.out HB.out
   have HG := Lh (fun (W : World) (h : Below wr.heap.size wr W) => get_calls k hlt W s b x (blk_below hsr h) (blk_below hbk h) (HX.out k hlt) (H63.out k hlt))
   have hE := gE k hlt
   have h64 := H63.out k hlt
   obtain ⟨Av, cv, rfl⟩ := Kd.R_slice HR.out
   generalize hxs : sealN x k = xs at *
   generalize x k = y at *
   generalize nF k = n at *
   generalize gF k = G at *
   generalize sF k = T at *
   have hxl : xs.length ≤ 104 := by omega
   clear hsr hbk hxs hsl
   go_wp2_with fail
   refine (HG.out _ (below_alloc (Below.refl _ _) _)).mono ?_
   rintro e w1 ⟨rfl, rfl⟩
   have hsz : w.heap.size ≤ wr.heap.size := HB.out.size
   have HR2 := Lh (fun o => Kd.R_alloc HR.out o)
   have HB2 := Lh (fun o => HB.out.alloc hsz o)
   clear HR HB HG x0 x1 x2
   go_wp2
   go_loopw [5, 9] (fun v5 v9 wq => ∃ (m : Nat) (ys : List UInt8), m ≤ n ∧ v9 = .int .i64 ((m : Int) - 1) ∧ Hid (byte.R 5 wq w.heap.size (fun _ => True) v5 ys) ∧ Hid (ys ++ beN m y = xs ++ beN n y) ∧ Hid (Below w.heap.size w wq)) (fun _ v9 _ => (intOf v9 + 1).toNat)
   case atStart => exact ⟨n, xs, Nat.le_refl _, rfl, HR2.out _, rfl, HB2.out _⟩
   case round =>
    clear HR2 HB2
    obtain ⟨m, ys, hm, rfl, HR, HE, HB⟩ := hrel
    obtain ⟨Av, cv, rfl⟩ := Kd.R_slice HR.out
    have hl : ys.length ≤ 1008 := by
     have := congrArg List.length HE.out
     rw [List.length_append, List.length_append, beN_length, beN_length] at this
     omega
    cases m with
    | zero =>
     have hE := HE.out
     rw [beN, List.append_nil] at hE
     subst hE
     rw [show (((0 : Nat) : Int) - 1) = -1 from rfl]
     clear HE
     go_wp2
     go_roundw
     case rel => exact ⟨k + 1, by omega, by go_num, by rw [HSN.out]; exact HR, HB⟩
     case measure => simp [intOf]; omega
    | succ j =>
     have hx := byte_be y j
     have hE : (ys ++ [UInt8.ofNat (y / 256 ^ j)]) ++ beN j y = xs ++ beN n y := by rw [List.append_assoc]; exact HE.out
     rw [show (((j + 1 : Nat) : Int) - 1) = (j : Int) by omega]
     generalize UInt8.ofNat (y / 256 ^ j) = bb at *
     have HE2 := Lh hE
     clear hE HE
     generalize hz : ((bb.toNat : Nat) : Int) = z at *
     have HZ := Lh hz
     clear hz
     go_wp2_with (at_builtin; go_must (refine Kd.R_append byte (w0 := w) w.heap.size rfl _ _ 62 5 _ 1 rfl Tryz.underlying62 info_u8 rfl (by decide) (by decide) (.slice Av ys.length cv) ys bb [.int .u8 z] (fun _ => True) (fun _ => False) rfl rfl (K_u8 _ bb z HZ.out _ _) (fun _ h => h.elim) (fun _ _ => trivial) HR.out HB.out HB.out.size (by omega) ?_); intro v1 w1 hR1 hB1 _ _; have HR1 := Lh hR1; have HB1 := Lh hB1; clear hR1 hB1)
     go_roundw
     case rel => exact ⟨j, ys ++ [bb], by omega, by go_num, HR1, HE2, HB1⟩
     case measure => simp [intOf]
  ·obtain rfl : k = 13 := by omega
   obtain ⟨Av, cv, rfl⟩ := Kd.R_slice HR.out
   go_wp2
   go_ret
   exact ⟨_, rfl, HR.out, HB.out⟩
end Go.Proofs.YthiaakjbapgibaaGreat.Ck
end
section
namespace Go.Proofs.YthiaakjbapgibaaGreat.Ck
open Go.RowKit YthiaakjbapgibaaGreatW.PrintWords YthiaakjbapgibaaGreatW.PrintLast Base
def valF (l : List UInt8) (i : Nat) : Nat := numBE 0 ((l.drop (posF i)).take (nF i))
def rdN (l : List UInt8) (k : Nat) : Nat → Nat := fun i => if i < k then valF l i else 0
theorem rdN_succ (l : List UInt8) (k : Nat) : upd (rdN l k) k (valF l k) = rdN l (k + 1) := by
 funext i
 unfold upd rdN
 by_cases h : i = k
 ·subst h; rw [if_pos rfl, if_pos (by omega)]
 ·rw [if_neg h]
  by_cases h2 : i < k
  ·rw [if_pos h2, if_pos (by omega)]
  ·rw [if_neg h2, if_neg (by omega)]
theorem valF_lt (l : List UInt8) (i : Nat) : valF l i < 256 ^ nF i := by
 unfold valF
 refine Nat.lt_of_lt_of_le (numBE_lt _ 0) ?_
 rw [Nat.zero_add, Nat.one_mul]
 exact Nat.pow_le_pow_right (by decide) (by rw [List.length_take]; omega)
theorem num_snoc (q : List UInt8) (j : Nat) (h : j < q.length) : numBE 0 (q.take (j + 1)) = numBE 0 (q.take j) * 256 + (q.getD j 0).toNat := by
 rw [List.take_succ_eq_append_getElem h, numBE_snoc, getD_lt _ _ _ h]
theorem num_lt (q : List UInt8) (j : Nat) (hj : j ≤ 7) : numBE 0 (q.take j) < 72057594037927936 := by
 refine Nat.lt_of_lt_of_le (numBE_lt _ 0) ?_
 rw [Nat.zero_add, Nat.one_mul]
 exact Nat.le_trans (Nat.pow_le_pow_right (by decide) (show (q.take j).length ≤ 7 by rw [List.length_take]; omega)) (by decide)
theorem or_low (x : Nat) (c : UInt8) (hx : x < 72057594037927936) : bits .or .u64 ((x : Int) * 256) (c.toNat : Int) = ((x * 256 + c.toNat : Nat) : Int) := by
 have hc := c.toNat_lt
 have h := (bits_nat .u64 64 (by decide) (fun n h0 h1 => by simp [IntKind.wrap, IntKind.bits, IntKind.signed]; omega) (x * 256) c.toNat (by omega) (by omega)).2
 rw [show ((x : Int) * 256) = ((x * 256 : Nat) : Int) by simp, h]
 congr 1
 have := Nat.two_pow_add_eq_or_of_lt (b := c.toNat) (i := 8) (by omega) x
 rw [show (2 : Nat) ^ 8 = 256 from rfl] at this
 rw [Nat.mul_comm x 256]
 exact this.symm
theorem wrap_u64 (n : Int) (h0 : 0 ≤ n) (h : n < 18446744073709551616) : IntKind.u64.wrap n = n := by
 have : IntKind.u64.wrap n = n % 18446744073709551616 := by simp [IntKind.wrap, IntKind.bits, IntKind.signed]
 rw [this, Int.emod_eq_of_lt h0 h]
theorem stV0 : (stV fun _ => 0) = #[.int .u16 0, .int .u16 0, .int .u32 0, .int .u32 0, .int .u32 0, .int .u32 0, .int .u32 0, .int .u16 0, .int .u16 0, .int .u32 0, .int .u32 0, .int .i64 0, .int .i64 0] := rfl
theorem rdN_zero (l : List UInt8) : rdN l 0 = fun _ => 0 := by funext i; unfold rdN; rw [if_neg (by omega)]
theorem nF_8 (k : Nat) (hk : k < 13) : nF k = 8 ↔ k = 0 := by
 match k, hk with
 | 0, _ | 1, _ | 2, _ | 3, _ | 4, _ | 5, _ | 6, _ | 7, _ | 8, _ | 9, _ | 10, _ | 11, _ | 12, _ => decide
theorem valF_63 (l : List UInt8) (i : Nat) (hi : i < 13) (h : ¬ (nF i = 8 ∧ valF l i > 1099511627776)) : valF l i < 9223372036854775808 := by
 have hv := valF_lt l i
 match i, hi with
 | 0, _ => have : ¬ valF l 0 > 1099511627776 := fun h2 => h ⟨rfl, h2⟩; omega
 | 1, _ | 2, _ | 3, _ | 4, _ | 5, _ | 6, _ | 7, _ | 8, _ | 9, _ | 10, _ | 11, _ | 12, _ => exact Nat.lt_of_lt_of_le hv (by decide)
set_option maxHeartbeats 2000000 in
theorem read_calls (w : World) (A : Option Addr) (c : Nat) (ad : Addr) (l : List UInt8) (hb : byte.C w A l.length l) (hc : l.length ≤ c) (hl : l.length = 56) (hf : ∀ i, i < 13 → FldAt w ad i) :
  Calls Tryz.prog 150 #[.slice A l.length c, .slice (some ad) 13 13] w fun e w' => ((valF l 0 > 1099511627776 ∧ e = .returned (.tuple #[.pointer none, .bool false])) ∨ (valF l 0 ≤ 1099511627776 ∧ ∃ s, e = .returned (.tuple #[.pointer (some ⟨s, 0, none⟩), .bool true]) ∧ w'.heap[s]? = some (.cells (stV (rdN l 13)) STT (0, 0)))) ∧ Below w.heap.size w w' := by
 have HF := Lh hf
 have HC := Lh hb
 have HN0 := Lh (show (w.alloc (.cells #[.int .u16 0, .int .u16 0, .int .u32 0, .int .u32 0, .int .u32 0, .int .u32 0, .int .u32 0, .int .u16 0, .int .u16 0, .int .u32 0, .int .u32 0, .int .i64 0, .int .i64 0] STT)).heap[w.heap.size]? = some (.cells (stV (rdN l 0)) STT (0, 0)) by rw [rdN_zero, stV0]; exact blk_new _ _)
 have HB0 := Lh (below_alloc (Below.refl w.heap.size w) (.cells #[.int .u16 0, .int .u16 0, .int .u32 0, .int .u32 0, .int .u32 0, .int .u32 0, .int .u32 0, .int .u16 0, .int .u16 0, .int .u32 0, .int .u32 0, .int .i64 0, .int .i64 0] STT))
 have HC0 := Lh (show byte.C w A (l.drop (posF 0)).length (l.drop (posF 0)) from hb)
 have hl0 : l.length = (l.drop (posF 0)).length := rfl
 clear hf hb
 rw [hl0]
 go_enter Tryz.func150, Tryz.ntmps150
 go_wp2
 go_loopw [0, 16] (fun v0 v16 wr => ∃ (k : Nat) (A1 : Option Addr) (c1 : Nat), k ≤ 13 ∧ v16 = .int .i64 k ∧ v0 = .slice A1 (l.drop (posF k)).length c1 ∧ Hid ((l.drop (posF k)).length ≤ c1) ∧ Hid (byte.C w A1 (l.drop (posF k)).length (l.drop (posF k))) ∧ Hid (wr.heap[w.heap.size]? = some (.cells (stV (rdN l k)) STT (0, 0))) ∧ Hid (0 < k → valF l 0 ≤ 1099511627776) ∧ Hid (Below w.heap.size w wr)) (fun _ v16 _ => 13 - (intOf v16).toNat)
 case atStart => exact ⟨0, A, c, by omega, rfl, rfl, hc, HC0, HN0, fun h => absurd h (by omega), HB0⟩
 case round =>
  clear HC0 HN0 HB0
  obtain ⟨k, A1, c1, hk, rfl, rfl, HL, HC1, HST, HT, HB⟩ := hrel
  by_cases hlt : k < 13
  ·obtain ⟨b, x0, x1, x2, hbk⟩ := FldAt.below (HF.out k hlt) HB.out
   have hn8 := nF_8 k hlt
   have hnl := nF_le k
   have hnz : 0 < nF k := by unfold nF; split <;> decide
   have hp48 : posF k + nF k ≤ 48 := by
    match k, hlt with
    | 0, _ | 1, _ | 2, _ | 3, _ | 4, _ | 5, _ | 6, _ | 7, _ | 8, _ | 9, _ | 10, _ | 11, _ | 12, _ => decide
   have hdl : (l.drop (posF k)).length = 56 - posF k := by rw [List.length_drop, hl]
   obtain ⟨ht1, ht2, ht3⟩ := take_bytes HC1.out HL.out (nF k) (nF k : Nat) rfl (by omega)
   obtain ⟨A3, hd1, hd2, hd3⟩ := drop_bytes HC1.out HL.out (nF k) (nF k : Nat) rfl (by omega)
   have hdd : (l.drop (posF k)).drop (nF k) = l.drop (posF (k + 1)) := by rw [List.drop_drop]; rfl
   rw [hdd] at hd1 hd2 hd3
   have hqv : numBE 0 ((l.drop (posF k)).take (nF k)) = valF l k := rfl
   have hql : ((l.drop (posF k)).take (nF k)).length = nF k := by rw [List.length_take]; omega
   have HSET := Lh (fun (W : World) (h1 : W.heap[w.heap.size]? = some (.cells (stV (rdN l k)) STT (0, 0))) (h2 : W.heap[b]? = some (.cells #[atV k] (bT k) (0, 0))) (h3 : valF l k < 9223372036854775808) => set_calls k hlt W w.heap.size b (rdN l k) (valF l k) h1 h2 (valF_lt l k) h3)
   have HUP := Lh (rdN_succ l k)
   have h63 := valF_63 l k hlt
   have hE := sE k hlt
   have hsz : w.heap.size ≤ wr.heap.size := HB.out.size
   have hq8 : ((l.drop (posF k)).take (nF k)).length ≤ 8 := by omega
   have HT2 := Lh (Kd.C_alloc (Kd.C_below ht2 HB.out) (.cells #[.int .i64 (nF k : Nat), .func (.func (gF k)) #[] #[.pointer (some ⟨b, 0, none⟩)], .func (.func (sF k)) #[] #[.pointer (some ⟨b, 0, none⟩)]] 207))
   have HD2 := Lh hd2
   have HD3 := Lh hd3
   have HQV := Lh hqv
   have HV0 := Lh (show k = 0 → valF l k = valF l 0 from fun e => by rw [e])
   clear hp48 hdl ht2 ht3 hd2 hd3 hdd hqv hql hnl hnz
   generalize hqq : (l.drop (posF k)).take (nF k) = q at *
   clear hqq
   generalize l.drop (posF k) = lk at *
   generalize hxv : valF l k = xv at *
   clear hxv
   generalize nF k = n at *
   generalize gF k = G at *
   generalize sF k = T at *
   have HH63 := Lh h63
   clear h63
   go_wp2
   go_loop [9, 25] (fun v9 v25 => ∃ j : Nat, j ≤ q.length ∧ v25 = .int .i64 j ∧ v9 = .int .u64 (numBE 0 (q.take j) : Nat)) (fun _ v25 => q.length - (intOf v25).toNat)
   case atStart => exact ⟨0, Nat.zero_le _, rfl, rfl⟩
   case round =>
    obtain ⟨j, hj, rfl, rfl⟩ := hrel
    by_cases hj1 : j < q.length
    ·obtain ⟨ad2, rfl, hcb⟩ := byte_at HT2.out j hj1
     have hsn := num_snoc q j hj1
     have hxl := num_lt q j (by omega)
     have hor := or_low (numBE 0 (q.take j)) (q.getD j 0) hxl
     rw [← hsn] at hor
     generalize hx2 : numBE 0 (q.take (j + 1)) = x2' at *
     have HX2 := Lh hx2
     clear hx2
     generalize numBE 0 (q.take j) = x1' at *
     have hcl := (q.getD j 0).toNat_lt
     have e1 := wrap_u64 ((q.getD j 0).toNat : Int) (by omega) (by omega)
     have e2 := wrap_u64 ((x1' : Int) * 256) (by omega) (by omega)
     have HSN := Lh hsn
     clear hsn
     generalize ((q.getD j 0).toNat : Int) = ci at *
     go_wp2
     go_round
     case rel => exact ⟨j + 1, by omega, by go_num, by rw [HX2.out]⟩
     case measure => simp [intOf]; omega
    ·obtain rfl : j = q.length := by omega
     rw [List.take_length, HQV.out]
     clear hj hj1
     by_cases h8 : n = 8
     ·have hk0 := hn8.1 h8
      have hv1 := HV0.out hk0
      clear HV0
      have h8' : ((n : Int) == 8) = true := by rw [h8]; rfl
      clear h8 hn8 hk0
      by_cases hbad : xv > 1099511627776
      ·have hbad' : (xv : Int) > 1099511627776 := by omega
       have HV1 := Lh (show valF l 0 > 1099511627776 by rw [← hv1]; exact hbad)
       clear hv1
       go_wp2
       go_ret2
       exact ⟨Or.inl ⟨HV1.out, rfl⟩, HB.out.alloc hsz _⟩
      ·have hbad' : ¬ (xv : Int) > 1099511627776 := by omega
       have HV1 := Lh (show valF l 0 ≤ 1099511627776 by rw [← hv1]; omega)
       clear hv1
       go_wp2_with fail
       refine (HSET.out (wr.alloc (.cells #[.int .i64 (n : Nat), .func (.func G) #[] #[.pointer (some ⟨b, 0, none⟩)], .func (.func T) #[] #[.pointer (some ⟨b, 0, none⟩)]] 207)) (blk_alloc HST.out _) (blk_alloc hbk _) (HH63.out (fun h => hbad h.2))).mono ?_
       rintro e w1 ⟨rfl, rfl⟩
       have q0 := blk_cell (blk_far (p := ⟨w.heap.size, cF k, none⟩) (blk_new wr (.cells #[.int .i64 (n : Nat), .func (.func G) #[] #[.pointer (some ⟨b, 0, none⟩)], .func (.func T) #[] #[.pointer (some ⟨b, 0, none⟩)]] 207)) (by have := blk_lt HST.out; dsimp only; omega) (.int (kF k) (xv : Nat))) 0
       have hs1 := st_upd k hlt (blk_alloc HST.out (.cells #[.int .i64 (n : Nat), .func (.func G) #[] #[.pointer (some ⟨b, 0, none⟩)], .func (.func T) #[] #[.pointer (some ⟨b, 0, none⟩)]] 207)) xv
       rw [HUP.out] at hs1
       have HS1 := Lh hs1
       have HB1 := Lh ((HB.out.alloc hsz (.cells #[.int .i64 (n : Nat), .func (.func G) #[] #[.pointer (some ⟨b, 0, none⟩)], .func (.func T) #[] #[.pointer (some ⟨b, 0, none⟩)]] 207)).setCell (p := ⟨w.heap.size, cF k, none⟩) (Nat.le_refl _) (.int (kF k) (xv : Nat)))
       clear hs1
       generalize ((wr.alloc (.cells #[.int .i64 (n : Nat), .func (.func G) #[] #[.pointer (some ⟨b, 0, none⟩)], .func (.func T) #[] #[.pointer (some ⟨b, 0, none⟩)]] 207)).setCell ⟨w.heap.size, cF k, none⟩ (.int (kF k) (xv : Nat))) = W1 at *
       go_wp2
       go_roundw
       case rel => exact ⟨k + 1, A3, c1 - n, by omega, by go_num, by rw [List.length_drop, hl], HD3, HD2, HS1, fun _ => HV1.out, HB1⟩
       case measure => simp [intOf]; omega
     ·have h8' : ((n : Int) == 8) = false := beq_eq_false_iff_ne.2 (by omega)
      go_wp2_with fail
      refine (HSET.out (wr.alloc (.cells #[.int .i64 (n : Nat), .func (.func G) #[] #[.pointer (some ⟨b, 0, none⟩)], .func (.func T) #[] #[.pointer (some ⟨b, 0, none⟩)]] 207)) (blk_alloc HST.out _) (blk_alloc hbk _) (HH63.out (fun h => h8 h.1))).mono ?_
      rintro e w1 ⟨rfl, rfl⟩
      have q0 := blk_cell (blk_far (p := ⟨w.heap.size, cF k, none⟩) (blk_new wr (.cells #[.int .i64 (n : Nat), .func (.func G) #[] #[.pointer (some ⟨b, 0, none⟩)], .func (.func T) #[] #[.pointer (some ⟨b, 0, none⟩)]] 207)) (by have := blk_lt HST.out; dsimp only; omega) (.int (kF k) (xv : Nat))) 0
      have hs1 := st_upd k hlt (blk_alloc HST.out (.cells #[.int .i64 (n : Nat), .func (.func G) #[] #[.pointer (some ⟨b, 0, none⟩)], .func (.func T) #[] #[.pointer (some ⟨b, 0, none⟩)]] 207)) xv
      rw [HUP.out] at hs1
      have HS1 := Lh hs1
      have HB1 := Lh ((HB.out.alloc hsz (.cells #[.int .i64 (n : Nat), .func (.func G) #[] #[.pointer (some ⟨b, 0, none⟩)], .func (.func T) #[] #[.pointer (some ⟨b, 0, none⟩)]] 207)).setCell (p := ⟨w.heap.size, cF k, none⟩) (Nat.le_refl _) (.int (kF k) (xv : Nat)))
      clear hs1
      generalize ((wr.alloc (.cells #[.int .i64 (n : Nat), .func (.func G) #[] #[.pointer (some ⟨b, 0, none⟩)], .func (.func T) #[] #[.pointer (some ⟨b, 0, none⟩)]] 207)).setCell ⟨w.heap.size, cF k, none⟩ (.int (kF k) (xv : Nat))) = W1 at *
      go_wp2
      go_roundw
      case rel => exact ⟨k + 1, A3, c1 - n, by omega, by go_num, by rw [List.length_drop, hl], HD3, HD2, HS1, fun _ => HT.out (by have := mt hn8.2 h8; omega), HB1⟩
      case measure => simp [intOf]; omega
  ·obtain rfl : k = 13 := by omega
   have ht0 := HT.out (by omega)
   go_wp2
   go_ret2
   exact ⟨Or.inr ⟨ht0, _, rfl, HST.out⟩, HB.out⟩
end Go.Proofs.YthiaakjbapgibaaGreat.Ck
end
section
namespace Go.Proofs.YthiaakjbapgibaaGreat.Mac
open Go.RowKit YthiaakjbapgibaaGreatW.PrintWords Base
def rol (x : UInt64) (k : Nat) : UInt64 := UInt64.ofNat ((x.toNat * 2 ^ k % 18446744073709551616) ||| (x.toNat / 2 ^ (64 - k)))
theorem u64w (n : Int) : IntKind.u64.wrap n = n % 18446744073709551616 := by simp [IntKind.wrap, IntKind.bits, IntKind.signed]
theorem rol_eq (x : UInt64) (k : Nat) (hk : k < 64) (h0 : 0 < k) : bits .or .u64 (IntKind.u64.wrap ((x.toNat : Int) * 2 ^ k)) ((x.toNat : Int) / 2 ^ (64 - k)) = ((rol x k).toNat : Int) := by
 have hx := x.toNat_lt
 have h1 : x.toNat * 2 ^ k % 18446744073709551616 < 2 ^ 64 := Nat.mod_lt _ (by decide)
 have h2 : x.toNat / 2 ^ (64 - k) < 2 ^ 64 := Nat.lt_of_le_of_lt (Nat.div_le_self _ _) hx
 have e1 : IntKind.u64.wrap ((x.toNat : Int) * 2 ^ k) = ((x.toNat * 2 ^ k % 18446744073709551616 : Nat) : Int) := by
  rw [u64w]
  simp
 have e2 : ((x.toNat : Int) / 2 ^ (64 - k)) = ((x.toNat / 2 ^ (64 - k) : Nat) : Int) := by simp
 have h3 := (bits_nat .u64 64 (by decide) (fun n h0 h1 => by rw [u64w]; omega) _ _ h1 h2).2
 have h4 := Nat.or_lt_two_pow h1 h2
 rw [e1, e2, h3]
 unfold rol
 rw [UInt64.toNat_ofNat', Nat.mod_eq_of_lt h4]
theorem rol_calls (x : UInt64) (k : Nat) (j : Int) (hj : j = k) (h0 : 0 < k) (hk : k < 64) (w : World) :
  Calls Tryz.prog 197 #[.int .u64 (x.toNat : Int), .int .i64 j] w fun e w' => e = .returned (.int .u64 ((rol x k).toNat : Int)) ∧ w = w' := by
 subst hj
 have e := rol_eq x k hk h0
 have e63 : bits .and .u64 (k : Int) 63 = (k : Int) := by
  have := bits_mask .u64 64 (by decide) (fun n h0 h1 => by rw [u64w]; omega) 6 (by decide) (k : Int) (by omega) (by omega)
  rw [show (2 : Int) ^ 6 - 1 = 63 from rfl] at this
  rw [this]
  omega
 generalize ((rol x k).toNat : Int) = y at *
 generalize ((x.toNat : Nat) : Int) = z at *
 go_enter Tryz.func197, Tryz.ntmps197
 go_wp2
 go_ret
 exact ⟨rfl, rfl⟩
theorem add64 (x y : UInt64) : IntKind.u64.wrap ((x.toNat : Int) + (y.toNat : Int)) = ((x + y).toNat : Int) := by
 rw [u64w, UInt64.toNat_add]
 omega
theorem xor64 (x y : UInt64) : bits .xor .u64 (x.toNat : Int) (y.toNat : Int) = ((x ^^^ y).toNat : Int) := by
 have hx := x.toNat_lt
 have hy := y.toNat_lt
 have hx' : x.toNat % 2 ^ 64 = x.toNat := Nat.mod_eq_of_lt hx
 have hy' : y.toNat % 2 ^ 64 = y.toNat := Nat.mod_eq_of_lt hy
 have h := Nat.xor_lt_two_pow (n := 64) hx hy
 have e : (BitVec.ofNat 64 x.toNat ^^^ BitVec.ofNat 64 y.toNat).toNat = x.toNat ^^^ y.toNat := by rw [BitVec.toNat_xor, BitVec.toNat_ofNat, BitVec.toNat_ofNat, hx', hy']
 have e2 : bits .xor .u64 (x.toNat : Int) (y.toNat : Int) = IntKind.u64.wrap ((BitVec.ofNat 64 x.toNat ^^^ BitVec.ofNat 64 y.toNat).toNat : Nat) := rfl
 rw [e2, e, u64w, UInt64.toNat_xor]
 omega
structure Four (w : World) (g t : Nat) (a b c d : UInt64) (r : List Value) : Prop where mk :: (out : w.heap[g]? = some (.cells (#[.int .u64 (a.toNat : Int), .int .u64 (b.toNat : Int), .int .u64 (c.toNat : Int), .int .u64 (d.toNat : Int)] ++ r.toArray) t (0, 0)))
section
variable {w : World} {g t : Nat} {a b c d : UInt64} {r : List Value}
theorem Four.c0 (h : Four w g t a b c d r) : w.cell? ⟨g, 0, none⟩ = some (.int .u64 (a.toNat : Int)) := by rw [blk_cell h.out 0]; simp
theorem Four.c1 (h : Four w g t a b c d r) : w.cell? ⟨g, 1, none⟩ = some (.int .u64 (b.toNat : Int)) := by rw [blk_cell h.out 1]; simp
theorem Four.c2 (h : Four w g t a b c d r) : w.cell? ⟨g, 2, none⟩ = some (.int .u64 (c.toNat : Int)) := by rw [blk_cell h.out 2]; simp
theorem Four.c3 (h : Four w g t a b c d r) : w.cell? ⟨g, 3, none⟩ = some (.int .u64 (d.toNat : Int)) := by rw [blk_cell h.out 3]; simp
theorem Four.f (h : Four w g t a b c d r) (i : Nat) : w.frozen? ⟨g, i, none⟩ = false := blk_frozen h.out i
theorem Four.drew (h : Four w g t a b c d r) : Four w.drew g t a b c d r := ⟨h.out⟩
theorem Four.s0 (h : Four w g t a b c d r) (x : UInt64) : Four (w.setCell ⟨g, 0, none⟩ (.int .u64 (x.toNat : Int))) g t x b c d r := ⟨blk_put h.out 0 _ (by simp)⟩
theorem Four.s1 (h : Four w g t a b c d r) (x : UInt64) : Four (w.setCell ⟨g, 1, none⟩ (.int .u64 (x.toNat : Int))) g t a x c d r := ⟨blk_put h.out 1 _ (by simp)⟩
theorem Four.s2 (h : Four w g t a b c d r) (x : UInt64) : Four (w.setCell ⟨g, 2, none⟩ (.int .u64 (x.toNat : Int))) g t a b x d r := ⟨blk_put h.out 2 _ (by simp)⟩
theorem Four.s3 (h : Four w g t a b c d r) (x : UInt64) : Four (w.setCell ⟨g, 3, none⟩ (.int .u64 (x.toNat : Int))) g t a b c x r := ⟨blk_put h.out 3 _ (by simp)⟩
end
end Go.Proofs.YthiaakjbapgibaaGreat.Mac
end
section
namespace Go.Proofs.YthiaakjbapgibaaGreat.Mac
open Go.RowKit YthiaakjbapgibaaGreatW.PrintWords Base
structure Quad where
 a : UInt64
 b : UInt64
 c : UInt64
 d : UInt64
def round (q : Quad) : Quad :=
 let a1 := q.a + q.b
 let b2 := rol q.b 13 ^^^ a1
 let a3 := rol a1 32
 let c4 := q.c + q.d
 let d5 := rol q.d 16 ^^^ c4
 let a6 := a3 + d5
 let d7 := rol d5 21 ^^^ a6
 let c8 := c4 + b2
 let b9 := rol b2 17 ^^^ c8
 let c10 := rol c8 32
 ⟨a6, b9, c10, d7⟩
def rounds : Nat → Quad → Quad
 | 0, q => q
 | n + 1, q => round (rounds n q)
theorem round_of {q : Quad} {a1 b2 a3 c4 d5 a6 d7 c8 b9 c10 : UInt64} (h1 : q.a + q.b = a1) (h2 : rol q.b 13 ^^^ a1 = b2) (h3 : rol a1 32 = a3) (h4 : q.c + q.d = c4) (h5 : rol q.d 16 ^^^ c4 = d5) (h6 : a3 + d5 = a6)
  (h7 : rol d5 21 ^^^ a6 = d7) (h8 : c4 + b2 = c8) (h9 : rol b2 17 ^^^ c8 = b9) (h10 : rol c8 32 = c10) : round q = ⟨a6, b9, c10, d7⟩ := by
 subst h1; subst h2; subst h3; subst h4; subst h5; subst h6; subst h7; subst h8; subst h9; subst h10
 rfl
attribute [irreducible] round
def FourQ (w : World) (g t : Nat) (q : Quad) (r : List Value) : Prop := Four w g t q.a q.b q.c q.d r
set_option maxRecDepth 100000 in
set_option maxHeartbeats 4000000 in
theorem rounds_calls (w : World) (g t : Nat) (q : Quad) (r : List Value) (n : Nat) (j : Int) (hj : j = n) (hn : n ≤ 100) (HQ : FourQ w g t q r) :
  Calls Tryz.prog 190 #[.pointer (some ⟨g, 0, none⟩), .int .i64 j] w fun e w' => e = .returned (.tuple #[]) ∧ FourQ w' g t (rounds n q) r ∧ Only (· = g) w w' := by
 subst hj
 have HN := Lh HQ
 clear HQ
 go_enter Tryz.func190, Tryz.ntmps190
 go_wp2
 go_loopw [5] (fun v5 w' => ∃ k : Nat, k ≤ n ∧ v5 = .int .i64 k ∧ Hid (FourQ w' g t (rounds k q) r) ∧ Only (· = g) w w') (fun v5 _ => n - (intOf v5).toNat)
 case atStart => exact ⟨0, Nat.zero_le _, rfl, HN, Only.refl _ _⟩
 case round =>
  obtain ⟨k, hk, rfl, HS, HO⟩ := hrel
  have HR : Hid (rounds (k + 1) q = round (rounds k q)) := rfl
  generalize hp : rounds k q = p at *
  have HP := Lh hp
  clear hp HN
  by_cases hk1 : k < n
  ·obtain ⟨a, b, c, d⟩ := p
   have HS : Hid (Four wr g t a b c d r) := HS
   go_upto_region 2 with (fail)
   have k0 := HS.out.c0
   have k1 := HS.out.c1
   have fz := HS.out.f 0
   have ea := add64 a b
   generalize hv : (a + b) = a1 at *
   have HA1 := Lh hv
   clear hv
   generalize hz : ((a1.toNat : Nat) : Int) = z at *
   have HZ := Lh hz
   clear hz
   go_region
   go_upto_region 3 with (fail)
   refine gen_world (G := Code.wp _ _ _ _) (Pd := fun W' => Hid (Four W' g t a1 b c d r) ∧ Only (· = g) w W') ⟨by rw [← HZ.out]; first | exact (HS.out.s0 _).drew | exact HS.out.drew.s0 _ | exact HS.out.s0 _, by first | exact (HO.setCell (fun _ => rfl) _).drew | exact HO.drew.setCell (fun _ => rfl) _ | exact HO.setCell (fun _ => rfl) _⟩ ?_
   clear HS HO k0 k1 fz HZ ea
   rintro wr ⟨HS, HO⟩
   have k0 := HS.out.c0
   have k1 := HS.out.c1
   have fz := HS.out.f 1
   have hr := fun W : World => rol_calls b 13 13 rfl (by decide) (by decide) W
   have ea := xor64 (rol b 13) a1
   generalize hv : (rol b 13 ^^^ a1) = b2 at *
   have HB2 := Lh hv
   clear hv
   generalize (((rol b 13).toNat : Nat) : Int) = zr at *
   generalize hz : ((b2.toNat : Nat) : Int) = z at *
   have HZ := Lh hz
   clear hz
   refine wp_region_still_tail 13 (by kernel_rfl) (by kernel_rfl) ?_
   simp only [List.take_succ_cons, List.take_zero, List.drop_succ_cons, List.drop_zero]
   repeat still_step
   refine wpStill_step (fun K hK => ?_)
   go_simp
   refine ⟨_, (hr _).mono (fun e w' ⟨h1, h2⟩ => ⟨h1, h2.symm⟩), hK _ ?_⟩
   clear hK K
   repeat still_step
   refine wpStill_nil ?_
   change wpList _ _ _ _ _ wr.drew
   go_upto_region 4 with (fail)
   refine gen_world (G := Code.wp _ _ _ _) (Pd := fun W' => Hid (Four W' g t a1 b2 c d r) ∧ Only (· = g) w W') ⟨by rw [← HZ.out]; first | exact (HS.out.s1 _).drew | exact HS.out.drew.s1 _ | exact HS.out.s1 _, by first | exact (HO.setCell (fun _ => rfl) _).drew | exact HO.drew.setCell (fun _ => rfl) _ | exact HO.setCell (fun _ => rfl) _⟩ ?_
   clear HS HO k0 k1 fz HZ ea hr
   rintro wr ⟨HS, HO⟩
   have k0 := HS.out.c0
   have fz := HS.out.f 0
   have hr := fun W : World => rol_calls a1 32 32 rfl (by decide) (by decide) W
   generalize hv : (rol a1 32) = a3 at *
   have HA3 := Lh hv
   clear hv
   generalize hz : ((a3.toNat : Nat) : Int) = z at *
   have HZ := Lh hz
   clear hz
   go_upto_region 5 with (go_at_call 197; refine (hr _).mono ?_; rintro e w' ⟨rfl, rfl⟩)
   refine gen_world (G := Code.wp _ _ _ _) (Pd := fun W' => Hid (Four W' g t a3 b2 c d r) ∧ Only (· = g) w W') ⟨by rw [← HZ.out]; first | exact (HS.out.s0 _).drew | exact HS.out.drew.s0 _ | exact HS.out.s0 _, by first | exact (HO.setCell (fun _ => rfl) _).drew | exact HO.drew.setCell (fun _ => rfl) _ | exact HO.setCell (fun _ => rfl) _⟩ ?_
   clear HS HO k0 fz HZ hr
   rintro wr ⟨HS, HO⟩
   have k2 := HS.out.c2
   have k3 := HS.out.c3
   have fz := HS.out.f 2
   have ea := add64 c d
   generalize hv : (c + d) = c4 at *
   have HC4 := Lh hv
   clear hv
   generalize hz : ((c4.toNat : Nat) : Int) = z at *
   have HZ := Lh hz
   clear hz
   go_region
   go_upto_region 6 with (fail)
   refine gen_world (G := Code.wp _ _ _ _) (Pd := fun W' => Hid (Four W' g t a3 b2 c4 d r) ∧ Only (· = g) w W') ⟨by rw [← HZ.out]; first | exact (HS.out.s2 _).drew | exact HS.out.drew.s2 _ | exact HS.out.s2 _, by first | exact (HO.setCell (fun _ => rfl) _).drew | exact HO.drew.setCell (fun _ => rfl) _ | exact HO.setCell (fun _ => rfl) _⟩ ?_
   clear HS HO k2 k3 fz HZ ea
   rintro wr ⟨HS, HO⟩
   have k2 := HS.out.c2
   have k3 := HS.out.c3
   have fz := HS.out.f 3
   have hr := fun W : World => rol_calls d 16 16 rfl (by decide) (by decide) W
   have ea := xor64 (rol d 16) c4
   generalize hv : (rol d 16 ^^^ c4) = d5 at *
   have HD5 := Lh hv
   clear hv
   generalize (((rol d 16).toNat : Nat) : Int) = zr at *
   generalize hz : ((d5.toNat : Nat) : Int) = z at *
   have HZ := Lh hz
   clear hz
   refine wp_region_still_tail 13 (by kernel_rfl) (by kernel_rfl) ?_
   simp only [List.take_succ_cons, List.take_zero, List.drop_succ_cons, List.drop_zero]
   repeat still_step
   refine wpStill_step (fun K hK => ?_)
   go_simp
   refine ⟨_, (hr _).mono (fun e w' ⟨h1, h2⟩ => ⟨h1, h2.symm⟩), hK _ ?_⟩
   clear hK K
   repeat still_step
   refine wpStill_nil ?_
   change wpList _ _ _ _ _ wr.drew
   go_upto_region 7 with (fail)
   refine gen_world (G := Code.wp _ _ _ _) (Pd := fun W' => Hid (Four W' g t a3 b2 c4 d5 r) ∧ Only (· = g) w W') ⟨by rw [← HZ.out]; first | exact (HS.out.s3 _).drew | exact HS.out.drew.s3 _ | exact HS.out.s3 _, by first | exact (HO.setCell (fun _ => rfl) _).drew | exact HO.drew.setCell (fun _ => rfl) _ | exact HO.setCell (fun _ => rfl) _⟩ ?_
   clear HS HO k2 k3 fz HZ ea hr
   rintro wr ⟨HS, HO⟩
   have k0 := HS.out.c0
   have k3 := HS.out.c3
   have fz := HS.out.f 0
   have ea := add64 a3 d5
   generalize hv : (a3 + d5) = a6 at *
   have HA6 := Lh hv
   clear hv
   generalize hz : ((a6.toNat : Nat) : Int) = z at *
   have HZ := Lh hz
   clear hz
   go_region
   go_upto_region 8 with (fail)
   refine gen_world (G := Code.wp _ _ _ _) (Pd := fun W' => Hid (Four W' g t a6 b2 c4 d5 r) ∧ Only (· = g) w W') ⟨by rw [← HZ.out]; first | exact (HS.out.s0 _).drew | exact HS.out.drew.s0 _ | exact HS.out.s0 _, by first | exact (HO.setCell (fun _ => rfl) _).drew | exact HO.drew.setCell (fun _ => rfl) _ | exact HO.setCell (fun _ => rfl) _⟩ ?_
   clear HS HO k0 k3 fz HZ ea
   rintro wr ⟨HS, HO⟩
   have k0 := HS.out.c0
   have k3 := HS.out.c3
   have fz := HS.out.f 3
   have hr := fun W : World => rol_calls d5 21 21 rfl (by decide) (by decide) W
   have ea := xor64 (rol d5 21) a6
   generalize hv : (rol d5 21 ^^^ a6) = d7 at *
   have HD7 := Lh hv
   clear hv
   generalize (((rol d5 21).toNat : Nat) : Int) = zr at *
   generalize hz : ((d7.toNat : Nat) : Int) = z at *
   have HZ := Lh hz
   clear hz
   refine wp_region_still_tail 13 (by kernel_rfl) (by kernel_rfl) ?_
   simp only [List.take_succ_cons, List.take_zero, List.drop_succ_cons, List.drop_zero]
   repeat still_step
   refine wpStill_step (fun K hK => ?_)
   go_simp
   refine ⟨_, (hr _).mono (fun e w' ⟨h1, h2⟩ => ⟨h1, h2.symm⟩), hK _ ?_⟩
   clear hK K
   repeat still_step
   refine wpStill_nil ?_
   change wpList _ _ _ _ _ wr.drew
   go_upto_region 9 with (fail)
   refine gen_world (G := Code.wp _ _ _ _) (Pd := fun W' => Hid (Four W' g t a6 b2 c4 d7 r) ∧ Only (· = g) w W') ⟨by rw [← HZ.out]; first | exact (HS.out.s3 _).drew | exact HS.out.drew.s3 _ | exact HS.out.s3 _, by first | exact (HO.setCell (fun _ => rfl) _).drew | exact HO.drew.setCell (fun _ => rfl) _ | exact HO.setCell (fun _ => rfl) _⟩ ?_
   clear HS HO k0 k3 fz HZ ea hr
   rintro wr ⟨HS, HO⟩
   have k1 := HS.out.c1
   have k2 := HS.out.c2
   have fz := HS.out.f 2
   have ea := add64 c4 b2
   generalize hv : (c4 + b2) = c8 at *
   have HC8 := Lh hv
   clear hv
   generalize hz : ((c8.toNat : Nat) : Int) = z at *
   have HZ := Lh hz
   clear hz
   go_region
   go_upto_region 10 with (fail)
   refine gen_world (G := Code.wp _ _ _ _) (Pd := fun W' => Hid (Four W' g t a6 b2 c8 d7 r) ∧ Only (· = g) w W') ⟨by rw [← HZ.out]; first | exact (HS.out.s2 _).drew | exact HS.out.drew.s2 _ | exact HS.out.s2 _, by first | exact (HO.setCell (fun _ => rfl) _).drew | exact HO.drew.setCell (fun _ => rfl) _ | exact HO.setCell (fun _ => rfl) _⟩ ?_
   clear HS HO k1 k2 fz HZ ea
   rintro wr ⟨HS, HO⟩
   have k1 := HS.out.c1
   have k2 := HS.out.c2
   have fz := HS.out.f 1
   have hr := fun W : World => rol_calls b2 17 17 rfl (by decide) (by decide) W
   have ea := xor64 (rol b2 17) c8
   generalize hv : (rol b2 17 ^^^ c8) = b9 at *
   have HB9 := Lh hv
   clear hv
   generalize (((rol b2 17).toNat : Nat) : Int) = zr at *
   generalize hz : ((b9.toNat : Nat) : Int) = z at *
   have HZ := Lh hz
   clear hz
   refine wp_region_still_tail 13 (by kernel_rfl) (by kernel_rfl) ?_
   simp only [List.take_succ_cons, List.take_zero, List.drop_succ_cons, List.drop_zero]
   repeat still_step
   refine wpStill_step (fun K hK => ?_)
   go_simp
   refine ⟨_, (hr _).mono (fun e w' ⟨h1, h2⟩ => ⟨h1, h2.symm⟩), hK _ ?_⟩
   clear hK K
   repeat still_step
   refine wpStill_nil ?_
   change wpList _ _ _ _ _ wr.drew
   go_upto_region 11 with (fail)
   refine gen_world (G := Code.wp _ _ _ _) (Pd := fun W' => Hid (Four W' g t a6 b9 c8 d7 r) ∧ Only (· = g) w W') ⟨by rw [← HZ.out]; first | exact (HS.out.s1 _).drew | exact HS.out.drew.s1 _ | exact HS.out.s1 _, by first | exact (HO.setCell (fun _ => rfl) _).drew | exact HO.drew.setCell (fun _ => rfl) _ | exact HO.setCell (fun _ => rfl) _⟩ ?_
   clear HS HO k1 k2 fz HZ ea hr
   rintro wr ⟨HS, HO⟩
   have k2 := HS.out.c2
   have fz := HS.out.f 2
   have hr := fun W : World => rol_calls c8 32 32 rfl (by decide) (by decide) W
   generalize hv : (rol c8 32) = c10 at *
   have HC10 := Lh hv
   clear hv
   generalize hz : ((c10.toNat : Nat) : Int) = z at *
   have HZ := Lh hz
   clear hz
   go_upto_region 12 with (go_at_call 197; refine (hr _).mono ?_; rintro e w' ⟨rfl, rfl⟩)
   refine gen_world (G := Code.wp _ _ _ _) (Pd := fun W' => Hid (Four W' g t a6 b9 c10 d7 r) ∧ Only (· = g) w W') ⟨by rw [← HZ.out]; first | exact (HS.out.s2 _).drew | exact HS.out.drew.s2 _ | exact HS.out.s2 _, by first | exact (HO.setCell (fun _ => rfl) _).drew | exact HO.drew.setCell (fun _ => rfl) _ | exact HO.setCell (fun _ => rfl) _⟩ ?_
   clear HS HO k2 fz HZ hr
   rintro wr ⟨HS, HO⟩
   have HE := round_of (q := ⟨a, b, c, d⟩) HA1.out HB2.out HA3.out HC4.out HD5.out HA6.out HD7.out HC8.out HB9.out HC10.out
   have HEH := Lh HE
   clear HE
   go_wp2
   go_roundw
   case rel => exact ⟨k + 1, by omega, by go_num, by rw [HR.out, HEH.out]; exact HS, HO⟩
   case measure => simp [intOf]; omega
  ·obtain rfl : k = n := by omega
   go_wp2
   go_end0
   rw [HP.out]
   exact ⟨rfl, HS.out, HO⟩
end Go.Proofs.YthiaakjbapgibaaGreat.Mac
end
section
namespace Go.Proofs.YthiaakjbapgibaaGreat.Mac
open Go.RowKit YthiaakjbapgibaaGreatW.PrintWords Base
def blockQ (q : Quad) (m : UInt64) : Quad :=
 let p := rounds 2 ⟨q.a, q.b, q.c, q.d ^^^ m⟩
 ⟨p.a ^^^ m, p.b, p.c, p.d⟩
set_option maxHeartbeats 1000000 in
theorem block_calls (w : World) (g t : Nat) (q : Quad) (r : List Value) (m : UInt64) (HQ : FourQ w g t q r) :
  Calls Tryz.prog 189 #[.pointer (some ⟨g, 0, none⟩), .int .u64 (m.toNat : Int)] w fun e w' => e = .returned (.tuple #[]) ∧ FourQ w' g t (blockQ q m) r ∧ Only (· = g) w w' := by
 have h0 : Four w g t q.a q.b q.c q.d r := HQ
 have k3 := h0.c3
 have fz := h0.f 3
 have e3 := xor64 q.d m
 have hcall := fun (W : World) (h : FourQ W g t ⟨q.a, q.b, q.c, q.d ^^^ m⟩ r) => rounds_calls W g t _ r 2 2 rfl (by decide) h
 have hbq : Hid (blockQ q m = ⟨(rounds 2 ⟨q.a, q.b, q.c, q.d ^^^ m⟩).a ^^^ m, (rounds 2 ⟨q.a, q.b, q.c, q.d ^^^ m⟩).b, (rounds 2 ⟨q.a, q.b, q.c, q.d ^^^ m⟩).c, (rounds 2 ⟨q.a, q.b, q.c, q.d ^^^ m⟩).d⟩) := rfl
 generalize blockQ q m = fin at *
 generalize rounds 2 ⟨q.a, q.b, q.c, q.d ^^^ m⟩ = p at *
 have HC := Lh hcall
 have H0 := Lh h0
 have E3 := Lh e3
 clear hcall h0 HQ e3
 go_enter Tryz.func189, Tryz.ntmps189
 go_wp2_with fail
 rw [E3.out]
 refine (HC.out _ (H0.out.s3 _)).mono ?_
 rintro e w1 ⟨rfl, hF, hO⟩
 have hO2 : Only (· = g) w w1 := ((Only.refl (· = g) w).setCell (p := ⟨g, 3, none⟩) (fun _ => rfl) _).trans hO (fun _ _ h => h)
 have h1 : Four w1 g t p.a p.b p.c p.d r := hF
 have k0 := h1.c0
 have f0 := h1.f 0
 have e0 := Lh (xor64 p.a m)
 clear hF hO fz k3
 go_wp2
 go_end0
 rw [e0.out, hbq.out]
 exact ⟨rfl, h1.s0 _, hO2.setCell (p := ⟨g, 0, none⟩) (fun _ => rfl) _⟩
structure MS where
 q : Quad
 word : UInt64
 n : Nat
structure St (w : World) (g : Nat) (s : MS) : Prop where mk :: (out : FourQ w g 223 s.q [.int .u64 (s.word.toNat : Int), .int .i64 (s.n : Int)])
section
variable {w : World} {g : Nat} {q : Quad} {x : UInt64} {n : Nat}
theorem St.c4 (h : St w g ⟨q, x, n⟩) : w.cell? ⟨g, 4, none⟩ = some (.int .u64 (x.toNat : Int)) := by
 have := blk_cell h.out.out 4
 rw [this]; simp
theorem St.c5 (h : St w g ⟨q, x, n⟩) : w.cell? ⟨g, 5, none⟩ = some (.int .i64 (n : Int)) := by
 have := blk_cell h.out.out 5
 rw [this]; simp
theorem St.f (h : St w g ⟨q, x, n⟩) (i : Nat) : w.frozen? ⟨g, i, none⟩ = false := blk_frozen h.out.out i
theorem St.drew (h : St w g ⟨q, x, n⟩) : St w.drew g ⟨q, x, n⟩ := ⟨⟨h.out.out⟩⟩
theorem St.s4 (h : St w g ⟨q, x, n⟩) (y : UInt64) (z : Int) (hz : z = (y.toNat : Int)) : St (w.setCell ⟨g, 4, none⟩ (.int .u64 z)) g ⟨q, y, n⟩ := ⟨⟨blk_put h.out.out 4 _ (by rw [hz]; simp)⟩⟩
theorem St.s5 (h : St w g ⟨q, x, n⟩) (m : Nat) (z : Int) (hz : z = (m : Int)) : St (w.setCell ⟨g, 5, none⟩ (.int .i64 z)) g ⟨q, x, m⟩ := ⟨⟨blk_put h.out.out 5 _ (by rw [hz]; simp)⟩⟩
end
def shl64 (c : UInt8) (j : Nat) : UInt64 := UInt64.ofNat (c.toNat * 2 ^ j % 18446744073709551616)
theorem shl64_eq (c : UInt8) (j : Nat) : IntKind.u64.wrap ((c.toNat : Int) * 2 ^ j) = ((shl64 c j).toNat : Int) := by
 unfold shl64
 rw [u64w, UInt64.toNat_ofNat', Nat.mod_mod]
 simp
theorem or64 (x y : UInt64) : bits .or .u64 (x.toNat : Int) (y.toNat : Int) = ((x ||| y).toNat : Int) := by
 have hx := x.toNat_lt
 have hy := y.toNat_lt
 rw [(bits_nat .u64 64 (by decide) (fun n h0 h1 => by rw [u64w]; omega) _ _ hx hy).2, UInt64.toNat_or]
def putB (s : MS) (c : UInt8) : MS :=
 if (s.n + 1) % 8 = 0 then ⟨blockQ s.q (s.word ||| shl64 c (8 * (s.n % 8))), 0, s.n + 1⟩ else ⟨s.q, s.word ||| shl64 c (8 * (s.n % 8)), s.n + 1⟩
def putL (s : MS) (l : List UInt8) : MS := l.foldl putB s
theorem putB_n (s : MS) (c : UInt8) : (putB s c).n = s.n + 1 := by unfold putB; split <;> rfl
theorem putL_n (s : MS) (l : List UInt8) : (putL s l).n = s.n + l.length := by
 induction l generalizing s with
 | nil => rfl
 | cons c l ih => show (putL (putB s c) l).n = _; rw [ih, putB_n, List.length_cons]; omega
theorem putL_succ (s : MS) (l : List UInt8) (k : Nat) (h : k < l.length) : putL s (l.take (k + 1)) = putB (putL s (l.take k)) (l.getD k 0) := by
 rw [List.take_succ_eq_append_getElem h, getD_lt _ _ _ h]
 unfold putL
 rw [List.foldl_append]
 rfl
attribute [irreducible] shl64 blockQ
set_option maxHeartbeats 1000000 in
theorem write_calls (w : World) (g : Nat) (s : MS) (A : Option Addr) (c : Nat) (l : List UInt8) (hb : byte.C w A l.length l) (hA : ∀ ad, A = some ad → 0 < l.length → ad.block ≠ g) (hn : s.n + l.length ≤ 4611686018427387904) (HS : St w g s) :
  Calls Tryz.prog 168 #[.pointer (some ⟨g, 0, none⟩), .slice A l.length c] w fun e w' => e = .returned (.tuple #[]) ∧ St w' g (putL s l) ∧ Only (· = g) w w' := by
 have hlen := hb.2.1
 have HB := Lh hb
 have HSH := Lh HS
 have HAH := Lh hA
 clear hb HS hA
 go_enter Tryz.func168, Tryz.ntmps168
 go_wp2
 go_loopw [8] (fun v8 w' => ∃ k : Nat, k ≤ l.length ∧ v8 = .int .i64 k ∧ Hid (St w' g (putL s (l.take k))) ∧ Only (· = g) w w') (fun v8 _ => l.length - (intOf v8).toNat)
 case atStart => exact ⟨0, Nat.zero_le _, rfl, HSH, Only.refl _ _⟩
 case round =>
  obtain ⟨k, hk, rfl, HS, HO⟩ := hrel
  by_cases hk1 : k < l.length
  ·have hpn := putL_n s (l.take k)
   have hps := putL_succ s l k hk1
   rw [List.length_take, Nat.min_eq_left hk] at hpn
   generalize putL s (l.take k) = p at *
   obtain ⟨q, x, n⟩ := p
   have hpn : n = s.n + k := hpn
   obtain ⟨ad, rfl, hcb⟩ := byte_at HB.out k hk1
   have hcb := HO.cell hcb (by rw [add_block]; exact HAH.out ad rfl (by omega))
   generalize l.getD k 0 = cb at *
   have hn2 : n ≤ 4611686018427387904 := by omega
   have HPS := Lh hps
   clear hps hpn
   have k4 := HS.out.c4
   have k5 := HS.out.c5
   have fz := HS.out.f 4
   have e1 : IntKind.u64.wrap (cb.toNat : Int) = (cb.toNat : Int) := by rw [u64w]; have := cb.toNat_lt; omega
   have e2 := shl64_eq cb (8 * (n % 8))
   have e3 := or64 x (shl64 cb (8 * (n % 8)))
   generalize hy : x ||| shl64 cb (8 * (n % 8)) = y at *
   have HY := Lh hy
   clear hy
   generalize ((shl64 cb (8 * (n % 8))).toNat : Int) = si at *
   generalize hz : ((y.toNat : Nat) : Int) = z at *
   have HZ := Lh hz
   clear hz
   generalize ((cb.toNat : Nat) : Int) = ci at *
   go_upto_region 3 with (fail)
   go_region
   go_upto_region 4 with (fail)
   refine gen_world (G := Code.wp _ _ _ _) (Pd := fun W' => Hid (St W' g ⟨q, y, n⟩) ∧ Only (· = g) w W') ⟨by first | exact (HS.out.s4 _ _ HZ.out.symm).drew | exact HS.out.drew.s4 _ _ HZ.out.symm, by first | exact (HO.setCell (fun _ => rfl) _).drew | exact HO.drew.setCell (fun _ => rfl) _⟩ ?_
   clear HS HO k4 k5 fz e1 e2 e3 HZ hcb
   rintro wr ⟨HS, HO⟩
   have k5 := HS.out.c5
   have fz := HS.out.f 5
   go_upto_region 5 with (fail)
   refine gen_world (G := Code.wp _ _ _ _) (Pd := fun W' => Hid (St W' g ⟨q, y, n + 1⟩) ∧ Only (· = g) w W') ⟨HS.out.s5 _ _ (by omega), HO.setCell (fun _ => rfl) _⟩ ?_
   clear HS HO k5 fz
   rintro wr ⟨HS, HO⟩
   have k5 := HS.out.c5
   have hc1 : (((n + 1 : Nat) : Int)) = (n : Int) + 1 := by omega
   rw [hc1] at k5
   clear hc1
   have hpb : Hid (putB ⟨q, x, n⟩ cb = if (n + 1) % 8 = 0 then ⟨blockQ q y, 0, n + 1⟩ else ⟨q, y, n + 1⟩) := by rw [← HY.out]; rfl
   by_cases h8 : (n + 1) % 8 = 0
   ·have ht : (((n : Int) + 1) % 8 == 0) = true := by rw [beq_iff_eq]; omega
    have hp2 : Hid (putL s (l.take (k + 1)) = ⟨blockQ q y, 0, n + 1⟩) := by show _ = _; rw [HPS.out, hpb.out, if_pos h8]
    clear h8
    have k4 := HS.out.c4
    go_wp2_with fail
    refine (block_calls wr g _ q _ y HS.out.out).mono ?_
    rintro e w1 ⟨rfl, hF, hO1⟩
    have HS1 : Hid (St w1 g ⟨blockQ q y, y, n + 1⟩) := ⟨hF⟩
    have HO1 := HO.trans hO1 (fun _ _ h => h)
    have fz := HS1.out.f 4
    have k4' := HS1.out.c4
    clear HS HO k4 k5 hF hO1 ht
    go_wp2
    go_roundw
    case rel => exact ⟨k + 1, by omega, by go_num, by rw [hp2.out]; exact HS1.out.s4 0 _ rfl, HO1.setCell (fun _ => rfl) _⟩
    case measure => simp [intOf]; omega
   ·have ht : (((n : Int) + 1) % 8 == 0) = false := by rw [beq_eq_false_iff_ne]; omega
    have hp2 : Hid (putL s (l.take (k + 1)) = ⟨q, y, n + 1⟩) := by show _ = _; rw [HPS.out, hpb.out, if_neg h8]
    clear h8
    go_wp2
    go_roundw
    case rel => exact ⟨k + 1, by omega, by go_num, by rw [hp2.out]; exact HS.out, HO⟩
    case measure => simp [intOf]; omega
  ·obtain rfl : k = l.length := by omega
   rw [List.take_length] at HS
   go_wp2
   go_end0
   exact ⟨rfl, HS.out, HO⟩
end Go.Proofs.YthiaakjbapgibaaGreat.Mac
end
section
namespace Go.Proofs.YthiaakjbapgibaaGreat.Mac
open Go.RowKit YthiaakjbapgibaaGreatW.PrintWords Base
def len56 (n : Nat) : UInt64 := UInt64.ofNat (n % 256 * 72057594037927936)
theorem len56_eq (n : Nat) : (((n : Int) % 256 * 72057594037927936)) = ((len56 n).toNat : Int) := by
 unfold len56
 rw [UInt64.toNat_ofNat', Nat.mod_eq_of_lt (by omega)]
 omega
def lastQ (q : Quad) : UInt64 :=
 let p := rounds 4 ⟨q.a, q.b, q.c ^^^ 255, q.d⟩
 p.a ^^^ p.b ^^^ p.c ^^^ p.d
def sealS (s : MS) : UInt64 := lastQ (blockQ s.q (s.word ||| len56 s.n))
attribute [irreducible] len56
set_option maxHeartbeats 1000000 in
theorem seal_calls (w : World) (g : Nat) (s : MS) (hn : s.n ≤ 4611686018427387904) (HS : St w g s) :
  Calls Tryz.prog 169 #[.pointer (some ⟨g, 0, none⟩)] w fun e w' => e = .returned (.int .u64 ((sealS s).toNat : Int)) ∧ Only (· = g) w w' := by
 obtain ⟨q, x, n⟩ := s
 have k4 := HS.c4
 have k5 := HS.c5
 have hs : Hid (sealS ⟨q, x, n⟩ = lastQ (blockQ q (x ||| len56 n))) := rfl
 have hn : n ≤ 4611686018427387904 := hn
 have e1 := len56_eq n
 have e2 := or64 x (len56 n)
 generalize hy : x ||| len56 n = y at *
 have HY := Lh hy
 clear hy
 have HB := Lh (fun (W : World) (h : FourQ W g 223 q [.int .u64 (x.toNat : Int), .int .i64 (n : Int)]) => block_calls W g _ q _ y h)
 have HS := Lh HS
 generalize ((len56 n).toNat : Int) = li at *
 generalize hz : ((y.toNat : Nat) : Int) = z at *
 have HZ := Lh hz
 clear hz
 generalize hv : ((sealS ⟨q, x, n⟩).toNat : Int) = v at *
 have HV := Lh hv
 clear hv
 go_enter Tryz.func169, Tryz.ntmps169
 go_upto_region 1 with (fail)
 refine wp_region_still_tail 13 (by kernel_rfl) (by kernel_rfl) ?_
 simp only [List.take_succ_cons, List.take_zero, List.drop_succ_cons, List.drop_zero]
 repeat still_step
 refine wpStill_nil ?_
 change wpList _ _ _ _ _ w.drew
 go_wp2_with fail
 refine (HB.out w.drew HS.out.drew.out).mono ?_
 rintro e w1 ⟨rfl, hF, hO⟩
 have hO1 : Only (· = g) w w1 := (Only.refl (· = g) w).drew.trans hO (fun _ _ h => h)
 generalize hp : blockQ q y = p at *
 have HP := Lh hp
 clear hp
 have h1 : Four w1 g 223 p.a p.b p.c p.d [.int .u64 (x.toNat : Int), .int .i64 (n : Int)] := hF
 have k2 := h1.c2
 have fz := h1.f 2
 have e3 := xor64 p.c 255
 rw [show (((255 : UInt64).toNat : Nat) : Int) = 255 from rfl] at e3
 have H1 := Lh h1
 have HC := Lh (fun (W : World) (h : FourQ W g 223 ⟨p.a, p.b, p.c ^^^ 255, p.d⟩ [.int .u64 (x.toNat : Int), .int .i64 (n : Int)]) => rounds_calls W g _ _ _ 4 4 rfl (by decide) h)
 have hl : Hid (lastQ p = (rounds 4 ⟨p.a, p.b, p.c ^^^ 255, p.d⟩).a ^^^ (rounds 4 ⟨p.a, p.b, p.c ^^^ 255, p.d⟩).b ^^^ (rounds 4 ⟨p.a, p.b, p.c ^^^ 255, p.d⟩).c ^^^ (rounds 4 ⟨p.a, p.b, p.c ^^^ 255, p.d⟩).d) := rfl
 generalize rounds 4 ⟨p.a, p.b, p.c ^^^ 255, p.d⟩ = r at *
 generalize hz3 : (((p.c ^^^ 255).toNat : Nat) : Int) = z3 at *
 have HZ3 := Lh hz3
 clear hz3 h1 hF hO k4 k5 e1 e2 HB HS
 go_wp2_with fail
 rw [← HZ3.out]
 refine (HC.out _ (H1.out.s2 _)).mono ?_
 rintro e w2 ⟨rfl, hF, hO⟩
 have hO2 : Only (· = g) w w2 := (hO1.setCell (p := ⟨g, 2, none⟩) (fun _ => rfl) _).trans hO (fun _ _ h => h)
 have h2 : Four w2 g 223 r.a r.b r.c r.d [.int .u64 (x.toNat : Int), .int .i64 (n : Int)] := hF
 have k0 := h2.c0
 have k1 := h2.c1
 have k2 := h2.c2
 have k3 := h2.c3
 have x1 := xor64 r.a r.b
 have x2 := xor64 (r.a ^^^ r.b) r.c
 have x3 := xor64 (r.a ^^^ r.b ^^^ r.c) r.d
 clear h2 hF hO HC H1 fz e3
 have hv2 : Hid (v = ((r.a ^^^ r.b ^^^ r.c ^^^ r.d).toNat : Int)) := by show _ = _; rw [← HV.out, hs.out, hl.out]
 generalize ((r.a ^^^ r.b ^^^ r.c ^^^ r.d).toNat : Int) = y4 at *
 generalize ((r.a ^^^ r.b ^^^ r.c).toNat : Int) = y3 at *
 generalize ((r.a ^^^ r.b).toNat : Int) = y2 at *
 go_wp2
 go_quiet (fail)
 go_wp2
 go_ret
 exact ⟨by rw [hv2.out]; rfl, hO2.drewN _⟩
end Go.Proofs.YthiaakjbapgibaaGreat.Mac
end
section
namespace Go.Proofs.YthiaakjbapgibaaGreat.Mac
open Go.RowKit YthiaakjbapgibaaGreatW.PrintWords Base
def lowN (l : List UInt8) : Nat → UInt64
 | 0 => 0
 | k + 1 => lowN l k ||| shl64 (l.getD k 0) (8 * k)
theorem lowN_succ (l : List UInt8) (k : Nat) : lowN l (k + 1) = lowN l k ||| shl64 (l.getD k 0) (8 * k) := rfl
theorem lowN_zero (l : List UInt8) : lowN l 0 = 0 := rfl
attribute [irreducible] lowN
theorem low_calls (w : World) (A : Option Addr) (c : Nat) (l : List UInt8) (hb : byte.C w A l.length l) (hl : l.length ≤ 8) :
  Calls Tryz.prog 188 #[.slice A l.length c] w fun e w' => e = .returned (.int .u64 ((lowN l l.length).toNat : Int)) ∧ w' = w := by
 go_enter Tryz.func188, Tryz.ntmps188
 go_wp2
 go_loop [3, 8] (fun v3 v8 => ∃ k : Nat, k ≤ l.length ∧ v8 = .int .i64 k ∧ v3 = .int .u64 ((lowN l k).toNat : Int)) (fun _ v8 => l.length - (intOf v8).toNat)
 case atStart => exact ⟨0, Nat.zero_le _, rfl, by rw [lowN_zero]; rfl⟩
 case round =>
  obtain ⟨k, hk, rfl, rfl⟩ := hrel
  by_cases hk1 : k < l.length
  ·obtain ⟨ad, rfl, hcb⟩ := byte_at hb k hk1
   have hls := lowN_succ l k
   generalize l.getD k 0 = cb at *
   have e1 : IntKind.u64.wrap (cb.toNat : Int) = (cb.toNat : Int) := by rw [u64w]; have := cb.toNat_lt; omega
   have e2 := shl64_eq cb (8 * k)
   have e3 := or64 (lowN l k) (shl64 cb (8 * k))
   rw [← hls] at e3
   have HLS := Lh hls
   clear hls
   generalize ((shl64 cb (8 * k)).toNat : Int) = si at *
   generalize ((cb.toNat : Nat) : Int) = ci at *
   generalize hz : ((lowN l (k + 1)).toNat : Int) = z at *
   have HZ := Lh hz
   clear hz
   go_wp2
   go_round
   case rel => exact ⟨k + 1, by omega, by go_num, by rw [HZ.out]⟩
   case measure => simp [intOf]; omega
  ·obtain rfl : k = l.length := by omega
   go_wp2
   go_ret
   exact ⟨rfl, rfl⟩
end Go.Proofs.YthiaakjbapgibaaGreat.Mac
end
section
namespace Go.Proofs.YthiaakjbapgibaaGreat.Mac
open Go.RowKit YthiaakjbapgibaaGreatW.PrintWords Base
theorem key_C {w : World} {g t : Nat} {fr : Nat × Nat} {k : List UInt8} (h : w.heap[g]? = some (.cells (keyV k) t fr)) (hk : k.length = 16) (o n : Nat) (ho : o + n ≤ 16) : byte.C w (some ⟨g, o, none⟩) n ((k.drop o).take n) := by
 refine Kd.C_of_reads (d := (0 : UInt8)) ⟨by simp; omega, by omega, fun _ => ⟨_, rfl, fun j hj => ?_⟩⟩
 have ha : (⟨g, o, none⟩ : Addr).add j = ⟨g, o + j, none⟩ := by unfold Addr.add; split <;> simp_all
 rw [ha, cell_of_row _ _ _ _ _ _ h, getD_lt _ _ _ (by simp; omega)]
 have h16 : o + j < k.length := by omega
 rw [List.getElem_take, List.getElem_drop]
 simp [keyV, h16]
def startQ (k : List UInt8) : Quad :=
 ⟨lowN (k.take 8) 8 ^^^ 8317987319222330741, lowN (k.drop 8) 8 ^^^ 7237128888997146477, lowN (k.take 8) 8 ^^^ 7816392313619706465, lowN (k.drop 8) 8 ^^^ 8387220255154660723⟩
set_option maxHeartbeats 1000000 in
theorem start_calls (w : World) (k : List UInt8) (hk : k.length = 16) :
  Calls Tryz.prog 167 #[.agg (keyV k)] w fun e w' => ∃ g, e = .returned (.pointer (some ⟨g, 0, none⟩)) ∧ w.heap.size ≤ g ∧ St w' g ⟨startQ k, 0, 0⟩ ∧ Below w.heap.size w w' := by
 have hW : (w.alloc (.cells (keyV k) 49)).heap[w.heap.size]? = some (.cells (keyV k) 49 (0, 0)) := heap_alloc_new _ _
 have hl1 := fun (n : Nat) => low_calls ((w.alloc (.cells (keyV k) 49)).drewN n) (some ⟨w.heap.size, 0, none⟩) 16 (k.take 8) (by
  have := key_C (w := (w.alloc (.cells (keyV k) 49)).drewN n) (t := 49) (fr := (0, 0)) hW hk 0 8 (by decide)
  rw [List.drop_zero] at this
  rw [show (k.take 8).length = 8 by simp; omega]
  exact this) (by simp; omega)
 have hl2 := fun (n : Nat) => low_calls ((w.alloc (.cells (keyV k) 49)).drewN n) (some ⟨w.heap.size, 8, none⟩) 8 (k.drop 8) (by
  have := key_C (w := (w.alloc (.cells (keyV k) 49)).drewN n) (t := 49) (fr := (0, 0)) hW hk 8 8 (by decide)
  rw [List.take_of_length_le (by simp; omega)] at this
  rw [show (k.drop 8).length = 8 by simp; omega]
  exact this) (by simp; omega)
 rw [show (k.take 8).length = 8 by simp; omega] at hl1
 rw [show (k.drop 8).length = 8 by simp; omega] at hl2
 have hs : Hid (startQ k = ⟨lowN (k.take 8) 8 ^^^ 8317987319222330741, lowN (k.drop 8) 8 ^^^ 7237128888997146477, lowN (k.take 8) 8 ^^^ 7816392313619706465, lowN (k.drop 8) 8 ^^^ 8387220255154660723⟩) := rfl
 generalize startQ k = Q at *
 generalize lowN (k.take 8) 8 = x at *
 generalize lowN (k.drop 8) 8 = y at *
 have e1 := xor64 x 8317987319222330741
 have e2 := xor64 y 7237128888997146477
 have e3 := xor64 x 7816392313619706465
 have e4 := xor64 y 8387220255154660723
 rw [show (((8317987319222330741 : UInt64).toNat : Nat) : Int) = 8317987319222330741 from rfl] at e1
 rw [show (((7237128888997146477 : UInt64).toNat : Nat) : Int) = 7237128888997146477 from rfl] at e2
 rw [show (((7816392313619706465 : UInt64).toNat : Nat) : Int) = 7816392313619706465 from rfl] at e3
 rw [show (((8387220255154660723 : UInt64).toNat : Nat) : Int) = 8387220255154660723 from rfl] at e4
 generalize h1 : x ^^^ 8317987319222330741 = z1 at *
 generalize h2 : y ^^^ 7237128888997146477 = z2 at *
 generalize h3 : x ^^^ 7816392313619706465 = z3 at *
 generalize h4 : y ^^^ 8387220255154660723 = z4 at *
 clear h1 h2 h3 h4
 have HL1 := Lh hl1
 have HL2 := Lh hl2
 have hkk : (keyV k).size = 16 := by rw [keyV_size, hk]
 have HKK := Lh hkk
 generalize keyV k = K at *
 clear hl1 hl2 hW hkk
 generalize hz1 : ((z1.toNat : Nat) : Int) = i1 at *
 generalize hz2 : ((z2.toNat : Nat) : Int) = i2 at *
 generalize hz3 : ((z3.toNat : Nat) : Int) = i3 at *
 generalize hz4 : ((z4.toNat : Nat) : Int) = i4 at *
 have HZ := Lh (And.intro hz1 (And.intro hz2 (And.intro hz3 hz4)))
 clear hz1 hz2 hz3 hz4
 go_enter Tryz.func167, Tryz.ntmps167
 go_upto_region 1 with (fail)
 go_quiet (first | (go_at_call 188; with_reducible exact Calls.quiet_of_same (HL1.out _)) | (go_at_call 188; with_reducible exact Calls.quiet_of_same (HL2.out _)))
 go_wp2
 go_ret
 refine ⟨_, rfl, ?_, ?_, ?_⟩
 ·show w.heap.size ≤ w.heap.size + 1
  omega
 ·rw [hs.out, ← HZ.out.1, ← HZ.out.2.1, ← HZ.out.2.2.1, ← HZ.out.2.2.2]
  have := blk_new ((w.alloc (.cells K 49)).drewN nq) (.cells #[.int .u64 (z1.toNat : Int), .int .u64 (z2.toNat : Int), .int .u64 (z3.toNat : Int), .int .u64 (z4.toNat : Int), .int .u64 0, .int .i64 0] 223)
  simp only [World.heap_drewN, World.size_alloc] at this
  exact ⟨⟨this⟩⟩
 ·exact (pw_below_drewN ((Below.refl _ _).alloc (Nat.le_refl _) _) nq).alloc (by simp) _
def textL (x : UInt64) : List UInt8 := [UInt8.ofNat (x.toNat >>> 0), UInt8.ofNat (x.toNat >>> 8), UInt8.ofNat (x.toNat >>> 16), UInt8.ofNat (x.toNat >>> 24), UInt8.ofNat (x.toNat >>> 32), UInt8.ofNat (x.toNat >>> 40), UInt8.ofNat (x.toNat >>> 48), UInt8.ofNat (x.toNat >>> 56)]
def textN (x : UInt64) : Nat → List UInt8
 | 0 => List.replicate 8 0
 | k + 1 => (textN x k).set k (UInt8.ofNat (x.toNat >>> (8 * k)))
theorem byte_shr (x : UInt64) (k : Nat) : ((x.toNat : Int) / 2 ^ k % 256) = ((UInt8.ofNat (x.toNat >>> k)).toNat : Int) := by
 rw [UInt8.toNat_ofNat', Nat.shiftRight_eq_div_pow]
 simp
theorem text_calls (w : World) (x : UInt64) : Calls Tryz.prog 166 #[.int .u64 (x.toNat : Int)] w (RetR byte 5 (textL x) w) := by
 have hmk : ∀ W : World, (Instr.makeSlice 62 (.int .i64 8) (.int .i64 8)).run Tryz.prog W = .ok (.slice (some ⟨W.heap.size, 0, none⟩) 8 8) (W.alloc (.cells (madeCells #[.int .u8 0] 8) 5)) := print_make 62 5 .u8 1 Tryz.underlying62 info_u8 (by decide) 8 (by decide)
 have hO : byte.R 5 (w.alloc (.cells (madeCells #[.int .u8 0] 8) 5)) w.heap.size (fun _ => True) (.slice (some ⟨w.heap.size, 0, none⟩) 8 8) (textN x 0) :=
  Kd.R_of_own (own_made_of' (enc := fun b : UInt8 => Value.int .u8 (b.toNat : Int)) (d := 0) w w.heap.size 5 8 (Nat.le_refl _) (by decide)) (fun _ _ => trivial)
 have HO := Lh hO
 clear hO
 go_enter Tryz.func166, Tryz.ntmps166
 go_wp2
 clear hmk
 generalize hW0 : w.alloc (.cells (madeCells #[.int .u8 0] 8) 5) = W0 at *
 have hB0 : Below w.heap.size w W0 := hW0 ▸ (Below.refl _ _).alloc (Nat.le_refl _) _
 clear hW0
 go_loopw [8] (fun v8 w' => ∃ k : Nat, k ≤ 8 ∧ v8 = .int .i64 k ∧ byte.R 5 w' w.heap.size (fun _ => True) (.slice (some ⟨w.heap.size, 0, none⟩) 8 8) (textN x k) ∧ Below w.heap.size w w') (fun v8 _ => 8 - (intOf v8).toNat)
 case atStart => exact ⟨0, by omega, rfl, HO.out, hB0⟩
 case round =>
  clear HO hB0
  obtain ⟨k, hk, rfl, hR, hB⟩ := hrel
  by_cases hk8 : k < 8
  ·obtain ⟨hcl, hfr⟩ := byte_cell hR k hk8
   have HX := Lh (byte_shr x (8 * k))
   have HR := Lh hR
   have HB := Lh hB
   clear hR hB
   generalize ((x.toNat : Nat) : Int) = xi at *
   go_wp2
   go_roundw
   case rel => exact ⟨k + 1, by omega, by go_num, byte_put HR.out k _ _ HX.out, HB.out.setCell (Nat.le_refl _) _⟩
   case measure => simp [intOf]; omega
  ·obtain rfl : k = 8 := by omega
   go_wp2
   go_ret
   exact ⟨_, rfl, hR, hB⟩
end Go.Proofs.YthiaakjbapgibaaGreat.Mac
end
section
namespace Go.Proofs.YthiaakjbapgibaaGreat.Mac
open Go.RowKit YthiaakjbapgibaaGreatW.PrintWords Base
theorem same_calls (w : World) (A : Option Addr) (c : Nat) (l : List UInt8) (x : UInt64) (hb : byte.C w A l.length l) :
  Calls Tryz.prog 148 #[.slice A l.length c, .int .u64 (x.toNat : Int)] w fun e w' => e = .returned (.bool (decide (l = textL x))) ∧ Below w.heap.size w w' := by
 have ht := fun W : World => text_calls W x
 have hs := bstr_eq l (textL x)
 generalize textL x = q at *
 generalize decide (l = q) = r at *
 have HT := Lh ht
 have HB := Lh hb
 clear ht hb
 go_enter Tryz.func148, Tryz.ntmps148
 go_upto_region 1 with (fail)
 have r0 := run_bstr (c := c) (Kd.C_drew HB.out)
 go_region_with (go_at_call 166; refine (HT.out _).mono ?_; rintro e w1 ⟨v, rfl, hR, hB⟩; obtain ⟨A1, c1, rfl, hle, hC⟩ := Kd.R_reads hR; have r1 := run_bstr (c := c1) hC; have r2 := run_bstr (c := c) (Kd.C_below (Kd.C_drew HB.out) hB); clear hR hC)
 all_goals
  go_wp2
  go_ret
  exact ⟨rfl, (below_drew (Below.refl w.heap.size w)).trans hB⟩
theorem C_block {w : World} {ad : Addr} {n : Nat} {l : List UInt8} (h : byte.C w (some ad) n l) (hn : 0 < n) : ad.block < w.heap.size := by
 obtain ⟨ad', e, hc⟩ := byte_at h 0 hn
 injection e with e
 subst e
 have := World.block_lt_of_cell? w _ hc
 rwa [add_block] at this
def bytesS (k l : List UInt8) : UInt64 := sealS (putL ⟨startQ k, 0, 0⟩ l)
end Go.Proofs.YthiaakjbapgibaaGreat.Mac
end
section
namespace Go.Proofs.YthiaakjbapgibaaGreat.Mac
open Go.RowKit YthiaakjbapgibaaGreatW.PrintWords Base
theorem putL_append (s : MS) (a b : List UInt8) : putL s (a ++ b) = putL (putL s a) b := by
 unfold putL
 rw [List.foldl_append]
end Go.Proofs.YthiaakjbapgibaaGreat.Mac
end
section
namespace Go.Proofs.YthiaakjbapgibaaGreat.Mac
open Go.RowKit YthiaakjbapgibaaGreatW.PrintWords Base
theorem key_size {k : List UInt8} (hk : k.length = 16) : (Tryz.prog.info? 49).map (·.size) = some (keyV k).size := by
 have hs : (keyV k).size = 16 := by rw [keyV_size, hk]
 have e : (Tryz.prog.info? 49).map (·.size) = some 16 := by kernel_rfl
 rw [hs]
 exact e
theorem R_ge_block {w : World} {base n c t : Nat} {ok : Nat → Prop} {ad : Addr} {q : List UInt8} (h : byte.R t w base ok (.slice (some ad) n c) q) : base ≤ ad.block := by
 obtain ⟨inner, ho⟩ := Kd.R_own h
 rcases ho.2 with ⟨h0, _⟩ | ⟨g, cap, cur, h0, hb, _⟩
 ·cases h0
 ·injection h0 with h0
  injection h0 with h0
  subst h0
  exact hb
def rowL (ps : List (List UInt8)) : List UInt8 := (ps.map fun p => textL (UInt64.ofNat p.length) ++ p).flatten
theorem rowL_succ (ps : List (List UInt8)) (i : Nat) (h : i < ps.length) : rowL (ps.take (i + 1)) = rowL (ps.take i) ++ textL (UInt64.ofNat (ps.getD i []).length) ++ ps.getD i [] := by
 unfold rowL
 rw [List.take_succ_eq_append_getElem h, List.map_append, List.flatten_append, getD_lt _ _ _ h]
 simp
theorem rowL_le (ps : List (List UInt8)) (i : Nat) : (rowL (ps.take i)).length ≤ (rowL ps).length := by
 have := congrArg List.length (congrArg rowL (List.take_append_drop i ps))
 unfold rowL at *
 rw [List.map_append, List.flatten_append, List.length_append] at this
 omega
def sumS (k : List UInt8) (ps : List (List UInt8)) : UInt64 := bytesS k (rowL ps)
theorem textL_length (x : UInt64) : (textL x).length = 8 := rfl
theorem text_len (W : World) (n : Nat) (hn : n ≤ 9223372036854775807) : Calls Tryz.prog 166 #[.int .u64 (n : Int)] W (RetR byte 5 (textL (UInt64.ofNat n)) W) := by
 have := text_calls W (UInt64.ofNat n)
 rw [UInt64.toNat_ofNat', Nat.mod_eq_of_lt (by omega)] at this
 exact this
set_option maxHeartbeats 1000000 in
theorem sum_calls (w : World) (k : List UInt8) (hk : k.length = 16) (A : Option Addr) (c : Nat) (ps : List (List UInt8)) (hp : bytesK.C w A ps.length ps) (hm : (rowL ps).length ≤ 4611686018427387904) :
  Calls Tryz.prog 149 #[.agg (keyV k), .slice A ps.length c] w fun e w' => e = .returned (.int .u64 ((sumS k ps).toNat : Int)) ∧ Below w.heap.size w w' := by
 have hlen := hp.2.1
 have hst := fun W : World => start_calls W k hk
 have hkk : (keyV k).size = 16 := by rw [keyV_size, hk]
 have hbs : Hid (sumS k ps = sealS (putL ⟨startQ k, 0, 0⟩ (rowL ps))) := rfl
 generalize sumS k ps = z at *
 generalize keyV k = K at *
 generalize startQ k = Q at *
 have HK := Lh hkk
 have HST := Lh hst
 have HP := Lh hp
 clear hkk hst hp
 go_enter Tryz.func149, Tryz.ntmps149
 go_wp2_with (refine wpList_load_row rfl 49 _ rfl w.heap.size rfl 49 K (0, 0) _ (heap_alloc_new _ _) Tryz.underlying49 rfl (by rw [HK.out]; kernel_rfl) ?_)
 refine (HST.out _).mono ?_
 rintro e w1 ⟨g, rfl, hg, hS, hB⟩
 have hB1 : Below w.heap.size w w1 := ((Below.refl _ _).alloc (Nat.le_refl _) _).trans (hB.mono (by simp))
 have hg1 : w.heap.size < g := by simp at hg; omega
 have HB1 := Lh hB1
 have HS1 := Lh hS
 clear hB hg hB1 hS
 go_wp2
 go_loopw [12] (fun v12 w' => ∃ i : Nat, i ≤ ps.length ∧ v12 = .int .i64 i ∧ Hid (St w' g (putL ⟨Q, 0, 0⟩ (rowL (ps.take i)))) ∧ Hid (Below w.heap.size w w')) (fun v12 _ => ps.length - (intOf v12).toNat)
 case atStart => exact ⟨0, by omega, rfl, HS1, HB1⟩
 case round =>
  clear HS1 HB1
  obtain ⟨i, hi, rfl, HS, HB⟩ := hrel
  by_cases hlt : i < ps.length
  ·obtain ⟨ad, A0, c0, rfl, hx0, hl0, hb0⟩ := bytes_at HP.out i hlt
   have hx := pw_cell_below HB.out hx0
   have hold : Hid (∀ ad, A0 = some ad → 0 < (ps.getD i []).length → ad.block ≠ g) := by
    intro ad e hn
    subst e
    have := C_block hb0 hn
    omega
   have hb := Kd.C_below hb0 HB.out
   have HC0 := Lh hb0
   have hsucc := Lh (rowL_succ ps i hlt)
   have hle := rowL_le ps (i + 1)
   rw [hsucc.out, List.length_append, List.length_append] at hle
   generalize ps.getD i [] = p at *
   have hpl := hb.2.1
   have HT := Lh (fun W => text_len W p.length hpl)
   generalize hxs : rowL (ps.take i) = xs at *
   have hSn : Hid ((putL ⟨Q, 0, 0⟩ xs).n = xs.length) := by show _ = _; rw [putL_n]; show 0 + _ = _; omega
   generalize textL (UInt64.ofNat p.length) = tx at *
   have hap : Hid (putL ⟨Q, 0, 0⟩ (rowL (ps.take (i + 1))) = putL (putL (putL ⟨Q, 0, 0⟩ xs) tx) p) := by show _ = _; rw [hsucc.out, putL_append, putL_append]
   generalize putL ⟨Q, 0, 0⟩ xs = s at *
   have hn1 : s.n + tx.length ≤ 4611686018427387904 := by rw [hSn.out]; omega
   have hn2 : (putL s tx).n + p.length ≤ 4611686018427387904 := by rw [putL_n, hSn.out]; omega
   have HN := Lh (And.intro hn1 hn2)
   have hgl := blk_lt HS.out.out.out
   have HLE := Lh hle
   clear hn1 hn2 hb hb0 hx0 hle hsucc hxs
   go_wp2_with fail
   refine (HT.out _).mono ?_
   rintro e w2 ⟨v, rfl, hR, hB2⟩
   obtain ⟨A1, c1, rfl, hle1, hC1⟩ := Kd.R_reads hR
   have hne : ∀ ad, A1 = some ad → 0 < tx.length → ad.block ≠ g := by
    intro ad e _
    subst e
    have := R_ge_block hR
    omega
   have HNE := Lh hne
   have HC1 := Lh hC1
   have HS2 := Lh (show St w2 g s from ⟨⟨blk_below HS.out.out.out hB2⟩⟩)
   have HB2 := Lh (HB.out.trans (hB2.mono HB.out.size))
   clear hR hB2 hC1 hne HS HB HT
   go_wp2_with fail
   refine (write_calls w2 g s A1 c1 tx HC1.out HNE.out HN.out.1 HS2.out).mono ?_
   rintro e w3 ⟨rfl, hS3, hO3⟩
   have HB3 := Lh (HB2.out.trans (hO3.below HB2.out.size (fun k hk => by omega)))
   have HC3 := Lh (Kd.C_below HC0.out HB3.out)
   have HS3 := Lh hS3
   clear hS3 hO3 HS2 HB2
   go_wp2_with fail
   refine (write_calls w3 g _ A0 c0 p HC3.out hold.out HN.out.2 HS3.out).mono ?_
   rintro e w4 ⟨rfl, hS4, hO4⟩
   have HB4 := Lh (HB3.out.trans (hO4.below HB3.out.size (fun k hk => by omega)))
   have HS4 := Lh hS4
   clear hS4 hO4 HC3 HS3 HB3
   go_wp2
   go_roundw
   case rel => exact ⟨i + 1, by omega, by go_num, by rw [hap.out]; exact HS4, HB4⟩
   case measure => simp [intOf]; omega
  ·obtain rfl : i = ps.length := by omega
   rw [List.take_length] at HS
   have hn : (putL ⟨Q, 0, 0⟩ (rowL ps)).n ≤ 4611686018427387904 := by rw [putL_n]; show 0 + _ ≤ _; omega
   have HN := Lh hn
   clear hn
   generalize putL ⟨Q, 0, 0⟩ (rowL ps) = s at *
   go_wp2_with fail
   refine (seal_calls wr g _ HN.out HS.out).mono ?_
   rintro e w3 ⟨rfl, hO3⟩
   have hB3 : Below w.heap.size w w3 := HB.out.trans (hO3.below HB.out.size (fun k hk => by omega))
   go_wp2
   go_ret
   exact ⟨by rw [hbs.out]; rfl, hB3⟩
end Go.Proofs.YthiaakjbapgibaaGreat.Mac
end
section
namespace Go.Proofs.YthiaakjbapgibaaGreat.Ck
open Go.RowKit YthiaakjbapgibaaGreatW.PrintWords YthiaakjbapgibaaGreatW.PrintLast Base Mac
def makeT3 : Bool × List (List Nat × List Nat) := (true, [([], []), ([], []), ([], []), ([0, 1, 2], [0, 1, 2]), ([3], [3]), ([], []), ([4, 5, 5], [4, 5]), ([6, 6, 0, 1, 2, 3, 4, 5, 6], [6])])
def makeB3 : List Nat := [0, 0, 0, 7, 15, 0, 63, 127]
theorem maketab3 : Go.Proofs.YthiaakjbapgibaaGreatW.PrintLast.rtab .any (Go.Proofs.YthiaakjbapgibaaGreatW.PrintLast.opsOf Tryz.f143 3) = makeT3 := by kernel_rfl
theorem makebits3 : Go.Proofs.YthiaakjbapgibaaGreatW.PrintLast.waitsOk makeT3.2 makeB3 = true := by kernel_rfl
def offV (x : Nat → Nat) : Array Value := #[.int .u16 (x 2 : Nat), .int .u16 (x 3 : Nat), .int .u32 (x 4 : Nat), .int .u32 (x 5 : Nat), .int .u32 (x 6 : Nat), .int .u32 (x 7 : Nat), .int .u32 (x 8 : Nat), .int .u16 (x 9 : Nat), .int .u16 (x 10 : Nat), .int .u32 (x 11 : Nat), .int .u32 (x 12 : Nat)]
def makeL (k : List UInt8) (x : Nat → Nat) : List UInt8 := sealN x 13 ++ textL (sumS k [sealN x 13])
def timeB (n : Int) : Bool := decide (0 ≤ n) && decide (n ≤ 1099511627776)
def lifeB (n : Int) : Bool := decide (1 ≤ n) && decide (n ≤ 2147483648)
theorem isTime_calls (n : Int) (w : World) : Calls Tryz.prog 147 #[.int .i64 n] w fun e w' => e = .returned (.bool (timeB n)) ∧ w = w' := by
 unfold timeB
 by_cases h0 : 0 ≤ n
 ·by_cases h1 : n ≤ 1099511627776
  all_goals
   simp only [h0, h1, decide_true, decide_false, Bool.and_true, Bool.and_false]
   go_enter Tryz.func147, Tryz.ntmps147
   go_wp2
   go_ret
   exact ⟨rfl, rfl⟩
 ·simp only [h0, decide_false, Bool.false_and]
  go_enter Tryz.func147, Tryz.ntmps147
  go_wp2
  go_ret
  exact ⟨rfl, rfl⟩
theorem isLife_calls (n : Int) (w : World) : Calls Tryz.prog 152 #[.int .i64 n] w fun e w' => e = .returned (.bool (lifeB n)) ∧ w = w' := by
 unfold lifeB
 by_cases h0 : 1 ≤ n
 ·by_cases h1 : n ≤ 2147483648
  all_goals
   simp only [h0, h1, decide_true, decide_false, Bool.and_true, Bool.and_false]
   go_enter Tryz.func152, Tryz.ntmps152
   go_wp2
   go_ret
   exact ⟨rfl, rfl⟩
 ·simp only [h0, decide_false, Bool.false_and]
  go_enter Tryz.func152, Tryz.ntmps152
  go_wp2
  go_ret
  exact ⟨rfl, rfl⟩
theorem one_C {w : World} {A : Option Addr} {c : Nat} {p : List UInt8} (hC : byte.C w A p.length p) (hc : p.length ≤ c) : bytesK.C (w.alloc (.cells #[.slice A p.length c] 62)) (some ⟨w.heap.size, 0, none⟩) [p].length [p] := by
 refine row_lit bytesK rfl w 62 [.slice A p.length c] [p] rfl (by simp) ?_
 intro j v q h1 h2
 match j, h1, h2 with
 | 0, h1, h2 => obtain rfl := Option.some.inj h1; obtain rfl := Option.some.inj h2; exact K_bytes hC hc
 | j + 1, h1, h2 => cases h1
theorem fit_63 {x : Nat → Nat} (h0 : x 0 ≤ 1099511627776) (hx : ∀ i, i < 13 → x i < 256 ^ nF i) : ∀ i, i < 13 → x i < 9223372036854775808 := by
 intro i hi
 have hv := hx i hi
 match i, hi with
 | 0, _ => omega
 | 1, _ | 2, _ | 3, _ | 4, _ | 5, _ | 6, _ | 7, _ | 8, _ | 9, _ | 10, _ | 11, _ | 12, _ => exact Nat.lt_of_lt_of_le hv (by decide)
theorem row_len (l : List UInt8) (h : l.length = 48) : (rowL [l]).length ≤ 140737488355328 := by
 unfold rowL
 simp [textL_length, h]
def MakeP (k : List UInt8) (x : Nat → Nat) (w : World) (e : Ending) (w' : World) : Prop := ∃ v, e = .returned (.tuple #[v, .int .i64 0]) ∧ byte.R 5 w' w.heap.size (fun _ => True) v (makeL k x) ∧ Below w.heap.size w w'
set_option maxHeartbeats 2000000 in
theorem make_good (w : World) (k : List UInt8) (hk : k.length = 16) (x : Nat → Nat) (h0 : x 0 ≤ 1099511627776) (h1 : 1 ≤ x 1) (h2 : x 1 ≤ 2147483648) (hx : ∀ i, i < 13 → x i < 256 ^ nF i) :
  Calls Tryz.prog 143 #[.agg (keyV k), .int .i64 (x 0 : Nat), .int .i64 (x 1 : Nat), .agg (offV x)] w (MakeP k x w) := by
 have HX := Lh hx
 have H63 := Lh (fit_63 h0 hx)
 have hT := fun W => isTime_calls (x 0 : Nat) W
 have hL := fun W => isLife_calls (x 1 : Nat) W
 rw [show timeB (x 0 : Nat) = true by unfold timeB; simp; omega] at hT
 rw [show lifeB (x 1 : Nat) = true by unfold lifeB; simp; omega] at hL
 have HK := Lh (show ((w.alloc (.cells (keyV k) 49)).alloc (.cells (offV x) 106)).heap[w.heap.size]? = some (.cells (keyV k) 49 (0, 0)) from blk_alloc (blk_new _ _) _)
 have HO := Lh (show ((w.alloc (.cells (keyV k) 49)).alloc (.cells (offV x) 106)).heap[w.heap.size + 1]? = some (.cells (offV x) 106 (0, 0)) by have h := blk_new (w.alloc (.cells (keyV k) 49)) (.cells (offV x) 106); rw [World.size_alloc] at h; exact h)
 have HB0 := Lh (below_alloc (below_alloc (Below.refl w.heap.size w) (.cells (keyV k) 49)) (.cells (offV x) 106))
 have HKS := Lh (key_size hk)
 have HSM := Lh (fun (W : World) (A : Option Addr) (c : Nat) (h : bytesK.C W A [sealN x 13].length [sealN x 13]) => sum_calls W k hk A c [sealN x 13] h (Nat.le_trans (row_len _ (sealN_length x 13)) (by decide)))
 have HTX := Lh (fun W : World => text_calls W (sumS k [sealN x 13]))
 have HML := Lh (show makeL k x = sealN x 13 ++ textL (sumS k [sealN x 13]) from rfl)
 have hsl : (sealN x 13).length = 48 := sealN_length x 13
 have htl : (textL (sumS k [sealN x 13])).length = 8 := rfl
 clear hx h0 h1 h2
 go_enter Tryz.func143, Tryz.ntmps143
 go_upto_region 3 with (first | (go_at_call 147; refine (hT _).mono ?_; rintro e w' ⟨rfl, rfl⟩) | (go_at_call 152; refine (hL _).mono ?_; rintro e w' ⟨rfl, rfl⟩))
 clear hT hL
 generalize ((w.alloc (.cells (keyV k) 49)).alloc (.cells (offV x) 106)) = W0 at *
 have hsz0 := HB0.out.size
 generalize hg7 : w.heap.size + 1 = g7 at *
 have B := True.intro
 refine start_ (n := 8) (S := fun w' => True) (ds := []) #[false, false, false, false, false, false, false, false] (by kernel_rfl) rfl rfl trivial (fun hHeld => ?_)
 refine with_tabW maketab3 makebits3 (fun HT_ HW_ => ?_)
 refine pu 1 20 ?_ rfl rfl (any_of HT_.out (by kernel_rfl)) (fun _ _ _ h => h) (by rfl) ?_ ?_ ?_ ?_
 rotate_left
 ·intro w'
  go_simp
  with_reducible rfl
 rotate_left
 ·simp only [sL]
  rfl
 refine pu 2 21 ?_ rfl rfl (any_of HT_.out (by kernel_rfl)) (fun _ _ _ h => h) (by rfl) ?_ ?_ ?_ ?_
 rotate_left
 ·intro w'
  go_simp
  with_reducible rfl
 rotate_left
 ·simp only [sL]
  rfl
 refine inv_at [0, 3, 4, 5, 6, 7] (fun a0_ b a w' => ∃ (s9 : Nat) (ad9 : Addr) (v9 : Value) (m4_ : Value) (m5_ : Value) (m7_ : Value), a = putSel a0_ b [(0, 19, .agg #[.int .u16 (x 2 : Nat), .int .u16 (x 3 : Nat), .int .u32 (x 4 : Nat), .int .u32 (x 5 : Nat), .int .u32 (x 6 : Nat), .int .u32 (x 7 : Nat), .int .u32 (x 8 : Nat), .int .u16 (x 9 : Nat), .int .u16 (x 10 : Nat), .int .u32 (x 11 : Nat), .int .u32 (x 12 : Nat)]), (3, 22, .agg #[.int .u16 (x 2 : Nat), .int .u16 (x 3 : Nat), .int .u32 (x 4 : Nat), .int .u32 (x 5 : Nat), .int .u32 (x 6 : Nat), .int .u32 (x 7 : Nat), .int .u32 (x 8 : Nat), .int .u16 (x 9 : Nat), .int .u16 (x 10 : Nat), .int .u32 (x 11 : Nat), .int .u32 (x 12 : Nat), .int .i64 (x 0 : Nat), .int .i64 (x 1 : Nat)]), (4, 23, m4_), (5, 24, m5_), (6, 25, v9), (7, 10, m7_)] ∧ (Below W0.heap.size W0 w') ∧ (b 4 = true → b 6 = false → w'.heap[s9]? = some (.cells (stV x) STT (0, 0))) ∧ (b 5 = true → b 6 = false → ∀ i, i < 13 → FldAt w' ad9 i) ∧ (b 6 = true → byte.R 5 w' W0.heap.size (fun _ => True) v9 (sealN x 13)) ∧ (b 4 = true → (m4_ : Value) = .pointer (some ⟨s9, 0, none⟩)) ∧ (b 5 = true → (m5_ : Value) = .slice (some ad9) 13 13) ∧ (b 7 = true → (m7_ : Value) = v9)) HT_.out HW_.out (by kernel_rfl) (by kernel_rfl) ?_ ?_ ?_
 ·exact ⟨0, ⟨0, 0, none⟩, undef, .bool false, .bool false, .bool false, by simp only [putSel, Bool.false_eq_true, if_false], below_drew (Below.refl _ _), fun h_ => absurd h_ (by decide), fun h_ => absurd h_ (by decide), fun h_ => absurd h_ (by decide), fun h_ => absurd h_ (by decide), fun h_ => absurd h_ (by decide), fun h_ => absurd h_ (by decide)⟩
 ·skip
  clear B
  refine sc rfl ?_ ?_
  ·rintro b a w' ⟨s9, ad9, v9, m4_, m5_, m7_, ha, Q_B, Q_S, Q_F, Q_R, Q_X4_, Q_X5_, Q_X7_⟩ hb_ hon hoff K hK
   have e7 : a.tmps[7]? = some (.pointer (some ⟨g7, 0, none⟩)) := by rw [ha]; exact (putSel_off rfl).trans rfl
   replace ha := Am ha
   have B := Am Q_B
   refine value_ (w1 := w') (v := .agg #[.int .u16 (x 2 : Nat), .int .u16 (x 3 : Nat), .int .u32 (x 4 : Nat), .int .u32 (x 5 : Nat), .int .u32 (x 6 : Nat), .int .u32 (x 7 : Nat), .int .u32 (x 8 : Nat), .int .u16 (x 9 : Nat), .int .u16 (x 10 : Nat), .int .u32 (x 11 : Nat), .int .u32 (x 12 : Nat)]) (by rfl) rfl (exec_load_row 106 (.tmp 7) rfl (eval_of e7) (blk_below HO.out B.out) Tryz.underlying106 rfl (by kernel_rfl)) ?_
   refine hK.out _ _ ⟨s9, ad9, v9, m4_, m5_, m7_, (puk ha 0 hb_ rfl rfl rfl), B.out, fun h0_ _ => hof (hoff 4 (by kernel_rfl)) h0_, fun h0_ h1_ => (Q_F h0_ h1_), fun h0_ => hof (hoff 6 (by kernel_rfl)) h0_, fun h0_ => hof (hoff 4 (by kernel_rfl)) h0_, Q_X5_, fun h0_ => hof (hoff 7 (by kernel_rfl)) h0_⟩
  refine sc rfl ?_ ?_
  ·rintro b a w' ⟨s9, ad9, v9, m4_, m5_, m7_, ha, Q_B, Q_S, Q_F, Q_R, Q_X4_, Q_X5_, Q_X7_⟩ hb_ hon hoff K hK
   have e19 := psn ha 0 rfl rfl (hon 0 (by kernel_rfl)) rfl
   have e20 : a.tmps[20]? = some (.int .i64 (x 0 : Nat)) := by rw [ha]; exact (putSel_off rfl).trans rfl
   have e21 : a.tmps[21]? = some (.int .i64 (x 1 : Nat)) := by rw [ha]; exact (putSel_off rfl).trans rfl
   replace ha := Am ha
   have B := Am Q_B
   refine value_ (w1 := w') (v := .agg #[.int .u16 (x 2 : Nat), .int .u16 (x 3 : Nat), .int .u32 (x 4 : Nat), .int .u32 (x 5 : Nat), .int .u32 (x 6 : Nat), .int .u32 (x 7 : Nat), .int .u32 (x 8 : Nat), .int .u16 (x 9 : Nat), .int .u16 (x 10 : Nat), .int .u32 (x 11 : Nat), .int .u32 (x 12 : Nat), .int .i64 (x 0 : Nat), .int .i64 (x 1 : Nat)]) (by rfl) rfl (by go_simp; try rfl) ?_
   refine hK.out _ _ ⟨s9, ad9, v9, m4_, m5_, m7_, (puk ha 1 hb_ rfl rfl rfl), B.out, fun h0_ _ => hof (hoff 4 (by kernel_rfl)) h0_, fun h0_ h1_ => (Q_F h0_ h1_), fun h0_ => hof (hoff 6 (by kernel_rfl)) h0_, fun h0_ => hof (hoff 4 (by kernel_rfl)) h0_, Q_X5_, fun h0_ => hof (hoff 7 (by kernel_rfl)) h0_⟩
  refine sc rfl ?_ ?_
  ·rintro b a w' ⟨s9, ad9, v9, m4_, m5_, m7_, ha, Q_B, Q_S, Q_F, Q_R, Q_X4_, Q_X5_, Q_X7_⟩ hb_ hon hoff K hK
   have e22 := psn ha 1 rfl rfl (hon 3 (by kernel_rfl)) rfl
   replace ha := Am ha
   have B := Am Q_B
   refine value_ (w1 := w'.alloc (.cells #[.int .u16 (x 2 : Nat), .int .u16 (x 3 : Nat), .int .u32 (x 4 : Nat), .int .u32 (x 5 : Nat), .int .u32 (x 6 : Nat), .int .u32 (x 7 : Nat), .int .u32 (x 8 : Nat), .int .u16 (x 9 : Nat), .int .u16 (x 10 : Nat), .int .u32 (x 11 : Nat), .int .u32 (x 12 : Nat), .int .i64 (x 0 : Nat), .int .i64 (x 1 : Nat)] STT)) (v := .pointer (some ⟨w'.heap.size, 0, none⟩)) (by rfl) rfl (by go_simp; try rfl) ?_
   refine hK.out _ _ ⟨w'.heap.size, ad9, v9, (.pointer (some ⟨w'.heap.size, 0, none⟩)), m5_, m7_, (puk ha 2 hb_ rfl rfl rfl), B.out.alloc B.out.size _, fun _ _ => (show (w'.alloc (.cells #[.int .u16 (x 2 : Nat), .int .u16 (x 3 : Nat), .int .u32 (x 4 : Nat), .int .u32 (x 5 : Nat), .int .u32 (x 6 : Nat), .int .u32 (x 7 : Nat), .int .u32 (x 8 : Nat), .int .u16 (x 9 : Nat), .int .u16 (x 10 : Nat), .int .u32 (x 11 : Nat), .int .u32 (x 12 : Nat), .int .i64 (x 0 : Nat), .int .i64 (x 1 : Nat)] STT)).heap[w'.heap.size]? = some (.cells (stV x) STT (0, 0)) from blk_new w' _), fun h0_ h1_ => fun i hi => FldAt.below ((Q_F h0_ h1_) i hi) (below_alloc (Below.refl _ _) _), fun h0_ => hof (hoff 6 (by kernel_rfl)) h0_, fun _ => rfl, Q_X5_, fun h0_ => hof (hoff 7 (by kernel_rfl)) h0_⟩
  refine sc rfl ?_ ?_
  ·rintro b a w' ⟨s9, ad9, v9, m4_, m5_, m7_, ha, Q_B, Q_S, Q_F, Q_R, Q_X4_, Q_X5_, Q_X7_⟩ hb_ hon hoff K hK
   replace ha := Am ha
   have B := Am Q_B
   refine goes_ Tryz.func151 (by kernel_rfl) rfl #[] (by rfl) rfl rfl (by first | (simp only [List.map_toArray, List.map_cons, List.map_nil, Act.eval, Array.getD_eq_getD_getElem?, Option.getD_some]; done) | (simp only [List.map_toArray, List.map_cons, List.map_nil, Act.eval, Array.getD_eq_getD_getElem?, Option.getD_some]; rfl)) ?_
   refine (fields_calls w').mono ?_
   rintro e w1 ⟨ad1, rfl, hF1, hB1⟩
   refine ⟨_, rfl, ?_⟩
   refine hK.out _ _ ⟨s9, ad1, v9, m4_, (.slice (some ad1) 13 13), m7_, (puk ha 3 hb_ rfl rfl rfl), B.out.trans (hB1.mono B.out.size), fun h0_ h1_ => blk_below (Q_S h0_ h1_) hB1, fun _ _ => hF1, fun h0_ => hof (hoff 6 (by kernel_rfl)) h0_, Q_X4_, fun _ => rfl, fun h0_ => hof (hoff 7 (by kernel_rfl)) h0_⟩
  refine sc rfl ?_ ?_
  ·rintro b a w' ⟨s9, ad9, v9, m4_, m5_, m7_, ha, Q_B, Q_S, Q_F, Q_R, Q_X4_, Q_X5_, Q_X7_⟩ hb_ hon hoff K hK
   have e23 := psn ha 2 rfl rfl (hon 4 (by kernel_rfl)) rfl
   rw [Q_X4_ (hon 4 (by kernel_rfl))] at e23
   have e24 := psn ha 3 rfl rfl (hon 5 (by kernel_rfl)) rfl
   rw [Q_X5_ (hon 5 (by kernel_rfl))] at e24
   replace ha := Am ha
   have B := Am Q_B
   have S := Am (Q_S (hon 4 (by kernel_rfl)) hb_)
   have F := Am (Q_F (hon 5 (by kernel_rfl)) hb_)
   refine goes_ Tryz.func165 (by kernel_rfl) rfl #[.pointer (some ⟨s9, 0, none⟩), .slice (some ad9) 13 13] (by rfl) rfl rfl (by first | (simp only [List.map_toArray, List.map_cons, List.map_nil, Act.eval, Array.getD_eq_getD_getElem?, Option.getD_some, e23, e24]; done) | (simp only [List.map_toArray, List.map_cons, List.map_nil, Act.eval, Array.getD_eq_getD_getElem?, Option.getD_some, e23, e24]; rfl)) ?_
   refine (write_calls w' s9 ad9 x S.out F.out HX.out H63.out).mono ?_
   rintro e w1 ⟨v1, rfl, hR1, hB1⟩
   refine ⟨_, rfl, ?_⟩
   refine hK.out _ _ ⟨s9, ad9, v1, m4_, m5_, m7_, (puk ha 4 hb_ rfl rfl rfl), B.out.trans (hB1.mono B.out.size), fun _ h1_ => absurd ((up_self b 6).symm.trans h1_) (by decide), fun _ h1_ => absurd ((up_self b 6).symm.trans h1_) (by decide), fun _ => Kd.R_lower hR1 B.out.size, Q_X4_, Q_X5_, fun h0_ => hof (hoff 7 (by kernel_rfl)) h0_⟩
  refine sc rfl ?_ ?_
  ·rintro b a w' ⟨s9, ad9, v9, m4_, m5_, m7_, ha, Q_B, Q_S, Q_F, Q_R, Q_X4_, Q_X5_, Q_X7_⟩ hb_ hon hoff K hK
   have e25 := psn ha 4 rfl rfl (hon 6 (by kernel_rfl)) rfl
   replace ha := Am ha
   refine value_ (w1 := w') (v := v9) (by rfl) rfl ?_ ?_
   ·go_simp
    (try simp only [i64_w])
    try rfl
   refine hK.out _ _ ⟨s9, ad9, v9, m4_, m5_, (v9), (puk ha 5 hb_ rfl rfl rfl), Q_B, fun _ h1_ => absurd ((hon 6 (by kernel_rfl)).symm.trans h1_) (by decide), fun _ h1_ => absurd ((hon 6 (by kernel_rfl)).symm.trans h1_) (by decide), Q_R, Q_X4_, Q_X5_, fun _ => rfl⟩
  exact steps_nil
 rintro b a w' hall ⟨s9, ad9, v9, m4_, m5_, m7_, ha, Q_B, Q_S, Q_F, Q_R, Q_X4_, Q_X5_, Q_X7_⟩
 clear B
 have hb0_ := hall 0 (by kernel_rfl)
 have hb3_ := hall 3 (by kernel_rfl)
 have hb4_ := hall 4 (by kernel_rfl)
 have hb5_ := hall 5 (by kernel_rfl)
 have hb6_ := hall 6 (by kernel_rfl)
 have hb7_ := hall 7 (by kernel_rfl)
 subst ha
 obtain rfl := Q_X4_ hb4_
 obtain rfl := Q_X5_ hb5_
 obtain rfl := Q_X7_ hb7_
 simp only [putSel, hb0_, hb3_, hb4_, hb5_, hb6_, hb7_, if_true, Act.put, List.setIfInBounds_toArray, List.set_cons_zero, List.set_cons_succ]
 have B := Am Q_B
 clear Q_B
 clear Q_S
 clear Q_F
 have R := Am (Q_R hb6_)
 clear Q_R
 clear hall hb0_ hb3_ hb4_ hb5_ hb6_ hb7_
 have HR3 := Lh (Kd.R_lower R.out hsz0)
 have HB3 := Lh (HB0.out.trans (B.out.mono hsz0))
 have HK3 := Lh (blk_below HK.out B.out)
 clear B R
 generalize keyV k = KV at *
 generalize textL (sumS k [sealN x 13]) = tx at *
 generalize ((sumS k [sealN x 13]).toNat : Int) = sm at *
 generalize sealN x 13 = sl at *
 obtain ⟨As, cs, rfl, hle, hC⟩ := Kd.R_reads HR3.out
 have H1C := Lh (one_C hC hle)
 clear hC
 have hsl2 : sl.length ≤ 48 := by omega
 have htl2 : tx.length ≤ 8 := by omega
 have HRS := Lh (fun o => Kd.R_alloc HR3.out o)
 have HBA := Lh (fun o => HB3.out.alloc HB3.out.size o)
 clear hsl htl hle HR3
 go_wp2_with (refine wpList_load_row rfl 49 _ rfl w.heap.size rfl 49 KV (0, 0) _ HK3.out Tryz.underlying49 rfl HKS.out ?_)
 refine (HSM.out _ _ 1 H1C.out).mono ?_
 rintro e w5 ⟨rfl, hB5⟩
 have HB5 := Lh (below_then (HBA.out _) (HBA.out _).size hB5)
 have HR5 := Lh (Kd.R_below (HRS.out _) hB5)
 clear hB5
 go_wp2_with fail
 refine (HTX.out w5).mono ?_
 rintro e w6 ⟨v6, rfl, hR6, hB6⟩
 obtain ⟨At, ct, rfl, hlt, hCt⟩ := Kd.R_reads hR6
 have HB6 := Lh (below_then HB5.out HB5.out.size hB6)
 have HR6 := Lh (Kd.R_below HR5.out hB6)
 have HC6 := Lh hCt
 clear hB6 hR6 hCt hlt
 go_wp2_with (at_builtin; go_must (refine Kd.R_append_row (fun b : UInt8 => .int .u8 (b.toNat : Int)) (0 : UInt8) (w0 := w) w.heap.size rfl _ _ 62 5 _ 1 rfl Tryz.underlying62 info_u8 rfl (by decide) (.slice As sl.length cs) sl tx At tx.length ct (fun _ => True) rfl rfl (fun _ _ => trivial) HR6.out HC6.out HB6.out HB6.out.size (by omega) ?_); intro v7 w7 hR7 hB7 _ _; have HR7 := Lh hR7; have HB7 := Lh hB7; clear hR7 hB7)
 go_ret2
 exact ⟨v7, rfl, by rw [HML.out]; exact HR7.out, HB7.out⟩
end Go.Proofs.YthiaakjbapgibaaGreat.Ck
end
section
namespace Go.Proofs.YthiaakjbapgibaaGreat.As
open Go.RowKit YthiaakjbapgibaaGreatW.PrintWords YthiaakjbapgibaaGreatW.PrintLast YthiaakjbapgibaaGreatW.PrintMore Base PCh
def blkOf : Value → Nat
 | .pointer (some a) => a.block
 | _ => 0
def McR (W W1 : World) (v : Value) (cs : Array Value) : Prop := ∃ gc, v = .pointer (some ⟨gc, 0, none⟩) ∧ W1.heap[gc]? = some (.cells cs 65 (0, 0)) ∧ W.heap.size ≤ gc ∧ Below W.heap.size W W1
theorem mc_store {W W1 : World} {v : Value} {cs cs' : Array Value} (h : McR W W1 v cs) : McR W (W1.setRow (blkOf v) cs') v cs' := by
 obtain ⟨gc, rfl, h1, h2, h3⟩ := h
 exact ⟨gc, rfl, setRow_heap _ _ _ _ _ _ h1, h2, below_setRow h3 h2 _⟩
def McI (W : World) (cv : Array Value) (s : Nat) (vs : Nat → Value) (W1 : World) : Prop :=
 match s with
 | 0 => Below W.heap.size W W1
 | 1 => McR W W1 (vs 1) #[.int .u8 0, .int .u8 0, .int .u32 0, .int .u16 0, .int .u16 0, .int .u32 0, .int .u32 0, .int .u32 0, .int .u16 0, .int .u16 0, .slice none 0 0, .slice none 0 0, .slice none 0 0, .slice none 0 0, .slice none 0 0]
 | _ => McR W W1 (vs 1) cv
theorem mc_below {W W1 : World} {cv : Array Value} {s : Nat} {vs : Nat → Value} (h : McI W cv s vs W1) : Below W.heap.size W W1 := by
 match s, h with
 | 0, h => exact h
 | 1, ⟨_, _, _, _, h⟩ => exact h
 | _ + 2, ⟨_, _, _, _, h⟩ => exact h
theorem tv_cells {W : World} {g gt : Nat} {tag : Int} {x : Chk} {L : Lay} {now : Int} (h : W.heap[gt]? = some (.cells (TV g tag x L now) 116 (0, 0))) : ∀ j v, (Go.Proofs.YthiaakjbapgibaaGreat.Ch.CV x L).toList[j]? = some v → W.cell? ((⟨gt, 2, none⟩ : Addr).add j) = some v := by
 intro j v hv
 rw [Addr.add_lit, blk_cell h]
 have hl := (List.getElem?_eq_some_iff.1 hv).1
 match j, hv with
 | 0, hv => exact hv
 | 1, hv => exact hv
 | 2, hv => exact hv
 | 3, hv => exact hv
 | 4, hv => exact hv
 | 5, hv => exact hv
 | 6, hv => exact hv
 | 7, hv => exact hv
 | 8, hv => exact hv
 | 9, hv => exact hv
 | 10, hv => exact hv
 | 11, hv => exact hv
 | 12, hv => exact hv
 | 13, hv => exact hv
 | 14, hv => exact hv
 | k + 15, hv => exact absurd hl (by simp [Go.Proofs.YthiaakjbapgibaaGreat.Ch.CV])
def ansT0 : Bool × List (List Nat × List Nat) := (true, [([], []), ([0], [0]), ([1], [1]), ([2], [2]), ([], []), ([4], [4]), ([5], [5]), ([6], [6]), ([], []), ([3, 0, 1, 2, 3, 8], [3]), ([8, 7, 9, 0, 1, 2, 3, 4, 5, 6, 7, 8, 9], [7, 8])])
def ansB0 : List Nat := [0, 1, 3, 7, 0, 16, 48, 112, 0, 271, 1023]
theorem anstab0 : Go.Proofs.YthiaakjbapgibaaGreatW.PrintLast.rtab .any (Go.Proofs.YthiaakjbapgibaaGreatW.PrintLast.opsOf Tryz.f111 0) = ansT0 := by kernel_rfl
theorem ansbits0 : Go.Proofs.YthiaakjbapgibaaGreatW.PrintLast.waitsOk ansT0.2 ansB0 = true := by kernel_rfl
def ans4T4 : Bool × List (List Nat × List Nat) := (true, [([], []), ([], []), ([], []), ([], []), ([3], [3]), ([4], [4]), ([5], [5]), ([6], [6]), ([], []), ([8], [8]), ([9], [9]), ([10], [10]), ([11], [11]), ([], []), ([13], [13]), ([14], [14]), ([15], [15]), ([16], [16]), ([], []), ([18], [18]), ([19], [19]), ([1, 2, 7, 12, 17, 20], [1, 2, 7, 12, 17, 20]), ([], []), ([22], [22]), ([0, 21, 23], [0, 21, 23])])
def ans4B4 : List Nat := [0, 0, 0, 0, 8, 24, 56, 120, 0, 256, 768, 1792, 3840, 0, 8192, 24576, 57344, 122880, 0, 262144, 786432, 2097150, 0, 4194304, 16777215]
theorem ans4tab4 : Go.Proofs.YthiaakjbapgibaaGreatW.PrintLast.rtab .any (Go.Proofs.YthiaakjbapgibaaGreatW.PrintLast.opsOf Tryz.f111 4) = ans4T4 := by kernel_rfl
theorem ans4bits4 : Go.Proofs.YthiaakjbapgibaaGreatW.PrintLast.waitsOk ans4T4.2 ans4B4 = true := by kernel_rfl
theorem one_C {α : Type} (d : Kd α) {B gs : Nat} {W : World} {cs : Array Value} {t : TypeId} {x : α} (hb : W.heap[gs]? = some (.cells cs t (0, 0))) (ht : Mut t = false) (hx : Stb B W fun W' => d.K W' x cs.toList) : Stb B W fun W' => d.C W' (some ⟨gs, 0, none⟩) 1 [x] := by
 intro W' hk
 have hb' := hk.typ gs cs t (0, 0) hb ht
 refine ⟨rfl, by show (1 : Nat) ≤ 9223372036854775807; decide, fun _ => ⟨⟨gs, 0, none⟩, rfl, fun j p hj => ?_⟩⟩
 have hj0 : j = 0 := by
  have := (List.getElem?_eq_some_iff.1 hj).1
  simpa using this
 subst hj0
 obtain rfl : x = p := by simpa using hj
 refine ⟨cs.toList, Kd.K_len _ (hx W' hk), hx W' hk, fun i v hv => ?_⟩
 rw [Addr.add_lit, blk_cell hb']
 simpa using hv
def ints (l : List UInt8) : List Int := l.map fun b => (b.toNat : Int)
theorem ints_length (l : List UInt8) : (ints l).length = l.length := List.length_map ..
theorem ints_C {w : World} {A : Option Addr} {l : List UInt8} (h : byte.C w A l.length l) : (Kd.int .u8).C w A (ints l).length (ints l) := by
 rw [ints_length]
 exact Kd.C_of_reads (d := (0 : Int)) (ints_of_bytes h)
def AsI (W3 : World) (A9 : Option Addr) (c9 n : Nat) (R : Ending → World → Prop) (s : Nat) (vs : Nat → Value) (W1 : World) : Prop :=
 match s with
 | 0 => W1.heap.size = W3.heap.size ∧ Below W3.heap.size W3 W1
 | 1 => vs 1 = .slice (some ⟨W3.heap.size, 0, none⟩) 1 1 ∧ W1.heap[W3.heap.size]? = some (.cells #[.int .u16 7, .slice A9 n c9] 123 (0, 0)) ∧ Below W3.heap.size W3 W1
 | _ => R (.returned (.tuple #[])) W1
theorem as_below {W3 W1 : World} {A9 : Option Addr} {c9 n : Nat} {R : Ending → World → Prop} {s : Nat} {vs : Nat → Value} (h : AsI W3 A9 c9 n R s vs W1) (hs : s ≤ 1) : Below W3.heap.size W3 W1 := by
 match s, h, hs with
 | 0, h, _ => exact h.2
 | 1, ⟨_, _, h⟩, _ => exact h
def iackC (K : Cfg) (tag tsn : Int) (l : List UInt8) : Chk := ⟨2, 0, tsn, 0, 0, 0, tag, K.win, K.out, K.inn, [], [], [], [], [⟨7, ints l⟩]⟩
theorem iack_K {B : Nat} {W : World} {K : Cfg} {tag tsn : Int} {l : List UInt8} {A : Option Addr} {c gs : Nat} (hl : l.length ≤ c) (hS : Stb B W fun W' => byte.C W' A l.length l) (hg : W.heap[gs]? = some (.cells #[.int .u16 7, .slice A l.length c] 123 (0, 0))) :
  Stb B W fun W' => Kd.K k65 W' (iackC K tag tsn l) (#[.int .u8 2, .int .u8 0, .int .u32 tsn, .int .u16 0, .int .u16 0, .int .u32 0, .int .u32 tag, .int .u32 K.win, .int .u16 K.out, .int .u16 K.inn, .slice none 0 0, .slice none 0 0, .slice none 0 0, .slice none 0 0, .slice (some ⟨gs, 0, none⟩) 1 1] : Array Value).toList := by
 have hp : Stb B W fun W' => Kd.K k123 W' ⟨7, ints l⟩ (#[.int .u16 7, .slice A l.length c] : Array Value).toList := fun W' hk => by
  have h := k123_mk W' (⟨7, ints l⟩ : S123) (A1 := A) (c1 := c) (by show (ints l).length ≤ c; rw [ints_length]; exact hl) (ints_C (hS W' hk))
  have e : (⟨7, ints l⟩ : S123).f1.length = l.length := ints_length l
  rw [e] at h
  exact h
 have hr := one_C k123 hg rfl hp
 exact fun W' hk => k65_mk W' (iackC K tag tsn l) (Nat.le_refl _) (Kd.C_nil _ _) (Nat.le_refl _) (Kd.C_nil _ _) (Nat.le_refl _) (Kd.C_nil _ _) (Nat.le_refl _) (Kd.C_nil _ _) (Nat.le_refl _) (hr W' hk)
attribute [local go_sem] max2_int min2_int max_two min_two
section
variable {B : Nat} {W0 W : World} {g gt : Nat} {K : Cfg} {m : Mst} {xs : List Act'} {tag : Int} {x : Chk} {L : Lay} {now : Int}
set_option maxHeartbeats 2000000 in
theorem answer_core (hM : MS B W0 g K m [] W) (hT : TC B W0 g gt tag x L now) (X : Nat → Nat) (hx0 : X 0 ≤ 1099511627776) (hx1 : 1 ≤ X 1) (hx2 : X 1 ≤ 2147483648) (hx : ∀ i, i < 13 → X i < 256 ^ Go.Proofs.YthiaakjbapgibaaGreat.Ck.nF i)
  (e0 : now = (X 0 : Nat)) (e1 : K.life = (X 1 : Nat)) (e2 : K.port = (X 2 : Nat)) (e3 : K.peer = (X 3 : Nat)) (e5 : x.f6 = (X 5 : Nat)) (e7 : x.f2 = (X 7 : Nat)) (e8 : x.f7 = (X 8 : Nat)) (e9 : (if x.f9 < K.out then x.f9 else K.out) = (X 9 : Nat)) (e10 : (if x.f8 < K.inn then x.f8 else K.inn) = (X 10 : Nat)) :
  Calls Tryz.prog 111 #[.pointer (some ⟨gt, 0, none⟩), .int .u32 (X 4 : Nat), .int .u32 (X 6 : Nat), .int .u32 (X 11 : Nat), .int .u32 (X 12 : Nat)] W (Rt B W0 g K m [actSend (iackC K (X 4 : Nat) (X 6 : Nat) (Go.Proofs.YthiaakjbapgibaaGreat.Ck.makeL K.key X)) x.f6] W) := by
 obtain ⟨ml, hml⟩ : ∃ ml, Go.Proofs.YthiaakjbapgibaaGreat.Ck.makeL K.key X = ml := ⟨_, rfl⟩
 rw [hml]
 have HML := Lh hml
 clear hml
 have HRT0 := hM.only.blk hT.row hT.ne
 have HRT := Lh HRT0
 clear HRT0
 have HM := Lh hM
 clear hM hT
 go_enter Tryz.func111, Tryz.ntmps111
 go_upto_region 0 with (fail)
 refine grow_v (B := ansB0) [0, 1, 2, 3, 4, 5, 6, 7, 8, 9, 10] [8, 10] (McI W (Go.Proofs.YthiaakjbapgibaaGreat.Ch.CV x L)) (fun vs => [(0, 14, .pointer (some ⟨gt, 0, none⟩)), (1, 15, .pointer (some ⟨gt, 0, none⟩)), (2, 16, .pointer (some ⟨gt, 0, none⟩)), (3, 17, .pointer (some ⟨g, 0, none⟩)), (4, 18, .pointer (some ⟨gt, 0, none⟩)), (5, 19, .pointer (some ⟨gt, 0, none⟩)), (6, 20, .pointer (some ⟨gt, 2, none⟩)), (7, 21, .agg (Go.Proofs.YthiaakjbapgibaaGreat.Ch.CV x L)), (8, 11, vs 1), (9, 10, .pointer (some ⟨g, 0, none⟩))]) (by kernel_rfl) rfl (l := #[false, false, false, false, false, false, false, false, false, false, false]) rfl anstab0 ansbits0 (by kernel_rfl) (by kernel_rfl) (fun _ => rfl) rfl (fun _ => undef) ?_ ?_ ?_
 ·exact pw_below_drewN (Below.refl _ _) 1
 ·exact steps_cons (gv_op 0 1 [(0, fun vs => .pointer (some ⟨gt, 0, none⟩))] 0 0 (fv := fun vs => .pointer (some ⟨gt, 0, none⟩)) rfl rfl (wt_none rfl) (fun _ => rfl) (fun _ => rfl) rfl rfl (by kernel_rfl) (by kernel_rfl) ⟨rd_off (p := 0) (fun _ => rfl) rfl, trivial⟩ (fun a w s vs hm hs h e => by
  obtain ⟨e0, _⟩ := e
  replace e0 : a.tmps[0]? = some (.pointer (some ⟨gt, 0, none⟩)) := e0
  go_simp)) (steps_cons (gv_op 0 1 [(14, fun vs => .pointer (some ⟨gt, 0, none⟩))] 1 1 (fv := fun vs => .pointer (some ⟨gt, 0, none⟩)) rfl rfl (wt_none rfl) (fun _ => rfl) (fun _ => rfl) rfl rfl (by kernel_rfl) (by kernel_rfl) ⟨rd_on (p := 14) 0 0 (fun _ => rfl) (fun _ => rfl) (by kernel_rfl) rfl, trivial⟩ (fun a w s vs hm hs h e => by
  obtain ⟨e14, _⟩ := e
  replace e14 : a.tmps[14]? = some (.pointer (some ⟨gt, 0, none⟩)) := e14
  go_simp)) (steps_cons (gv_op 0 1 [(15, fun vs => .pointer (some ⟨gt, 0, none⟩))] 2 2 (fv := fun vs => .pointer (some ⟨gt, 0, none⟩)) rfl rfl (wt_none rfl) (fun _ => rfl) (fun _ => rfl) rfl rfl (by kernel_rfl) (by kernel_rfl) ⟨rd_on (p := 15) 1 1 (fun _ => rfl) (fun _ => rfl) (by kernel_rfl) rfl, trivial⟩ (fun a w s vs hm hs h e => by
  obtain ⟨e15, _⟩ := e
  replace e15 : a.tmps[15]? = some (.pointer (some ⟨gt, 0, none⟩)) := e15
  go_simp)) (steps_cons (gv_op 0 1 [(16, fun vs => .pointer (some ⟨gt, 0, none⟩))] 3 3 (fv := fun vs => .pointer (some ⟨g, 0, none⟩)) rfl rfl (wt_none rfl) (fun _ => rfl) (fun _ => rfl) rfl rfl (by kernel_rfl) (by kernel_rfl) ⟨rd_on (p := 16) 2 2 (fun _ => rfl) (fun _ => rfl) (by kernel_rfl) rfl, trivial⟩ (fun a w s vs hm hs h e => by
  obtain ⟨e16, _⟩ := e
  replace e16 : a.tmps[16]? = some (.pointer (some ⟨gt, 0, none⟩)) := e16
  have hs := blk_cell (blk_below HRT.out (mc_below h)) 0
  go_simp; first | done | rfl)) (steps_cons (gv_op 0 1 [(0, fun vs => .pointer (some ⟨gt, 0, none⟩))] 4 4 (fv := fun vs => .pointer (some ⟨gt, 0, none⟩)) rfl rfl (wt_none rfl) (fun _ => rfl) (fun _ => rfl) rfl rfl (by kernel_rfl) (by kernel_rfl) ⟨rd_off (p := 0) (fun _ => rfl) rfl, trivial⟩ (fun a w s vs hm hs h e => by
  obtain ⟨e0, _⟩ := e
  replace e0 : a.tmps[0]? = some (.pointer (some ⟨gt, 0, none⟩)) := e0
  go_simp)) (steps_cons (gv_op 0 1 [(18, fun vs => .pointer (some ⟨gt, 0, none⟩))] 5 5 (fv := fun vs => .pointer (some ⟨gt, 0, none⟩)) rfl rfl (wt_none rfl) (fun _ => rfl) (fun _ => rfl) rfl rfl (by kernel_rfl) (by kernel_rfl) ⟨rd_on (p := 18) 4 4 (fun _ => rfl) (fun _ => rfl) (by kernel_rfl) rfl, trivial⟩ (fun a w s vs hm hs h e => by
  obtain ⟨e18, _⟩ := e
  replace e18 : a.tmps[18]? = some (.pointer (some ⟨gt, 0, none⟩)) := e18
  go_simp)) (steps_cons (gv_op 0 1 [(19, fun vs => .pointer (some ⟨gt, 0, none⟩))] 6 6 (fv := fun vs => .pointer (some ⟨gt, 2, none⟩)) rfl rfl (wt_none rfl) (fun _ => rfl) (fun _ => rfl) rfl rfl (by kernel_rfl) (by kernel_rfl) ⟨rd_on (p := 19) 5 5 (fun _ => rfl) (fun _ => rfl) (by kernel_rfl) rfl, trivial⟩ (fun a w s vs hm hs h e => by
  obtain ⟨e19, _⟩ := e
  replace e19 : a.tmps[19]? = some (.pointer (some ⟨gt, 0, none⟩)) := e19
  go_simp)) (steps_cons (gv_op 0 1 [(20, fun vs => .pointer (some ⟨gt, 2, none⟩))] 7 7 (fv := fun vs => .agg (Go.Proofs.YthiaakjbapgibaaGreat.Ch.CV x L)) rfl rfl (wt_none rfl) (fun _ => rfl) (fun _ => rfl) rfl rfl (by kernel_rfl) (by kernel_rfl) ⟨rd_on (p := 20) 6 6 (fun _ => rfl) (fun _ => rfl) (by kernel_rfl) rfl, trivial⟩ (fun a w s vs hm hs h e => by
  obtain ⟨e20, _⟩ := e
  replace e20 : a.tmps[20]? = some (.pointer (some ⟨gt, 2, none⟩)) := e20
  exact exec_load_cells 65 (.tmp 20) rfl (eval_of e20) (Go.Proofs.YthiaakjbapgibaaGreat.Ch.CV x L) _ (tv_cells (blk_below HRT.out (mc_below h))) Tryz.underlying65 rfl (by kernel_rfl))) (steps_cons (gv_gen [] 8 8 0 rfl rfl (wt_none rfl) rfl (fun _ => rfl) (fun _ _ => rfl) (fun _ => rfl) rfl (by kernel_rfl) trivial (fun a w K vs h e hw hK => by
  have h1 := mc_below h
  exact value_ (w1 := w.alloc (.cells #[.int .u8 0, .int .u8 0, .int .u32 0, .int .u16 0, .int .u16 0, .int .u32 0, .int .u32 0, .int .u32 0, .int .u16 0, .int .u16 0, .slice none 0 0, .slice none 0 0, .slice none 0 0, .slice none 0 0, .slice none 0 0] 65)) (v := .pointer (some ⟨w.heap.size, 0, none⟩)) hw rfl (by go_simp; try rfl) (hK _ _ ⟨w.heap.size, rfl, blk_new _ _, h1.size, below_alloc h1 _⟩))) (steps_cons (gv_op 1 1 [(17, fun vs => .pointer (some ⟨g, 0, none⟩))] 9 9 (fv := fun vs => .pointer (some ⟨g, 0, none⟩)) rfl rfl (wt_none rfl) (fun _ => rfl) (fun _ => rfl) rfl rfl (by kernel_rfl) (by kernel_rfl) ⟨rd_on (p := 17) 3 3 (fun _ => rfl) (fun _ => rfl) (by kernel_rfl) rfl, trivial⟩ (fun a w s vs hm hs h e => by
  obtain rfl : s = 1 := by omega
  obtain ⟨e17, _⟩ := e
  replace e17 : a.tmps[17]? = some (.pointer (some ⟨g, 0, none⟩)) := e17
  go_simp)) (steps_cons (gv_store (f := fun vs W => W.setRow (blkOf (vs 1)) (Go.Proofs.YthiaakjbapgibaaGreat.Ch.CV x L)) [(11, fun vs => vs 1), (21, fun vs => .agg (Go.Proofs.YthiaakjbapgibaaGreat.Ch.CV x L))] 10 1 rfl rfl (wt_none rfl) rfl (fun _ => rfl) rfl (by kernel_rfl) ⟨rd_on (p := 11) 8 8 (fun _ => rfl) (fun _ => rfl) (by kernel_rfl) rfl, rd_on (p := 21) 7 7 (fun _ => rfl) (fun _ => rfl) (by kernel_rfl) rfl, trivial⟩ (fun a w vs h e => by
  obtain ⟨e11, e21, _⟩ := e
  replace e11 : a.tmps[11]? = some (vs 1) := e11
  replace e21 : a.tmps[21]? = some (.agg (Go.Proofs.YthiaakjbapgibaaGreat.Ch.CV x L)) := e21
  obtain ⟨gc, hv, h1, h2, h3⟩ := h
  rw [hv] at e11 ⊢
  exact exec_store_row 65 (.tmp 11) (.tmp 21) rfl (eval_of e11) (eval_of e21) h1 (by kernel_rfl) rfl (by simp [Go.Proofs.YthiaakjbapgibaaGreat.Ch.CV, Value.oneCell'])) (fun vs w h => mc_store h)) steps_nil))))))))))
 intro vs W1 hI
 obtain ⟨gc, hv, hgc, hgs, hB⟩ := hI
 simp only [putSel, if_true, Act.put, List.setIfInBounds_toArray, List.set_cons_zero, List.set_cons_succ]
 rw [hv]
 have hM1 := HM.out.below hB
 have k27 := hM1.k27
 have k29 := hM1.k29
 have k30 := hM1.k30
 have k33 := hM1.k33
 have k34 := hM1.k34
 have c2 : W1.cell? ⟨gc, 2, none⟩ = some (.int .u32 x.f2) := blk_cell hgc 2
 have c6 : W1.cell? ⟨gc, 6, none⟩ = some (.int .u32 x.f6) := blk_cell hgc 6
 have c7 : W1.cell? ⟨gc, 7, none⟩ = some (.int .u32 x.f7) := blk_cell hgc 7
 have c8 : W1.cell? ⟨gc, 8, none⟩ = some (.int .u16 x.f8) := blk_cell hgc 8
 have c9 : W1.cell? ⟨gc, 9, none⟩ = some (.int .u16 x.f9) := blk_cell hgc 9
 have tn : W1.cell? ⟨gt, 17, none⟩ = some (.int .i64 now) := blk_cell (blk_below HRT.out hB) 17
 have HKY := Lh (fun n => show ∀ j v, (keyV K.key).toList[j]? = some v → (W1.drewN n).cell? ((⟨g, 10, none⟩ : Addr).add j) = some v from fun j v hv => by rw [Addr.add_lit]; exact (hM1.drewN n).keyAt j v hv)
 have HK16 := Lh hM1.hk
 have HM1 := Lh hM1
 have HGC := Lh hgc
 have HB := Lh hB
 have HE5 := Lh e5
 have HE9 := Lh e9
 have HE10 := Lh e10
 rw [e0] at tn
 rw [e1] at k27
 rw [e2] at k33
 rw [e3] at k34
 rw [e5] at c6
 rw [e7] at c2
 rw [e8] at c7
 have HX := Lh (⟨hx0, hx1, hx2, hx⟩ : X 0 ≤ 1099511627776 ∧ 1 ≤ X 1 ∧ X 1 ≤ 2147483648 ∧ ∀ i, i < 13 → X i < 256 ^ Go.Proofs.YthiaakjbapgibaaGreat.Ck.nF i)
 clear hM1 hgc hB e0 e1 e2 e3 e5 e7 e8 e9 e10 hx0 hx1 hx2 hx
 go_upto_region 1 with (fail)
 refine any_begin 51 (by kernel_rfl) (by kernel_rfl) ?_
 simp only [tks, tk0, dks, dk0]
 iterate 4 (go_big_quiet_step (fail))
 refine wpQuiet_val rfl (fun w' ⟨n, hw⟩ => by rw [hw]; exact exec_load_cells 49 (.tmp 26) rfl rfl (keyV K.key) _ (HKY.out n) Tryz.underlying49 rfl (by rw [show (keyV K.key).size = 16 by simp [keyV, HK16.out]]; kernel_rfl)) ?_
 simp only [Act.put, List.setIfInBounds_toArray, List.set_cons_zero, List.set_cons_succ]
 repeat (go_big_quiet_step (fail))
 refine wpQuiet_nil ?_
 rintro _ ⟨nq, rfl⟩
 clear k27 k29 k30 k33 k34 c2 c6 c7 c8 c9 tn
 refine any_one 51 (by kernel_rfl) rfl (fun K_ hK => ?_)
 refine goes_ Tryz.func143 (by kernel_rfl) rfl #[.agg (keyV K.key), .int .i64 (X 0 : Nat), .int .i64 (X 1 : Nat), .agg (Go.Proofs.YthiaakjbapgibaaGreat.Ck.offV X)] (by rfl) rfl rfl ?_ ?_
 ·simp only [List.map_toArray, List.map_cons, List.map_nil, Act.eval, Array.getD_eq_getD_getElem?, List.getElem?_toArray, List.getElem?_cons_succ, List.getElem?_cons_zero, Option.getD_some]
  rw [HE9.out, HE10.out]
  rfl
 refine (Go.Proofs.YthiaakjbapgibaaGreat.Ck.make_good _ K.key HK16.out X HX.out.1 HX.out.2.1 HX.out.2.2.1 HX.out.2.2.2).mono ?_
 rintro e W3 ⟨v, rfl, hR, hB3⟩
 rw [HML.out] at hR
 refine ⟨_, rfl, hK _ _ ?_⟩
 obtain ⟨A9, c9, rfl, hl9, hS9⟩ := R_stable byte (B := B) (by decide) hR
 have hB4 : Below W1.heap.size W1 W3 := (pw_below_drewN (Below.refl _ _) nq).trans hB3
 have HM3 := Lh (HM1.out.below hB4)
 have HGC3 := Lh (blk_below HGC.out hB4)
 have HB4 := Lh hB4
 have HS9 := Lh hS9
 have HL9 := Lh hl9
 clear hK hR hB3 hB4 hS9 hl9 K_ HKY
 simp only [Act.put, List.setIfInBounds_toArray, List.set_cons_zero, List.set_cons_succ]
 refine any_quiet 52 5 (by kernel_rfl) ?_
 simp only [tks, tk0, dks, dk0]
 repeat (go_big_quiet_step (fail))
 refine wpQuiet_nil ?_
 rintro _ ⟨nq3, rfl⟩
 refine any_end 57 rfl (by kernel_rfl) ?_
 have HM4 := Lh (HM3.out.drewN nq3)
 have HGC4 := Lh (blk_drewN HGC3.out nq3)
 have HB5 := Lh (HB4.out.trans (pw_below_drewN (Below.refl W3.heap.size W3) nq3 |>.mono HB4.out.size))
 have HS4 := Lh (HS9.out.mono (Kq.of_below (pw_below_drewN (Below.refl _ _) nq3)))
 clear HM3 HGC3 HB4 HS9
 generalize W3.drewN nq3 = W4 at *
 go_upto_region 4 with (fail)
 have HSN := Lh (fun (w : World) (gs : Nat) (hb : Below W4.heap.size W4 w) (hg : w.heap[gs]? = some (.cells #[.int .u16 7, .slice A9 ml.length c9] 123 (0, 0))) =>
  send_ms HM4.out hb (by simp) (iackC K (X 4 : Nat) (X 6 : Nat) ml) #[.int .u8 2, .int .u8 0, .int .u32 (X 6 : Nat), .int .u16 0, .int .u16 0, .int .u32 0, .int .u32 (X 4 : Nat), .int .u32 K.win, .int .u16 K.out, .int .u16 K.inn, .slice none 0 0, .slice none 0 0, .slice none 0 0, .slice none 0 0, .slice (some ⟨gs, 0, none⟩) 1 1] (iack_K HL9.out (HS4.out.mono (Kq.of_below hb)) hg) x.f6)
 refine grow_v (B := ans4B4) [0, 1, 2, 3, 4, 5, 6, 7, 8, 9, 10, 11, 12, 13, 14, 15, 16, 17, 18, 19, 20, 21, 22, 23, 24] [20, 24] (AsI W4 A9 c9 ml.length (Rt B W0 g K m [actSend (iackC K (X 4 : Nat) (X 6 : Nat) ml) x.f6] W4)) (fun vs => [(0, 81, .pointer (some ⟨g, 0, none⟩)), (1, 82, .int .u32 (X 4 : Nat)), (2, 83, .int .u32 (X 6 : Nat)), (3, 84, .pointer (some ⟨g, 0, none⟩)), (4, 85, .pointer (some ⟨g, 0, none⟩)), (5, 86, .pointer (some ⟨g, 10, none⟩)), (6, 87, .pointer (some ⟨g, 28, none⟩)), (7, 88, .int .u32 K.win), (8, 89, .pointer (some ⟨g, 0, none⟩)), (9, 90, .pointer (some ⟨g, 0, none⟩)), (10, 91, .pointer (some ⟨g, 10, none⟩)), (11, 92, .pointer (some ⟨g, 29, none⟩)), (12, 93, .int .u16 K.out), (13, 94, .pointer (some ⟨g, 0, none⟩)), (14, 95, .pointer (some ⟨g, 0, none⟩)), (15, 96, .pointer (some ⟨g, 10, none⟩)), (16, 97, .pointer (some ⟨g, 30, none⟩)), (17, 98, .int .u16 K.inn), (18, 99, .slice A9 ml.length c9), (19, 100, .agg #[.int .u16 7, .slice A9 ml.length c9]), (20, 101, vs 1), (21, 102, .agg #[.int .u8 2, .int .u8 0, .int .u32 (X 6 : Nat), .int .u16 0, .int .u16 0, .int .u32 0, .int .u32 (X 4 : Nat), .int .u32 K.win, .int .u16 K.out, .int .u16 K.inn, .slice none 0 0, .slice none 0 0, .slice none 0 0, .slice none 0 0, .slice (some ⟨W4.heap.size, 0, none⟩) 1 1]), (22, 103, .pointer (some ⟨gc, 6, none⟩)), (23, 104, .int .u32 x.f6), (24, 105, vs 2)]) (by kernel_rfl) rfl (l := #[false, false, false, false, false, false, false, false, false, false, false, false, false, false, false, false, false, false, false, false, false, false, false, false, false]) rfl ans4tab4 ans4bits4 (by kernel_rfl) (by kernel_rfl) (fun _ => rfl) rfl (fun _ => undef) ?_ ?_ ?_
 ·exact ⟨rfl, pw_below_drewN (Below.refl _ _) 1⟩
 ·exact steps_cons (gv_op 0 1 [(10, fun vs => .pointer (some ⟨g, 0, none⟩))] 0 0 (fv := fun vs => .pointer (some ⟨g, 0, none⟩)) rfl rfl (wt_none rfl) (fun _ => rfl) (fun _ => rfl) rfl rfl (by kernel_rfl) (by kernel_rfl) ⟨rd_off (p := 10) (fun _ => rfl) rfl, trivial⟩ (fun a w s vs hm hs h e => by
  obtain ⟨e10, _⟩ := e
  replace e10 : a.tmps[10]? = some (.pointer (some ⟨g, 0, none⟩)) := e10
  go_simp)) (steps_cons (gv_op 0 1 [(1, fun vs => .int .u32 (X 4 : Nat))] 1 1 (fv := fun vs => .int .u32 (X 4 : Nat)) rfl rfl (wt_none rfl) (fun _ => rfl) (fun _ => rfl) rfl rfl (by kernel_rfl) (by kernel_rfl) ⟨rd_off (p := 1) (fun _ => rfl) rfl, trivial⟩ (fun a w s vs hm hs h e => by
  obtain ⟨e1, _⟩ := e
  replace e1 : a.tmps[1]? = some (.int .u32 (X 4 : Nat)) := e1
  go_simp)) (steps_cons (gv_op 0 1 [(2, fun vs => .int .u32 (X 6 : Nat))] 2 2 (fv := fun vs => .int .u32 (X 6 : Nat)) rfl rfl (wt_none rfl) (fun _ => rfl) (fun _ => rfl) rfl rfl (by kernel_rfl) (by kernel_rfl) ⟨rd_off (p := 2) (fun _ => rfl) rfl, trivial⟩ (fun a w s vs hm hs h e => by
  obtain ⟨e2, _⟩ := e
  replace e2 : a.tmps[2]? = some (.int .u32 (X 6 : Nat)) := e2
  go_simp)) (steps_cons (gv_op 0 1 [(10, fun vs => .pointer (some ⟨g, 0, none⟩))] 3 3 (fv := fun vs => .pointer (some ⟨g, 0, none⟩)) rfl rfl (wt_none rfl) (fun _ => rfl) (fun _ => rfl) rfl rfl (by kernel_rfl) (by kernel_rfl) ⟨rd_off (p := 10) (fun _ => rfl) rfl, trivial⟩ (fun a w s vs hm hs h e => by
  obtain ⟨e10, _⟩ := e
  replace e10 : a.tmps[10]? = some (.pointer (some ⟨g, 0, none⟩)) := e10
  go_simp)) (steps_cons (gv_op 0 1 [(84, fun vs => .pointer (some ⟨g, 0, none⟩))] 4 4 (fv := fun vs => .pointer (some ⟨g, 0, none⟩)) rfl rfl (wt_none rfl) (fun _ => rfl) (fun _ => rfl) rfl rfl (by kernel_rfl) (by kernel_rfl) ⟨rd_on (p := 84) 3 3 (fun _ => rfl) (fun _ => rfl) (by kernel_rfl) rfl, trivial⟩ (fun a w s vs hm hs h e => by
  obtain ⟨e84, _⟩ := e
  replace e84 : a.tmps[84]? = some (.pointer (some ⟨g, 0, none⟩)) := e84
  go_simp)) (steps_cons (gv_op 0 1 [(85, fun vs => .pointer (some ⟨g, 0, none⟩))] 5 5 (fv := fun vs => .pointer (some ⟨g, 10, none⟩)) rfl rfl (wt_none rfl) (fun _ => rfl) (fun _ => rfl) rfl rfl (by kernel_rfl) (by kernel_rfl) ⟨rd_on (p := 85) 4 4 (fun _ => rfl) (fun _ => rfl) (by kernel_rfl) rfl, trivial⟩ (fun a w s vs hm hs h e => by
  obtain ⟨e85, _⟩ := e
  replace e85 : a.tmps[85]? = some (.pointer (some ⟨g, 0, none⟩)) := e85
  go_simp)) (steps_cons (gv_op 0 1 [(86, fun vs => .pointer (some ⟨g, 10, none⟩))] 6 6 (fv := fun vs => .pointer (some ⟨g, 28, none⟩)) rfl rfl (wt_none rfl) (fun _ => rfl) (fun _ => rfl) rfl rfl (by kernel_rfl) (by kernel_rfl) ⟨rd_on (p := 86) 5 5 (fun _ => rfl) (fun _ => rfl) (by kernel_rfl) rfl, trivial⟩ (fun a w s vs hm hs h e => by
  obtain ⟨e86, _⟩ := e
  replace e86 : a.tmps[86]? = some (.pointer (some ⟨g, 10, none⟩)) := e86
  go_simp)) (steps_cons (gv_op 0 1 [(87, fun vs => .pointer (some ⟨g, 28, none⟩))] 7 7 (fv := fun vs => .int .u32 K.win) rfl rfl (wt_none rfl) (fun _ => rfl) (fun _ => rfl) rfl rfl (by kernel_rfl) (by kernel_rfl) ⟨rd_on (p := 87) 6 6 (fun _ => rfl) (fun _ => rfl) (by kernel_rfl) rfl, trivial⟩ (fun a w s vs hm hs h e => by
  obtain ⟨e87, _⟩ := e
  replace e87 : a.tmps[87]? = some (.pointer (some ⟨g, 28, none⟩)) := e87
  have hs := (HM4.out.below (as_below h (by omega))).k28
  go_simp; first | done | rfl)) (steps_cons (gv_op 0 1 [(10, fun vs => .pointer (some ⟨g, 0, none⟩))] 8 8 (fv := fun vs => .pointer (some ⟨g, 0, none⟩)) rfl rfl (wt_none rfl) (fun _ => rfl) (fun _ => rfl) rfl rfl (by kernel_rfl) (by kernel_rfl) ⟨rd_off (p := 10) (fun _ => rfl) rfl, trivial⟩ (fun a w s vs hm hs h e => by
  obtain ⟨e10, _⟩ := e
  replace e10 : a.tmps[10]? = some (.pointer (some ⟨g, 0, none⟩)) := e10
  go_simp)) (steps_cons (gv_op 0 1 [(89, fun vs => .pointer (some ⟨g, 0, none⟩))] 9 9 (fv := fun vs => .pointer (some ⟨g, 0, none⟩)) rfl rfl (wt_none rfl) (fun _ => rfl) (fun _ => rfl) rfl rfl (by kernel_rfl) (by kernel_rfl) ⟨rd_on (p := 89) 8 8 (fun _ => rfl) (fun _ => rfl) (by kernel_rfl) rfl, trivial⟩ (fun a w s vs hm hs h e => by
  obtain ⟨e89, _⟩ := e
  replace e89 : a.tmps[89]? = some (.pointer (some ⟨g, 0, none⟩)) := e89
  go_simp)) (steps_cons (gv_op 0 1 [(90, fun vs => .pointer (some ⟨g, 0, none⟩))] 10 10 (fv := fun vs => .pointer (some ⟨g, 10, none⟩)) rfl rfl (wt_none rfl) (fun _ => rfl) (fun _ => rfl) rfl rfl (by kernel_rfl) (by kernel_rfl) ⟨rd_on (p := 90) 9 9 (fun _ => rfl) (fun _ => rfl) (by kernel_rfl) rfl, trivial⟩ (fun a w s vs hm hs h e => by
  obtain ⟨e90, _⟩ := e
  replace e90 : a.tmps[90]? = some (.pointer (some ⟨g, 0, none⟩)) := e90
  go_simp)) (steps_cons (gv_op 0 1 [(91, fun vs => .pointer (some ⟨g, 10, none⟩))] 11 11 (fv := fun vs => .pointer (some ⟨g, 29, none⟩)) rfl rfl (wt_none rfl) (fun _ => rfl) (fun _ => rfl) rfl rfl (by kernel_rfl) (by kernel_rfl) ⟨rd_on (p := 91) 10 10 (fun _ => rfl) (fun _ => rfl) (by kernel_rfl) rfl, trivial⟩ (fun a w s vs hm hs h e => by
  obtain ⟨e91, _⟩ := e
  replace e91 : a.tmps[91]? = some (.pointer (some ⟨g, 10, none⟩)) := e91
  go_simp)) (steps_cons (gv_op 0 1 [(92, fun vs => .pointer (some ⟨g, 29, none⟩))] 12 12 (fv := fun vs => .int .u16 K.out) rfl rfl (wt_none rfl) (fun _ => rfl) (fun _ => rfl) rfl rfl (by kernel_rfl) (by kernel_rfl) ⟨rd_on (p := 92) 11 11 (fun _ => rfl) (fun _ => rfl) (by kernel_rfl) rfl, trivial⟩ (fun a w s vs hm hs h e => by
  obtain ⟨e92, _⟩ := e
  replace e92 : a.tmps[92]? = some (.pointer (some ⟨g, 29, none⟩)) := e92
  have hs := (HM4.out.below (as_below h (by omega))).k29
  go_simp; first | done | rfl)) (steps_cons (gv_op 0 1 [(10, fun vs => .pointer (some ⟨g, 0, none⟩))] 13 13 (fv := fun vs => .pointer (some ⟨g, 0, none⟩)) rfl rfl (wt_none rfl) (fun _ => rfl) (fun _ => rfl) rfl rfl (by kernel_rfl) (by kernel_rfl) ⟨rd_off (p := 10) (fun _ => rfl) rfl, trivial⟩ (fun a w s vs hm hs h e => by
  obtain ⟨e10, _⟩ := e
  replace e10 : a.tmps[10]? = some (.pointer (some ⟨g, 0, none⟩)) := e10
  go_simp)) (steps_cons (gv_op 0 1 [(94, fun vs => .pointer (some ⟨g, 0, none⟩))] 14 14 (fv := fun vs => .pointer (some ⟨g, 0, none⟩)) rfl rfl (wt_none rfl) (fun _ => rfl) (fun _ => rfl) rfl rfl (by kernel_rfl) (by kernel_rfl) ⟨rd_on (p := 94) 13 13 (fun _ => rfl) (fun _ => rfl) (by kernel_rfl) rfl, trivial⟩ (fun a w s vs hm hs h e => by
  obtain ⟨e94, _⟩ := e
  replace e94 : a.tmps[94]? = some (.pointer (some ⟨g, 0, none⟩)) := e94
  go_simp)) (steps_cons (gv_op 0 1 [(95, fun vs => .pointer (some ⟨g, 0, none⟩))] 15 15 (fv := fun vs => .pointer (some ⟨g, 10, none⟩)) rfl rfl (wt_none rfl) (fun _ => rfl) (fun _ => rfl) rfl rfl (by kernel_rfl) (by kernel_rfl) ⟨rd_on (p := 95) 14 14 (fun _ => rfl) (fun _ => rfl) (by kernel_rfl) rfl, trivial⟩ (fun a w s vs hm hs h e => by
  obtain ⟨e95, _⟩ := e
  replace e95 : a.tmps[95]? = some (.pointer (some ⟨g, 0, none⟩)) := e95
  go_simp)) (steps_cons (gv_op 0 1 [(96, fun vs => .pointer (some ⟨g, 10, none⟩))] 16 16 (fv := fun vs => .pointer (some ⟨g, 30, none⟩)) rfl rfl (wt_none rfl) (fun _ => rfl) (fun _ => rfl) rfl rfl (by kernel_rfl) (by kernel_rfl) ⟨rd_on (p := 96) 15 15 (fun _ => rfl) (fun _ => rfl) (by kernel_rfl) rfl, trivial⟩ (fun a w s vs hm hs h e => by
  obtain ⟨e96, _⟩ := e
  replace e96 : a.tmps[96]? = some (.pointer (some ⟨g, 10, none⟩)) := e96
  go_simp)) (steps_cons (gv_op 0 1 [(97, fun vs => .pointer (some ⟨g, 30, none⟩))] 17 17 (fv := fun vs => .int .u16 K.inn) rfl rfl (wt_none rfl) (fun _ => rfl) (fun _ => rfl) rfl rfl (by kernel_rfl) (by kernel_rfl) ⟨rd_on (p := 97) 16 16 (fun _ => rfl) (fun _ => rfl) (by kernel_rfl) rfl, trivial⟩ (fun a w s vs hm hs h e => by
  obtain ⟨e97, _⟩ := e
  replace e97 : a.tmps[97]? = some (.pointer (some ⟨g, 30, none⟩)) := e97
  have hs := (HM4.out.below (as_below h (by omega))).k30
  go_simp; first | done | rfl)) (steps_cons (gv_op 0 0 [(12, fun vs => .slice A9 ml.length c9)] 18 18 (fv := fun vs => .slice A9 ml.length c9) rfl rfl (wt_none rfl) (fun _ => rfl) (fun _ => rfl) rfl rfl (by kernel_rfl) (by kernel_rfl) ⟨rd_off (p := 12) (fun _ => rfl) rfl, trivial⟩ (fun a w s vs hm hs h e => by
  obtain rfl : s = 0 := by omega
  obtain ⟨e12, _⟩ := e
  replace e12 : a.tmps[12]? = some (.slice A9 ml.length c9) := e12
  go_simp)) (steps_cons (gv_op 0 0 [(99, fun vs => .slice A9 ml.length c9)] 19 19 (fv := fun vs => .agg #[.int .u16 7, .slice A9 ml.length c9]) rfl rfl (wt_none rfl) (fun _ => rfl) (fun _ => rfl) rfl rfl (by kernel_rfl) (by kernel_rfl) ⟨rd_on (p := 99) 18 18 (fun _ => rfl) (fun _ => rfl) (by kernel_rfl) rfl, trivial⟩ (fun a w s vs hm hs h e => by
  obtain rfl : s = 0 := by omega
  obtain ⟨e99, _⟩ := e
  replace e99 : a.tmps[99]? = some (.slice A9 ml.length c9) := e99
  go_simp; first | done | rfl)) (steps_cons (gv_gen [(100, fun vs => .agg #[.int .u16 7, .slice A9 ml.length c9])] 20 20 0 rfl rfl (wt_none rfl) rfl (fun _ => rfl) (fun _ _ => rfl) (fun _ => rfl) rfl (by kernel_rfl) ⟨rd_on (p := 100) 19 19 (fun _ => rfl) (fun _ => rfl) (by kernel_rfl) rfl, trivial⟩ (fun a w K vs h e hw hK => by
  obtain ⟨e100, _⟩ := e
  replace e100 : a.tmps[100]? = some (.agg #[.int .u16 7, .slice A9 ml.length c9]) := e100
  obtain ⟨h0, h1⟩ := h
  exact value_ (w1 := w.alloc (.cells #[.int .u16 7, .slice A9 ml.length c9] 123)) (v := .slice (some ⟨w.heap.size, 0, none⟩) 1 1) hw rfl (by go_simp; try rfl) (hK _ _ ⟨by rw [← h0]; rfl, by rw [← h0]; exact blk_new _ _, below_alloc h1 _⟩))) (steps_cons (gv_op 1 1 [(82, fun vs => .int .u32 (X 4 : Nat)), (83, fun vs => .int .u32 (X 6 : Nat)), (88, fun vs => .int .u32 K.win), (93, fun vs => .int .u16 K.out), (98, fun vs => .int .u16 K.inn), (101, fun vs => vs 1)] 21 21 (fv := fun vs => .agg #[.int .u8 2, .int .u8 0, .int .u32 (X 6 : Nat), .int .u16 0, .int .u16 0, .int .u32 0, .int .u32 (X 4 : Nat), .int .u32 K.win, .int .u16 K.out, .int .u16 K.inn, .slice none 0 0, .slice none 0 0, .slice none 0 0, .slice none 0 0, .slice (some ⟨W4.heap.size, 0, none⟩) 1 1]) rfl rfl (wt_none rfl) (fun _ => rfl) (fun _ => rfl) rfl rfl (by kernel_rfl) (by kernel_rfl) ⟨rd_on (p := 82) 1 1 (fun _ => rfl) (fun _ => rfl) (by kernel_rfl) rfl, rd_on (p := 83) 2 2 (fun _ => rfl) (fun _ => rfl) (by kernel_rfl) rfl, rd_on (p := 88) 7 7 (fun _ => rfl) (fun _ => rfl) (by kernel_rfl) rfl, rd_on (p := 93) 12 12 (fun _ => rfl) (fun _ => rfl) (by kernel_rfl) rfl, rd_on (p := 98) 17 17 (fun _ => rfl) (fun _ => rfl) (by kernel_rfl) rfl, rd_on (p := 101) 20 20 (fun _ => rfl) (fun _ => rfl) (by kernel_rfl) rfl, trivial⟩ (fun a w s vs hm hs h e => by
  obtain rfl : s = 1 := by omega
  obtain ⟨e82, e83, e88, e93, e98, e101, _⟩ := e
  replace e82 : a.tmps[82]? = some (.int .u32 (X 4 : Nat)) := e82
  replace e83 : a.tmps[83]? = some (.int .u32 (X 6 : Nat)) := e83
  replace e88 : a.tmps[88]? = some (.int .u32 K.win) := e88
  replace e93 : a.tmps[93]? = some (.int .u16 K.out) := e93
  replace e98 : a.tmps[98]? = some (.int .u16 K.inn) := e98
  replace e101 : a.tmps[101]? = some (vs 1) := e101
  obtain ⟨hv, _⟩ := h
  replace e101 : a.tmps[101]? = some (.slice (some ⟨W4.heap.size, 0, none⟩) 1 1) := by rw [e101, hv]
  clear hv
  go_simp; first | done | rfl)) (steps_cons (gv_op 0 1 [(11, fun vs => .pointer (some ⟨gc, 0, none⟩))] 22 22 (fv := fun vs => .pointer (some ⟨gc, 6, none⟩)) rfl rfl (wt_none rfl) (fun _ => rfl) (fun _ => rfl) rfl rfl (by kernel_rfl) (by kernel_rfl) ⟨rd_off (p := 11) (fun _ => rfl) rfl, trivial⟩ (fun a w s vs hm hs h e => by
  obtain ⟨e11, _⟩ := e
  replace e11 : a.tmps[11]? = some (.pointer (some ⟨gc, 0, none⟩)) := e11
  go_simp)) (steps_cons (gv_op 0 1 [(103, fun vs => .pointer (some ⟨gc, 6, none⟩))] 23 23 (fv := fun vs => .int .u32 x.f6) rfl rfl (wt_none rfl) (fun _ => rfl) (fun _ => rfl) rfl rfl (by kernel_rfl) (by kernel_rfl) ⟨rd_on (p := 103) 22 22 (fun _ => rfl) (fun _ => rfl) (by kernel_rfl) rfl, trivial⟩ (fun a w s vs hm hs h e => by
  obtain ⟨e103, _⟩ := e
  replace e103 : a.tmps[103]? = some (.pointer (some ⟨gc, 6, none⟩)) := e103
  have hs : w.cell? ⟨gc, 6, none⟩ = some (.int .u32 x.f6) := blk_cell (blk_below HGC4.out (as_below h (by omega))) 6
  go_simp; first | done | rfl)) (steps_cons (gv_call (vals := fun vs => [.pointer (some ⟨g, 0, none⟩), .agg #[.int .u8 2, .int .u8 0, .int .u32 (X 6 : Nat), .int .u16 0, .int .u16 0, .int .u32 0, .int .u32 (X 4 : Nat), .int .u32 K.win, .int .u16 K.out, .int .u16 K.inn, .slice none 0 0, .slice none 0 0, .slice none 0 0, .slice none 0 0, .slice (some ⟨W4.heap.size, 0, none⟩) 1 1], .int .u32 x.f6]) 24 24 1 rfl rfl (wt_none rfl) rfl (fun _ => rfl) (fun _ _ => rfl) (fun _ => rfl) rfl (by kernel_rfl) Tryz.func81 (by kernel_rfl) rfl rfl (arv_t (rd_on (p := 81) 0 0 (fun _ => rfl) (fun _ => rfl) (by kernel_rfl) rfl) (arv_t (rd_on (p := 102) 21 21 (fun _ => rfl) (fun _ => rfl) (by kernel_rfl) rfl) (arv_t (rd_on (p := 104) 23 23 (fun _ => rfl) (fun _ => rfl) (by kernel_rfl) rfl) (arv_n)))) (fun vs w h => by obtain ⟨_, hg, hb⟩ := h; exact (HSN.out w _ hb hg).mono (fun e w' hP => ⟨_, hP.1, rfl, hP.2⟩))) steps_nil))))))))))))))))))))))))
 intro vs W5 hI5
 have HI5 := Lh hI5
 clear hI5
 simp only [putSel, if_true, Act.put, List.setIfInBounds_toArray, List.set_cons_zero, List.set_cons_succ]
 obtain ⟨_, h1, h2⟩ := HI5.out
 go_wp2
 all_goals
  go_end0
  exact ⟨rfl, h1, (Kq.of_below ((HB.out.trans (HB5.out.mono HB.out.size)))).trans h2⟩
end
end Go.Proofs.YthiaakjbapgibaaGreat.As
end
section
namespace Go.Proofs.YthiaakjbapgibaaGreat.As
open Go.RowKit YthiaakjbapgibaaGreatW.PrintWords YthiaakjbapgibaaGreatW.PrintLast Base PCh
def ini1T1 : Bool × List (List Nat × List Nat) := (true, [([], []), ([0], [0]), ([1], [1]), ([2], [2]), ([], []), ([4], [4]), ([5], [5]), ([6], [6]), ([], []), ([3, 0, 1, 2, 3, 8], [3]), ([8, 7, 9, 0, 1, 2, 3, 4, 5, 6, 7, 8, 9], [7, 8])])
def ini1B1 : List Nat := [0, 1, 3, 7, 0, 16, 48, 112, 0, 271, 1023]
theorem ini1tab1 : Go.Proofs.YthiaakjbapgibaaGreatW.PrintLast.rtab .any (Go.Proofs.YthiaakjbapgibaaGreatW.PrintLast.opsOf Tryz.f61 1) = ini1T1 := by kernel_rfl
theorem ini1bits1 : Go.Proofs.YthiaakjbapgibaaGreatW.PrintLast.waitsOk ini1T1.2 ini1B1 = true := by kernel_rfl
def ini5T5 : Bool × List (List Nat × List Nat) := (true, [([], []), ([], []), ([], []), ([2], [2]), ([0, 1, 3, 1], [0, 1, 3])])
def ini5B5 : List Nat := [0, 0, 0, 4, 15]
theorem ini5tab5 : Go.Proofs.YthiaakjbapgibaaGreatW.PrintLast.rtab .any (Go.Proofs.YthiaakjbapgibaaGreatW.PrintLast.opsOf Tryz.f61 5) = ini5T5 := by kernel_rfl
theorem ini5bits5 : Go.Proofs.YthiaakjbapgibaaGreatW.PrintLast.waitsOk ini5T5.2 ini5B5 = true := by kernel_rfl
def i16 (x : Int) : Prop := 0 ≤ x ∧ x < 65536
def i32 (x : Int) : Prop := 0 ≤ x ∧ x < 4294967296
structure KW (K : Cfg) : Prop where
 seed : 0 ≤ K.seed ∧ K.seed < 18446744073709551616
 life : 1 ≤ K.life ∧ K.life ≤ 2147483648
 win : i32 K.win
 out : i16 K.out
 inn : i16 K.inn
 tries : 0 ≤ K.tries ∧ K.tries ≤ 100
 lasts : 0 ≤ K.lasts ∧ K.lasts ≤ 100
 port : i16 K.port
 peer : i16 K.peer
structure XW (x : Chk) : Prop where
 f0 : 0 ≤ x.f0 ∧ x.f0 < 256
 f1 : 0 ≤ x.f1 ∧ x.f1 < 256
 f2 : i32 x.f2
 f6 : i32 x.f6
 f7 : i32 x.f7
 f8 : i16 x.f8
 f9 : i16 x.f9
 f13 : ∀ b ∈ x.f13, 0 ≤ b ∧ b < 256
 f14 : ∀ p ∈ x.f14, i16 p.f0 ∧ p.f1.length ≤ 140737488355328 ∧ ∀ b ∈ p.f1, 0 ≤ b ∧ b < 256
def minI (a b : Int) : Int := if b < a then b else a
theorem min16 {a b : Int} (ha : i16 a) (hb : i16 b) : i16 (minI a b) := by unfold minI; split <;> assumption
theorem nat_of {x : Int} (h : 0 ≤ x) : x = (x.toNat : Int) := by omega
def ansX (K : Cfg) (x : Chk) (now t n a b : Int) : Nat → Nat
 | 0 => now.toNat
 | 1 => K.life.toNat
 | 2 => K.port.toNat
 | 3 => K.peer.toNat
 | 4 => t.toNat
 | 5 => x.f6.toNat
 | 6 => n.toNat
 | 7 => x.f2.toNat
 | 8 => x.f7.toNat
 | 9 => (minI K.out x.f9).toNat
 | 10 => (minI K.inn x.f8).toNat
 | 11 => a.toNat
 | _ => b.toNat
theorem ansX_fit {K : Cfg} {x : Chk} {now t n a b : Int} (hK : KW K) (hX : XW x) (hn : 0 ≤ now ∧ now ≤ 1099511627776) (ht : i32 t) (hn' : i32 n) (ha : i32 a) (hb : i32 b) (i : Nat) (hi : i < 13) : ansX K x now t n a b i < 256 ^ Go.Proofs.YthiaakjbapgibaaGreat.Ck.nF i := by
 obtain ⟨h1, h2⟩ := hn
 obtain ⟨l1, l2⟩ := hK.life
 have p1 := hK.port
 have p2 := hK.peer
 have o := min16 hK.out hX.f9
 have n' := min16 hK.inn hX.f8
 have x6 := hX.f6
 have x2 := hX.f2
 have x7 := hX.f7
 unfold i16 i32 at *
 match i, hi with
 | 0, _ => show now.toNat < 256 ^ 8; omega
 | 1, _ => show K.life.toNat < 256 ^ 4; omega
 | 2, _ => show K.port.toNat < 256 ^ 2; omega
 | 3, _ => show K.peer.toNat < 256 ^ 2; omega
 | 4, _ => show t.toNat < 256 ^ 4; omega
 | 5, _ => show x.f6.toNat < 256 ^ 4; omega
 | 6, _ => show n.toNat < 256 ^ 4; omega
 | 7, _ => show x.f2.toNat < 256 ^ 4; omega
 | 8, _ => show x.f7.toNat < 256 ^ 4; omega
 | 9, _ => show (minI K.out x.f9).toNat < 256 ^ 2; omega
 | 10, _ => show (minI K.inn x.f8).toNat < 256 ^ 2; omega
 | 11, _ => show a.toNat < 256 ^ 4; omega
 | 12, _ => show b.toNat < 256 ^ 4; omega
section
variable {B : Nat} {W0 W : World} {g gt : Nat} {K : Cfg} {m : Mst} {xs : List Act'} {tag : Int} {x : Chk} {L : Lay} {now : Int}
theorem answer_t (hM : MS B W0 g K m [] W) (hT : TC B W0 g gt tag x L now) (hK : KW K) (hX : XW x) (hn : 0 ≤ now ∧ now ≤ 1099511627776) {t n a b : Int} (ht : i32 t) (hn' : i32 n) (ha : i32 a) (hb : i32 b) :
  Calls Tryz.prog 111 #[.pointer (some ⟨gt, 0, none⟩), .int .u32 t, .int .u32 n, .int .u32 a, .int .u32 b] W (Rt B W0 g K m [actSend (iackC K t n (Go.Proofs.YthiaakjbapgibaaGreat.Ck.makeL K.key (ansX K x now t n a b))) x.f6] W) := by
 have h := answer_core hM hT (ansX K x now t n a b) (by show now.toNat ≤ 1099511627776; omega) (by show 1 ≤ K.life.toNat; have := hK.life; omega) (by show K.life.toNat ≤ 2147483648; have := hK.life; omega) (ansX_fit hK hX hn ht hn' ha hb) (nat_of hn.1) (nat_of (by have := hK.life; omega)) (nat_of hK.port.1) (nat_of hK.peer.1) (nat_of hX.f6.1) (nat_of hX.f2.1) (nat_of hX.f7.1) (nat_of (min16 hK.out hX.f9).1) (nat_of (min16 hK.inn hX.f8).1)
 rw [show ((ansX K x now t n a b 4 : Nat) : Int) = t from (nat_of ht.1).symm, show ((ansX K x now t n a b 6 : Nat) : Int) = n from (nat_of hn'.1).symm, show ((ansX K x now t n a b 11 : Nat) : Int) = a from (nat_of ha.1).symm, show ((ansX K x now t n a b 12 : Nat) : Int) = b from (nat_of hb.1).symm] at h
 exact h
def wrongC : Chk := ⟨6, 0, 0, 0, 0, 0, 0, 0, 0, 0, [], [], [], [], [⟨13, []⟩]⟩
theorem wrong_results (tmps : Array Value) (w : World) (a : Nat) (cs : Array Value) (t0 : tmps.getD 0 undef = .pointer (some ⟨a, 0, none⟩)) (h0 : w.heap[a]? = some (.cells cs 65 (0, 0))) (hcs : cs.size = 15) : (results Tryz.f110 tmps).run Tryz.prog w = .ok (.agg cs) w := by
 have hi : (Tryz.prog.info? 65).map (·.size) = some cs.size := by rw [hcs]; kernel_rfl
 have hl := run_loadVar_row w a 65 65 cs (0, 0) _ h0 Tryz.underlying65 rfl hi
 rw [Array.getD_eq_getD_getElem?] at t0
 simp [results, Tryz.results110, asAddr, t0, hl]
set_option maxHeartbeats 1000000 in
theorem wrong_calls (w : World) : Calls Tryz.prog 110 #[] w fun e w' => ∃ ccs : Array Value, e = .returned (.agg ccs) ∧ (Stb B w' fun W' => Kd.K k65 W' wrongC ccs.toList) ∧ Below w.heap.size w w' := by
 have hz : (w.alloc (.cells #[.int .u8 0, .int .u8 0, .int .u32 0, .int .u16 0, .int .u16 0, .int .u32 0, .int .u32 0, .int .u32 0, .int .u16 0, .int .u16 0, .slice none 0 0, .slice none 0 0, .slice none 0 0, .slice none 0 0, .slice none 0 0] 65)).heap[w.heap.size]? = some (.cells #[.int .u8 0, .int .u8 0, .int .u32 0, .int .u16 0, .int .u16 0, .int .u32 0, .int .u32 0, .int .u32 0, .int .u16 0, .int .u16 0, .slice none 0 0, .slice none 0 0, .slice none 0 0, .slice none 0 0, .slice none 0 0] 65 (0, 0)) := blk_new _ _
 have hsz : (w.alloc (.cells #[.int .u8 0, .int .u8 0, .int .u32 0, .int .u16 0, .int .u16 0, .int .u32 0, .int .u32 0, .int .u32 0, .int .u16 0, .int .u16 0, .slice none 0 0, .slice none 0 0, .slice none 0 0, .slice none 0 0, .slice none 0 0] 65)).heap.size = w.heap.size + 1 := by simp
 have hb := below_alloc (Below.refl w.heap.size w) (.cells #[.int .u8 0, .int .u8 0, .int .u32 0, .int .u16 0, .int .u16 0, .int .u32 0, .int .u32 0, .int .u32 0, .int .u16 0, .int .u16 0, .slice none 0 0, .slice none 0 0, .slice none 0 0, .slice none 0 0, .slice none 0 0] 65)
 have HZ := Lh (⟨hz, hsz, hb⟩ : _ ∧ _ ∧ _)
 clear hz hsz hb
 go_enter Tryz.func110, Tryz.ntmps110
 go_upto_region 1 with (fail)
 obtain ⟨hz, hsz, hb⟩ := HZ.out
 clear HZ
 generalize (w.alloc (.cells #[.int .u8 0, .int .u8 0, .int .u32 0, .int .u16 0, .int .u16 0, .int .u32 0, .int .u32 0, .int .u32 0, .int .u16 0, .int .u16 0, .slice none 0 0, .slice none 0 0, .slice none 0 0, .slice none 0 0, .slice none 0 0] 65)) = w1 at *
 have HP := Lh (blk_alloc hz (.cells #[.int .u16 13, .slice none 0 0] 123))
 have HB := Lh hb
 have HSZ := Lh hsz
 have HPR := Lh (blk_new w1 (.cells #[.int .u16 13, .slice none 0 0] 123))
 have HLT := Lh (blk_lt hz)
 clear hz hb hsz
 go_wp2_with (refine wpList_store_row rfl 65 _ _ rfl w.heap.size #[.int .u8 6, .int .u8 0, .int .u32 0, .int .u16 0, .int .u16 0, .int .u32 0, .int .u32 0, .int .u32 0, .int .u16 0, .int .u16 0, .slice none 0 0, .slice none 0 0, .slice none 0 0, .slice none 0 0, .slice (some ⟨w1.heap.size, 0, none⟩) 1 1] rfl rfl 65 _ HP.out (by kernel_rfl) rfl (by simp [Value.oneCell']) ?_)
 go_wp2
 have hrow := setRow_heap _ _ _ #[.int .u8 6, .int .u8 0, .int .u32 0, .int .u16 0, .int .u16 0, .int .u32 0, .int .u32 0, .int .u32 0, .int .u16 0, .int .u16 0, .slice none 0 0, .slice none 0 0, .slice none 0 0, .slice none 0 0, .slice (some ⟨w1.heap.size, 0, none⟩) 1 1] _ _ HP.out
 have hpr := (setRow_other (w1.alloc (.cells #[.int .u16 13, .slice none 0 0] 123)) w.heap.size w1.heap.size #[.int .u8 6, .int .u8 0, .int .u32 0, .int .u16 0, .int .u16 0, .int .u32 0, .int .u32 0, .int .u32 0, .int .u16 0, .int .u16 0, .slice none 0 0, .slice none 0 0, .slice none 0 0, .slice none 0 0, .slice (some ⟨w1.heap.size, 0, none⟩) 1 1] (by have := HSZ.out; omega)).trans HPR.out
 refine bodyPost_ret (wrong_results _ _ w.heap.size _ rfl hrow rfl) rfl ⟨_, rfl, ?_, below_setRow (below_alloc HB.out _) (Nat.le_refl _) _⟩
 have hp : Stb B ((w1.alloc (.cells #[.int .u16 13, .slice none 0 0] 123)).setRow w.heap.size #[.int .u8 6, .int .u8 0, .int .u32 0, .int .u16 0, .int .u16 0, .int .u32 0, .int .u32 0, .int .u32 0, .int .u16 0, .int .u16 0, .slice none 0 0, .slice none 0 0, .slice none 0 0, .slice none 0 0, .slice (some ⟨w1.heap.size, 0, none⟩) 1 1]) fun W' => Kd.K k123 W' ⟨13, []⟩ (#[.int .u16 13, .slice none 0 0] : Array Value).toList := fun W' hk =>
  k123_mk W' (⟨13, []⟩ : S123) (A1 := none) (c1 := 0) (Nat.le_refl _) (Kd.C_nil _ _)
 have hr := one_C k123 hpr rfl hp
 exact fun W' hk => k65_mk W' wrongC (Nat.le_refl _) (Kd.C_nil _ _) (Nat.le_refl _) (Kd.C_nil _ _) (Nat.le_refl _) (Kd.C_nil _ _) (Nat.le_refl _) (Kd.C_nil _ _) (Nat.le_refl _) (hr W' hk)
def WrI (B : Nat) (W1 : World) (R : Ending → World → Prop) (s : Nat) (vs : Nat → Value) (w : World) : Prop :=
 match s with
 | 0 => Below W1.heap.size W1 w
 | 1 => ∃ ccs : Array Value, vs 1 = .agg ccs ∧ (Stb B w fun W' => Kd.K k65 W' wrongC ccs.toList) ∧ Below W1.heap.size W1 w
 | _ => R (.returned (.tuple #[])) w
theorem wr_below {W1 w : World} {R : Ending → World → Prop} {s : Nat} {vs : Nat → Value} (h : WrI B W1 R s vs w) (hs : s ≤ 1) : Below W1.heap.size W1 w := by
 match s, h, hs with
 | 0, h, _ => exact h
 | 1, ⟨_, _, _, h⟩, _ => exact h
def ansP (K : Cfg) (m : Mst) (x : Chk) (now t n a b : Int) : Out := .ok (m, [actSend (iackC K t n (Go.Proofs.YthiaakjbapgibaaGreat.Ck.makeL K.key (ansX K x now t n a b))) x.f6])
def initP (K : Cfg) (m : Mst) (tag : Int) (x : Chk) (now : Int) : Out :=
 if ownB m tag x = false then .error 221
 else if x.f6 = 0 then .error 222
 else if x.f8 = 0 ∨ x.f9 = 0 then .ok (m, [actSend wrongC x.f6])
 else if m.s = 7 then .ok (m, [actSend (mkC 8 0 0 0 0 0 0) m.pr.f0])
 else if m.s = 1 then ansP K m x now m.tag m.tsn 0 0
 else if m.s = 2 then ansP K m x now m.tag m.tsn m.tag m.pr.f0
 else if m.s = 0 then ansP K { m with d := nextD m.d } x now (tagD m.d) (tsnD m.d) 0 0
 else ansP K { m with d := nextD m.d } x now (tagD m.d) (tsnD m.d) m.tag m.pr.f0
structure MW (m : Mst) : Prop where
 tag : i32 m.tag
 tsn : i32 m.tsn
 p0 : i32 m.pr.f0
 p1 : i32 m.pr.f1
 p2 : i32 m.pr.f2
 p3 : i16 m.pr.f3
 p4 : i16 m.pr.f4
theorem tagD_32 (d : Int) : i32 (tagD d) := by
 unfold i32 tagD
 split <;> omega
theorem tsnD_32 (d : Int) : i32 (tsnD d) := by unfold i32 tsnD; omega
set_option maxHeartbeats 4000000 in
theorem init_t (hM : MS B W0 g K m [] W) (hT : TC B W0 g gt tag x L now) (hK : KW K) (hX : XW x) (hn : 0 ≤ now ∧ now ≤ 1099511627776) (hW : MW m) : Calls Tryz.prog 61 #[.pointer (some ⟨gt, 0, none⟩)] W (ClP B W0 g K (initP K m tag x now)) := by
 obtain ⟨r, hr⟩ : ∃ r, initP K m tag x now = r := ⟨_, rfl⟩
 rw [hr]
 have HR := Lh hr
 have HRT := Lh (hM.only.blk hT.row hT.ne)
 have HM := Lh hM
 have HT := Lh hT
 have HKW := Lh hK
 have HXW := Lh hX
 have HN := Lh hn
 have HMW := Lh hW
 clear hM hT hK hX hn hW hr
 unfold initP at HR
 go_enter Tryz.func61, Tryz.ntmps61
 go_wp2_with fail
 refine (own_ms HM.out HT.out).mono ?_
 rintro e w1 ⟨rfl, rfl⟩
 by_cases ho : ownB m tag x = true
 rotate_left
 ·rw [if_neg ho]
  rw [if_pos (show ownB m tag x = false by simpa using ho)] at HR
  unfold errA
  exact ⟨rfl, by rw [← HR.out]; exact ⟨rfl, m, [], HM.out⟩⟩
 rw [if_pos ho]
 rw [if_neg (show ¬ ownB m tag x = false by rw [ho]; decide)] at HR
 go_upto_region 1 with (fail)
 refine grow_v (B := ini1B1) [0, 1, 2, 3, 4, 5, 6, 7, 8, 9, 10] [8, 10] (McI W (Go.Proofs.YthiaakjbapgibaaGreat.Ch.CV x L)) (fun vs => [(0, 10, .pointer (some ⟨gt, 0, none⟩)), (1, 11, .pointer (some ⟨gt, 0, none⟩)), (2, 12, .pointer (some ⟨gt, 0, none⟩)), (3, 13, .pointer (some ⟨g, 0, none⟩)), (4, 14, .pointer (some ⟨gt, 0, none⟩)), (5, 15, .pointer (some ⟨gt, 0, none⟩)), (6, 16, .pointer (some ⟨gt, 2, none⟩)), (7, 17, .agg (Go.Proofs.YthiaakjbapgibaaGreat.Ch.CV x L)), (8, 3, vs 1), (9, 2, .pointer (some ⟨g, 0, none⟩))]) (by kernel_rfl) rfl (l := #[false, false, false, false, false, false, false, false, false, false, false]) rfl ini1tab1 ini1bits1 (by kernel_rfl) (by kernel_rfl) (fun _ => rfl) rfl (fun _ => undef) ?_ ?_ ?_
 ·exact pw_below_drewN (Below.refl _ _) 1
 ·exact steps_cons (gv_op 0 1 [(0, fun vs => .pointer (some ⟨gt, 0, none⟩))] 0 0 (fv := fun vs => .pointer (some ⟨gt, 0, none⟩)) rfl rfl (wt_none rfl) (fun _ => rfl) (fun _ => rfl) rfl rfl (by kernel_rfl) (by kernel_rfl) ⟨rd_off (p := 0) (fun _ => rfl) rfl, trivial⟩ (fun a w s vs hm hs h e => by
  obtain ⟨e0, _⟩ := e
  replace e0 : a.tmps[0]? = some (.pointer (some ⟨gt, 0, none⟩)) := e0
  go_simp)) (steps_cons (gv_op 0 1 [(10, fun vs => .pointer (some ⟨gt, 0, none⟩))] 1 1 (fv := fun vs => .pointer (some ⟨gt, 0, none⟩)) rfl rfl (wt_none rfl) (fun _ => rfl) (fun _ => rfl) rfl rfl (by kernel_rfl) (by kernel_rfl) ⟨rd_on (p := 10) 0 0 (fun _ => rfl) (fun _ => rfl) (by kernel_rfl) rfl, trivial⟩ (fun a w s vs hm hs h e => by
  obtain ⟨e10, _⟩ := e
  replace e10 : a.tmps[10]? = some (.pointer (some ⟨gt, 0, none⟩)) := e10
  go_simp)) (steps_cons (gv_op 0 1 [(11, fun vs => .pointer (some ⟨gt, 0, none⟩))] 2 2 (fv := fun vs => .pointer (some ⟨gt, 0, none⟩)) rfl rfl (wt_none rfl) (fun _ => rfl) (fun _ => rfl) rfl rfl (by kernel_rfl) (by kernel_rfl) ⟨rd_on (p := 11) 1 1 (fun _ => rfl) (fun _ => rfl) (by kernel_rfl) rfl, trivial⟩ (fun a w s vs hm hs h e => by
  obtain ⟨e11, _⟩ := e
  replace e11 : a.tmps[11]? = some (.pointer (some ⟨gt, 0, none⟩)) := e11
  go_simp)) (steps_cons (gv_op 0 1 [(12, fun vs => .pointer (some ⟨gt, 0, none⟩))] 3 3 (fv := fun vs => .pointer (some ⟨g, 0, none⟩)) rfl rfl (wt_none rfl) (fun _ => rfl) (fun _ => rfl) rfl rfl (by kernel_rfl) (by kernel_rfl) ⟨rd_on (p := 12) 2 2 (fun _ => rfl) (fun _ => rfl) (by kernel_rfl) rfl, trivial⟩ (fun a w s vs hm hs h e => by
  obtain ⟨e12, _⟩ := e
  replace e12 : a.tmps[12]? = some (.pointer (some ⟨gt, 0, none⟩)) := e12
  have hs := blk_cell (blk_below HRT.out (mc_below h)) 0
  go_simp; first | done | rfl)) (steps_cons (gv_op 0 1 [(0, fun vs => .pointer (some ⟨gt, 0, none⟩))] 4 4 (fv := fun vs => .pointer (some ⟨gt, 0, none⟩)) rfl rfl (wt_none rfl) (fun _ => rfl) (fun _ => rfl) rfl rfl (by kernel_rfl) (by kernel_rfl) ⟨rd_off (p := 0) (fun _ => rfl) rfl, trivial⟩ (fun a w s vs hm hs h e => by
  obtain ⟨e0, _⟩ := e
  replace e0 : a.tmps[0]? = some (.pointer (some ⟨gt, 0, none⟩)) := e0
  go_simp)) (steps_cons (gv_op 0 1 [(14, fun vs => .pointer (some ⟨gt, 0, none⟩))] 5 5 (fv := fun vs => .pointer (some ⟨gt, 0, none⟩)) rfl rfl (wt_none rfl) (fun _ => rfl) (fun _ => rfl) rfl rfl (by kernel_rfl) (by kernel_rfl) ⟨rd_on (p := 14) 4 4 (fun _ => rfl) (fun _ => rfl) (by kernel_rfl) rfl, trivial⟩ (fun a w s vs hm hs h e => by
  obtain ⟨e14, _⟩ := e
  replace e14 : a.tmps[14]? = some (.pointer (some ⟨gt, 0, none⟩)) := e14
  go_simp)) (steps_cons (gv_op 0 1 [(15, fun vs => .pointer (some ⟨gt, 0, none⟩))] 6 6 (fv := fun vs => .pointer (some ⟨gt, 2, none⟩)) rfl rfl (wt_none rfl) (fun _ => rfl) (fun _ => rfl) rfl rfl (by kernel_rfl) (by kernel_rfl) ⟨rd_on (p := 15) 5 5 (fun _ => rfl) (fun _ => rfl) (by kernel_rfl) rfl, trivial⟩ (fun a w s vs hm hs h e => by
  obtain ⟨e15, _⟩ := e
  replace e15 : a.tmps[15]? = some (.pointer (some ⟨gt, 0, none⟩)) := e15
  go_simp)) (steps_cons (gv_op 0 1 [(16, fun vs => .pointer (some ⟨gt, 2, none⟩))] 7 7 (fv := fun vs => .agg (Go.Proofs.YthiaakjbapgibaaGreat.Ch.CV x L)) rfl rfl (wt_none rfl) (fun _ => rfl) (fun _ => rfl) rfl rfl (by kernel_rfl) (by kernel_rfl) ⟨rd_on (p := 16) 6 6 (fun _ => rfl) (fun _ => rfl) (by kernel_rfl) rfl, trivial⟩ (fun a w s vs hm hs h e => by
  obtain ⟨e16, _⟩ := e
  replace e16 : a.tmps[16]? = some (.pointer (some ⟨gt, 2, none⟩)) := e16
  exact exec_load_cells 65 (.tmp 16) rfl (eval_of e16) (Go.Proofs.YthiaakjbapgibaaGreat.Ch.CV x L) _ (tv_cells (blk_below HRT.out (mc_below h))) Tryz.underlying65 rfl (by kernel_rfl))) (steps_cons (gv_gen [] 8 8 0 rfl rfl (wt_none rfl) rfl (fun _ => rfl) (fun _ _ => rfl) (fun _ => rfl) rfl (by kernel_rfl) trivial (fun a w K vs h e hw hK => by
  have h1 := mc_below h
  exact value_ (w1 := w.alloc (.cells #[.int .u8 0, .int .u8 0, .int .u32 0, .int .u16 0, .int .u16 0, .int .u32 0, .int .u32 0, .int .u32 0, .int .u16 0, .int .u16 0, .slice none 0 0, .slice none 0 0, .slice none 0 0, .slice none 0 0, .slice none 0 0] 65)) (v := .pointer (some ⟨w.heap.size, 0, none⟩)) hw rfl (by go_simp; try rfl) (hK _ _ ⟨w.heap.size, rfl, blk_new _ _, h1.size, below_alloc h1 _⟩))) (steps_cons (gv_op 1 1 [(13, fun vs => .pointer (some ⟨g, 0, none⟩))] 9 9 (fv := fun vs => .pointer (some ⟨g, 0, none⟩)) rfl rfl (wt_none rfl) (fun _ => rfl) (fun _ => rfl) rfl rfl (by kernel_rfl) (by kernel_rfl) ⟨rd_on (p := 13) 3 3 (fun _ => rfl) (fun _ => rfl) (by kernel_rfl) rfl, trivial⟩ (fun a w s vs hm hs h e => by
  obtain rfl : s = 1 := by omega
  obtain ⟨e13, _⟩ := e
  replace e13 : a.tmps[13]? = some (.pointer (some ⟨g, 0, none⟩)) := e13
  go_simp)) (steps_cons (gv_store (f := fun vs W => W.setRow (blkOf (vs 1)) (Go.Proofs.YthiaakjbapgibaaGreat.Ch.CV x L)) [(3, fun vs => vs 1), (17, fun vs => .agg (Go.Proofs.YthiaakjbapgibaaGreat.Ch.CV x L))] 10 1 rfl rfl (wt_none rfl) rfl (fun _ => rfl) rfl (by kernel_rfl) ⟨rd_on (p := 3) 8 8 (fun _ => rfl) (fun _ => rfl) (by kernel_rfl) rfl, rd_on (p := 17) 7 7 (fun _ => rfl) (fun _ => rfl) (by kernel_rfl) rfl, trivial⟩ (fun a w vs h e => by
  obtain ⟨e3, e17, _⟩ := e
  replace e3 : a.tmps[3]? = some (vs 1) := e3
  replace e17 : a.tmps[17]? = some (.agg (Go.Proofs.YthiaakjbapgibaaGreat.Ch.CV x L)) := e17
  obtain ⟨gc, hv, h1, h2, h3⟩ := h
  rw [hv] at e3 ⊢
  exact exec_store_row 65 (.tmp 3) (.tmp 17) rfl (eval_of e3) (eval_of e17) h1 (by kernel_rfl) rfl (by simp [Go.Proofs.YthiaakjbapgibaaGreat.Ch.CV, Value.oneCell'])) (fun vs w h => mc_store h)) steps_nil))))))))))
 intro vs W1 hI
 obtain ⟨gc, hv, hgc, hgs, hB⟩ := hI
 simp only [putSel, if_true, Act.put, List.setIfInBounds_toArray, List.set_cons_zero, List.set_cons_succ]
 rw [hv]
 have HM1 := Lh (HM.out.below hB)
 have c6 : W1.cell? ⟨gc, 6, none⟩ = some (.int .u32 x.f6) := blk_cell hgc 6
 have c8 : W1.cell? ⟨gc, 8, none⟩ = some (.int .u16 x.f8) := blk_cell hgc 8
 have c9 : W1.cell? ⟨gc, 9, none⟩ = some (.int .u16 x.f9) := blk_cell hgc 9
 have HGC := Lh hgc
 have HB := Lh hB
 clear hgc hB hv HM
 by_cases h6 : x.f6 = 0
 ·rw [if_pos h6] at HR
  rw [h6] at c6
  go_wp2_with fail
  refine (drop_calls _).mono ?_
  rintro e w2 ⟨rfl, rfl⟩
  exact ⟨rfl, by rw [← HR.out]; exact ⟨rfl, m, [], HM1.out⟩⟩
 rw [if_neg h6] at HR
 have h6a : decide (x.f6 = 0) = false := decide_eq_false h6
 have h6b : (x.f6 == 0) = false := by simpa using h6
 have h6c : (x.f6 != 0) = true := by simpa using h6
 by_cases h89 : x.f8 = 0 ∨ x.f9 = 0
 ·rw [if_pos h89] at HR
  have HSN := Lh (fun (w : World) (ccs : Array Value) (hb : Below W1.heap.size W1 w) (hk : Stb B w fun W' => Kd.K k65 W' wrongC ccs.toList) => send_ms HM1.out hb (by simp) wrongC ccs hk x.f6)
  by_cases h8 : x.f8 = 0
  ·rw [h8] at c8
   go_upto_region 5 with (fail)
   refine grow_v (B := ini5B5) [0, 1, 2, 3, 4] [1, 4] (WrI B W1 (Rt B W0 g K m [actSend wrongC x.f6] W1)) (fun vs => [(0, 30, .pointer (some ⟨g, 0, none⟩)), (1, 31, vs 1), (2, 32, .pointer (some ⟨gc, 6, none⟩)), (3, 33, .int .u32 x.f6), (4, 34, vs 2)]) (by kernel_rfl) rfl (l := #[false, false, false, false, false]) rfl ini5tab5 ini5bits5 (by kernel_rfl) (by kernel_rfl) (fun _ => rfl) rfl (fun _ => undef) ?_ ?_ ?_
   ·exact pw_below_drewN (Below.refl _ _) 1
   ·exact steps_cons (gv_op 0 1 [(2, fun vs => .pointer (some ⟨g, 0, none⟩))] 0 0 (fv := fun vs => .pointer (some ⟨g, 0, none⟩)) rfl rfl (wt_none rfl) (fun _ => rfl) (fun _ => rfl) rfl rfl (by kernel_rfl) (by kernel_rfl) ⟨rd_off (p := 2) (fun _ => rfl) rfl, trivial⟩ (fun a w s vs hm hs h e => by
     obtain ⟨e2, _⟩ := e
     replace e2 : a.tmps[2]? = some (.pointer (some ⟨g, 0, none⟩)) := e2
     go_simp)) (steps_cons (gv_call (vals := fun vs => []) 1 1 0 rfl rfl (wt_none rfl) rfl (fun _ => rfl) (fun _ _ => rfl) (fun _ => rfl) rfl (by kernel_rfl) Tryz.func110 (by kernel_rfl) rfl rfl (arv_n) (fun vs w h => (wrong_calls (B := B) w).mono fun e w' ⟨ccs, he, hk, hb⟩ => ⟨_, he, ccs, rfl, hk, h.trans (hb.mono h.size)⟩)) (steps_cons (gv_op 0 1 [(3, fun vs => .pointer (some ⟨gc, 0, none⟩))] 2 2 (fv := fun vs => .pointer (some ⟨gc, 6, none⟩)) rfl rfl (wt_none rfl) (fun _ => rfl) (fun _ => rfl) rfl rfl (by kernel_rfl) (by kernel_rfl) ⟨rd_off (p := 3) (fun _ => rfl) rfl, trivial⟩ (fun a w s vs hm hs h e => by
     obtain ⟨e3, _⟩ := e
     replace e3 : a.tmps[3]? = some (.pointer (some ⟨gc, 0, none⟩)) := e3
     go_simp)) (steps_cons (gv_op 0 1 [(32, fun vs => .pointer (some ⟨gc, 6, none⟩))] 3 3 (fv := fun vs => .int .u32 x.f6) rfl rfl (wt_none rfl) (fun _ => rfl) (fun _ => rfl) rfl rfl (by kernel_rfl) (by kernel_rfl) ⟨rd_on (p := 32) 2 2 (fun _ => rfl) (fun _ => rfl) (by kernel_rfl) rfl, trivial⟩ (fun a w s vs hm hs h e => by
     obtain ⟨e32, _⟩ := e
     replace e32 : a.tmps[32]? = some (.pointer (some ⟨gc, 6, none⟩)) := e32
     have hs : w.cell? ⟨gc, 6, none⟩ = some (.int .u32 x.f6) := blk_cell (blk_below HGC.out (wr_below h (by omega))) 6
     go_simp; first | done | rfl)) (steps_cons (gv_call (vals := fun vs => [.pointer (some ⟨g, 0, none⟩), vs 1, .int .u32 x.f6]) 4 4 1 rfl rfl (wt_none rfl) rfl (fun _ => rfl) (fun _ _ => rfl) (fun _ => rfl) rfl (by kernel_rfl) Tryz.func81 (by kernel_rfl) rfl rfl (arv_t (rd_on (p := 30) 0 0 (fun _ => rfl) (fun _ => rfl) (by kernel_rfl) rfl) (arv_t (rd_on (p := 31) 1 1 (fun _ => rfl) (fun _ => rfl) (by kernel_rfl) rfl) (arv_t (rd_on (p := 33) 3 3 (fun _ => rfl) (fun _ => rfl) (by kernel_rfl) rfl) (arv_n)))) (fun vs w h => by obtain ⟨ccs, hv, hk, hb⟩ := h; have H := HSN.out w ccs hb hk; rw [← hv] at H; exact H.mono (fun e w' hP => ⟨_, hP.1, rfl, hP.2⟩))) steps_nil))))
   intro vs W5 hI5
   obtain ⟨_, h1, h2⟩ := hI5
   simp only [putSel, if_true, Act.put, List.setIfInBounds_toArray, List.set_cons_zero, List.set_cons_succ]
   go_wp2
   refine bodyPost_ret (results_none rfl _ _ _) rfl ?_
   rw [← HR.out]
   exact ⟨rfl, h1⟩
  have h8a : decide (x.f8 = 0) = false := decide_eq_false h8
  have h8b : (x.f8 == 0) = false := by simpa using h8
  have h8c : (x.f8 != 0) = true := by simpa using h8
  have h9 : x.f9 = 0 := h89.resolve_left h8
  rw [h9] at c9
  go_upto_region 5 with (fail)
  refine grow_v (B := ini5B5) [0, 1, 2, 3, 4] [1, 4] (WrI B W1 (Rt B W0 g K m [actSend wrongC x.f6] W1)) (fun vs => [(0, 30, .pointer (some ⟨g, 0, none⟩)), (1, 31, vs 1), (2, 32, .pointer (some ⟨gc, 6, none⟩)), (3, 33, .int .u32 x.f6), (4, 34, vs 2)]) (by kernel_rfl) rfl (l := #[false, false, false, false, false]) rfl ini5tab5 ini5bits5 (by kernel_rfl) (by kernel_rfl) (fun _ => rfl) rfl (fun _ => undef) ?_ ?_ ?_
  ·exact pw_below_drewN (Below.refl _ _) 1
  ·exact steps_cons (gv_op 0 1 [(2, fun vs => .pointer (some ⟨g, 0, none⟩))] 0 0 (fv := fun vs => .pointer (some ⟨g, 0, none⟩)) rfl rfl (wt_none rfl) (fun _ => rfl) (fun _ => rfl) rfl rfl (by kernel_rfl) (by kernel_rfl) ⟨rd_off (p := 2) (fun _ => rfl) rfl, trivial⟩ (fun a w s vs hm hs h e => by
    obtain ⟨e2, _⟩ := e
    replace e2 : a.tmps[2]? = some (.pointer (some ⟨g, 0, none⟩)) := e2
    go_simp)) (steps_cons (gv_call (vals := fun vs => []) 1 1 0 rfl rfl (wt_none rfl) rfl (fun _ => rfl) (fun _ _ => rfl) (fun _ => rfl) rfl (by kernel_rfl) Tryz.func110 (by kernel_rfl) rfl rfl (arv_n) (fun vs w h => (wrong_calls (B := B) w).mono fun e w' ⟨ccs, he, hk, hb⟩ => ⟨_, he, ccs, rfl, hk, h.trans (hb.mono h.size)⟩)) (steps_cons (gv_op 0 1 [(3, fun vs => .pointer (some ⟨gc, 0, none⟩))] 2 2 (fv := fun vs => .pointer (some ⟨gc, 6, none⟩)) rfl rfl (wt_none rfl) (fun _ => rfl) (fun _ => rfl) rfl rfl (by kernel_rfl) (by kernel_rfl) ⟨rd_off (p := 3) (fun _ => rfl) rfl, trivial⟩ (fun a w s vs hm hs h e => by
    obtain ⟨e3, _⟩ := e
    replace e3 : a.tmps[3]? = some (.pointer (some ⟨gc, 0, none⟩)) := e3
    go_simp)) (steps_cons (gv_op 0 1 [(32, fun vs => .pointer (some ⟨gc, 6, none⟩))] 3 3 (fv := fun vs => .int .u32 x.f6) rfl rfl (wt_none rfl) (fun _ => rfl) (fun _ => rfl) rfl rfl (by kernel_rfl) (by kernel_rfl) ⟨rd_on (p := 32) 2 2 (fun _ => rfl) (fun _ => rfl) (by kernel_rfl) rfl, trivial⟩ (fun a w s vs hm hs h e => by
    obtain ⟨e32, _⟩ := e
    replace e32 : a.tmps[32]? = some (.pointer (some ⟨gc, 6, none⟩)) := e32
    have hs : w.cell? ⟨gc, 6, none⟩ = some (.int .u32 x.f6) := blk_cell (blk_below HGC.out (wr_below h (by omega))) 6
    go_simp; first | done | rfl)) (steps_cons (gv_call (vals := fun vs => [.pointer (some ⟨g, 0, none⟩), vs 1, .int .u32 x.f6]) 4 4 1 rfl rfl (wt_none rfl) rfl (fun _ => rfl) (fun _ _ => rfl) (fun _ => rfl) rfl (by kernel_rfl) Tryz.func81 (by kernel_rfl) rfl rfl (arv_t (rd_on (p := 30) 0 0 (fun _ => rfl) (fun _ => rfl) (by kernel_rfl) rfl) (arv_t (rd_on (p := 31) 1 1 (fun _ => rfl) (fun _ => rfl) (by kernel_rfl) rfl) (arv_t (rd_on (p := 33) 3 3 (fun _ => rfl) (fun _ => rfl) (by kernel_rfl) rfl) (arv_n)))) (fun vs w h => by obtain ⟨ccs, hv, hk, hb⟩ := h; have H := HSN.out w ccs hb hk; rw [← hv] at H; exact H.mono (fun e w' hP => ⟨_, hP.1, rfl, hP.2⟩))) steps_nil))))
  intro vs W5 hI5
  obtain ⟨_, h1, h2⟩ := hI5
  simp only [putSel, if_true, Act.put, List.setIfInBounds_toArray, List.set_cons_zero, List.set_cons_succ]
  go_wp2
  refine bodyPost_ret (results_none rfl _ _ _) rfl ?_
  rw [← HR.out]
  exact ⟨rfl, h1⟩
 rw [if_neg h89] at HR
 have h8 : ¬ x.f8 = 0 := fun h => h89 (Or.inl h)
 have h9 : ¬ x.f9 = 0 := fun h => h89 (Or.inr h)
 have h8a : decide (x.f8 = 0) = false := decide_eq_false h8
 have h8b : (x.f8 == 0) = false := by simpa using h8
 have h8c : (x.f8 != 0) = true := by simpa using h8
 have h9a : decide (x.f9 = 0) = false := decide_eq_false h9
 have h9b : (x.f9 == 0) = false := by simpa using h9
 have h9c : (x.f9 != 0) = true := by simpa using h9
 have k0 := HM1.out.k0
 by_cases h7 : m.s = 7
 ·rw [if_pos h7] at HR
  rw [h7] at k0
  go_wp2_with fail
  refine (sendPeer_ms HM1.out (Below.refl _ _) (by simp) (mkC 8 0 0 0 0 0 0) _ (mkC_K _ _ _ _ _ _ _)).mono ?_
  rintro e w2 ⟨rfl, hM2, hQ2⟩
  go_wp2
  go_end0
  rw [← HR.out]
  exact ⟨rfl, hM2⟩
 rw [if_neg h7] at HR
 have h7a : decide (m.s = 7) = false := decide_eq_false h7
 have h7b : (m.s == 7) = false := by simpa using h7
 have h7c : (m.s != 7) = true := by simpa using h7
 by_cases h1 : m.s = 1
 ·rw [if_pos h1] at HR
  rw [h1] at k0
  have k1 := HM1.out.k1
  have k2 := HM1.out.k2
  go_upto_region 12 with (fail)
  refine wp_then 11 (by kernel_rfl) (by kernel_rfl) ?_
  simp only [tks, tk0, dks, dk0]
  repeat (go_big_quiet_step (fail))
  refine wpQuiet_nil ?_
  rintro _ ⟨nq, rfl⟩
  clear k0 k1 k2
  go_wp2_with fail
  refine (answer_t (HM1.out.drewN nq) HT.out HKW.out HXW.out HN.out HMW.out.tag HMW.out.tsn (by unfold i32; omega) (by unfold i32; omega)).mono ?_
  rintro e w2 ⟨rfl, hM2, hQ2⟩
  go_wp2
  go_end0
  rw [← HR.out]
  exact ⟨rfl, hM2⟩
 rw [if_neg h1] at HR
 have h1a : decide (m.s = 1) = false := decide_eq_false h1
 have h1b : (m.s == 1) = false := by simpa using h1
 have h1c : (m.s != 1) = true := by simpa using h1
 by_cases h2 : m.s = 2
 ·rw [if_pos h2] at HR
  rw [h2] at k0
  have k1 := HM1.out.k1
  have k2 := HM1.out.k2
  have k3 := HM1.out.k3
  go_upto_region 14 with (fail)
  refine wp_then 22 (by kernel_rfl) (by kernel_rfl) ?_
  simp only [tks, tk0, dks, dk0]
  repeat (go_big_quiet_step (fail))
  refine wpQuiet_nil ?_
  rintro _ ⟨nq, rfl⟩
  clear k0 k1 k2 k3
  go_wp2_with fail
  refine (answer_t (HM1.out.drewN nq) HT.out HKW.out HXW.out HN.out HMW.out.tag HMW.out.tsn HMW.out.tag HMW.out.p0).mono ?_
  rintro e w2 ⟨rfl, hM2, hQ2⟩
  go_wp2
  go_end0
  rw [← HR.out]
  exact ⟨rfl, hM2⟩
 rw [if_neg h2] at HR
 have h2a : decide (m.s = 2) = false := decide_eq_false h2
 have h2b : (m.s == 2) = false := by simpa using h2
 have h2c : (m.s != 2) = true := by simpa using h2
 by_cases h0 : m.s = 0
 ·rw [if_pos h0] at HR
  rw [h0] at k0
  go_wp2_with fail
  refine (pair_ms HM1.out).mono ?_
  rintro e w2 ⟨rfl, hM2, hQ2⟩
  have HM2 := Lh hM2
  clear hM2 hQ2 k0
  go_wp2_with fail
  refine (answer_t HM2.out HT.out HKW.out HXW.out HN.out (tagD_32 _) (tsnD_32 _) (by unfold i32; omega) (by unfold i32; omega)).mono ?_
  rintro e w3 ⟨rfl, hM2, hQ2⟩
  go_wp2
  go_end0
  rw [← HR.out]
  exact ⟨rfl, hM2⟩
 rw [if_neg h0] at HR
 have h0a : decide (m.s = 0) = false := decide_eq_false h0
 have h0b : (m.s == 0) = false := by simpa using h0
 have h0c : (m.s != 0) = true := by simpa using h0
 go_wp2_with fail
 refine (pair_ms HM1.out).mono ?_
 rintro e w2 ⟨rfl, hM2, hQ2⟩
 have HM2 := Lh hM2
 clear hM2 hQ2 k0
 have k1 := HM2.out.k1
 have k3 := HM2.out.k3
 go_upto_region 8 with (fail)
 refine wp_then 14 (by kernel_rfl) (by kernel_rfl) ?_
 simp only [tks, tk0, dks, dk0]
 repeat (go_big_quiet_step (fail))
 refine wpQuiet_nil ?_
 rintro _ ⟨nq, rfl⟩
 clear k1 k3
 go_wp2_with fail
 refine (answer_t (HM2.out.drewN nq) HT.out HKW.out HXW.out HN.out (tagD_32 _) (tsnD_32 _) HMW.out.tag HMW.out.p0).mono ?_
 rintro e w2 ⟨rfl, hM2, hQ2⟩
 go_wp2
 go_end0
 rw [← HR.out]
 exact ⟨rfl, hM2⟩
end
end Go.Proofs.YthiaakjbapgibaaGreat.As
end
section
namespace Go.Proofs.YthiaakjbapgibaaGreat.ParCauses
open Go.RowKit YthiaakjbapgibaaGreatW.PrintWords PCh Base
def bodyS (s : ByteArray) : List Int := s.data.toList.map fun b => (b.toNat : Int)
theorem bodyS_length (s : ByteArray) : (bodyS s).length = s.size := by
 unfold bodyS
 rw [List.length_map, Array.length_toList]
 rfl
theorem bw_below (w : World) (e : TypeId) (s : ByteArray) : Below w.heap.size w (Lib.bytesWorld w e s) :=
 ⟨rfl, rfl, rfl, by rw [Lib.bytesWorld_size]; omega, fun k hk => Lib.bytesWorld_at_old w e s k hk⟩
theorem bw_C (w : World) (s : ByteArray) (hs : s.size ≤ 65531) : (Kd.int .u8).C (Lib.bytesWorld w 5 s) (some ⟨w.heap.size, 0, none⟩) (bodyS s).length (bodyS s) := by
 refine Kd.C_of_reads (d := (0 : Int)) ⟨rfl, by rw [bodyS_length]; omega, fun _ => ⟨_, rfl, fun j hj => ?_⟩⟩
 rw [bodyS_length] at hj
 rw [add_plain, Lib.bytesWorld_cell w _ s j hj]
 congr 2
 have h2 : j < s.data.toList.length := by rw [Array.length_toList]; exact hj
 unfold bodyS
 rw [getD_lt _ _ _ h2, getD_lt _ _ _ (by rw [List.length_map]; exact h2), List.getElem_map]
end Go.Proofs.YthiaakjbapgibaaGreat.ParCauses
end
section
namespace Go.Proofs.YthiaakjbapgibaaGreat.Base
open Go.ChangeShapes Go.WideShapes Go.ChangeAt Go.RowKit YthiaakjbapgibaaGreatW.PrintWords
theorem bulk_one {H : Type} (d : DataW H) : 1 ≤ Rows.uptoBulk d := by
 cases d with
 | lit l => cases l <;> simp [Rows.uptoBulk]
 | nil => simp [Rows.uptoBulk]
 | ptr d => simp [Rows.uptoBulk]
 | slice elems spare => simp [Rows.uptoBulk]
 | agg parts => simp [Rows.uptoBulk]
 | iface t d => simp [Rows.uptoBulk]
 | map entries => simp [Rows.uptoBulk]
 | held h => simp [Rows.uptoBulk]
theorem bulk_sum {H : Type} {α : Type} (l : List (DataW H)) (xs : List α) (wt : α → Nat) (hl : xs.length = l.length) (h : ∀ (i : Nat) (x : α) (d : DataW H), xs[i]? = some x → l[i]? = some d → wt x ≤ Rows.uptoBulk d) : (xs.map wt).sum ≤ Rows.uptoBulkAll l := by
 induction l generalizing xs with
 | nil =>
  cases xs with
  | nil => simp
  | cons x xs => simp at hl
 | cons d l ih =>
  cases xs with
  | nil => simp at hl
  | cons x xs =>
   have h1 := h 0 x d rfl rfl
   have h2 := ih xs (by simpa using hl) (fun i x d hx hd => h (i + 1) x d (by simpa using hx) (by simpa using hd))
   simp only [List.map_cons, List.sum_cons, Rows.uptoBulkAll]
   omega
def Opens {α : Type} (t : TypeId) (d : Kd α) (wt : α → Nat) : Prop :=
 ∀ {H : Type} (enc : TypeId × Value → H) (W : World) (fuel : Nat) (cs : List Value) (D : DataW H) (p : List MemPlace), DataW.trod enc Tryz.prog W 0 (fun _ => true) true fuel t cs = some (D, p) → ∃ x, d.K W x cs ∧ wt x ≤ Rows.uptoBulk D
theorem Opens.int {α : Type} {t : TypeId} {k : IntKind} {enc : α → Value} {h1 : ∀ x : α, (enc x).oneCell' = true} (dec : Int → α) (ht : Tryz.prog.underlying t = some (.int k)) (hd : ∀ n, (Lit.int k n).wf = true → enc (dec n) = .int k n) : Opens t (Kd.scalar enc h1) (fun _ => 1) := by
 intro H enc W fuel cs D p h
 obtain ⟨n, rfl, hx, hw⟩ := DataW.trod_int ht h
 exact ⟨dec n, by show _ = _; rw [hd n hw], bulk_one D⟩
theorem Opens.bool {t : TypeId} (ht : Tryz.prog.underlying t = some .bool) : Opens t Kd.bool (fun _ => 1) := by
 intro H enc W fuel cs D p h
 obtain ⟨b, rfl, hx⟩ := DataW.trod_bool ht h
 exact ⟨b, rfl, bulk_one D⟩
theorem Opens.byte : Opens 5 Base.byte (fun _ => 1) := Opens.int (fun n => UInt8.ofNat n.toNat) Tryz.underlying5 (fun n hw => by rw [u8_of_wf hw])
theorem Opens.slice {α : Type} {t e : TypeId} {d : Kd α} {wt : α → Nat} (ho : Opens e d wt) (ht : Tryz.prog.underlying t = some (.slice e)) (hc : Tryz.prog.cellsOf e = d.sz) : Opens t (Kd.slice e d) (fun xs => (xs.map wt).sum + 1) := by
 intro H enc W fuel cs D p h
 rcases Go.Deep.open_slice ht h with ⟨rfl, hx⟩ | ⟨a, len, cap, m, n, Ds, Pl, rfl, hb, hl, hm, hmm, hxx, hel⟩
 ·exact ⟨[], ⟨none, 0, rfl, Nat.le_refl _, Kd.C_nil d W⟩, bulk_one D⟩
 ·have hmc : m = cap := by simpa using hmm
  subst hmc
  simp only [Prod.mk.injEq] at hxx
  obtain ⟨rfl, rfl⟩ := hxx
  have hone : ∀ i, i < len → ∃ x cs', W.cells? 0 (a.add (i * d.sz)) d.sz = some cs' ∧ d.K W x cs' ∧ wt x ≤ Rows.uptoBulk (Ds i) := by
   intro i hi
   obtain ⟨cs', h1, h2⟩ := hel i (by omega)
   obtain ⟨x, hk, hw⟩ := ho enc W n cs' (Ds i) (Pl i) h2
   rw [hc] at h1
   exact ⟨x, cs', h1, hk, hw⟩
  cases hlen : len with
  | zero =>
   refine ⟨[], ⟨some a, m, rfl, Nat.zero_le _, ⟨rfl, by simp, fun h0 => by simp at h0⟩⟩, ?_⟩
   exact bulk_one _
  | succ len' =>
   obtain ⟨x0, _⟩ := hone 0 (by omega)
   have hx : ∀ i, ∃ x, i < len → ∃ cs', W.cells? 0 (a.add (i * d.sz)) d.sz = some cs' ∧ d.K W x cs' ∧ wt x ≤ Rows.uptoBulk (Ds i) := by
    intro i
    by_cases hi : i < len
    ·obtain ⟨x, hx⟩ := hone i hi
     exact ⟨x, fun _ => hx⟩
    ·exact ⟨x0, fun h0 => absurd h0 hi⟩
   rw [← hlen]
   have hll : ((List.range len).map fun i => (hx i).choose).length = len := by simp
   have hget : ∀ j x, ((List.range len).map fun i => (hx i).choose)[j]? = some x → j < len ∧ x = (hx j).choose := by
    intro j x hj
    have hjl : j < len := by have := (List.getElem?_eq_some_iff.1 hj).1; simpa using this
    rw [List.getElem?_map, List.getElem?_range hjl] at hj
    exact ⟨hjl, (Option.some.inj hj).symm⟩
   refine ⟨(List.range len).map fun i => (hx i).choose, ⟨some a, m, by rw [hll], by rw [hll]; exact hl, ⟨rfl, by rw [hll]; simp only [maxLen] at hm; omega, fun _ => ⟨a, rfl, fun j x hj => ?_⟩⟩⟩, ?_⟩
   ·obtain ⟨hjl, rfl⟩ := hget j x hj
    obtain ⟨cs', h1, h2, _⟩ := (hx j).choose_spec hjl
    obtain ⟨_, hlen2, hcell⟩ := World.cells?_some h1
    refine ⟨cs', hlen2, h2, fun i u hu => ?_⟩
    have hi : i < d.sz := by have := (List.getElem?_eq_some_iff.1 hu).1; omega
    have := hcell i hi
    rw [hu] at this
    rw [← this, Go.Deep.add_add]
   ·have hs := bulk_sum ((List.range len).map Ds) ((List.range len).map fun i => (hx i).choose) wt (by simp) (fun i x D hxi hD => by
     obtain ⟨hjl, rfl⟩ := hget i x hxi
     rw [List.getElem?_map, List.getElem?_range hjl] at hD
     obtain rfl := Option.some.inj hD
     obtain ⟨_, _, _, h3⟩ := (hx i).choose_spec hjl
     exact h3)
    simp only [Rows.uptoBulk]
    omega
theorem Opens.bytes : Opens 62 (Kd.slice 5 Base.byte) (fun xs => (xs.map (fun _ => 1)).sum + 1) := Opens.slice Opens.byte Tryz.underlying62 cells_u8
end Go.Proofs.YthiaakjbapgibaaGreat.Base
end
section
namespace Go.Proofs.YthiaakjbapgibaaGreat.ParDec
open Go.RowKit YthiaakjbapgibaaGreatW.PrintWords PCh ParCauses Base
def k16 : Kd UInt16 := Kd.scalar (fun x => .int .u16 (x.toNat : Int)) (fun _ => rfl)
def prmK : Kd (UInt16 × List UInt8) := Kd.pair k16 (Kd.slice 5 byte)
end Go.Proofs.YthiaakjbapgibaaGreat.ParDec
end
section
namespace Go.Proofs.YthiaakjbapgibaaGreat.ParDec
open Go.RowKit YthiaakjbapgibaaGreatW.PrintWords PCh ParCauses Base
abbrev Prm := UInt16 × List UInt8
def zP : Prm := (0, [])
theorem at_prm {w : World} {A : Option Addr} {n : Nat} {qs : List Prm} (h : Kd.C prmK w A n qs) (i : Nat) (hi : i < n) :
  ∃ ad B d, A = some ad ∧ w.cell? (ad.add (i * 2)) = some (.int .u16 ((qs.getD i zP).1.toNat : Int)) ∧ w.cell? ⟨(ad.add (i * 2)).block, (ad.add (i * 2)).off + 1, none⟩ = some (.slice B (qs.getD i zP).2.length d) ∧ (qs.getD i zP).2.length ≤ d ∧ byte.C w B (qs.getD i zP).2.length (qs.getD i zP).2 := by
 obtain ⟨ad, c, e, hl, ⟨c0, c1, rfl, k0, B, d, rfl, hle, hB⟩, hc⟩ := Kd.C_get h zP (i : Int) (by omega) (by omega)
 obtain rfl : c0 = [_] := k0
 rw [Int.toNat_natCast] at *
 have h0 := hc 0 _ rfl
 have h1 := hc 1 _ rfl
 exact ⟨ad, B, d, e, h0, by rw [← add_field _ _ 1 (by omega)]; exact h1, hle, hB⟩
def prmV (q : Prm) (B : Option Addr) (d : Nat) : Value := .agg #[.int .u16 (q.1.toNat : Int), .slice B q.2.length d]
theorem u16_eq (a b : UInt16) : decide ((a.toNat : Int) = (b.toNat : Int)) = decide (a = b) := by
 by_cases h : a = b
 ·subst h; simp
 ·have : ¬ (a.toNat : Int) = (b.toNat : Int) := fun e => h (UInt16.toNat_inj.1 (by omega))
  rw [decide_eq_false this, decide_eq_false h]
theorem find1_calls (p : Prm) (B : Option Addr) (d g : Nat) (kind : UInt16) (w : World) (hg : w.cell? ⟨g, 0, none⟩ = some (.int .u16 (kind.toNat : Int))) :
  Calls Tryz.prog 145 #[prmV p B d, .pointer (some ⟨g, 0, none⟩)] w fun e w' => e = .returned (.bool (decide (p.1 = kind))) ∧ Below w.heap.size w w' := by
 have hlt := World.block_lt_of_cell? w _ hg
 have hk : (w.alloc (.cells #[.int .u16 (p.1.toNat : Int), .slice B p.2.length d] 123)).cell? ⟨g, 0, none⟩ = some (.int .u16 (kind.toNat : Int)) := pw_cell_below (below_alloc (Below.refl _ _) _) hg
 have hr : ((p.1.toNat : Int) == (kind.toNat : Int)) = decide (p.1 = kind) := by
  rw [← u16_eq]
  rfl
 unfold prmV
 generalize decide (p.1 = kind) = r at *
 generalize (p.1.toNat : Int) = t at *
 generalize (kind.toNat : Int) = t' at *
 clear hg
 go_enter Tryz.func145, Tryz.ntmps145
 go_wp2
 go_ret
 exact ⟨by first | rfl | rw [hr], below_alloc (Below.refl _ _) _⟩
end Go.Proofs.YthiaakjbapgibaaGreat.ParDec
end
section
namespace Go.Proofs.YthiaakjbapgibaaGreat.ParDec
open Go.RowKit YthiaakjbapgibaaGreatW.PrintWords PCh ParCauses Base
def findI (kind : UInt16) : Nat → List Prm → Int
 | _, [] => -1
 | i, p :: r => if p.1 = kind then (i : Int) else findI kind (i + 1) r
theorem drop_prm (qs : List Prm) (i : Nat) (h : i < qs.length) : qs.drop i = qs.getD i zP :: qs.drop (i + 1) := by
 rw [List.drop_eq_getElem_cons h]
 simp [List.getD_eq_getElem?_getD, h]
theorem index_calls (w : World) (A : Option Addr) (c g : Nat) (kind : UInt16) (qs : List Prm) (h : Kd.C prmK w A qs.length qs) (hg : w.cell? ⟨g, 0, none⟩ = some (.int .u16 (kind.toNat : Int))) :
  Calls Tryz.prog 144 #[.slice A qs.length c, .func (.func 145) #[] #[.pointer (some ⟨g, 0, none⟩)]] w fun e w' => e = .returned (.int .i64 (findI kind 0 qs)) ∧ Below w.heap.size w w' := by
 have hm := h.2.1
 have H := Lh h
 have HG := Lh hg
 clear h hg
 go_enter Tryz.func144, Tryz.ntmps144
 go_wp2
 go_loopw [8] (fun v8 w' => ∃ i : Nat, i ≤ qs.length ∧ v8 = .int .i64 i ∧ Hid (findI kind 0 qs = findI kind i (qs.drop i)) ∧ Hid (Below w.heap.size w w')) (fun v8 _ => qs.length - (intOf v8).toNat)
 case atStart => exact ⟨0, by omega, rfl, rfl, Below.refl _ _⟩
 case round =>
  obtain ⟨i, hi, rfl, HS, HB⟩ := hrel
  by_cases hlt : i < qs.length
  ·obtain ⟨ad, B, d, rfl, x0, y0, z0, b0⟩ := at_prm (Kd.C_below H.out HB.out) i hlt
   have hd := HS.out
   rw [drop_prm qs i hlt] at hd
   generalize qs.getD i zP = p at *
   have HF := Lh (find1_calls p B d g kind wr (pw_cell_below HB.out HG.out))
   clear b0
   unfold prmV at HF
   by_cases hk : p.1 = kind
   ·have HD := Lh (show findI kind 0 qs = (i : Int) by rw [hd]; unfold findI; rw [if_pos hk])
    rw [decide_eq_true hk] at HF
    clear hd hk
    generalize p.2.length = n at *
    generalize (p.1.toNat : Int) = t at *
    go_wp2_with fail
    refine HF.out.mono ?_
    rintro e w1 ⟨rfl, hB1⟩
    have HB1 := Lh (below_then HB.out HB.out.size hB1)
    clear hB1
    go_wp2
    go_ret
    exact ⟨by rw [HD.out]; rfl, HB1.out⟩
   ·have HD := Lh (show findI kind 0 qs = findI kind (i + 1) (qs.drop (i + 1)) by rw [hd]; conv => lhs; unfold findI; rw [if_neg hk])
    rw [decide_eq_false hk] at HF
    clear hd hk
    generalize p.2.length = n at *
    generalize (p.1.toNat : Int) = t at *
    go_wp2_with fail
    refine HF.out.mono ?_
    rintro e w1 ⟨rfl, hB1⟩
    have HB1 := Lh (below_then HB.out HB.out.size hB1)
    clear hB1
    go_wp2
    go_roundw
    case rel => exact ⟨i + 1, by omega, by go_num, HD, HB1⟩
    case measure => simp [intOf]; omega
  ·obtain rfl : i = qs.length := by omega
   have HD := Lh (show findI kind 0 qs = -1 by rw [HS.out, List.drop_length]; rfl)
   go_wp2
   go_ret
   exact ⟨by rw [HD.out]; rfl, HB.out⟩
end Go.Proofs.YthiaakjbapgibaaGreat.ParDec
end
section
namespace Go.Proofs.YthiaakjbapgibaaGreat.ParDec
open Go.RowKit YthiaakjbapgibaaGreatW.PrintWords PCh ParCauses Base
def findB (kind : UInt16) : List Prm → List UInt8 × Bool
 | [] => ([], false)
 | p :: r => if p.1 = kind then (p.2, true) else findB kind r
theorem findI_some (kind : UInt16) (qs : List Prm) (n : Nat) : (findI kind n qs = -1 ∧ findB kind qs = ([], false)) ∨ ∃ i, i < qs.length ∧ findI kind n qs = ((n + i : Nat) : Int) ∧ findB kind qs = ((qs.getD i zP).2, true) := by
 induction qs generalizing n with
 | nil => exact Or.inl ⟨rfl, rfl⟩
 | cons p r ih =>
  unfold findI findB
  by_cases h : p.1 = kind
  ·rw [if_pos h, if_pos h]
   exact Or.inr ⟨0, by simp, rfl, rfl⟩
  ·rw [if_neg h, if_neg h]
   rcases ih (n + 1) with h1 | ⟨i, hi, h1, h2⟩
   ·exact Or.inl h1
   ·exact Or.inr ⟨i + 1, by simpa using hi, by rw [h1]; congr 1; omega, by rw [h2]; rfl⟩
theorem find_calls (w : World) (A : Option Addr) (c : Nat) (kind : UInt16) (qs : List Prm) (h : Kd.C prmK w A qs.length qs) (hsz : ∀ p ∈ qs, p.2.length ≤ 140737488355328) :
  Calls Tryz.prog 112 #[.slice A qs.length c, .int .u16 (kind.toNat : Int)] w fun e w' => ∃ A1 c1, e = .returned (.tuple #[.slice A1 (findB kind qs).1.length c1, .bool (findB kind qs).2]) ∧ byte.R 5 w' w.heap.size (fun _ => True) (.slice A1 (findB kind qs).1.length c1) (findB kind qs).1 ∧ Below w.heap.size w w' := by
 have hm := h.2.1
 have hg := cell_of_row _ w.heap.size 0 _ _ _ (heap_alloc_new w (.cells #[.int .u16 (kind.toNat : Int)] 50))
 have HI := Lh (index_calls (w.alloc (.cells #[.int .u16 (kind.toNat : Int)] 50)) A c w.heap.size kind qs (Kd.C_alloc h _) hg)
 have H := Lh h
 clear h hg
 have hmf : ∀ (fn : Fn) (first cap : Array Value) (w : World), (Instr.makeFunc fn first cap).run Tryz.prog w = .ok (.func fn first cap) w := fun _ _ _ _ => rfl
 generalize (kind.toNat : Int) = t at *
 rcases findI_some kind qs 0 with ⟨h1, h2⟩ | ⟨i, hi, h1, h2⟩
 ·rw [h1] at HI
  rw [h2]
  clear h1 h2
  go_enter Tryz.func112, Tryz.ntmps112
  go_wp2_with fail
  refine HI.out.mono ?_
  rintro e w1 ⟨rfl, hB1⟩
  have HB1 := Lh (below_then (below_alloc (Below.refl w.heap.size w) _) (by simp) hB1)
  clear hB1
  go_wp2
  go_ret2
  exact ⟨none, 0, rfl, Kd.R_nil _ _ _ _ _, HB1.out⟩
 ·rw [h1, Nat.zero_add] at HI
  rw [h2]
  clear h1 h2
  have hB := hsz (qs.getD i zP) (by rw [getD_lt _ _ _ hi]; exact List.getElem_mem _)
  have HA := Lh (fun (W : World) (hb : Below w.heap.size w W) => at_prm (Kd.C_below H.out hb) i hi)
  generalize qs.getD i zP = p at *
  have HC := Lh (fun (W : World) (B : Option Addr) (d : Nat) (b0 : byte.C W B p.2.length p.2) => clone_calls B d p.2 W b0 hB)
  unfold RetR at HC
  dsimp only
  generalize p.2.length = n at *
  go_enter Tryz.func112, Tryz.ntmps112
  go_wp2_with fail
  refine HI.out.mono ?_
  rintro e w1 ⟨rfl, hB1⟩
  have HB1 := Lh (below_then (below_alloc (Below.refl w.heap.size w) _) (by simp) hB1)
  clear hB1
  obtain ⟨ad, B, d, rfl, x0, y0, z0, b0⟩ := HA.out w1 HB1.out
  have HB0 := Lh b0
  clear b0 x0
  go_wp2_with fail
  refine (HC.out w1 B d HB0.out).mono ?_
  rintro e w2 ⟨v, rfl, hR, hB2⟩
  obtain ⟨A1, c1, hv, hle, hC⟩ := Kd.R_reads hR
  have HB2 := Lh (below_then HB1.out HB1.out.size hB2)
  have hlen : p.2.length = n := HB0.out.1
  rw [hlen] at hv hC
  subst hv
  have HC2 := Lh (Kd.R_lower hR HB1.out.size)
  clear hR hC hB2 hle hlen
  go_wp2
  go_ret2
  exact ⟨A1, c1, rfl, HC2.out, HB2.out⟩
end Go.Proofs.YthiaakjbapgibaaGreat.ParDec
end
section
namespace Go.Proofs.YthiaakjbapgibaaGreat.As
open Go.RowKit YthiaakjbapgibaaGreatW.PrintWords YthiaakjbapgibaaGreatW.PrintLast Base PCh
section
variable {B : Nat} {W0 W : World} {g gt : Nat} {K : Cfg} {m : Mst} {xs : List Act'} {tag : Int} {x : Chk} {L : Lay} {now : Int}
def echoC (l : List UInt8) : Chk := ⟨10, 0, 0, 0, 0, 0, 0, 0, 0, 0, [], [], [], ints l, []⟩
theorem echo_K {l : List UInt8} {A : Option Addr} {c : Nat} (hl : l.length ≤ c) (hS : Stb B W fun W' => byte.C W' A l.length l) : Stb B W fun W' => Kd.K k65 W' (echoC l) (#[.int .u8 10, .int .u8 0, .int .u32 0, .int .u16 0, .int .u16 0, .int .u32 0, .int .u32 0, .int .u32 0, .int .u16 0, .int .u16 0, .slice none 0 0, .slice none 0 0, .slice none 0 0, .slice A l.length c, .slice none 0 0] : Array Value).toList := fun W' hk => by
 have h := k65_mk W' (echoC l) (Nat.le_refl _) (Kd.C_nil _ _) (Nat.le_refl _) (Kd.C_nil _ _) (Nat.le_refl _) (Kd.C_nil _ _) (A13 := A) (c13 := c) (by show (ints l).length ≤ c; rw [ints_length]; exact hl) (ints_C (hS W' hk)) (Nat.le_refl _) (Kd.C_nil _ _)
 rw [show (echoC l).f13.length = l.length from ints_length l] at h
 exact h
theorem empty_R (w : World) : byte.R 5 (w.alloc (.cells #[] 5)) w.heap.size (fun _ => True) (.slice (some ⟨w.heap.size, 0, none⟩) 0 0) [] := Kd.R_of_own (own_lit_of (enc := fun b : UInt8 => Value.int .u8 (b.toNat : Int)) w w.heap.size 5 [] (Nat.le_refl _) (by simp)) (fun _ _ => trivial)
set_option maxHeartbeats 1000000 in
theorem sendEcho_ms (h : MS B W0 g K m xs W) (hl : xs.length ≤ 1000) : Calls Tryz.prog 49 #[.pointer (some ⟨g, 0, none⟩)] W (Rt B W0 g K m (xs ++ [actSend (echoC m.cb) m.pr.f0] ++ [actTimer 2 1]) W) := by
 obtain ⟨A, c, k8, hcl, hck⟩ := h.ck
 have k8' := (h.below (below_alloc (Below.refl _ _) (.cells #[] 5))).cell 8
 have kk : (W.alloc (.cells #[] 5)).cell? ⟨g, 8, none⟩ = some (.slice A m.cb.length c) := by
  obtain ⟨cs, hr⟩ := h.row
  rw [blk_cell (blk_alloc hr _)]
  rw [blk_cell hr] at k8
  exact k8
 have HO := Lh (empty_R W)
 have HC := Lh (Kd.C_below hck.2.now (below_alloc (Below.refl _ _) (.cells #[] 5)))
 have HCK := Lh hck
 have HM := Lh h
 have HL := Lh hl
 clear h hl hcl hck k8 k8'
 go_enter Tryz.func49, Tryz.ntmps49
 go_wp2_with (at_builtin; go_must (refine Kd.R_append_row (fun b : UInt8 => .int .u8 (b.toNat : Int)) (0 : UInt8) (w0 := W) W.heap.size rfl _ _ 62 5 _ 1 rfl Tryz.underlying62 info_u8 rfl (by decide) _ [] m.cb A m.cb.length c (fun _ => True) rfl rfl (fun _ _ => trivial) HO.out HC.out ((Below.refl _ _).alloc (Nat.le_refl _) _) (by simp) (by have := HCK.out.1; simpa using this) ?_); (intro v1 w1 hR1 hB1 hG1 hat; have HR1 := Lh hR1; have HB1 := Lh hB1; clear hR1 hB1 hG1 hat kk; refine RowKit.Hid.out ?_))
 refine Lh ?_
 obtain ⟨A7, c7, rfl, hl7, hS7⟩ := R_stable byte (B := B) (by decide) HR1.out
 have HS7 := Lh hS7
 have HL7 := Lh hl7
 clear hS7 hl7 HR1
 go_wp2_with fail
 refine (sendPeer_ms HM.out HB1.out (by have := HL.out; omega) (echoC m.cb) _ (echo_K (A := A7) (c := c7) HL7.out HS7.out)).mono ?_
 rintro e w2 ⟨rfl, hM2, hQ2⟩
 go_wp2_with fail
 refine (start_ms hM2 (by have := HL.out; simp; omega) 1).mono ?_
 rintro e w3 ⟨rfl, hM3, hQ3⟩
 go_wp2
 go_end0
 exact ⟨rfl, hM3, hQ2.trans hQ3⟩
end
end Go.Proofs.YthiaakjbapgibaaGreat.As
end
section
namespace Go.Proofs.YthiaakjbapgibaaGreat.As
open Go.RowKit YthiaakjbapgibaaGreatW.PrintWords YthiaakjbapgibaaGreatW.PrintLast YthiaakjbapgibaaGreatW.PrintMore Base PCh
def iak0T0 : Bool × List (List Nat × List Nat) := (true, [([], []), ([0], [0]), ([1], [1]), ([2], [2]), ([], []), ([4], [4]), ([5], [5]), ([6], [6]), ([], []), ([3, 0, 1, 2, 3, 8], [3]), ([8, 7, 9, 0, 1, 2, 3, 4, 5, 6, 7, 8, 9], [7, 8])])
def iak0B0 : List Nat := [0, 1, 3, 7, 0, 16, 48, 112, 0, 271, 1023]
theorem iak0tab0 : Go.Proofs.YthiaakjbapgibaaGreatW.PrintLast.rtab .any (Go.Proofs.YthiaakjbapgibaaGreatW.PrintLast.opsOf Tryz.f62 0) = iak0T0 := by kernel_rfl
theorem iak0bits0 : Go.Proofs.YthiaakjbapgibaaGreatW.PrintLast.waitsOk iak0T0.2 iak0B0 = true := by kernel_rfl
def iak9T9 : Bool × List (List Nat × List Nat) := (true, [([], []), ([], []), ([], []), ([2], [2]), ([0, 1, 3, 1], [0, 1, 3])])
def iak9B9 : List Nat := [0, 0, 0, 4, 15]
theorem iak9tab9 : Go.Proofs.YthiaakjbapgibaaGreatW.PrintLast.rtab .any (Go.Proofs.YthiaakjbapgibaaGreatW.PrintLast.opsOf Tryz.f62 9) = iak9T9 := by kernel_rfl
theorem iak9bits9 : Go.Proofs.YthiaakjbapgibaaGreatW.PrintLast.waitsOk iak9T9.2 iak9B9 = true := by kernel_rfl
abbrev PrmI := S123
abbrev PrmB := UInt16 × List UInt8
def u8s (l : List Int) : List UInt8 := l.map fun b => UInt8.ofNat b.toNat
def fromS (p : PrmI) : PrmB := (UInt16.ofNat p.f0.toNat, u8s p.f1)
theorem u8s_C {w : World} {A : Option Addr} {l : List Int} (hl : ∀ b ∈ l, 0 ≤ b ∧ b < 256) (h : (Kd.int .u8).C w A l.length l) : byte.C w A (u8s l).length (u8s l) := by
 obtain ⟨h1, h2, h3⟩ := h
 have e : (u8s l).length = l.length := List.length_map ..
 rw [e]
 refine ⟨e, h2, fun hn => ?_⟩
 obtain ⟨ad, ea, hc⟩ := h3 hn
 refine ⟨ad, ea, fun j p hj => ?_⟩
 unfold u8s at hj
 rw [List.getElem?_map] at hj
 obtain ⟨q, hq, rfl⟩ := Option.map_eq_some_iff.1 hj
 obtain ⟨c, hl1, hk, hcell⟩ := hc j q hq
 refine ⟨c, hl1, ?_, hcell⟩
 obtain rfl : c = [.int .u8 q] := hk
 have hq2 := hl q (List.mem_of_getElem? hq)
 show [Value.int .u8 q] = [Value.int .u8 (((UInt8.ofNat q.toNat).toNat : Nat) : Int)]
 rw [UInt8.toNat_ofNat', show ((q.toNat % 2 ^ 8 : Nat) : Int) = q by omega]
theorem fromS_C {w : World} {A : Option Addr} {ps : List PrmI} (hp : ∀ p ∈ ps, i16 p.f0 ∧ p.f1.length ≤ 140737488355328 ∧ ∀ b ∈ p.f1, 0 ≤ b ∧ b < 256) (h : Kd.C k123 w A ps.length ps) : Kd.C Go.Proofs.YthiaakjbapgibaaGreat.ParDec.prmK w A (ps.map fromS).length (ps.map fromS) := by
 obtain ⟨h1, h2, h3⟩ := h
 rw [List.length_map]
 refine ⟨List.length_map .., h2, fun hn => ?_⟩
 obtain ⟨ad, ea, hc⟩ := h3 hn
 refine ⟨ad, ea, fun j p hj => ?_⟩
 rw [List.getElem?_map] at hj
 obtain ⟨q, hq, rfl⟩ := Option.map_eq_some_iff.1 hj
 obtain ⟨c, hl1, hk, hcell⟩ := hc j q hq
 refine ⟨c, hl1, ?_, hcell⟩
 obtain ⟨h16, hlen, hby⟩ := hp q (List.mem_of_getElem? hq)
 obtain ⟨A1, c1, rfl, hle, hC⟩ := k123_open hk
 refine ⟨[.int .u16 q.f0], [.slice A1 q.f1.length c1], rfl, ?_, A1, c1, ?_, ?_, u8s_C hby hC⟩
 ·show [Value.int .u16 q.f0] = [Value.int .u16 (((UInt16.ofNat q.f0.toNat).toNat : Nat) : Int)]
  unfold i16 at h16
  rw [UInt16.toNat_ofNat', show ((q.f0.toNat % 2 ^ 16 : Nat) : Int) = q.f0 by omega]
 ·show [Value.slice A1 q.f1.length c1] = [Value.slice A1 (u8s q.f1).length c1]
  rw [show (u8s q.f1).length = q.f1.length from List.length_map ..]
 ·show (u8s q.f1).length ≤ c1
  rw [show (u8s q.f1).length = q.f1.length from List.length_map ..]
  exact hle
def findX (kind : UInt16) (x : Chk) : List UInt8 × Bool := Go.Proofs.YthiaakjbapgibaaGreat.ParDec.findB kind (x.f14.map fromS)
theorem findX_len {kind : UInt16} {x : Chk} (hX : XW x) : (findX kind x).1.length ≤ 140737488355328 := by
 rcases Go.Proofs.YthiaakjbapgibaaGreat.ParDec.findI_some kind (x.f14.map fromS) 0 with ⟨_, h⟩ | ⟨i, hi, _, h⟩
 ·unfold findX
  rw [h]
  simp
 ·unfold findX
  rw [h]
  rw [List.length_map] at hi
  show ((x.f14.map fromS).getD i Go.Proofs.YthiaakjbapgibaaGreat.ParDec.zP).2.length ≤ _
  rw [getD_lt _ _ _ (by rw [List.length_map]; exact hi), List.getElem_map]
  show (u8s (x.f14[i]).f1).length ≤ _
  rw [show (u8s (x.f14[i]).f1).length = (x.f14[i]).f1.length from List.length_map ..]
  exact (hX.f14 _ (List.getElem_mem _)).2.1
theorem find_x {w : World} {x : Chk} {L : Lay} (hX : XW x) (h : Go.Proofs.YthiaakjbapgibaaGreat.Ch.CR w x L) (kind : UInt16) : Calls Tryz.prog 112 #[.slice L.A14 x.f14.length L.c14, .int .u16 (kind.toNat : Int)] w fun e w' => ∃ A1 c1, e = .returned (.tuple #[.slice A1 (findX kind x).1.length c1, .bool (findX kind x).2]) ∧ byte.R 5 w' w.heap.size (fun _ => True) (.slice A1 (findX kind x).1.length c1) (findX kind x).1 ∧ Below w.heap.size w w' := by
 have h1 := Go.Proofs.YthiaakjbapgibaaGreat.ParDec.find_calls w L.A14 L.c14 kind (x.f14.map fromS) (fromS_C hX.f14 h.h14) (fun p hp => by
  obtain ⟨q, hq, rfl⟩ := List.mem_map.1 hp
  show (u8s q.f1).length ≤ _
  rw [show (u8s q.f1).length = q.f1.length from List.length_map ..]
  exact (hX.f14 q hq).2.1)
 rw [List.length_map] at h1
 exact h1
section
variable {B : Nat} {W0 W : World} {g gt : Nat} {K : Cfg} {m : Mst} {xs : List Act'} {tag : Int} {x : Chk} {L : Lay} {now : Int}
def iackP (K : Cfg) (m : Mst) (tag : Int) (x : Chk) : Out :=
 if m.s = 0 then .error 222
 else if ownB m tag x = false then .error 221
 else if m.s = 1 then
  if x.f6 = 0 then .ok (zeroM m, [actDown 7])
  else if x.f8 = 0 ∨ x.f9 = 0 ∨ (findX 7 x).2 = false then .ok (zeroM m, [actSend wrongC x.f6, actDown 7])
  else .ok ({ m with pr := ⟨x.f6, x.f2, x.f7, minI K.out x.f9, minI K.inn x.f8⟩, cb := (findX 7 x).1, s := 2, tr := 0 }, [actSend (echoC (findX 7 x).1) x.f6, actTimer 2 1])
 else .error 222
attribute [local go_sem] max2_int min2_int max_two min_two
set_option maxHeartbeats 4000000 in
theorem initAck_t (hM : MS B W0 g K m [] W) (hT : TC B W0 g gt tag x L now) (hQ : Kq B W0 W) (hX : XW x) : Calls Tryz.prog 62 #[.pointer (some ⟨gt, 0, none⟩)] W (ClP B W0 g K (iackP K m tag x)) := by
 obtain ⟨r, hr⟩ : ∃ r, iackP K m tag x = r := ⟨_, rfl⟩
 rw [hr]
 have HR := Lh hr
 have HRT := Lh (hM.only.blk hT.row hT.ne)
 have HM := Lh hM
 have HT := Lh hT
 have HQ := Lh hQ
 have HXW := Lh hX
 clear hM hT hQ hX hr
 unfold iackP at HR
 go_enter Tryz.func62, Tryz.ntmps62
 go_upto_region 0 with (fail)
 refine grow_v (B := iak0B0) [0, 1, 2, 3, 4, 5, 6, 7, 8, 9, 10] [8, 10] (McI W (Go.Proofs.YthiaakjbapgibaaGreat.Ch.CV x L)) (fun vs => [(0, 6, .pointer (some ⟨gt, 0, none⟩)), (1, 7, .pointer (some ⟨gt, 0, none⟩)), (2, 8, .pointer (some ⟨gt, 0, none⟩)), (3, 9, .pointer (some ⟨g, 0, none⟩)), (4, 10, .pointer (some ⟨gt, 0, none⟩)), (5, 11, .pointer (some ⟨gt, 0, none⟩)), (6, 12, .pointer (some ⟨gt, 2, none⟩)), (7, 13, .agg (Go.Proofs.YthiaakjbapgibaaGreat.Ch.CV x L)), (8, 3, vs 1), (9, 2, .pointer (some ⟨g, 0, none⟩))]) (by kernel_rfl) rfl (l := #[false, false, false, false, false, false, false, false, false, false, false]) rfl iak0tab0 iak0bits0 (by kernel_rfl) (by kernel_rfl) (fun _ => rfl) rfl (fun _ => undef) ?_ ?_ ?_
 ·exact pw_below_drewN (Below.refl _ _) 1
 ·exact steps_cons (gv_op 0 1 [(0, fun vs => .pointer (some ⟨gt, 0, none⟩))] 0 0 (fv := fun vs => .pointer (some ⟨gt, 0, none⟩)) rfl rfl (wt_none rfl) (fun _ => rfl) (fun _ => rfl) rfl rfl (by kernel_rfl) (by kernel_rfl) ⟨rd_off (p := 0) (fun _ => rfl) rfl, trivial⟩ (fun a w s vs hm hs h e => by
  obtain ⟨e0, _⟩ := e
  replace e0 : a.tmps[0]? = some (.pointer (some ⟨gt, 0, none⟩)) := e0
  go_simp)) (steps_cons (gv_op 0 1 [(6, fun vs => .pointer (some ⟨gt, 0, none⟩))] 1 1 (fv := fun vs => .pointer (some ⟨gt, 0, none⟩)) rfl rfl (wt_none rfl) (fun _ => rfl) (fun _ => rfl) rfl rfl (by kernel_rfl) (by kernel_rfl) ⟨rd_on (p := 6) 0 0 (fun _ => rfl) (fun _ => rfl) (by kernel_rfl) rfl, trivial⟩ (fun a w s vs hm hs h e => by
  obtain ⟨e6, _⟩ := e
  replace e6 : a.tmps[6]? = some (.pointer (some ⟨gt, 0, none⟩)) := e6
  go_simp)) (steps_cons (gv_op 0 1 [(7, fun vs => .pointer (some ⟨gt, 0, none⟩))] 2 2 (fv := fun vs => .pointer (some ⟨gt, 0, none⟩)) rfl rfl (wt_none rfl) (fun _ => rfl) (fun _ => rfl) rfl rfl (by kernel_rfl) (by kernel_rfl) ⟨rd_on (p := 7) 1 1 (fun _ => rfl) (fun _ => rfl) (by kernel_rfl) rfl, trivial⟩ (fun a w s vs hm hs h e => by
  obtain ⟨e7, _⟩ := e
  replace e7 : a.tmps[7]? = some (.pointer (some ⟨gt, 0, none⟩)) := e7
  go_simp)) (steps_cons (gv_op 0 1 [(8, fun vs => .pointer (some ⟨gt, 0, none⟩))] 3 3 (fv := fun vs => .pointer (some ⟨g, 0, none⟩)) rfl rfl (wt_none rfl) (fun _ => rfl) (fun _ => rfl) rfl rfl (by kernel_rfl) (by kernel_rfl) ⟨rd_on (p := 8) 2 2 (fun _ => rfl) (fun _ => rfl) (by kernel_rfl) rfl, trivial⟩ (fun a w s vs hm hs h e => by
  obtain ⟨e8, _⟩ := e
  replace e8 : a.tmps[8]? = some (.pointer (some ⟨gt, 0, none⟩)) := e8
  have hs := blk_cell (blk_below HRT.out (mc_below h)) 0
  go_simp; first | done | rfl)) (steps_cons (gv_op 0 1 [(0, fun vs => .pointer (some ⟨gt, 0, none⟩))] 4 4 (fv := fun vs => .pointer (some ⟨gt, 0, none⟩)) rfl rfl (wt_none rfl) (fun _ => rfl) (fun _ => rfl) rfl rfl (by kernel_rfl) (by kernel_rfl) ⟨rd_off (p := 0) (fun _ => rfl) rfl, trivial⟩ (fun a w s vs hm hs h e => by
  obtain ⟨e0, _⟩ := e
  replace e0 : a.tmps[0]? = some (.pointer (some ⟨gt, 0, none⟩)) := e0
  go_simp)) (steps_cons (gv_op 0 1 [(10, fun vs => .pointer (some ⟨gt, 0, none⟩))] 5 5 (fv := fun vs => .pointer (some ⟨gt, 0, none⟩)) rfl rfl (wt_none rfl) (fun _ => rfl) (fun _ => rfl) rfl rfl (by kernel_rfl) (by kernel_rfl) ⟨rd_on (p := 10) 4 4 (fun _ => rfl) (fun _ => rfl) (by kernel_rfl) rfl, trivial⟩ (fun a w s vs hm hs h e => by
  obtain ⟨e10, _⟩ := e
  replace e10 : a.tmps[10]? = some (.pointer (some ⟨gt, 0, none⟩)) := e10
  go_simp)) (steps_cons (gv_op 0 1 [(11, fun vs => .pointer (some ⟨gt, 0, none⟩))] 6 6 (fv := fun vs => .pointer (some ⟨gt, 2, none⟩)) rfl rfl (wt_none rfl) (fun _ => rfl) (fun _ => rfl) rfl rfl (by kernel_rfl) (by kernel_rfl) ⟨rd_on (p := 11) 5 5 (fun _ => rfl) (fun _ => rfl) (by kernel_rfl) rfl, trivial⟩ (fun a w s vs hm hs h e => by
  obtain ⟨e11, _⟩ := e
  replace e11 : a.tmps[11]? = some (.pointer (some ⟨gt, 0, none⟩)) := e11
  go_simp)) (steps_cons (gv_op 0 1 [(12, fun vs => .pointer (some ⟨gt, 2, none⟩))] 7 7 (fv := fun vs => .agg (Go.Proofs.YthiaakjbapgibaaGreat.Ch.CV x L)) rfl rfl (wt_none rfl) (fun _ => rfl) (fun _ => rfl) rfl rfl (by kernel_rfl) (by kernel_rfl) ⟨rd_on (p := 12) 6 6 (fun _ => rfl) (fun _ => rfl) (by kernel_rfl) rfl, trivial⟩ (fun a w s vs hm hs h e => by
  obtain ⟨e12, _⟩ := e
  replace e12 : a.tmps[12]? = some (.pointer (some ⟨gt, 2, none⟩)) := e12
  exact exec_load_cells 65 (.tmp 12) rfl (eval_of e12) (Go.Proofs.YthiaakjbapgibaaGreat.Ch.CV x L) _ (tv_cells (blk_below HRT.out (mc_below h))) Tryz.underlying65 rfl (by kernel_rfl))) (steps_cons (gv_gen [] 8 8 0 rfl rfl (wt_none rfl) rfl (fun _ => rfl) (fun _ _ => rfl) (fun _ => rfl) rfl (by kernel_rfl) trivial (fun a w K vs h e hw hK => by
  have h1 := mc_below h
  exact value_ (w1 := w.alloc (.cells #[.int .u8 0, .int .u8 0, .int .u32 0, .int .u16 0, .int .u16 0, .int .u32 0, .int .u32 0, .int .u32 0, .int .u16 0, .int .u16 0, .slice none 0 0, .slice none 0 0, .slice none 0 0, .slice none 0 0, .slice none 0 0] 65)) (v := .pointer (some ⟨w.heap.size, 0, none⟩)) hw rfl (by go_simp; try rfl) (hK _ _ ⟨w.heap.size, rfl, blk_new _ _, h1.size, below_alloc h1 _⟩))) (steps_cons (gv_op 1 1 [(9, fun vs => .pointer (some ⟨g, 0, none⟩))] 9 9 (fv := fun vs => .pointer (some ⟨g, 0, none⟩)) rfl rfl (wt_none rfl) (fun _ => rfl) (fun _ => rfl) rfl rfl (by kernel_rfl) (by kernel_rfl) ⟨rd_on (p := 9) 3 3 (fun _ => rfl) (fun _ => rfl) (by kernel_rfl) rfl, trivial⟩ (fun a w s vs hm hs h e => by
  obtain rfl : s = 1 := by omega
  obtain ⟨e9, _⟩ := e
  replace e9 : a.tmps[9]? = some (.pointer (some ⟨g, 0, none⟩)) := e9
  go_simp)) (steps_cons (gv_store (f := fun vs W => W.setRow (blkOf (vs 1)) (Go.Proofs.YthiaakjbapgibaaGreat.Ch.CV x L)) [(3, fun vs => vs 1), (13, fun vs => .agg (Go.Proofs.YthiaakjbapgibaaGreat.Ch.CV x L))] 10 1 rfl rfl (wt_none rfl) rfl (fun _ => rfl) rfl (by kernel_rfl) ⟨rd_on (p := 3) 8 8 (fun _ => rfl) (fun _ => rfl) (by kernel_rfl) rfl, rd_on (p := 13) 7 7 (fun _ => rfl) (fun _ => rfl) (by kernel_rfl) rfl, trivial⟩ (fun a w vs h e => by
  obtain ⟨e3, e13, _⟩ := e
  replace e3 : a.tmps[3]? = some (vs 1) := e3
  replace e13 : a.tmps[13]? = some (.agg (Go.Proofs.YthiaakjbapgibaaGreat.Ch.CV x L)) := e13
  obtain ⟨gc, hv, h1, h2, h3⟩ := h
  rw [hv] at e3 ⊢
  exact exec_store_row 65 (.tmp 3) (.tmp 13) rfl (eval_of e3) (eval_of e13) h1 (by kernel_rfl) rfl (by simp [Go.Proofs.YthiaakjbapgibaaGreat.Ch.CV, Value.oneCell'])) (fun vs w h => mc_store h)) steps_nil))))))))))
 intro vs W1 hI
 obtain ⟨gc, hv, hgc, hgs, hB⟩ := hI
 simp only [putSel, if_true, Act.put, List.setIfInBounds_toArray, List.set_cons_zero, List.set_cons_succ]
 rw [hv]
 have HM1 := Lh (HM.out.below hB)
 have HGC := Lh hgc
 have HB := Lh hB
 have k0 := HM1.out.k0
 have t0 : W1.cell? ⟨gt, 0, none⟩ = some (.pointer (some ⟨g, 0, none⟩)) := HT.out.cell HM1.out.only 0
 clear hgc hB hv HM
 by_cases h0 : m.s = 0
 ·rw [if_pos h0] at HR
  rw [h0] at k0
  go_wp2_with fail
  refine (drop_calls _).mono ?_
  rintro e w2 ⟨rfl, rfl⟩
  exact ⟨rfl, by rw [← HR.out]; exact ⟨rfl, m, [], HM1.out⟩⟩
 rw [if_neg h0] at HR
 have h0a : decide (m.s = 0) = false := decide_eq_false h0
 have h0b : (m.s == 0) = false := by simpa using h0
 have h0c : (m.s != 0) = true := by simpa using h0
 go_wp2_with fail
 refine (own_ms HM1.out HT.out).mono ?_
 rintro e w2 ⟨rfl, rfl⟩
 by_cases ho : ownB m tag x = true
 rotate_left
 ·rw [if_neg ho]
  rw [if_pos (show ownB m tag x = false by simpa using ho)] at HR
  unfold errA
  exact ⟨rfl, by rw [← HR.out]; exact ⟨rfl, m, [], HM1.out⟩⟩
 rw [if_pos ho]
 rw [if_neg (show ¬ ownB m tag x = false by rw [ho]; decide)] at HR
 by_cases h1 : m.s = 1
 rotate_left
 ·rw [if_neg h1] at HR
  have h1a : decide (m.s = 1) = false := decide_eq_false h1
  have h1b : (m.s == 1) = false := by simpa using h1
  have h1c : (m.s != 1) = true := by simpa using h1
  go_wp2_with fail
  refine (drop_calls _).mono ?_
  rintro e w2 ⟨rfl, rfl⟩
  exact ⟨rfl, by rw [← HR.out]; exact ⟨rfl, m, [], HM1.out⟩⟩
 rw [if_pos h1] at HR
 rw [h1] at k0
 have c14 : W1.cell? ⟨gc, 14, none⟩ = some (.slice L.A14 x.f14.length L.c14) := blk_cell HGC.out 14
 go_wp2_with fail
 refine (find_x HXW.out (HT.out.cr W1 (HQ.out.trans (Kq.of_below HB.out))) 7).mono ?_
 rintro e W2 ⟨A1, c1, rfl, hR2, hB2⟩
 obtain ⟨A1', c1', he1, hle1, hC⟩ := R_stable byte (B := B) (by decide) hR2
 obtain ⟨rfl, _, rfl⟩ : A1 = A1' ∧ True ∧ c1 = c1' := by injection he1 with a b c; exact ⟨a, trivial, c⟩
 clear he1 hR2 hle1
 have HM2 := Lh (HM1.out.below hB2)
 have HGC2 := Lh (blk_below HGC.out hB2)
 have HC := Lh hC
 have HFL := Lh (findX_len (kind := 7) HXW.out)
 clear k0 t0 c14 hC hB2 HM1 HGC
 have c2 : W2.cell? ⟨gc, 2, none⟩ = some (.int .u32 x.f2) := blk_cell HGC2.out 2
 have c6 : W2.cell? ⟨gc, 6, none⟩ = some (.int .u32 x.f6) := blk_cell HGC2.out 6
 have c7 : W2.cell? ⟨gc, 7, none⟩ = some (.int .u32 x.f7) := blk_cell HGC2.out 7
 have c8 : W2.cell? ⟨gc, 8, none⟩ = some (.int .u16 x.f8) := blk_cell HGC2.out 8
 have c9 : W2.cell? ⟨gc, 9, none⟩ = some (.int .u16 x.f9) := blk_cell HGC2.out 9
 obtain ⟨fl, fb⟩ : ∃ f : List UInt8 × Bool, findX 7 x = f := ⟨_, rfl⟩
 rw [fb] at HR HC HFL ⊢
 obtain ⟨fl, fk⟩ := fl
 dsimp only at HR HC HFL ⊢
 by_cases h6 : x.f6 = 0
 ·rw [if_pos h6] at HR
  rw [h6] at c6
  go_wp2_with fail
  refine (down_ms HM2.out (by simp) 7).mono ?_
  rintro e w3 ⟨rfl, hM3, hQ3⟩
  go_wp2
  refine bodyPost_ret (results_none rfl _ _ _) rfl ?_
  rw [← HR.out]
  exact ⟨rfl, hM3⟩
 rw [if_neg h6] at HR
 have h6a : decide (x.f6 = 0) = false := decide_eq_false h6
 have h6b : (x.f6 == 0) = false := by simpa using h6
 have h6c : (x.f6 != 0) = true := by simpa using h6
 by_cases hbad : x.f8 = 0 ∨ x.f9 = 0 ∨ fk = false
 ·rw [if_pos hbad] at HR
  have HSN := Lh (fun (w : World) (ccs : Array Value) (hb : Below W2.heap.size W2 w) (hk : Stb B w fun W' => Kd.K k65 W' wrongC ccs.toList) => send_ms HM2.out hb (by simp) wrongC ccs hk x.f6)
  by_cases h8 : x.f8 = 0
  ·rw [h8] at c8
   go_upto_region 9 with (fail)
   refine grow_v (B := iak9B9) [0, 1, 2, 3, 4] [1, 4] (WrI B W2 (Rt B W0 g K m [actSend wrongC x.f6] W2)) (fun vs => [(0, 56, .pointer (some ⟨g, 0, none⟩)), (1, 57, vs 1), (2, 58, .pointer (some ⟨gc, 6, none⟩)), (3, 59, .int .u32 x.f6), (4, 60, vs 2)]) (by kernel_rfl) rfl (l := #[false, false, false, false, false]) rfl iak9tab9 iak9bits9 (by kernel_rfl) (by kernel_rfl) (fun _ => rfl) rfl (fun _ => undef) ?_ ?_ ?_
   ·exact pw_below_drewN (Below.refl _ _) 1
   ·exact steps_cons (gv_op 0 1 [(2, fun vs => .pointer (some ⟨g, 0, none⟩))] 0 0 (fv := fun vs => .pointer (some ⟨g, 0, none⟩)) rfl rfl (wt_none rfl) (fun _ => rfl) (fun _ => rfl) rfl rfl (by kernel_rfl) (by kernel_rfl) ⟨rd_off (p := 2) (fun _ => rfl) rfl, trivial⟩ (fun a w s vs hm hs h e => by
     obtain ⟨e2, _⟩ := e
     replace e2 : a.tmps[2]? = some (.pointer (some ⟨g, 0, none⟩)) := e2
     go_simp)) (steps_cons (gv_call (vals := fun vs => []) 1 1 0 rfl rfl (wt_none rfl) rfl (fun _ => rfl) (fun _ _ => rfl) (fun _ => rfl) rfl (by kernel_rfl) Tryz.func110 (by kernel_rfl) rfl rfl (arv_n) (fun vs w h => (wrong_calls (B := B) w).mono fun e w' ⟨ccs, he, hk, hb⟩ => ⟨_, he, ccs, rfl, hk, h.trans (hb.mono h.size)⟩)) (steps_cons (gv_op 0 1 [(3, fun vs => .pointer (some ⟨gc, 0, none⟩))] 2 2 (fv := fun vs => .pointer (some ⟨gc, 6, none⟩)) rfl rfl (wt_none rfl) (fun _ => rfl) (fun _ => rfl) rfl rfl (by kernel_rfl) (by kernel_rfl) ⟨rd_off (p := 3) (fun _ => rfl) rfl, trivial⟩ (fun a w s vs hm hs h e => by
     obtain ⟨e3, _⟩ := e
     replace e3 : a.tmps[3]? = some (.pointer (some ⟨gc, 0, none⟩)) := e3
     go_simp)) (steps_cons (gv_op 0 1 [(58, fun vs => .pointer (some ⟨gc, 6, none⟩))] 3 3 (fv := fun vs => .int .u32 x.f6) rfl rfl (wt_none rfl) (fun _ => rfl) (fun _ => rfl) rfl rfl (by kernel_rfl) (by kernel_rfl) ⟨rd_on (p := 58) 2 2 (fun _ => rfl) (fun _ => rfl) (by kernel_rfl) rfl, trivial⟩ (fun a w s vs hm hs h e => by
     obtain ⟨e58, _⟩ := e
     replace e58 : a.tmps[58]? = some (.pointer (some ⟨gc, 6, none⟩)) := e58
     have hs : w.cell? ⟨gc, 6, none⟩ = some (.int .u32 x.f6) := blk_cell (blk_below HGC2.out (wr_below h (by omega))) 6
     go_simp; first | done | rfl)) (steps_cons (gv_call (vals := fun vs => [.pointer (some ⟨g, 0, none⟩), vs 1, .int .u32 x.f6]) 4 4 1 rfl rfl (wt_none rfl) rfl (fun _ => rfl) (fun _ _ => rfl) (fun _ => rfl) rfl (by kernel_rfl) Tryz.func81 (by kernel_rfl) rfl rfl (arv_t (rd_on (p := 56) 0 0 (fun _ => rfl) (fun _ => rfl) (by kernel_rfl) rfl) (arv_t (rd_on (p := 57) 1 1 (fun _ => rfl) (fun _ => rfl) (by kernel_rfl) rfl) (arv_t (rd_on (p := 59) 3 3 (fun _ => rfl) (fun _ => rfl) (by kernel_rfl) rfl) (arv_n)))) (fun vs w h => by obtain ⟨ccs, hv, hk, hb⟩ := h; have H := HSN.out w ccs hb hk; rw [← hv] at H; exact H.mono (fun e w' hP => ⟨_, hP.1, rfl, hP.2⟩))) steps_nil))))
   intro vs W5 hI5
   obtain ⟨_, h1, h2⟩ := hI5
   have H1 := Lh h1
   clear h1 h2
   simp only [putSel, if_true, Act.put, List.setIfInBounds_toArray, List.set_cons_zero, List.set_cons_succ]
   go_wp2_with fail
   refine (down_ms H1.out (by simp) 7).mono ?_
   rintro e w3 ⟨rfl, hM3, hQ3⟩
   go_wp2
   refine bodyPost_ret (results_none rfl _ _ _) rfl ?_
   rw [← HR.out]
   exact ⟨rfl, hM3⟩
  have h8a : decide (x.f8 = 0) = false := decide_eq_false h8
  have h8b : (x.f8 == 0) = false := by simpa using h8
  have h8c : (x.f8 != 0) = true := by simpa using h8
  by_cases h9 : x.f9 = 0
  ·rw [h9] at c9
   go_upto_region 9 with (fail)
   refine grow_v (B := iak9B9) [0, 1, 2, 3, 4] [1, 4] (WrI B W2 (Rt B W0 g K m [actSend wrongC x.f6] W2)) (fun vs => [(0, 56, .pointer (some ⟨g, 0, none⟩)), (1, 57, vs 1), (2, 58, .pointer (some ⟨gc, 6, none⟩)), (3, 59, .int .u32 x.f6), (4, 60, vs 2)]) (by kernel_rfl) rfl (l := #[false, false, false, false, false]) rfl iak9tab9 iak9bits9 (by kernel_rfl) (by kernel_rfl) (fun _ => rfl) rfl (fun _ => undef) ?_ ?_ ?_
   ·exact pw_below_drewN (Below.refl _ _) 1
   ·exact steps_cons (gv_op 0 1 [(2, fun vs => .pointer (some ⟨g, 0, none⟩))] 0 0 (fv := fun vs => .pointer (some ⟨g, 0, none⟩)) rfl rfl (wt_none rfl) (fun _ => rfl) (fun _ => rfl) rfl rfl (by kernel_rfl) (by kernel_rfl) ⟨rd_off (p := 2) (fun _ => rfl) rfl, trivial⟩ (fun a w s vs hm hs h e => by
     obtain ⟨e2, _⟩ := e
     replace e2 : a.tmps[2]? = some (.pointer (some ⟨g, 0, none⟩)) := e2
     go_simp)) (steps_cons (gv_call (vals := fun vs => []) 1 1 0 rfl rfl (wt_none rfl) rfl (fun _ => rfl) (fun _ _ => rfl) (fun _ => rfl) rfl (by kernel_rfl) Tryz.func110 (by kernel_rfl) rfl rfl (arv_n) (fun vs w h => (wrong_calls (B := B) w).mono fun e w' ⟨ccs, he, hk, hb⟩ => ⟨_, he, ccs, rfl, hk, h.trans (hb.mono h.size)⟩)) (steps_cons (gv_op 0 1 [(3, fun vs => .pointer (some ⟨gc, 0, none⟩))] 2 2 (fv := fun vs => .pointer (some ⟨gc, 6, none⟩)) rfl rfl (wt_none rfl) (fun _ => rfl) (fun _ => rfl) rfl rfl (by kernel_rfl) (by kernel_rfl) ⟨rd_off (p := 3) (fun _ => rfl) rfl, trivial⟩ (fun a w s vs hm hs h e => by
     obtain ⟨e3, _⟩ := e
     replace e3 : a.tmps[3]? = some (.pointer (some ⟨gc, 0, none⟩)) := e3
     go_simp)) (steps_cons (gv_op 0 1 [(58, fun vs => .pointer (some ⟨gc, 6, none⟩))] 3 3 (fv := fun vs => .int .u32 x.f6) rfl rfl (wt_none rfl) (fun _ => rfl) (fun _ => rfl) rfl rfl (by kernel_rfl) (by kernel_rfl) ⟨rd_on (p := 58) 2 2 (fun _ => rfl) (fun _ => rfl) (by kernel_rfl) rfl, trivial⟩ (fun a w s vs hm hs h e => by
     obtain ⟨e58, _⟩ := e
     replace e58 : a.tmps[58]? = some (.pointer (some ⟨gc, 6, none⟩)) := e58
     have hs : w.cell? ⟨gc, 6, none⟩ = some (.int .u32 x.f6) := blk_cell (blk_below HGC2.out (wr_below h (by omega))) 6
     go_simp; first | done | rfl)) (steps_cons (gv_call (vals := fun vs => [.pointer (some ⟨g, 0, none⟩), vs 1, .int .u32 x.f6]) 4 4 1 rfl rfl (wt_none rfl) rfl (fun _ => rfl) (fun _ _ => rfl) (fun _ => rfl) rfl (by kernel_rfl) Tryz.func81 (by kernel_rfl) rfl rfl (arv_t (rd_on (p := 56) 0 0 (fun _ => rfl) (fun _ => rfl) (by kernel_rfl) rfl) (arv_t (rd_on (p := 57) 1 1 (fun _ => rfl) (fun _ => rfl) (by kernel_rfl) rfl) (arv_t (rd_on (p := 59) 3 3 (fun _ => rfl) (fun _ => rfl) (by kernel_rfl) rfl) (arv_n)))) (fun vs w h => by obtain ⟨ccs, hv, hk, hb⟩ := h; have H := HSN.out w ccs hb hk; rw [← hv] at H; exact H.mono (fun e w' hP => ⟨_, hP.1, rfl, hP.2⟩))) steps_nil))))
   intro vs W5 hI5
   obtain ⟨_, h1, h2⟩ := hI5
   have H1 := Lh h1
   clear h1 h2
   simp only [putSel, if_true, Act.put, List.setIfInBounds_toArray, List.set_cons_zero, List.set_cons_succ]
   go_wp2_with fail
   refine (down_ms H1.out (by simp) 7).mono ?_
   rintro e w3 ⟨rfl, hM3, hQ3⟩
   go_wp2
   refine bodyPost_ret (results_none rfl _ _ _) rfl ?_
   rw [← HR.out]
   exact ⟨rfl, hM3⟩
  have h9a : decide (x.f9 = 0) = false := decide_eq_false h9
  have h9b : (x.f9 == 0) = false := by simpa using h9
  have h9c : (x.f9 != 0) = true := by simpa using h9
  obtain rfl : fk = false := (hbad.resolve_left h8).resolve_left h9
  go_upto_region 9 with (fail)
  refine grow_v (B := iak9B9) [0, 1, 2, 3, 4] [1, 4] (WrI B W2 (Rt B W0 g K m [actSend wrongC x.f6] W2)) (fun vs => [(0, 56, .pointer (some ⟨g, 0, none⟩)), (1, 57, vs 1), (2, 58, .pointer (some ⟨gc, 6, none⟩)), (3, 59, .int .u32 x.f6), (4, 60, vs 2)]) (by kernel_rfl) rfl (l := #[false, false, false, false, false]) rfl iak9tab9 iak9bits9 (by kernel_rfl) (by kernel_rfl) (fun _ => rfl) rfl (fun _ => undef) ?_ ?_ ?_
  ·exact pw_below_drewN (Below.refl _ _) 1
  ·exact steps_cons (gv_op 0 1 [(2, fun vs => .pointer (some ⟨g, 0, none⟩))] 0 0 (fv := fun vs => .pointer (some ⟨g, 0, none⟩)) rfl rfl (wt_none rfl) (fun _ => rfl) (fun _ => rfl) rfl rfl (by kernel_rfl) (by kernel_rfl) ⟨rd_off (p := 2) (fun _ => rfl) rfl, trivial⟩ (fun a w s vs hm hs h e => by
    obtain ⟨e2, _⟩ := e
    replace e2 : a.tmps[2]? = some (.pointer (some ⟨g, 0, none⟩)) := e2
    go_simp)) (steps_cons (gv_call (vals := fun vs => []) 1 1 0 rfl rfl (wt_none rfl) rfl (fun _ => rfl) (fun _ _ => rfl) (fun _ => rfl) rfl (by kernel_rfl) Tryz.func110 (by kernel_rfl) rfl rfl (arv_n) (fun vs w h => (wrong_calls (B := B) w).mono fun e w' ⟨ccs, he, hk, hb⟩ => ⟨_, he, ccs, rfl, hk, h.trans (hb.mono h.size)⟩)) (steps_cons (gv_op 0 1 [(3, fun vs => .pointer (some ⟨gc, 0, none⟩))] 2 2 (fv := fun vs => .pointer (some ⟨gc, 6, none⟩)) rfl rfl (wt_none rfl) (fun _ => rfl) (fun _ => rfl) rfl rfl (by kernel_rfl) (by kernel_rfl) ⟨rd_off (p := 3) (fun _ => rfl) rfl, trivial⟩ (fun a w s vs hm hs h e => by
    obtain ⟨e3, _⟩ := e
    replace e3 : a.tmps[3]? = some (.pointer (some ⟨gc, 0, none⟩)) := e3
    go_simp)) (steps_cons (gv_op 0 1 [(58, fun vs => .pointer (some ⟨gc, 6, none⟩))] 3 3 (fv := fun vs => .int .u32 x.f6) rfl rfl (wt_none rfl) (fun _ => rfl) (fun _ => rfl) rfl rfl (by kernel_rfl) (by kernel_rfl) ⟨rd_on (p := 58) 2 2 (fun _ => rfl) (fun _ => rfl) (by kernel_rfl) rfl, trivial⟩ (fun a w s vs hm hs h e => by
    obtain ⟨e58, _⟩ := e
    replace e58 : a.tmps[58]? = some (.pointer (some ⟨gc, 6, none⟩)) := e58
    have hs : w.cell? ⟨gc, 6, none⟩ = some (.int .u32 x.f6) := blk_cell (blk_below HGC2.out (wr_below h (by omega))) 6
    go_simp; first | done | rfl)) (steps_cons (gv_call (vals := fun vs => [.pointer (some ⟨g, 0, none⟩), vs 1, .int .u32 x.f6]) 4 4 1 rfl rfl (wt_none rfl) rfl (fun _ => rfl) (fun _ _ => rfl) (fun _ => rfl) rfl (by kernel_rfl) Tryz.func81 (by kernel_rfl) rfl rfl (arv_t (rd_on (p := 56) 0 0 (fun _ => rfl) (fun _ => rfl) (by kernel_rfl) rfl) (arv_t (rd_on (p := 57) 1 1 (fun _ => rfl) (fun _ => rfl) (by kernel_rfl) rfl) (arv_t (rd_on (p := 59) 3 3 (fun _ => rfl) (fun _ => rfl) (by kernel_rfl) rfl) (arv_n)))) (fun vs w h => by obtain ⟨ccs, hv, hk, hb⟩ := h; have H := HSN.out w ccs hb hk; rw [← hv] at H; exact H.mono (fun e w' hP => ⟨_, hP.1, rfl, hP.2⟩))) steps_nil))))
  intro vs W5 hI5
  obtain ⟨_, h1, h2⟩ := hI5
  have H1 := Lh h1
  clear h1 h2
  simp only [putSel, if_true, Act.put, List.setIfInBounds_toArray, List.set_cons_zero, List.set_cons_succ]
  go_wp2_with fail
  refine (down_ms H1.out (by simp) 7).mono ?_
  rintro e w3 ⟨rfl, hM3, hQ3⟩
  go_wp2
  refine bodyPost_ret (results_none rfl _ _ _) rfl ?_
  rw [← HR.out]
  exact ⟨rfl, hM3⟩
 rw [if_neg hbad] at HR
 have h8 : ¬ x.f8 = 0 := fun h => hbad (Or.inl h)
 have h9 : ¬ x.f9 = 0 := fun h => hbad (Or.inr (Or.inl h))
 obtain rfl : fk = true := by simpa using fun h => hbad (Or.inr (Or.inr h))
 have h8a : decide (x.f8 = 0) = false := decide_eq_false h8
 have h8b : (x.f8 == 0) = false := by simpa using h8
 have h8c : (x.f8 != 0) = true := by simpa using h8
 have h9a : decide (x.f9 = 0) = false := decide_eq_false h9
 have h9b : (x.f9 == 0) = false := by simpa using h9
 have h9c : (x.f9 != 0) = true := by simpa using h9
 have k29 := HM2.out.k29
 have k30 := HM2.out.k30
 go_upto_region 11 with (fail)
 refine wp_then 24 (by kernel_rfl) (by kernel_rfl) ?_
 simp only [tks, tk0, dks, dk0]
 repeat (go_big_quiet_step (fail))
 refine wpQuiet_nil ?_
 rintro _ ⟨nq, rfl⟩
 obtain ⟨p3, hp3⟩ : ∃ p3, (if x.f9 < K.out then x.f9 else K.out) = p3 := ⟨_, rfl⟩
 obtain ⟨p4, hp4⟩ : ∃ p4, (if x.f8 < K.inn then x.f8 else K.inn) = p4 := ⟨_, rfl⟩
 rw [hp3, hp4]
 have HP3 := Lh (show minI K.out x.f9 = p3 from hp3)
 have HP4 := Lh (show minI K.inn x.f8 = p4 from hp4)
 rw [HP3.out, HP4.out] at HR
 clear hp3 hp4
 clear c2 c6 c7 c8 c9 k29 k30 h6a h6b h6c h8a h8b h8c h9a h9b h9c
 have HTH := Lh ((HM2.out.drewN nq).there 3 5 (by decide))
 have HM3 := Lh ((HM2.out.drewN nq).setp ⟨x.f6, x.f2, x.f7, p3, p4⟩)
 have HK3 := Lh ((Kq.of_below (pw_below_drewN (Below.refl W2.heap.size W2) nq)).trans ((HM2.out.drewN nq).ksetp (B := B) ⟨x.f6, x.f2, x.f7, p3, p4⟩))
 go_upto_region 12 with (refine wpList_store_mid rfl 71 _ _ rfl g 3 #[.int .u32 x.f6, .int .u32 x.f2, .int .u32 x.f7, .int .u16 p3, .int .u16 p4] rfl rfl HTH.out (by kernel_rfl) (by simp [Value.oneCell']) ?_)
 clear HTH
 have HC3 := Lh (HC.out _ HK3.out)
 generalize (W2.drewN nq).setCells g 3 [.int .u32 x.f6, .int .u32 x.f2, .int .u32 x.f7, .int .u16 p3, .int .u16 p4] = W3 at *
 have HE3 := Lh (empty_R W3)
 have HC4 := Lh (Kd.C_below HC3.out (below_alloc (Below.refl _ _) (.cells #[] 5)))
 go_upto_region 13 with (at_builtin; go_must (refine Kd.R_append_row (fun b : UInt8 => .int .u8 (b.toNat : Int)) (0 : UInt8) (w0 := W3) W3.heap.size rfl _ _ 62 5 _ 1 rfl Tryz.underlying62 info_u8 rfl (by decide) _ [] fl A1 fl.length c1 (fun _ => True) rfl rfl (fun _ _ => trivial) HE3.out HC4.out ((Below.refl _ _).alloc (Nat.le_refl _) _) (by simp) (by have := HFL.out; simpa using this) ?_); (intro v1 w1 hR1 hB1 hG1 hat; have HR1 := Lh hR1; have HB1 := Lh hB1; clear hR1 hB1 hG1 hat; refine RowKit.Hid.out ?_))
 refine Lh ?_
 obtain ⟨A7, c7, rfl, hl7, hS7⟩ := R_stable byte (B := B) (by decide) HR1.out
 have HM4 := Lh (HM3.out.below HB1.out)
 have HM5 := Lh (HM4.out.set8 A7 c7 fl (by simpa using hl7) ⟨HFL.out, hS7⟩)
 clear hS7 hl7 HR1 HC3 HC4 HE3
 obtain ⟨A8, c8, hs8, _, _⟩ := HM4.out.ck
 have hf8 := HM4.out.fz 8
 go_upto_region 13 with (fail)
 clear hs8 hf8
 generalize w1.setCell ⟨g, 8, none⟩ (.slice A7 fl.length c7) = W5 at *
 have k0' := HM5.out.k0
 have f0' := HM5.out.fz 0
 have k9' := (HM5.out.set0 2).k9
 have f9' := (HM5.out.set0 2).fz 9
 have HM6 := Lh ((HM5.out.set0 2).set9 0)
 go_upto_region 14 with (fail)
 clear k0' f0' k9' f9'
 generalize (W5.setCell ⟨g, 0, none⟩ (.int .i64 2)).setCell ⟨g, 9, none⟩ (.int .i64 0) = W6 at *
 go_wp2_with fail
 refine (sendEcho_ms HM6.out (by simp)).mono ?_
 rintro e w7 ⟨rfl, hM7, hQ7⟩
 go_wp2
 go_end0
 rw [← HR.out]
 exact ⟨rfl, hM7⟩
end
end Go.Proofs.YthiaakjbapgibaaGreat.As
end
