/- The texts of one proof, merged: part 5. -/
import Derived.Test.YtdlamomabonkjaaDoorUe4
import Derived.Lib.SlBytesConst
import Derived.Test.YtdlamomabonkjaaDoorProg
import Derived.WalkSpells
import Derived.Deep.RegionWith
set_option maxRecDepth 100000
set_option linter.unusedVariables false
set_option linter.unusedSimpArgs false
section
namespace Go.Proofs.YtdlamomabonkjaaDoor.Ch
open Go.RowKit YtdlamomabonkjaaDoorW.PrintWords YtdlamomabonkjaaDoorW.PrintLast Base PCh ParDec ParEnc
def rcheckT1 : Bool × List (List Nat × List Nat) := (true, [([], []), ([], []), ([1], [1]), ([0, 2, 2], [0, 2]), ([3], [3])])
def rcheckB1 : List Nat := [0, 0, 2, 7, 15]
theorem rchecktab1 : Go.Proofs.YtdlamomabonkjaaDoorW.PrintLast.rtab .any (Go.Proofs.YtdlamomabonkjaaDoorW.PrintLast.opsOf Tryd.f13 1) = rcheckT1 := by kernel_rfl
theorem rcheckbits1 : Go.Proofs.YtdlamomabonkjaaDoorW.PrintLast.waitsOk rcheckT1.2 rcheckB1 = true := by kernel_rfl
theorem encP_code (ps : List PrmS) : (encP ps).2 = 0 ∨ (encP ps).2 = 2 ∨ (encP ps).2 = 3 := by
 unfold encP
 by_cases h : ps.length > 256
 ·rw [if_pos h]; exact Or.inr (Or.inr rfl)
 rw [if_neg h]
 by_cases hs : allShort ps
 ·rw [runB_short ps hs]; exact Or.inl rfl
 ·rw [runB_long ps hs]; exact Or.inr (Or.inl rfl)
theorem rb4_f {a : Int} (h : a = 4 ∨ a = 5) (b1 b2 b3 b4 b5 b6 b7 b8 b9 : Int) (l0 l1 : List GapS) (l2 l3 : List Int) (l4 : List PrmS) : ropewalkref06_beat.f a b1 b2 b3 b4 b5 b6 b7 b8 b9 l0 l1 l2 l3 l4 = some true := by
 unfold ropewalkref06_beat.f
 rcases h with rfl | rfl <;> simp
theorem nobeat_f {a : Int} (h : ¬ (a = 4 ∨ a = 5)) (b1 b2 b3 b4 b5 b6 b7 b8 b9 : Int) (l0 l1 : List GapS) (l2 l3 : List Int) (l4 : List PrmS) : ropewalkref06_beat.f a b1 b2 b3 b4 b5 b6 b7 b8 b9 l0 l1 l2 l3 l4 = some false := by
 unfold ropewalkref06_beat.f
 rw [if_neg (by omega)]
 simp
 omega
theorem okB_bare {x : Chk} (h : OkB x) : OkB (bareD x) := by
 refine ⟨fun b hb => ?_, fun p hp => ?_⟩
 ·unfold bareD keepF at hb
  dsimp only at hb
  by_cases e : hasF x.f0 13 = true
  ·rw [if_pos e] at hb; exact h.body b hb
  ·rw [if_neg e] at hb; cases hb
 ·unfold bareD keepF at hp
  dsimp only at hp
  by_cases e : hasF x.f0 14 = true
  ·rw [if_pos e] at hp; exact h.prm p hp
  ·rw [if_neg e] at hp; cases hp
theorem prm_one {w : World} {x : Chk} {L : Lay} {p : PrmS} (h : CR w x L) (hp : x.f14 = [p]) : ∃ ad, L.A14 = some ad ∧ w.cell? ad = some (.int .u16 p.f0) := by
 obtain ⟨ad, _, _, e, x0, _⟩ := at_T72 h.h14 (0 : Int) (by omega) (by rw [hp]; simp)
 refine ⟨ad, e, ?_⟩
 rw [hp] at x0
 exact x0
set_option maxHeartbeats 8000000 in
theorem rcheck_calls (w : World) (x : Chk) (L : Lay) (hx : CR w x L) (hok : OkC x) :
  Calls Tryd.prog 13 #[.agg (CV x L)] w fun e w' => e = .returned (.int .i64 (checkD x)) ∧ Below w.heap.size w w' := by
 have HBR := Lh (fun (W : World) (h : Below w.heap.size w W) => rbare_calls W x L hok.r0.1 hok.r1.1 hok.r1.2)
 have hokb : OkB (bareD x) := okB_bare hok.okB
 have HSM := Lh (fun (W : World) (h : Below w.heap.size w W) => rsame_calls W x (bareD x) L (keepL (hasF x.f0) L) (hx.below h) (keep_CR (hx.below h) _ _) hok.okB hokb)
 have HEN := Lh (fun (W : World) (h : Below w.heap.size w W) => encR_calls W L.A14 L.c14 x.f14 (Kd.C_below hx.h14 h) hx.l14)
 have HXC := Lh (fun (W : World) (h : Below w.heap.size w W) => hx.below h)
 have HXS := Lh (show (Tryd.prog.info? 41).map (·.size) = some (CV x L).size by kernel_rfl)
 have HM13 := Lh hx.h13.2.1
 have HM14 := Lh hx.h14.2.1
 have HL13 := Lh hok.l13
 obtain ⟨CD, hcd⟩ : ∃ CD, checkD x = CD := ⟨_, rfl⟩
 have HCD := Lh hcd
 rw [hcd]
 have X := B1.new w x L
 clear hx hcd hok hokb
 go_enter Tryd.func13, Tryd.ntmps13
 go_upto_region 1 with (fail)
 refine wp_gen (B1 w x L) X ?_
 clear X
 intro W X
 obtain ⟨q, hq⟩ : ∃ q, decide (x = bareD x) = q := ⟨_, rfl⟩
 rw [hq] at HSM
 have HQ := Lh hq
 clear hq
 have HX0 := Lh X
 have B := True.intro
 refine start_ (n := 5) (S := fun w' => True) (ds := []) #[false, false, false, false, false] (by kernel_rfl) rfl rfl trivial (fun hHeld => ?_)
 refine with_tabW rchecktab1 rcheckbits1 (fun HT_ HW_ => ?_)
 refine inv_at [0, 1, 2, 3, 4] (fun a0_ b a w' => a = putSel a0_ b [(0, 5, .agg (CV x L)), (1, 6, .agg (CV x L)), (2, 7, .agg (CV (bareD x) (keepL (hasF x.f0) L))), (3, 8, .bool q), (4, 9, .bool (!q))] ∧ (Below W.heap.size W w')) HT_.out HW_.out (by kernel_rfl) (by kernel_rfl) ?_ ?_ ?_
 ·exact ⟨by simp only [putSel, Bool.false_eq_true, if_false], below_drew (Below.refl _ _)⟩
 ·skip
  clear B
  refine sc rfl ?_ ?_
  ·rintro b a w' ⟨ha, Q_B⟩ hb_ hon hoff K hK
   have e1 : a.tmps[1]? = some (.pointer (some ⟨w.heap.size, 0, none⟩)) := by rw [ha]; exact (putSel_off rfl).trans rfl
   replace ha := Am ha
   have B := Am Q_B
   refine value_ (w1 := w') (v := .agg (CV x L)) (by rfl) rfl (exec_load_row 41 (.tmp 1) rfl (eval_of e1) (blk_below HX0.out.x0 B.out) Tryd.underlying41 rfl HXS.out) ?_
   refine hK.out _ _ ⟨(puk ha 0 hb_ rfl rfl rfl), B.out⟩
  refine sc rfl ?_ ?_
  ·rintro b a w' ⟨ha, Q_B⟩ hb_ hon hoff K hK
   have e1 : a.tmps[1]? = some (.pointer (some ⟨w.heap.size, 0, none⟩)) := by rw [ha]; exact (putSel_off rfl).trans rfl
   replace ha := Am ha
   have B := Am Q_B
   refine value_ (w1 := w') (v := .agg (CV x L)) (by rfl) rfl (exec_load_row 41 (.tmp 1) rfl (eval_of e1) (blk_below HX0.out.x0 B.out) Tryd.underlying41 rfl HXS.out) ?_
   refine hK.out _ _ ⟨(puk ha 1 hb_ rfl rfl rfl), B.out⟩
  refine sc rfl ?_ ?_
  ·rintro b a w' ⟨ha, Q_B⟩ hb_ hon hoff K hK
   have e6 := psn ha 1 rfl rfl (hon 1 (by kernel_rfl)) rfl
   replace ha := Am ha
   have B := Am Q_B
   refine goes_ Tryd.func33 (by kernel_rfl) rfl #[.agg (CV x L)] (by rfl) rfl rfl (by first | (simp only [List.map_toArray, List.map_cons, List.map_nil, Act.eval, Array.getD_eq_getD_getElem?, Option.getD_some, e6]; done) | (simp only [List.map_toArray, List.map_cons, List.map_nil, Act.eval, Array.getD_eq_getD_getElem?, Option.getD_some, e6]; rfl)) ?_
   refine (HBR.out w' (HX0.out.below B.out).x2).mono ?_
   rintro e w1 ⟨rfl, hB1⟩
   refine ⟨_, rfl, ?_⟩
   refine hK.out _ _ ⟨(puk ha 2 hb_ rfl rfl rfl), B.out.trans (hB1.mono B.out.size)⟩
  refine sc rfl ?_ ?_
  ·rintro b a w' ⟨ha, Q_B⟩ hb_ hon hoff K hK
   have e5 := psn ha 0 rfl rfl (hon 0 (by kernel_rfl)) rfl
   have e7 := psn ha 2 rfl rfl (hon 2 (by kernel_rfl)) rfl
   replace ha := Am ha
   have B := Am Q_B
   refine goes_ Tryd.func32 (by kernel_rfl) rfl #[.agg (CV x L), .agg (CV (bareD x) (keepL (hasF x.f0) L))] (by rfl) rfl rfl (by first | (simp only [List.map_toArray, List.map_cons, List.map_nil, Act.eval, Array.getD_eq_getD_getElem?, Option.getD_some, e5, e7]; done) | (simp only [List.map_toArray, List.map_cons, List.map_nil, Act.eval, Array.getD_eq_getD_getElem?, Option.getD_some, e5, e7]; rfl)) ?_
   refine (HSM.out w' (HX0.out.below B.out).x2).mono ?_
   rintro e w1 ⟨rfl, hB1⟩
   refine ⟨_, rfl, ?_⟩
   refine hK.out _ _ ⟨(puk ha 3 hb_ rfl rfl rfl), B.out.trans (hB1.mono B.out.size)⟩
  refine sc rfl ?_ ?_
  ·rintro b a w' ⟨ha, Q_B⟩ hb_ hon hoff K hK
   have e8 := psn ha 3 rfl rfl (hon 3 (by kernel_rfl)) rfl
   replace ha := Am ha
   refine value_ (w1 := w') (v := .bool (!q)) (by rfl) rfl ?_ ?_
   ·go_simp
    (try simp only [i64_w])
    try rfl
   refine hK.out _ _ ⟨(puk ha 4 hb_ rfl rfl rfl), Q_B⟩
  exact steps_nil
 rintro b a w' hall ⟨ha, Q_B⟩
 clear B
 have hb0_ := hall 0 (by kernel_rfl)
 have hb1_ := hall 1 (by kernel_rfl)
 have hb2_ := hall 2 (by kernel_rfl)
 have hb3_ := hall 3 (by kernel_rfl)
 have hb4_ := hall 4 (by kernel_rfl)
 subst ha
 simp only [putSel, hb0_, hb1_, hb2_, hb3_, hb4_, if_true, Act.put, List.setIfInBounds_toArray, List.set_cons_zero, List.set_cons_succ]
 have B := Am Q_B
 clear Q_B
 clear hall hb0_ hb1_ hb2_ hb3_ hb4_
 replace X := X.below B.out
 clear B HBR HSM HX0
 generalize w' = W at *
 cases q with
 | false =>
  have hC : CD = 63 := by rw [← HCD.out]; unfold checkD; rw [if_pos HQ.out]
  subst hC
  go_wp2
  go_ret
  exact ⟨rfl, X.x2⟩
 | true =>
 have HXE := Lh (show x = bareD x from of_decide_eq_true HQ.out)
 have n1 : ¬ decide (x = bareD x) = false := by rw [HQ.out]; decide
 have hcd := HCD.out
 unfold checkD at hcd
 rw [if_neg n1] at hcd
 clear n1 HCD
 have k0 : W.cell? ⟨w.heap.size, 0, none⟩ = some (.int .u8 x.f0) := X.cell 0
 have k10 : W.cell? ⟨w.heap.size, 10, none⟩ = some (.slice L.A10 x.f10.length L.c10) := X.cell 10
 have k11 : W.cell? ⟨w.heap.size, 11, none⟩ = some (.slice L.A11 x.f11.length L.c11) := X.cell 11
 have k12 : W.cell? ⟨w.heap.size, 12, none⟩ = some (.slice L.A12 x.f12.length L.c12) := X.cell 12
 have k13 : W.cell? ⟨w.heap.size, 13, none⟩ = some (.slice L.A13 x.f13.length L.c13) := X.cell 13
 have k14 : W.cell? ⟨w.heap.size, 14, none⟩ = some (.slice L.A14 x.f14.length L.c14) := X.cell 14
 by_cases h62 : x.f0 = 0 ∧ x.f13.length = 0
 ·rw [if_pos h62] at hcd
  have q0 : (x.f0 == 0) = true := by simp [h62.1]
  have q13 : ((x.f13.length : Int) == 0) = true := by rw [h62.2]; rfl
  subst hcd
  clear h62
  go_wp2
  go_ret
  exact ⟨rfl, X.x2⟩
 rw [if_neg h62] at hcd
 have hbt : beatB x.f14 = true ∨ beatB x.f14 = false := by cases beatB x.f14 <;> simp
 by_cases h61 : (x.f0 = 4 ∨ x.f0 = 5) ∧ beatB x.f14 = false
 ·rw [if_pos h61] at hcd
  have q0 : (x.f0 == 0) = false := by simp; omega
  subst hcd
  by_cases hn : x.f14.length = 1
  ·obtain ⟨p, hp⟩ := List.length_eq_one_iff.1 hn
   have hpf : ¬ p.f0 = 1 := fun e => by
    have := h61.2
    rw [hp] at this
    simp [beatB, e] at this
   have qn : ((x.f14.length : Int) != 1) = false := by rw [hn]; rfl
   have qp : (p.f0 != 1) = true := by simp [hpf]
   have HBT := Lh (fun (W' : World) (h : Below w.heap.size w W') => ropewalkref06_beat.calls x.f0 x.f1 x.f2 x.f3 x.f4 x.f5 x.f6 x.f7 x.f8 x.f9 L.A10 L.c10 x.f10 L.A11 L.c11 x.f11 L.A12 L.c12 x.f12 L.A13 L.c13 x.f13 L.A14 L.c14 x.f14 true W' (HXC.out W' h).h10 (HXC.out W' h).l10 (HXC.out W' h).h11 (HXC.out W' h).l11 (HXC.out W' h).h12 (HXC.out W' h).l12 (HXC.out W' h).h13 (HXC.out W' h).l13 (HXC.out W' h).h14 (HXC.out W' h).l14 (rb4_f h61.1 _ _ _ _ _ _ _ _ _ _ _ _ _ _))
   go_wp2_with (with_reducible refine gate_dst (N := 19) rfl ?_; refine wpList_load_row rfl 41 (.tmp 1) rfl _ rfl 41 _ (0, 0) _ X.x0 Tryd.underlying41 rfl HXS.out ?_)
   refine (HBT.out _ X.x2).mono ?_
   rintro e w2 ⟨rfl, hB2⟩
   replace X := X.below hB2
   clear HBT
   have hAt := HXC.out w2 X.x2
   have x0 := (prm_one hAt hp)
   obtain ⟨ad, hA, x0⟩ := x0
   have k14 : w2.cell? ⟨w.heap.size, 14, none⟩ = some (.slice L.A14 x.f14.length L.c14) := X.cell 14
   rw [hA, hn] at k14
   clear hAt h61 h62 hbt hpf hp hn
   go_wp2
   go_ret
   exact ⟨rfl, X.x2⟩
  ·have qn : ((x.f14.length : Int) != 1) = true := by simp; omega
   have HBT := Lh (fun (W' : World) (h : Below w.heap.size w W') => ropewalkref06_beat.calls x.f0 x.f1 x.f2 x.f3 x.f4 x.f5 x.f6 x.f7 x.f8 x.f9 L.A10 L.c10 x.f10 L.A11 L.c11 x.f11 L.A12 L.c12 x.f12 L.A13 L.c13 x.f13 L.A14 L.c14 x.f14 true W' (HXC.out W' h).h10 (HXC.out W' h).l10 (HXC.out W' h).h11 (HXC.out W' h).l11 (HXC.out W' h).h12 (HXC.out W' h).l12 (HXC.out W' h).h13 (HXC.out W' h).l13 (HXC.out W' h).h14 (HXC.out W' h).l14 (rb4_f h61.1 _ _ _ _ _ _ _ _ _ _ _ _ _ _))
   go_wp2_with (with_reducible refine gate_dst (N := 19) rfl ?_; refine wpList_load_row rfl 41 (.tmp 1) rfl _ rfl 41 _ (0, 0) _ X.x0 Tryd.underlying41 rfl HXS.out ?_)
   refine (HBT.out _ X.x2).mono ?_
   rintro e w2 ⟨rfl, hB2⟩
   replace X := X.below hB2
   clear HBT
   have k14 : w2.cell? ⟨w.heap.size, 14, none⟩ = some (.slice L.A14 x.f14.length L.c14) := X.cell 14
   clear h61 h62 hbt hn
   go_wp2
   go_ret
   exact ⟨rfl, X.x2⟩
 rw [if_neg h61] at hcd
 have HCD := Lh hcd
 clear hcd
 have hq0 : (x.f0 == 0) = true ∧ ((x.f13.length : Int) == 0) = false ∨ (x.f0 == 0) = false := by
  by_cases a0 : x.f0 = 0
  ·exact Or.inl ⟨by simp [a0], by rw [beq_eq_false_iff_ne]; intro e; exact h62 ⟨a0, by omega⟩⟩
  ·exact Or.inr (by simp [a0])
 have hvar : (x.f0 = 4 ∨ x.f0 = 5) ∧ beatB x.f14 = true ∨ ¬ (x.f0 = 4 ∨ x.f0 = 5) := by
  by_cases a4 : x.f0 = 4 ∨ x.f0 = 5
  ·exact Or.inl ⟨a4, hbt.elim id (fun e => absurd ⟨a4, e⟩ h61)⟩
  ·exact Or.inr a4
 have hz : x.f0 = 0 → ¬ (x.f0 = 4 ∨ x.f0 = 5) := by omega
 clear h61 h62 hbt
 rcases hvar with ⟨a4, hbt⟩ | a4
 ·have q0 : (x.f0 == 0) = false := by simp; omega
  clear hq0 hz
  obtain ⟨p, hp, hpf⟩ : ∃ p, x.f14 = [p] ∧ p.f0 = 1 := by
   cases hx14 : x.f14 with
   | nil => rw [hx14] at hbt; cases hbt
   | cons p r =>
    cases r with
    | nil => rw [hx14] at hbt; exact ⟨p, rfl, by simpa [beatB] using hbt⟩
    | cons q r => rw [hx14] at hbt; cases hbt
  have hn : x.f14.length = 1 := by rw [hp]; rfl
  have qn : ((x.f14.length : Int) != 1) = false := by rw [hn]; rfl
  have qp : (p.f0 != 1) = false := by simp [hpf]
  have HBT := Lh (fun (W' : World) (h : Below w.heap.size w W') => ropewalkref06_beat.calls x.f0 x.f1 x.f2 x.f3 x.f4 x.f5 x.f6 x.f7 x.f8 x.f9 L.A10 L.c10 x.f10 L.A11 L.c11 x.f11 L.A12 L.c12 x.f12 L.A13 L.c13 x.f13 L.A14 L.c14 x.f14 true W' (HXC.out W' h).h10 (HXC.out W' h).l10 (HXC.out W' h).h11 (HXC.out W' h).l11 (HXC.out W' h).h12 (HXC.out W' h).l12 (HXC.out W' h).h13 (HXC.out W' h).l13 (HXC.out W' h).h14 (HXC.out W' h).l14 (rb4_f a4 _ _ _ _ _ _ _ _ _ _ _ _ _ _))
  go_wp2_with (with_reducible refine gate_dst (N := 19) rfl ?_; refine wpList_load_row rfl 41 (.tmp 1) rfl _ rfl 41 _ (0, 0) _ X.x0 Tryd.underlying41 rfl HXS.out ?_)
  refine (HBT.out _ X.x2).mono ?_
  rintro e w2 ⟨rfl, hB2⟩
  replace X := X.below hB2
  clear HBT
  have hAt := HXC.out w2 X.x2
  obtain ⟨ad, hA, x0⟩ := prm_one hAt hp
  have k14' : w2.cell? ⟨w.heap.size, 14, none⟩ = some (.slice L.A14 x.f14.length L.c14) := X.cell 14
  rw [hA, hn] at k14'
  clear hAt hbt hpf hp a4 k14
  go_upto_region 7 with (fail)
  refine wp_gen (B1 w x L) X ?_
  clear X k0 k10 k11 k12 k13 k14' x0 q0 qn qp hA hn
  intro W X
  have k10 : W.cell? ⟨w.heap.size, 10, none⟩ = some (.slice L.A10 x.f10.length L.c10) := X.cell 10
  have k11 : W.cell? ⟨w.heap.size, 11, none⟩ = some (.slice L.A11 x.f11.length L.c11) := X.cell 11
  have k12 : W.cell? ⟨w.heap.size, 12, none⟩ = some (.slice L.A12 x.f12.length L.c12) := X.cell 12
  have k14 : W.cell? ⟨w.heap.size, 14, none⟩ = some (.slice L.A14 x.f14.length L.c14) := X.cell 14
  by_cases hm : 4096 < x.f10.length ∨ 4096 < x.f11.length ∨ 4096 < x.f12.length
  ·have hc := HCD.out
   rw [if_pos hm] at hc
   have HEW := Lh (HEN.out W X.x2)
   generalize (encP x.f14).2 = ec at *
   subst hc
   go_wp2_with fail
   refine HEW.out.mono ?_
   rintro e w3 ⟨v0, rfl, hR, hB3⟩
   obtain ⟨A0, c0, rfl⟩ := Kd.R_slice hR
   replace X := X.below hB3
   clear hR hB3 k10 k11 k12 k14
   have k10 : w3.cell? ⟨w.heap.size, 10, none⟩ = some (.slice L.A10 x.f10.length L.c10) := X.cell 10
   have k11 : w3.cell? ⟨w.heap.size, 11, none⟩ = some (.slice L.A11 x.f11.length L.c11) := X.cell 11
   have k12 : w3.cell? ⟨w.heap.size, 12, none⟩ = some (.slice L.A12 x.f12.length L.c12) := X.cell 12
   go_wp2
   all_goals first | (exfalso; omega) | (go_ret; exact ⟨rfl, X.x2⟩)
  have b10 : decide ((4096 : Int) < (x.f10.length : Int)) = false := by simp; omega
  have b11 : decide ((4096 : Int) < (x.f11.length : Int)) = false := by simp; omega
  have b12 : decide ((4096 : Int) < (x.f12.length : Int)) = false := by simp; omega
  have HCE := Lh HCD.out
  rw [if_neg hm] at HCE
  have l10 : x.f10.length ≤ 4096 := by omega
  have l11 : x.f11.length ≤ 4096 := by omega
  have l12 : x.f12.length ≤ 4096 := by omega
  have HEW := Lh (HEN.out W X.x2)
  have he3 := encP_code x.f14
  by_cases he : (encP x.f14).2 = 0
  ·have HVL := Lh (fun (W' : World) (h : Below w.heap.size w W') => rvalue_calls W' x L (HXC.out W' h) HXE.out l10 l11 l12 HL13.out)
   rw [if_neg (fun e => e he)] at HCE
   rw [he] at HEW
   clear hm he he3
   go_wp2_with fail
   refine HEW.out.mono ?_
   rintro e w3 ⟨v0, rfl, hR, hB3⟩
   obtain ⟨A0, c0, rfl⟩ := Kd.R_slice hR
   replace X := X.below hB3
   clear hR hB3 k10 k11 k12 k14
   have k10 : w3.cell? ⟨w.heap.size, 10, none⟩ = some (.slice L.A10 x.f10.length L.c10) := X.cell 10
   have k11 : w3.cell? ⟨w.heap.size, 11, none⟩ = some (.slice L.A11 x.f11.length L.c11) := X.cell 11
   have k12 : w3.cell? ⟨w.heap.size, 12, none⟩ = some (.slice L.A12 x.f12.length L.c12) := X.cell 12
   go_wp2_with (with_reducible refine gate_dst (N := 64) rfl ?_; go_must (refine step_on (wanted_on rfl rfl rfl rfl) (exec_load_row 41 (.tmp 1) rfl rfl X.x0 Tryd.underlying41 rfl HXS.out) ?_))
   refine (HVL.out _ X.x2).mono ?_
   rintro e w5 ⟨v9, rfl, hR5, hB5⟩
   obtain ⟨A9, c9, rfl⟩ := Kd.R_slice hR5
   replace X := X.below hB5
   clear hR5 hB5
   generalize (valueD x).length = vl at *
   by_cases h2 : 65531 < vl
   ·have hc := HCE.out
    rw [if_pos h2] at hc
    subst hc
    go_wp2
    go_ret
    exact ⟨rfl, X.x2⟩
   ·have hc := HCE.out
    rw [if_neg h2] at hc
    subst hc
    go_wp2
    go_ret
    exact ⟨rfl, X.x2⟩
  ·have hc := HCE.out
   rw [if_pos he] at hc
   rw [hc] at HEW he he3
   rcases he3 with rfl | rfl | rfl
   ·exact absurd rfl he
   ·clear hm he hc
    go_wp2_with fail
    refine HEW.out.mono ?_
    rintro e w3 ⟨v0, rfl, hR, hB3⟩
    obtain ⟨A0, c0, rfl⟩ := Kd.R_slice hR
    replace X := X.below hB3
    clear hR hB3 k10 k11 k12 k14
    have k10 : w3.cell? ⟨w.heap.size, 10, none⟩ = some (.slice L.A10 x.f10.length L.c10) := X.cell 10
    have k11 : w3.cell? ⟨w.heap.size, 11, none⟩ = some (.slice L.A11 x.f11.length L.c11) := X.cell 11
    have k12 : w3.cell? ⟨w.heap.size, 12, none⟩ = some (.slice L.A12 x.f12.length L.c12) := X.cell 12
    go_wp2
    go_ret
    exact ⟨rfl, X.x2⟩
   ·clear hm he hc
    go_wp2_with fail
    refine HEW.out.mono ?_
    rintro e w3 ⟨v0, rfl, hR, hB3⟩
    obtain ⟨A0, c0, rfl⟩ := Kd.R_slice hR
    replace X := X.below hB3
    clear hR hB3 k10 k11 k12 k14
    have k10 : w3.cell? ⟨w.heap.size, 10, none⟩ = some (.slice L.A10 x.f10.length L.c10) := X.cell 10
    have k11 : w3.cell? ⟨w.heap.size, 11, none⟩ = some (.slice L.A11 x.f11.length L.c11) := X.cell 11
    have k12 : w3.cell? ⟨w.heap.size, 12, none⟩ = some (.slice L.A12 x.f12.length L.c12) := X.cell 12
    go_wp2
    go_ret
    exact ⟨rfl, X.x2⟩
 ·rcases hq0 with ⟨q0, q13⟩ | q0
  ·clear hz
   have HBT := Lh (fun (W' : World) (h : Below w.heap.size w W') => ropewalkref06_beat.calls x.f0 x.f1 x.f2 x.f3 x.f4 x.f5 x.f6 x.f7 x.f8 x.f9 L.A10 L.c10 x.f10 L.A11 L.c11 x.f11 L.A12 L.c12 x.f12 L.A13 L.c13 x.f13 L.A14 L.c14 x.f14 false W' (HXC.out W' h).h10 (HXC.out W' h).l10 (HXC.out W' h).h11 (HXC.out W' h).l11 (HXC.out W' h).h12 (HXC.out W' h).l12 (HXC.out W' h).h13 (HXC.out W' h).l13 (HXC.out W' h).h14 (HXC.out W' h).l14 (nobeat_f a4 _ _ _ _ _ _ _ _ _ _ _ _ _ _))
   go_wp2_with (with_reducible refine gate_dst (N := 19) rfl ?_; refine wpList_load_row rfl 41 (.tmp 1) rfl _ rfl 41 _ (0, 0) _ X.x0 Tryd.underlying41 rfl HXS.out ?_)
   refine (HBT.out _ X.x2).mono ?_
   rintro e w2 ⟨rfl, hB2⟩
   replace X := X.below hB2
   clear HBT
   clear a4
   go_upto_region 7 with (fail)
   refine wp_gen (B1 w x L) X ?_
   clear X k0 k10 k11 k12 k13 k14 q0 q13
   intro W X
   have k10 : W.cell? ⟨w.heap.size, 10, none⟩ = some (.slice L.A10 x.f10.length L.c10) := X.cell 10
   have k11 : W.cell? ⟨w.heap.size, 11, none⟩ = some (.slice L.A11 x.f11.length L.c11) := X.cell 11
   have k12 : W.cell? ⟨w.heap.size, 12, none⟩ = some (.slice L.A12 x.f12.length L.c12) := X.cell 12
   have k14 : W.cell? ⟨w.heap.size, 14, none⟩ = some (.slice L.A14 x.f14.length L.c14) := X.cell 14
   by_cases hm : 4096 < x.f10.length ∨ 4096 < x.f11.length ∨ 4096 < x.f12.length
   ·have hc := HCD.out
    rw [if_pos hm] at hc
    have HEW := Lh (HEN.out W X.x2)
    generalize (encP x.f14).2 = ec at *
    subst hc
    go_wp2_with fail
    refine HEW.out.mono ?_
    rintro e w3 ⟨v0, rfl, hR, hB3⟩
    obtain ⟨A0, c0, rfl⟩ := Kd.R_slice hR
    replace X := X.below hB3
    clear hR hB3 k10 k11 k12 k14
    have k10 : w3.cell? ⟨w.heap.size, 10, none⟩ = some (.slice L.A10 x.f10.length L.c10) := X.cell 10
    have k11 : w3.cell? ⟨w.heap.size, 11, none⟩ = some (.slice L.A11 x.f11.length L.c11) := X.cell 11
    have k12 : w3.cell? ⟨w.heap.size, 12, none⟩ = some (.slice L.A12 x.f12.length L.c12) := X.cell 12
    go_wp2
    all_goals first | (exfalso; omega) | (go_ret; exact ⟨rfl, X.x2⟩)
   have b10 : decide ((4096 : Int) < (x.f10.length : Int)) = false := by simp; omega
   have b11 : decide ((4096 : Int) < (x.f11.length : Int)) = false := by simp; omega
   have b12 : decide ((4096 : Int) < (x.f12.length : Int)) = false := by simp; omega
   have HCE := Lh HCD.out
   rw [if_neg hm] at HCE
   have l10 : x.f10.length ≤ 4096 := by omega
   have l11 : x.f11.length ≤ 4096 := by omega
   have l12 : x.f12.length ≤ 4096 := by omega
   have HEW := Lh (HEN.out W X.x2)
   have he3 := encP_code x.f14
   by_cases he : (encP x.f14).2 = 0
   ·have HVL := Lh (fun (W' : World) (h : Below w.heap.size w W') => rvalue_calls W' x L (HXC.out W' h) HXE.out l10 l11 l12 HL13.out)
    rw [if_neg (fun e => e he)] at HCE
    rw [he] at HEW
    clear hm he he3
    go_wp2_with fail
    refine HEW.out.mono ?_
    rintro e w3 ⟨v0, rfl, hR, hB3⟩
    obtain ⟨A0, c0, rfl⟩ := Kd.R_slice hR
    replace X := X.below hB3
    clear hR hB3 k10 k11 k12 k14
    have k10 : w3.cell? ⟨w.heap.size, 10, none⟩ = some (.slice L.A10 x.f10.length L.c10) := X.cell 10
    have k11 : w3.cell? ⟨w.heap.size, 11, none⟩ = some (.slice L.A11 x.f11.length L.c11) := X.cell 11
    have k12 : w3.cell? ⟨w.heap.size, 12, none⟩ = some (.slice L.A12 x.f12.length L.c12) := X.cell 12
    go_wp2_with (with_reducible refine gate_dst (N := 64) rfl ?_; go_must (refine step_on (wanted_on rfl rfl rfl rfl) (exec_load_row 41 (.tmp 1) rfl rfl X.x0 Tryd.underlying41 rfl HXS.out) ?_))
    refine (HVL.out _ X.x2).mono ?_
    rintro e w5 ⟨v9, rfl, hR5, hB5⟩
    obtain ⟨A9, c9, rfl⟩ := Kd.R_slice hR5
    replace X := X.below hB5
    clear hR5 hB5
    generalize (valueD x).length = vl at *
    by_cases h2 : 65531 < vl
    ·have hc := HCE.out
     rw [if_pos h2] at hc
     subst hc
     go_wp2
     go_ret
     exact ⟨rfl, X.x2⟩
    ·have hc := HCE.out
     rw [if_neg h2] at hc
     subst hc
     go_wp2
     go_ret
     exact ⟨rfl, X.x2⟩
   ·have hc := HCE.out
    rw [if_pos he] at hc
    rw [hc] at HEW he he3
    rcases he3 with rfl | rfl | rfl
    ·exact absurd rfl he
    ·clear hm he hc
     go_wp2_with fail
     refine HEW.out.mono ?_
     rintro e w3 ⟨v0, rfl, hR, hB3⟩
     obtain ⟨A0, c0, rfl⟩ := Kd.R_slice hR
     replace X := X.below hB3
     clear hR hB3 k10 k11 k12 k14
     have k10 : w3.cell? ⟨w.heap.size, 10, none⟩ = some (.slice L.A10 x.f10.length L.c10) := X.cell 10
     have k11 : w3.cell? ⟨w.heap.size, 11, none⟩ = some (.slice L.A11 x.f11.length L.c11) := X.cell 11
     have k12 : w3.cell? ⟨w.heap.size, 12, none⟩ = some (.slice L.A12 x.f12.length L.c12) := X.cell 12
     go_wp2
     go_ret
     exact ⟨rfl, X.x2⟩
    ·clear hm he hc
     go_wp2_with fail
     refine HEW.out.mono ?_
     rintro e w3 ⟨v0, rfl, hR, hB3⟩
     obtain ⟨A0, c0, rfl⟩ := Kd.R_slice hR
     replace X := X.below hB3
     clear hR hB3 k10 k11 k12 k14
     have k10 : w3.cell? ⟨w.heap.size, 10, none⟩ = some (.slice L.A10 x.f10.length L.c10) := X.cell 10
     have k11 : w3.cell? ⟨w.heap.size, 11, none⟩ = some (.slice L.A11 x.f11.length L.c11) := X.cell 11
     have k12 : w3.cell? ⟨w.heap.size, 12, none⟩ = some (.slice L.A12 x.f12.length L.c12) := X.cell 12
     go_wp2
     go_ret
     exact ⟨rfl, X.x2⟩
  ·clear hz
   have HBT := Lh (fun (W' : World) (h : Below w.heap.size w W') => ropewalkref06_beat.calls x.f0 x.f1 x.f2 x.f3 x.f4 x.f5 x.f6 x.f7 x.f8 x.f9 L.A10 L.c10 x.f10 L.A11 L.c11 x.f11 L.A12 L.c12 x.f12 L.A13 L.c13 x.f13 L.A14 L.c14 x.f14 false W' (HXC.out W' h).h10 (HXC.out W' h).l10 (HXC.out W' h).h11 (HXC.out W' h).l11 (HXC.out W' h).h12 (HXC.out W' h).l12 (HXC.out W' h).h13 (HXC.out W' h).l13 (HXC.out W' h).h14 (HXC.out W' h).l14 (nobeat_f a4 _ _ _ _ _ _ _ _ _ _ _ _ _ _))
   go_wp2_with (with_reducible refine gate_dst (N := 19) rfl ?_; refine wpList_load_row rfl 41 (.tmp 1) rfl _ rfl 41 _ (0, 0) _ X.x0 Tryd.underlying41 rfl HXS.out ?_)
   refine (HBT.out _ X.x2).mono ?_
   rintro e w2 ⟨rfl, hB2⟩
   replace X := X.below hB2
   clear HBT
   clear a4
   go_upto_region 7 with (fail)
   refine wp_gen (B1 w x L) X ?_
   clear X k0 k10 k11 k12 k13 k14 q0
   intro W X
   have k10 : W.cell? ⟨w.heap.size, 10, none⟩ = some (.slice L.A10 x.f10.length L.c10) := X.cell 10
   have k11 : W.cell? ⟨w.heap.size, 11, none⟩ = some (.slice L.A11 x.f11.length L.c11) := X.cell 11
   have k12 : W.cell? ⟨w.heap.size, 12, none⟩ = some (.slice L.A12 x.f12.length L.c12) := X.cell 12
   have k14 : W.cell? ⟨w.heap.size, 14, none⟩ = some (.slice L.A14 x.f14.length L.c14) := X.cell 14
   by_cases hm : 4096 < x.f10.length ∨ 4096 < x.f11.length ∨ 4096 < x.f12.length
   ·have hc := HCD.out
    rw [if_pos hm] at hc
    have HEW := Lh (HEN.out W X.x2)
    generalize (encP x.f14).2 = ec at *
    subst hc
    go_wp2_with fail
    refine HEW.out.mono ?_
    rintro e w3 ⟨v0, rfl, hR, hB3⟩
    obtain ⟨A0, c0, rfl⟩ := Kd.R_slice hR
    replace X := X.below hB3
    clear hR hB3 k10 k11 k12 k14
    have k10 : w3.cell? ⟨w.heap.size, 10, none⟩ = some (.slice L.A10 x.f10.length L.c10) := X.cell 10
    have k11 : w3.cell? ⟨w.heap.size, 11, none⟩ = some (.slice L.A11 x.f11.length L.c11) := X.cell 11
    have k12 : w3.cell? ⟨w.heap.size, 12, none⟩ = some (.slice L.A12 x.f12.length L.c12) := X.cell 12
    go_wp2
    all_goals first | (exfalso; omega) | (go_ret; exact ⟨rfl, X.x2⟩)
   have b10 : decide ((4096 : Int) < (x.f10.length : Int)) = false := by simp; omega
   have b11 : decide ((4096 : Int) < (x.f11.length : Int)) = false := by simp; omega
   have b12 : decide ((4096 : Int) < (x.f12.length : Int)) = false := by simp; omega
   have HCE := Lh HCD.out
   rw [if_neg hm] at HCE
   have l10 : x.f10.length ≤ 4096 := by omega
   have l11 : x.f11.length ≤ 4096 := by omega
   have l12 : x.f12.length ≤ 4096 := by omega
   have HEW := Lh (HEN.out W X.x2)
   have he3 := encP_code x.f14
   by_cases he : (encP x.f14).2 = 0
   ·have HVL := Lh (fun (W' : World) (h : Below w.heap.size w W') => rvalue_calls W' x L (HXC.out W' h) HXE.out l10 l11 l12 HL13.out)
    rw [if_neg (fun e => e he)] at HCE
    rw [he] at HEW
    clear hm he he3
    go_wp2_with fail
    refine HEW.out.mono ?_
    rintro e w3 ⟨v0, rfl, hR, hB3⟩
    obtain ⟨A0, c0, rfl⟩ := Kd.R_slice hR
    replace X := X.below hB3
    clear hR hB3 k10 k11 k12 k14
    have k10 : w3.cell? ⟨w.heap.size, 10, none⟩ = some (.slice L.A10 x.f10.length L.c10) := X.cell 10
    have k11 : w3.cell? ⟨w.heap.size, 11, none⟩ = some (.slice L.A11 x.f11.length L.c11) := X.cell 11
    have k12 : w3.cell? ⟨w.heap.size, 12, none⟩ = some (.slice L.A12 x.f12.length L.c12) := X.cell 12
    go_wp2_with (with_reducible refine gate_dst (N := 64) rfl ?_; go_must (refine step_on (wanted_on rfl rfl rfl rfl) (exec_load_row 41 (.tmp 1) rfl rfl X.x0 Tryd.underlying41 rfl HXS.out) ?_))
    refine (HVL.out _ X.x2).mono ?_
    rintro e w5 ⟨v9, rfl, hR5, hB5⟩
    obtain ⟨A9, c9, rfl⟩ := Kd.R_slice hR5
    replace X := X.below hB5
    clear hR5 hB5
    generalize (valueD x).length = vl at *
    by_cases h2 : 65531 < vl
    ·have hc := HCE.out
     rw [if_pos h2] at hc
     subst hc
     go_wp2
     go_ret
     exact ⟨rfl, X.x2⟩
    ·have hc := HCE.out
     rw [if_neg h2] at hc
     subst hc
     go_wp2
     go_ret
     exact ⟨rfl, X.x2⟩
   ·have hc := HCE.out
    rw [if_pos he] at hc
    rw [hc] at HEW he he3
    rcases he3 with rfl | rfl | rfl
    ·exact absurd rfl he
    ·clear hm he hc
     go_wp2_with fail
     refine HEW.out.mono ?_
     rintro e w3 ⟨v0, rfl, hR, hB3⟩
     obtain ⟨A0, c0, rfl⟩ := Kd.R_slice hR
     replace X := X.below hB3
     clear hR hB3 k10 k11 k12 k14
     have k10 : w3.cell? ⟨w.heap.size, 10, none⟩ = some (.slice L.A10 x.f10.length L.c10) := X.cell 10
     have k11 : w3.cell? ⟨w.heap.size, 11, none⟩ = some (.slice L.A11 x.f11.length L.c11) := X.cell 11
     have k12 : w3.cell? ⟨w.heap.size, 12, none⟩ = some (.slice L.A12 x.f12.length L.c12) := X.cell 12
     go_wp2
     go_ret
     exact ⟨rfl, X.x2⟩
    ·clear hm he hc
     go_wp2_with fail
     refine HEW.out.mono ?_
     rintro e w3 ⟨v0, rfl, hR, hB3⟩
     obtain ⟨A0, c0, rfl⟩ := Kd.R_slice hR
     replace X := X.below hB3
     clear hR hB3 k10 k11 k12 k14
     have k10 : w3.cell? ⟨w.heap.size, 10, none⟩ = some (.slice L.A10 x.f10.length L.c10) := X.cell 10
     have k11 : w3.cell? ⟨w.heap.size, 11, none⟩ = some (.slice L.A11 x.f11.length L.c11) := X.cell 11
     have k12 : w3.cell? ⟨w.heap.size, 12, none⟩ = some (.slice L.A12 x.f12.length L.c12) := X.cell 12
     go_wp2
     go_ret
     exact ⟨rfl, X.x2⟩
end Go.Proofs.YtdlamomabonkjaaDoor.Ch
end
section
namespace Go.Proofs.YtdlamomabonkjaaDoor.Ch
open Go.RowKit YtdlamomabonkjaaDoorW.PrintWords YtdlamomabonkjaaDoorW.PrintLast Base PCh ParDec ParEnc
theorem chunkL_len (x : Chk) : (chunkL x).length = ((valueD x).length + 7) / 4 * 4 := by
 unfold chunkL padL
 simp only [List.length_append, twoL_length, List.length_cons, List.length_nil, List.length_replicate]
 omega
theorem ints_take (v : List UInt8) (n : Nat) : ints (v.take n) = (ints v).take n := by unfold ints; rw [List.map_take]
theorem ints_dr (v : List UInt8) (n : Nat) : ints (v.drop n) = (ints v).drop n := by unfold ints; rw [List.map_drop]
theorem dec_back {x : Chk} (ok : OkC x) (h : ChkOk x) {b : List UInt8} {t : List Int} (hb : ints b = chunkL x ++ t) : decC b = (x, ((chunkL x).length : Int), 0) := by
 have hl := len_ints hb
 have hc := chunkL_len x
 have hv := h.len
 have hq : IntKind.u16.wrap (4 + ((valueD x).length : Int)) = ((4 + (valueD x).length : Nat) : Int) := by simp [IntKind.wrap, IntKind.bits, IntKind.signed]; omega
 rw [List.length_append] at hl
 unfold chunkL at hb
 rw [hq, List.append_assoc, List.append_assoc, List.append_assoc] at hb
 obtain ⟨a, r, rfl, ha, h1⟩ := ints_cons hb
 obtain ⟨c, r, rfl, hc1, h2⟩ := ints_cons h1
 obtain ⟨n1, n2⟩ := be2 (v := r) h2 (by unfold in16; omega)
 have n1' : be (r.take 2) = 4 + (valueD x).length := by omega
 unfold decC
 rw [if_neg (by omega)]
 rw [show ((a :: c :: r).drop 2).take 2 = r.take 2 from rfl, n1', if_neg (by omega), show (a :: c :: r).getD 0 0 = a from rfl, show (a :: c :: r).getD 1 0 = c from rfl, ha, hc1, fl_of h.bare]
 have hvv : ints (((a :: c :: r).take (4 + (valueD x).length)).drop 4) = valueD x := by
  rw [List.drop_take, show 4 + (valueD x).length - 4 = (valueD x).length by omega, ints_take, show (a :: c :: r).drop 4 = r.drop 2 from rfl, n2]
  exact List.take_left
 rw [read_back ok h hvv]
 dsimp only
 rw [show min ((4 + (valueD x).length + 3) / 4 * 4) (a :: c :: r).length = (chunkL x).length by omega]
noncomputable def flatL : List Chk → List Int
 | [] => []
 | x :: r => chunkL x ++ flatL r
theorem run_flat (xs : List Chk) : ∀ acc, (runE acc xs).2 = 0 → (runE acc xs).1 = acc ++ flatL xs ∧ (acc ++ flatL xs).length ≤ max 65536 acc.length := by
 induction xs with
 | nil => intro acc _; exact ⟨(List.append_nil _).symm, by rw [flatL, List.append_nil]; omega⟩
 | cons x r ih =>
  intro acc h
  unfold runE at h ⊢
  by_cases hl : 65536 < (acc ++ chunkL x).length
  ·rw [if_pos hl] at h; cases h
  ·rw [if_neg hl] at h ⊢
   obtain ⟨h1, h2⟩ := ih _ h
   rw [flatL, ← List.append_assoc]
   exact ⟨h1, by omega⟩
theorem run_bad (xs : List Chk) : ∀ acc, (runE acc xs).2 ≠ 0 → (runE acc xs).1 = [] := by
 induction xs with
 | nil => intro acc h; exact absurd rfl h
 | cons x r ih =>
  intro acc h
  unfold runE at h ⊢
  by_cases hl : 65536 < (acc ++ chunkL x).length
  ·rw [if_pos hl]
  ·rw [if_neg hl] at h ⊢
   exact ih _ h
theorem enc_bad {xs : List Chk} (h : (encD xs).2 ≠ 0) : (encD xs).1 = [] := by
 unfold encD at h ⊢
 by_cases hc : chkAll xs = 0
 ·rw [if_pos hc] at h ⊢; exact run_bad xs _ h
 ·rw [if_neg hc]
theorem enc_good {xs : List Chk} (h : (encD xs).2 = 0) : (∀ x ∈ xs, checkD x = 0) ∧ (encD xs).1 = flatL xs ∧ (flatL xs).length ≤ 65536 := by
 unfold encD at h ⊢
 by_cases hc : chkAll xs = 0
 ·rw [if_pos hc] at h ⊢
  obtain ⟨h1, h2⟩ := run_flat xs [] h
  exact ⟨fun x hx => chkAll_mem hc hx, h1, by simpa using h2⟩
 ·rw [if_neg hc] at h; exact absurd h hc
theorem all_back (xs : List Chk) : ∀ (n at_ : Nat) (b : List UInt8) (acc : List Chk), (∀ x ∈ xs, OkC x ∧ checkD x = 0) → ints (b.drop at_) = flatL xs → at_ ≤ b.length → b.length < n + at_ → allD n b at_ acc = (acc ++ xs, 0, 0) := by
 induction xs with
 | nil =>
  intro n at_ b acc _ hb ha hn
  have h0 := len_ints hb
  rw [List.length_drop] at h0
  have h0 : b.length - at_ = 0 := h0
  obtain ⟨m, rfl⟩ : ∃ m, n = m + 1 := ⟨n - 1, by omega⟩
  rw [allD, if_neg (by omega), List.append_nil]
 | cons x r ih =>
  intro n at_ b acc ho hb ha hn
  obtain ⟨o1, o2⟩ := ho x (List.mem_cons_self ..)
  have hd := dec_back o1 (check_ok.1 o2) hb
  have h0 := len_ints hb
  have hc := chunkL_len x
  rw [List.length_drop, flatL, List.length_append] at h0
  obtain ⟨m, rfl⟩ : ∃ m, n = m + 1 := ⟨n - 1, by omega⟩
  rw [allD, if_pos (by omega), hd, if_neg (by simp)]
  dsimp only
  rw [Int.toNat_natCast, ih m _ b _ (fun y hy => ho y (List.mem_cons_of_mem _ hy)) _ (by omega) (by omega), List.append_assoc, List.singleton_append]
  rw [← List.drop_drop, ints_dr, hb, flatL]
  exact List.drop_left
end Go.Proofs.YtdlamomabonkjaaDoor.Ch
end
section
namespace Go.Proofs.YtdlamomabonkjaaDoor.Ch
open Go.RowKit YtdlamomabonkjaaDoorW.PrintWords YtdlamomabonkjaaDoorW.PrintLast Base PCh ParDec ParEnc
def encAT13 : Bool × List (List Nat × List Nat) := (true, [([], []), ([], []), ([1], [1]), ([2], [2]), ([3], [3]), ([], []), ([5], [5]), ([], []), ([7], [7]), ([6, 8], [6, 8]), ([4, 9], [4, 9]), ([0, 0, 1, 2, 3, 4, 5, 6, 7, 8, 9, 10], [0]), ([11, 0, 1, 2, 3, 4, 5, 6, 7, 8, 9, 10], [11]), ([12, 10, 10, 0, 1, 2, 3, 4, 5, 6, 7, 8, 9, 10], [10, 12])])
def encAB13 : List Nat := [0, 0, 2, 6, 14, 0, 32, 0, 128, 480, 1022, 2047, 4095, 8191]
theorem encAtab13 : Go.Proofs.YtdlamomabonkjaaDoorW.PrintLast.rtab .any (Go.Proofs.YtdlamomabonkjaaDoorW.PrintLast.opsOf Tryd.f28 13) = encAT13 := by kernel_rfl
theorem encAbits13 : Go.Proofs.YtdlamomabonkjaaDoorW.PrintLast.waitsOk encAT13.2 encAB13 = true := by kernel_rfl
def encBT16 : Bool × List (List Nat × List Nat) := (true, [([], []), ([], []), ([1], [1]), ([2], [2]), ([3], [3]), ([], []), ([5], [5]), ([6], [6]), ([], []), ([8], [8]), ([7, 9], [7, 9]), ([4, 10, 7], [4, 10]), ([0, 0, 1, 2, 3, 4, 5, 6, 7, 8, 9, 10, 11], [0]), ([12, 0, 1, 2, 3, 4, 5, 6, 7, 8, 9, 10, 11], [12]), ([13, 11, 11, 0, 1, 2, 3, 4, 5, 6, 7, 8, 9, 10, 11], [11, 13])])
def encBB16 : List Nat := [0, 0, 2, 6, 14, 0, 32, 96, 0, 256, 992, 2046, 4095, 8191, 16383]
theorem encBtab16 : Go.Proofs.YtdlamomabonkjaaDoorW.PrintLast.rtab .any (Go.Proofs.YtdlamomabonkjaaDoorW.PrintLast.opsOf Tryd.f28 16) = encBT16 := by kernel_rfl
theorem encBbits16 : Go.Proofs.YtdlamomabonkjaaDoorW.PrintLast.waitsOk encBT16.2 encBB16 = true := by kernel_rfl
set_option maxHeartbeats 4000000 in
theorem encode_chunks (w : World) (A : Option Addr) (c : Nat) (l : List Chk) (hl : Kd.C k41 w A l.length l)
  (hck : ∀ x ∈ l, ∀ W L, CR W x L → Calls Tryd.prog 46 #[.agg (CV x L)] W fun e w' => e = .returned (.int .i64 (checkD x)) ∧ Below W.heap.size W w')
  (hval : ∀ x ∈ l, checkD x = 0 → ∀ W L, w.heap.size ≤ W.heap.size → (∀ W', Below w.heap.size W W' → CR W' x L) → Calls Tryd.prog 52 #[.agg (CV x L)] W (ValQ w.heap.size (valueD x) W)) :
  Calls Tryd.prog 28 #[.slice A l.length c] w fun e w' => ∃ v, e = .returned (.tuple #[v, .int .i64 (encD l).2]) ∧ (Kd.int .u8).R 5 w' w.heap.size (fun _ => True) v (encD l).1 ∧ Below w.heap.size w w' := by
 have HLC := Lh (fun (W : World) (h : Below w.heap.size w W) => Kd.C_below hl h)
 have HCK := Lh hck
 have HVAL := Lh hval
 have HMX := Lh hl.2.1
 obtain ⟨E, hE⟩ : ∃ E, encD l = E := ⟨_, rfl⟩
 rw [hE]
 have HE := Lh hE
 clear hl hck hval hE
 go_enter Tryd.func28, Tryd.ntmps28
 have hm := HMX.out
 go_wp2
 go_loopw [13] (fun v13 wr => ∃ (i : Nat), i ≤ l.length ∧ v13 = .int .i64 (i : Int) ∧ Hid (chkAll (l.drop i) = chkAll l) ∧ Hid (Below w.heap.size w wr)) (fun v13 _ => l.length - (intOf v13).toNat)
 case atStart => exact ⟨0, Nat.zero_le _, rfl, rfl, Below.refl _ _⟩
 case round =>
  obtain ⟨i, hi, rfl, HA, HB⟩ := hrel
  by_cases hlt : i < l.length
  ·obtain ⟨ad, x, L, rfl, hd, hxm, hcell, hx⟩ := chk_at (HLC.out wr HB.out) i hlt
   have hA := HA.out
   rw [hd, chkAll] at hA
   have HCX := Lh (HCK.out x hxm (wr.alloc (.cells (CV x L) 41)) L (hx.below (below_alloc (Below.refl _ _) _)))
   have HCL := Lh hcell
   have HXS := Lh (show (Tryd.prog.info? 41).map (·.size) = some (CV x L).size by kernel_rfl)
   have HXZ := Lh (show (#[.int .u8 0, .int .u8 0, .int .u32 0, .int .u16 0, .int .u16 0, .int .u32 0, .int .u32 0, .int .u32 0, .int .u16 0, .int .u16 0, .slice none 0 0, .slice none 0 0, .slice none 0 0, .slice none 0 0, .slice none 0 0] : Array Value).size = (CV x L).size from rfl)
   have HXO := Lh (CV_one x L)
   clear hcell hd hxm
   generalize checkD x = q at *
   generalize CV x L = CX at *
   clear hx HA
   have HA2 := Lh hA
   clear hA
   go_wp2_with (first | (with_reducible refine gate_dst (N := 16) rfl ?_; go_must (refine wpList_load_cells rfl 41 (.tmp 15) rfl rfl CX _ (fun j v hv => HCL.out j v hv) Tryd.underlying41 rfl HXS.out ?_)) | (with_reducible refine gate_dst (N := 5) rfl ?_; go_must (refine wpList_box rfl rfl 5 rfl rfl (.tmp 16) rfl CX rfl rfl HXZ.out HXS.out HXO.out ?_)) | (with_reducible refine gate_dst (N := 17) rfl ?_; go_must (refine wpList_load_cells rfl 41 (.tmp 5) rfl rfl CX _ (cells_of_blk (blk_new wr (.cells CX 41))) Tryd.underlying41 rfl HXS.out ?_)))
   refine HCX.out.mono ?_
   rintro e w1 ⟨rfl, hB1⟩
   have HB2 := Lh (below_then HB.out (by have := HB.out.size; exact this) (below_then (below_alloc (Below.refl wr.heap.size wr) (.cells CX 41)) (by simp) hB1))
   clear hB1 HB HCL
   by_cases hq : q = 0
   ·subst hq
    have hA := HA2.out
    rw [if_pos rfl] at hA
    have HA := Lh hA
    clear hA HA2
    go_wp2
    go_roundw
    case rel => exact ⟨i + 1, by omega, by go_num, HA, HB2⟩
    case measure => simp [intOf]; omega
   ·have hA := HA2.out
    rw [if_neg hq] at hA
    have HA := Lh hA
    clear hA HA2
    go_wp2
    go_ret2
    have hE : encD l = ([], q) := by unfold encD; rw [← HA.out, if_neg hq]
    rw [← HE.out, hE]
    exact ⟨_, rfl, Kd.R_nil _ _ _ _ _, HB2.out⟩
  ·obtain rfl : i = l.length := by omega
   have hA := HA.out
   rw [List.drop_length, chkAll] at hA
   have HAL := Lh hA.symm
   have HRE := Lh (show runE [] l = E by have := HE.out; unfold encD at this; rw [if_pos hA.symm] at this; exact this)
   clear hA HA HCK HE
   go_wp2
   have HW0 := Lh (show WS (wr.alloc (.cells #[.slice none 0 0] 87)) wr.heap.size [] from ⟨_, blk_new _ _, Kd.R_nil _ _ _ _ _⟩)
   have HBW := Lh (below_alloc HB.out (.cells #[.slice none 0 0] 87))
   have HGW := Lh (show w.heap.size ≤ wr.heap.size from HB.out.size)
   clear HB
   generalize wr.alloc (.cells #[.slice none 0 0] 87) = W0 at *
   generalize wr.heap.size = gw at *
   go_loopw [27] (fun v27 wr => ∃ (i : Nat) (acc : List Int), i ≤ l.length ∧ v27 = .int .i64 (i : Int) ∧ Hid (runE acc (l.drop i) = E) ∧ Hid (acc.length ≤ 65536) ∧ Hid (WS wr gw acc) ∧ Hid (Below w.heap.size w wr)) (fun v27 _ => l.length - (intOf v27).toNat)
   case atStart => exact ⟨0, [], Nat.zero_le _, rfl, HRE.out, (by show _ ≤ _; simp), HW0.out, HBW.out⟩
   case round =>
    obtain ⟨i, acc, hi, rfl, HA, HLA, HW, HB⟩ := hrel
    by_cases hlt : i < l.length
    ·obtain ⟨ad, x, L, rfl, hd, hxm, hcell, hx⟩ := chk_at (HLC.out w (Below.refl _ _)) i hlt
     have hA := HA.out
     rw [hd, runE, chunkL] at hA
     have hc0 := chkAll_mem HAL.out hxm
     have hvl := checkD_len hc0
     have HCL := Lh (fun j v hv => pw_cell_below HB.out (hcell j v hv))
     have HV := Lh (HVAL.out x hxm hc0 (wr.alloc (.cells (CV x L) 41)) L (by have := HB.out.size; rw [World.size_alloc]; omega) (fun W' h => hx.below ((below_alloc HB.out _).trans h)))
     have HXS := Lh (show (Tryd.prog.info? 41).map (·.size) = some (CV x L).size by kernel_rfl)
     have HXZ := Lh (show (#[.int .u8 0, .int .u8 0, .int .u32 0, .int .u16 0, .int .u16 0, .int .u32 0, .int .u32 0, .int .u32 0, .int .u16 0, .int .u16 0, .slice none 0 0, .slice none 0 0, .slice none 0 0, .slice none 0 0, .slice none 0 0] : Array Value).size = (CV x L).size from rfl)
     have HXO := Lh (CV_one x L)
     have HY0 := Lh (show (CV x L)[0]? = some (.int .u8 x.f0) from rfl)
     have HY1 := Lh (show (CV x L)[1]? = some (.int .u8 x.f1) from rfl)
     clear hcell hd hxm hx hc0 HA HAL HRE HW0 HBW HLC HVAL
     generalize CV x L = CX at *
     generalize valueD x = v at *
     generalize x.f0 = a0 at *
     generalize x.f1 = a1 at *
     obtain ⟨pad, hpad⟩ : ∃ m : Nat, (v.length + 3) / 4 * 4 - v.length = m := ⟨_, rfl⟩
     unfold padL at hA
     rw [hpad] at hA
     simp only [← List.append_assoc] at hA
     have HPL := Lh (show pad ≤ 3 by omega)
     have HSUB := Lh (show wrap64 ((((v.length + 3) / 4 * 4 : Nat) : Int) - (v.length : Int)) = ((pad : Nat) : Int) by unfold wrap64; omega)
     have HPD := Lh (fun W : World => padded_calls v.length (by omega) W)
     have HVL := Lh hvl
     have HA2 := Lh hA
     clear hA hpad hvl
     obtain ⟨n, hn⟩ : ∃ n, v.length = n := ⟨_, rfl⟩
     rw [hn] at HSUB HPD HVL HA2
     have HNV := Lh hn
     clear hn
     generalize hpn : (n + 3) / 4 * 4 = pn at *
     clear hpn
     go_wp2_with (first | (with_reducible refine gate_dst (N := 30) rfl ?_; go_must (refine wpList_load_cells rfl 41 (.tmp 29) rfl rfl CX _ (fun j v hv => HCL.out j v hv) Tryd.underlying41 rfl HXS.out ?_)) | (with_reducible refine gate_dst (N := 9) rfl ?_; go_must (refine wpList_box rfl rfl 9 rfl rfl (.tmp 30) rfl CX rfl rfl HXZ.out HXS.out HXO.out ?_)) | (with_reducible refine gate_dst (N := 31) rfl ?_; go_must (refine wpList_load_cells rfl 41 (.tmp 9) rfl rfl CX _ (cells_of_blk (blk_new wr (.cells CX 41))) Tryd.underlying41 rfl HXS.out ?_)))
     refine HV.out.mono ?_
     rintro e W ⟨Av, cv, rfl, hvc, hVC, hB1⟩
     obtain ⟨u, hg, hR⟩ := HW.out
     obtain ⟨Au, cu, rfl⟩ := Kd.R_slice hR
     have hgx := blk_lt hg
     have hsz : (wr.alloc (.cells CX 41)).heap.size = wr.heap.size + 1 := by simp
     have hWz := hB1.size
     rw [hsz] at hWz
     obtain ⟨okW, hokW⟩ : ∃ f : Nat → Prop, ∀ k, f k ↔ (gw < k ∧ (k < wr.heap.size ∨ W.heap.size ≤ k)) := ⟨fun k => gw < k ∧ (k < wr.heap.size ∨ W.heap.size ≤ k), fun k => Iff.rfl⟩
     have HC := Lh (blk_below (blk_alloc hg (.cells CX 41)) hB1)
     have HR := Lh (show (Kd.int .u8).R 5 W (gw + 1) okW (.slice Au acc.length cu) acc from R_only (Kd.R_alloc (Kd.R_mono (Kd.R_bound hR) (fun k hk => (hokW k).2 ⟨by have := hk.2.1; omega, Or.inl hk.2.2.1⟩)) _) (Only.of_below (S := fun _ => False) hB1) (fun _ _ _ h => h))
     have HXB := Lh (blk_below (blk_new wr (.cells CX 41)) hB1)
     have HNX := Lh (show ¬ (wr.heap.size = gw ∨ okW wr.heap.size) from fun h => h.elim (fun h => by omega) (fun h => by have := (hokW _).1 h; omega))
     have HOK := Lh (show ∀ k, W.heap.size ≤ k → okW k from fun k hk => (hokW k).2 ⟨by omega, Or.inr hk⟩)
     have HGO := Lh (show ¬ okW gw from fun h => by have := (hokW _).1 h; omega)
     have HVC := Lh (show ∀ W', Only (fun k => k = gw ∨ okW k) W W' → (Kd.int .u8).C W' Av n v from fun W' hO => by
      rw [← HNV.out]
      exact hVC W' (hO.mono (fun k hk h => by
       rw [hsz]
       have := HGW.out
       rcases h with rfl | h
       ·omega
       ·have h2 := (hokW k).1 h
        omega)))
     have HBW := Lh ((below_alloc HB.out (.cells CX 41)).trans (hB1.mono (by have := HB.out.size; omega)))
     have HBO := Lh (show ∀ k, (k = gw ∨ okW k) → w.heap.size ≤ k from fun k h => by
      have := HGW.out
      rcases h with rfl | h
      ·omega
      ·have h2 := (hokW k).1 h
       omega)
     have HXL := Lh (show acc.length ≤ 65536 from HLA.out)
     rw [HNV.out]
     clear hokW hVC hB1 hWz hsz hgx hg hR HW HB HV HCL HLA hvc HXS HXZ HXO
     generalize wr.heap.size = gx at *
     generalize acc = xs at *
     clear wr
     go_upto_region 13 with (fail)
     have B := True.intro
     have C := True.intro
     have R := True.intro
     have D := True.intro
     refine start_ (n := 14) (S := fun w' => True) (ds := []) #[false, false, false, false, false, false, false, false, false, false, false, false, false, false] (by kernel_rfl) rfl rfl trivial (fun hHeld => ?_)
     refine with_tabW encAtab13 encAbits13 (fun HT_ HW_ => ?_)
     refine pu 0 33 ?_ rfl rfl (any_of HT_.out (by kernel_rfl)) (fun _ _ _ h => h) (by rfl) ?_ ?_ ?_ ?_
     rotate_left
     ·intro w'
      go_simp
      with_reducible rfl
     rotate_left
     ·simp only [sL]
      rfl
     refine pu 1 34 ?_ rfl rfl (any_of HT_.out (by kernel_rfl)) (fun _ _ _ h => h) (by rfl) ?_ ?_ ?_ ?_
     rotate_left
     ·intro w'
      go_simp
      with_reducible rfl
     rotate_left
     ·simp only [sL]
      rfl
     refine inv_at [2, 3, 4, 5, 6, 7, 8, 9, 10, 11, 12, 13] (fun a0_ b a w' => ∃ (g9 : Nat) (v9 : Value) (m9_ : Value), a = putSel a0_ b [(2, 35, .pointer (some ⟨gw, 0, none⟩)), (3, 36, .pointer (some ⟨gw, 0, none⟩)), (4, 37, .slice Au xs.length cu), (5, 38, .pointer (some ⟨gx, 0, none⟩)), (6, 39, .int .u8 a0), (7, 40, .pointer (some ⟨gx, 1, none⟩)), (8, 41, .int .u8 a1), (9, 42, m9_), (10, 43, v9), (11, 44, .pointer (some ⟨gw, 0, none⟩)), (12, 45, .pointer (some ⟨gw, 0, none⟩))] ∧ (b 10 = false → Only (fun k => k = gw ∨ okW k) W w') ∧ (b 10 = false → w'.heap[gw]? = some (.cells #[.slice Au xs.length cu] 87 (0, 0))) ∧ (b 10 = false → (Kd.int .u8).R 5 w' (gw + 1) okW (.slice Au xs.length cu) (xs)) ∧ (b 9 = true → b 10 = false → (Kd.int .u8).C w' (some ⟨g9, 0, none⟩) 2 [a0, a1]) ∧ (b 10 = true → b 13 = false → (Kd.int .u8).R 5 w' (gw + 1) okW (v9) (xs ++ [a0, a1]) ∧ w'.heap[gw]? = some (.cells #[.slice Au xs.length cu] 87 (0, 0)) ∧ Only (fun k => k = gw ∨ okW k) W w') ∧ (b 13 = true → ∃ u, w'.heap[gw]? = some (.cells #[u] 87 (0, 0)) ∧ (Kd.int .u8).R 5 w' (gw + 1) okW (u) (xs ++ [a0, a1]) ∧ Only (fun k => k = gw ∨ okW k) W w') ∧ (b 9 = true → (m9_ : Value) = .slice (some ⟨g9, 0, none⟩) 2 2)) HT_.out HW_.out (by kernel_rfl) (by kernel_rfl) ?_ ?_ ?_
     ·exact ⟨0, .bool false, .bool false, by simp only [putSel, Bool.false_eq_true, if_false], fun _ => (Only.refl _ _).drewN 1, fun _ => HC.out, fun _ => HR.out, fun h_ => absurd h_ (by decide), fun h_ => absurd h_ (by decide), fun h_ => absurd h_ (by decide), fun h_ => absurd h_ (by decide)⟩
     ·skip
      clear B C R
      refine sc rfl ?_ ?_
      ·rintro b a w' ⟨g9, v9, m9_, ha, Q_B, Q_C, Q_R, Q_D, Q_S1, Q_S2, Q_X9_⟩ hb_ hon hoff K hK
       have e34 : a.tmps[34]? = some (.pointer (some ⟨gw, 0, none⟩)) := by rw [ha]; exact (putSel_off rfl).trans rfl
       replace ha := Am ha
       refine value_ (w1 := w') (v := .pointer (some ⟨gw, 0, none⟩)) (by rfl) rfl ?_ ?_
       ·go_simp
        (try simp only [i64_w])
        try rfl
       refine hK.out _ _ ⟨g9, v9, m9_, (puk ha 0 hb_ rfl rfl rfl), Q_B, Q_C, Q_R, Q_D, fun h0_ _ => hof (hoff 10 (by kernel_rfl)) h0_, fun h0_ => hof (hoff 13 (by kernel_rfl)) h0_, Q_X9_⟩
      refine sc rfl ?_ ?_
      ·rintro b a w' ⟨g9, v9, m9_, ha, Q_B, Q_C, Q_R, Q_D, Q_S1, Q_S2, Q_X9_⟩ hb_ hon hoff K hK
       have e35 := psn ha 0 rfl rfl (hon 2 (by kernel_rfl)) rfl
       replace ha := Am ha
       refine value_ (w1 := w') (v := .pointer (some ⟨gw, 0, none⟩)) (by rfl) rfl ?_ ?_
       ·go_simp
        (try simp only [i64_w])
        try rfl
       refine hK.out _ _ ⟨g9, v9, m9_, (puk ha 1 hb_ rfl rfl rfl), Q_B, Q_C, Q_R, Q_D, fun h0_ _ => hof (hoff 10 (by kernel_rfl)) h0_, fun h0_ => hof (hoff 13 (by kernel_rfl)) h0_, Q_X9_⟩
      refine sc rfl ?_ ?_
      ·rintro b a w' ⟨g9, v9, m9_, ha, Q_B, Q_C, Q_R, Q_D, Q_S1, Q_S2, Q_X9_⟩ hb_ hon hoff K hK
       have e36 := psn ha 1 rfl rfl (hon 3 (by kernel_rfl)) rfl
       replace ha := Am ha
       have C := Am (Q_C (hoff 10 (by kernel_rfl)))
       have hs := blk_cell C.out 0
       refine value_ (w1 := w') (v := .slice Au xs.length cu) (by rfl) rfl ?_ ?_
       ·go_simp
        (try simp only [i64_w])
        try rfl
       refine hK.out _ _ ⟨g9, v9, m9_, (puk ha 2 hb_ rfl rfl rfl), Q_B, Q_C, Q_R, Q_D, fun h0_ _ => hof (hoff 10 (by kernel_rfl)) h0_, fun h0_ => hof (hoff 13 (by kernel_rfl)) h0_, Q_X9_⟩
      refine sc rfl ?_ ?_
      ·rintro b a w' ⟨g9, v9, m9_, ha, Q_B, Q_C, Q_R, Q_D, Q_S1, Q_S2, Q_X9_⟩ hb_ hon hoff K hK
       have e9 : a.tmps[9]? = some (.pointer (some ⟨gx, 0, none⟩)) := by rw [ha]; exact (putSel_off rfl).trans rfl
       replace ha := Am ha
       refine value_ (w1 := w') (v := .pointer (some ⟨gx, 0, none⟩)) (by rfl) rfl ?_ ?_
       ·go_simp
        (try simp only [i64_w])
        try rfl
       refine hK.out _ _ ⟨g9, v9, m9_, (puk ha 3 hb_ rfl rfl rfl), Q_B, Q_C, Q_R, fun h0_ _ => hof (hoff 9 (by kernel_rfl)) h0_, fun h0_ _ => hof (hoff 10 (by kernel_rfl)) h0_, fun h0_ => hof (hoff 13 (by kernel_rfl)) h0_, fun h0_ => hof (hoff 9 (by kernel_rfl)) h0_⟩
      refine sc rfl ?_ ?_
      ·rintro b a w' ⟨g9, v9, m9_, ha, Q_B, Q_C, Q_R, Q_D, Q_S1, Q_S2, Q_X9_⟩ hb_ hon hoff K hK
       have e38 := psn ha 3 rfl rfl (hon 5 (by kernel_rfl)) rfl
       replace ha := Am ha
       have B := Am (Q_B (hoff 10 (by kernel_rfl)))
       have hs : w'.cell? ⟨gx, 0, none⟩ = some (.int .u8 a0) := (blk_cell (B.out.blk HXB.out HNX.out) 0).trans HY0.out
       refine value_ (w1 := w') (v := .int .u8 a0) (by rfl) rfl ?_ ?_
       ·go_simp
        (try simp only [i64_w])
        try rfl
       refine hK.out _ _ ⟨g9, v9, m9_, (puk ha 4 hb_ rfl rfl rfl), Q_B, Q_C, Q_R, fun h0_ _ => hof (hoff 9 (by kernel_rfl)) h0_, fun h0_ _ => hof (hoff 10 (by kernel_rfl)) h0_, fun h0_ => hof (hoff 13 (by kernel_rfl)) h0_, fun h0_ => hof (hoff 9 (by kernel_rfl)) h0_⟩
      refine sc rfl ?_ ?_
      ·rintro b a w' ⟨g9, v9, m9_, ha, Q_B, Q_C, Q_R, Q_D, Q_S1, Q_S2, Q_X9_⟩ hb_ hon hoff K hK
       have e9 : a.tmps[9]? = some (.pointer (some ⟨gx, 0, none⟩)) := by rw [ha]; exact (putSel_off rfl).trans rfl
       replace ha := Am ha
       refine value_ (w1 := w') (v := .pointer (some ⟨gx, 1, none⟩)) (by rfl) rfl ?_ ?_
       ·go_simp
        (try simp only [i64_w])
        try rfl
       refine hK.out _ _ ⟨g9, v9, m9_, (puk ha 5 hb_ rfl rfl rfl), Q_B, Q_C, Q_R, fun h0_ _ => hof (hoff 9 (by kernel_rfl)) h0_, fun h0_ _ => hof (hoff 10 (by kernel_rfl)) h0_, fun h0_ => hof (hoff 13 (by kernel_rfl)) h0_, fun h0_ => hof (hoff 9 (by kernel_rfl)) h0_⟩
      refine sc rfl ?_ ?_
      ·rintro b a w' ⟨g9, v9, m9_, ha, Q_B, Q_C, Q_R, Q_D, Q_S1, Q_S2, Q_X9_⟩ hb_ hon hoff K hK
       have e40 := psn ha 5 rfl rfl (hon 7 (by kernel_rfl)) rfl
       replace ha := Am ha
       have B := Am (Q_B (hoff 10 (by kernel_rfl)))
       have hs : w'.cell? ⟨gx, 1, none⟩ = some (.int .u8 a1) := (blk_cell (B.out.blk HXB.out HNX.out) 1).trans HY1.out
       refine value_ (w1 := w') (v := .int .u8 a1) (by rfl) rfl ?_ ?_
       ·go_simp
        (try simp only [i64_w])
        try rfl
       refine hK.out _ _ ⟨g9, v9, m9_, (puk ha 6 hb_ rfl rfl rfl), Q_B, Q_C, Q_R, fun h0_ _ => hof (hoff 9 (by kernel_rfl)) h0_, fun h0_ _ => hof (hoff 10 (by kernel_rfl)) h0_, fun h0_ => hof (hoff 13 (by kernel_rfl)) h0_, fun h0_ => hof (hoff 9 (by kernel_rfl)) h0_⟩
      refine sc rfl ?_ ?_
      ·rintro b a w' ⟨g9, v9, m9_, ha, Q_B, Q_C, Q_R, Q_D, Q_S1, Q_S2, Q_X9_⟩ hb_ hon hoff K hK
       have e39 := psn ha 4 rfl rfl (hon 6 (by kernel_rfl)) rfl
       have e41 := psn ha 6 rfl rfl (hon 8 (by kernel_rfl)) rfl
       replace ha := Am ha
       have B := Am (Q_B (hoff 10 (by kernel_rfl)))
       have C := Am (Q_C (hoff 10 (by kernel_rfl)))
       have R := Am (Q_R (hoff 10 (by kernel_rfl)))
       refine value_ (w1 := w'.alloc (.cells #[.int .u8 a0, .int .u8 a1] 5)) (v := .slice (some ⟨w'.heap.size, 0, none⟩) 2 2) (by rfl) rfl (by go_simp; try rfl) ?_
       refine hK.out _ _ ⟨w'.heap.size, v9, (.slice (some ⟨w'.heap.size, 0, none⟩) 2 2), (puk ha 7 hb_ rfl rfl rfl), fun _ => B.out.alloc _, fun _ => blk_alloc C.out _, fun _ => Kd.R_alloc R.out _, fun _ _ => (by have := blk_lt C.out; exact row_lit (Kd.int .u8) rfl w' 5 [.int .u8 a0, .int .u8 a1] [a0, a1] rfl (by simp) (fun j v p hv hp => by rcases j with _ | _ | j <;> simp at hv hp <;> (subst hv; subst hp; rfl))), fun h0_ _ => hof (hoff 10 (by kernel_rfl)) h0_, fun h0_ => hof (hoff 13 (by kernel_rfl)) h0_, fun _ => rfl⟩
      refine sc rfl ?_ ?_
      ·rintro b a w' ⟨g9, v9, m9_, ha, Q_B, Q_C, Q_R, Q_D, Q_S1, Q_S2, Q_X9_⟩ hb_ hon hoff K hK
       have e37 := psn ha 2 rfl rfl (hon 4 (by kernel_rfl)) rfl
       have e42 := psn ha 7 rfl rfl (hon 9 (by kernel_rfl)) rfl
       rw [Q_X9_ (hon 9 (by kernel_rfl))] at e42
       replace ha := Am ha
       have B := Am (Q_B hb_)
       have C := Am (Q_C hb_)
       have R := Am (Q_R hb_)
       have D := Am (Q_D (hon 9 (by kernel_rfl)) hb_)
       refine Kd.R_append_rows_step (Kd.int .u8) (Rr := (Kd.int .u8).K w') (w0 := w') (W := w') (gw + 1) (by rfl) _ _ 27 5 _ 1 rfl Tryd.underlying27 info_u8 rfl (by decide) (by decide) (.slice Au xs.length cu) xs [a0, a1] (some ⟨g9, 0, none⟩) 2 2 okW (fun _ => False) (by simp [Act.eval, Array.getD_eq_getD_getElem?, e37]) (by simp [Act.eval, Array.getD_eq_getD_getElem?, e42]) R.out (D.out) (fun _ _ h => h) (fun _ h => h.elim) (fun k hk => HOK.out k (by have := B.out.size; omega)) (Below.refl _ _) (by have := blk_lt C.out; omega) (by have := HXL.out; simp; omega) ?_
       intro v1 w1 hR1 hB1 hG1 _
       refine hK.out _ _ ⟨g9, v1, m9_, (puk ha 8 hb_ rfl rfl rfl), fun h0_ => absurd ((up_self b 10).symm.trans h0_) (by decide), fun h0_ => absurd ((up_self b 10).symm.trans h0_) (by decide), fun h0_ => absurd ((up_self b 10).symm.trans h0_) (by decide), fun _ h1_ => absurd ((up_self b 10).symm.trans h1_) (by decide), fun _ _ => ⟨hR1, blk_grown C.out hG1 (fun e => HGO.out (R.out.1 _ e.symm)), B.out.grown hG1 (fun k _ e => Or.inr (R.out.1 k e))⟩, fun h0_ => hof (hoff 13 (by kernel_rfl)) h0_, Q_X9_⟩
      refine sc rfl ?_ ?_
      ·rintro b a w' ⟨g9, v9, m9_, ha, Q_B, Q_C, Q_R, Q_D, Q_S1, Q_S2, Q_X9_⟩ hb_ hon hoff K hK
       have e33 : a.tmps[33]? = some (.pointer (some ⟨gw, 0, none⟩)) := by rw [ha]; exact (putSel_off rfl).trans rfl
       replace ha := Am ha
       refine value_ (w1 := w') (v := .pointer (some ⟨gw, 0, none⟩)) (by rfl) rfl ?_ ?_
       ·go_simp
        (try simp only [i64_w])
        try rfl
       refine hK.out _ _ ⟨g9, v9, m9_, (puk ha 9 hb_ rfl rfl rfl), fun h0_ => absurd ((hon 10 (by kernel_rfl)).symm.trans h0_) (by decide), fun h0_ => absurd ((hon 10 (by kernel_rfl)).symm.trans h0_) (by decide), fun h0_ => absurd ((hon 10 (by kernel_rfl)).symm.trans h0_) (by decide), fun _ h1_ => absurd ((hon 10 (by kernel_rfl)).symm.trans h1_) (by decide), Q_S1, fun h0_ => hof (hoff 13 (by kernel_rfl)) h0_, Q_X9_⟩
      refine sc rfl ?_ ?_
      ·rintro b a w' ⟨g9, v9, m9_, ha, Q_B, Q_C, Q_R, Q_D, Q_S1, Q_S2, Q_X9_⟩ hb_ hon hoff K hK
       have e44 := psn ha 9 rfl rfl (hon 11 (by kernel_rfl)) rfl
       replace ha := Am ha
       refine value_ (w1 := w') (v := .pointer (some ⟨gw, 0, none⟩)) (by rfl) rfl ?_ ?_
       ·go_simp
        (try simp only [i64_w])
        try rfl
       refine hK.out _ _ ⟨g9, v9, m9_, (puk ha 10 hb_ rfl rfl rfl), fun h0_ => absurd ((hon 10 (by kernel_rfl)).symm.trans h0_) (by decide), fun h0_ => absurd ((hon 10 (by kernel_rfl)).symm.trans h0_) (by decide), fun h0_ => absurd ((hon 10 (by kernel_rfl)).symm.trans h0_) (by decide), fun _ h1_ => absurd ((hon 10 (by kernel_rfl)).symm.trans h1_) (by decide), Q_S1, fun h0_ => hof (hoff 13 (by kernel_rfl)) h0_, Q_X9_⟩
      refine sc rfl ?_ ?_
      ·rintro b a w' ⟨g9, v9, m9_, ha, Q_B, Q_C, Q_R, Q_D, Q_S1, Q_S2, Q_X9_⟩ hb_ hon hoff K hK
       have e45 := psn ha 10 rfl rfl (hon 12 (by kernel_rfl)) rfl
       have e43 := psn ha 8 rfl rfl (hon 10 (by kernel_rfl)) rfl
       replace ha := Am ha
       have S1 := Am (Q_S1 (hon 10 (by kernel_rfl)) hb_)
       obtain ⟨hR1, hC1, hF1⟩ := S1.out
       obtain ⟨A8, c8, hv9⟩ := Kd.R_slice hR1
       have hs := blk_cell hC1 0
       have hf := blk_frozen hC1 0
       refine skip_ (w1 := w'.setCell ⟨gw, 0, none⟩ v9) (by rfl) rfl (by generalize (xs ++ [a0, a1]).length = zl at hv9; rw [hv9] at e43 ⊢; go_simp; try rfl) ?_
       refine hK.out _ _ ⟨g9, v9, m9_, (by rw [ha.out]; exact putSel_none (v := undef) rfl), fun h0_ => absurd ((hon 10 (by kernel_rfl)).symm.trans h0_) (by decide), fun h0_ => absurd ((hon 10 (by kernel_rfl)).symm.trans h0_) (by decide), fun h0_ => absurd ((hon 10 (by kernel_rfl)).symm.trans h0_) (by decide), fun _ h1_ => absurd ((hon 10 (by kernel_rfl)).symm.trans h1_) (by decide), fun _ h1_ => absurd ((up_self b 13).symm.trans h1_) (by decide), fun _ => ⟨v9, blk_put hC1 0 v9 rfl, Kd.R_far hR1 (p := ⟨gw, 0, none⟩) (fun k hk (e : k = gw) => HGO.out (e ▸ hk)) v9, hF1.setCell (fun _ => Or.inl rfl) v9⟩, Q_X9_⟩
      exact steps_nil
     rintro b a w' hall ⟨g9, v9, m9_, ha, Q_B, Q_C, Q_R, Q_D, Q_S1, Q_S2, Q_X9_⟩
     clear B C R
     have hb2_ := hall 2 (by kernel_rfl)
     have hb3_ := hall 3 (by kernel_rfl)
     have hb4_ := hall 4 (by kernel_rfl)
     have hb5_ := hall 5 (by kernel_rfl)
     have hb6_ := hall 6 (by kernel_rfl)
     have hb7_ := hall 7 (by kernel_rfl)
     have hb8_ := hall 8 (by kernel_rfl)
     have hb9_ := hall 9 (by kernel_rfl)
     have hb10_ := hall 10 (by kernel_rfl)
     have hb11_ := hall 11 (by kernel_rfl)
     have hb12_ := hall 12 (by kernel_rfl)
     have hb13_ := hall 13 (by kernel_rfl)
     subst ha
     obtain rfl := Q_X9_ hb9_
     simp only [putSel, hb2_, hb3_, hb4_, hb5_, hb6_, hb7_, hb8_, hb9_, hb10_, hb11_, hb12_, hb13_, if_true, Act.put, List.setIfInBounds_toArray, List.set_cons_zero, List.set_cons_succ]
     clear Q_B
     clear Q_C
     clear Q_R
     clear Q_D
     clear Q_S1
     have S2 := Am (Q_S2 hb13_)
     clear Q_S2
     clear hall hb2_ hb3_ hb4_ hb5_ hb6_ hb7_ hb8_ hb9_ hb10_ hb11_ hb12_ hb13_
     obtain ⟨u, hg, hR, hF⟩ := S2.out
     clear S2 HC HR HY0 HY1 HXB HNX
     have HS := Lh (show WSo okW w' gw (xs ++ [a0, a1]) from ⟨u, hg, hR⟩)
     have HF := Lh hF
     clear hg hR hF
     clear u
     obtain ⟨q, hq⟩ : ∃ q, IntKind.u16.wrap (4 + (n : Int)) = q := ⟨_, rfl⟩
     have HQ := Lh (show IntKind.u16.wrap (wrap64 (4 + (n : Int))) = q by rw [show wrap64 (4 + (n : Int)) = 4 + (n : Int) by unfold wrap64; have := HVL.out; omega, hq])
     rw [hq] at HA2
     clear hq
     have HXL3 := Lh (show (xs ++ [a0, a1]).length + 2 * [q].length ≤ 140737488355328 by have := HXL.out; simp only [List.length_append, List.length_cons, List.length_nil]; omega)
     go_wp2_with fail
     rw [HQ.out]
     refine (wtwo_lit_o w' gw okW (fun k hk => HOK.out k (Nat.le_trans HF.out.size hk)) HGO.out (xs ++ [a0, a1]) [q] [.int .u16 q] 1 rfl rfl HS.out HXL3.out).mono ?_
     rintro e w4 ⟨rfl, hS4, hO4⟩
     have HF4 := Lh (HF.out.trans hO4 (fun k _ h => h))
     have hxl : (xs ++ [a0, a1] ++ twoL [q]).length ≤ 65540 := by have := HXL.out; simp [twoL_length]; omega
     have HXL4 := Lh hxl
     generalize xs ++ [a0, a1] ++ twoL [q] = ys at *
     obtain ⟨u, hg, hR⟩ := hS4
     obtain ⟨Au4, cu4, rfl⟩ := Kd.R_slice hR
     have k0 : w4.cell? ⟨gw, 0, none⟩ = some (.slice Au4 ys.length cu4) := blk_cell hg 0
     have HG4 := Lh hg
     have HR4 := Lh hR
     have HVC4 := Lh (HVC.out w4 HF4.out)
     clear hO4 hxl hg hR HS HF HQ HVC HXL HXL3
     go_wp2_with (at_builtin; go_must (refine Kd.R_append_row (Value.int .u8) (0 : Int) (w0 := w4) (W := w4) (gw + 1) rfl _ _ 27 5 _ 1 rfl Tryd.underlying27 info_u8 rfl (by decide) (.slice Au4 ys.length cu4) ys v Av n cv okW rfl rfl (fun k hk => HOK.out k (Nat.le_trans HF4.out.size hk)) HR4.out HVC4.out (Below.refl _ _) (by have := blk_lt HG4.out; omega) (by have := HXL4.out; have := HVL.out; have := HNV.out; omega) ?_); (intro v1 w1 hR1 hB1 hG1 _; have HR1 := Lh hR1; have HB1 := Lh hB1; have HGR := Lh hG1; clear hR1 hB1 hG1; refine RowKit.Hid.out ?_))
     refine Lh ?_
     obtain ⟨A7, c7, hv1⟩ := Kd.R_slice HR1.out
     subst hv1
     have hg1 := blk_grown HG4.out HGR.out (fun e => HGO.out (HR4.out.1 _ e.symm))
     have hs := blk_cell hg1 0
     have hf := blk_frozen hg1 0
     have HF5 := Lh ((HF4.out.grown HGR.out (fun k _ e => Or.inr (HR4.out.1 k e))).setCell (p := ⟨gw, 0, none⟩) (fun _ => Or.inl rfl) (.slice A7 (ys ++ v).length c7))
     have HR5 := Lh (Kd.R_far HR1.out (p := ⟨gw, 0, none⟩) (fun k hk (e : k = gw) => HGO.out (e ▸ hk)) (.slice A7 (ys ++ v).length c7))
     have HC5 := Lh (blk_put hg1 0 (.slice A7 (ys ++ v).length c7) rfl)
     have HXL5 := Lh (show (ys ++ v).length ≤ 131071 by have := HXL4.out; have := HVL.out; have := HNV.out; rw [List.length_append]; omega)
     clear hg1 HR1 HB1 HGR HG4 HR4 HVC4 HF4 HXL4 k0 HNV
     generalize hzl : (ys ++ v).length = zl at *
     go_upto_region 16 with (fail)
     generalize w1.setCell ⟨gw, 0, none⟩ (.slice A7 zl c7) = W5 at *
     subst hzl
     generalize ys ++ v = xs at *
     have HC := HC5
     have HR := HR5
     have HXL := HXL5
     have HM := HPL
     have HOK5 := Lh (show ∀ k, W5.heap.size ≤ k → okW k from fun k hk => HOK.out k (Nat.le_trans HF5.out.size hk))
     clear HC5 HR5 HXL5 HPL hs hf HOK
     have B := True.intro
     have C := True.intro
     have R := True.intro
     refine start_ (n := 15) (S := fun w' => True) (ds := []) #[false, false, false, false, false, false, false, false, false, false, false, false, false, false, false] (by kernel_rfl) rfl rfl trivial (fun hHeld => ?_)
     refine with_tabW encBtab16 encBbits16 (fun HT_ HW_ => ?_)
     refine pu 0 62 ?_ rfl rfl (any_of HT_.out (by kernel_rfl)) (fun _ _ _ h => h) (by rfl) ?_ ?_ ?_ ?_
     rotate_left
     ·intro w'
      go_simp
      with_reducible rfl
     rotate_left
     ·simp only [sL]
      rfl
     refine pu 1 63 ?_ rfl rfl (any_of HT_.out (by kernel_rfl)) (fun _ _ _ h => h) (by rfl) ?_ ?_ ?_ ?_
     rotate_left
     ·intro w'
      go_simp
      with_reducible rfl
     rotate_left
     ·simp only [sL]
      rfl
     refine pu 5 67 ?_ rfl rfl (any_of HT_.out (by kernel_rfl)) (fun _ _ _ h => h) (by rfl) ?_ ?_ ?_ ?_
     rotate_left
     ·intro w'
      go_simp
      with_reducible rfl
     rotate_left
     ·simp only [sL]
      rfl
     refine pu 8 70 ?_ rfl rfl (any_of HT_.out (by kernel_rfl)) (fun _ _ _ h => h) (by rfl) ?_ ?_ ?_ ?_
     rotate_left
     ·intro w'
      go_simp
      with_reducible rfl
     rotate_left
     ·simp only [sL]
      rfl
     refine inv_at [2, 3, 4, 6, 7, 9, 10, 11, 12, 13, 14] (fun a0_ b a w' => ∃ (v9 : Value), a = putSel a0_ b [(2, 64, .pointer (some ⟨gw, 0, none⟩)), (3, 65, .pointer (some ⟨gw, 0, none⟩)), (4, 66, .slice A7 xs.length c7), (6, 68, .int .i64 (n : Int)), (7, 69, .int .i64 (pn : Int)), (9, 71, .int .i64 (n : Int)), (10, 72, .int .i64 (pad : Int)), (11, 73, v9), (12, 74, .pointer (some ⟨gw, 0, none⟩)), (13, 75, .pointer (some ⟨gw, 0, none⟩))] ∧ (b 11 = false → Only (fun k => k = gw ∨ okW k) W5 w') ∧ (b 11 = false → w'.heap[gw]? = some (.cells #[.slice A7 xs.length c7] 87 (0, 0))) ∧ (b 11 = false → (Kd.int .u8).R 5 w' (gw + 1) okW (.slice A7 xs.length c7) (xs)) ∧ (b 11 = true → b 14 = false → (Kd.int .u8).R 5 w' (gw + 1) okW (v9) (xs ++ List.replicate pad 0) ∧ w'.heap[gw]? = some (.cells #[.slice A7 xs.length c7] 87 (0, 0)) ∧ Only (fun k => k = gw ∨ okW k) W5 w') ∧ (b 14 = true → ∃ u, w'.heap[gw]? = some (.cells #[u] 87 (0, 0)) ∧ (Kd.int .u8).R 5 w' (gw + 1) okW (u) (xs ++ List.replicate pad 0) ∧ Only (fun k => k = gw ∨ okW k) W5 w')) HT_.out HW_.out (by kernel_rfl) (by kernel_rfl) ?_ ?_ ?_
     ·exact ⟨.bool false, by simp only [putSel, Bool.false_eq_true, if_false], fun _ => (Only.refl _ _).drewN 1, fun _ => HC.out, fun _ => HR.out, fun h_ => absurd h_ (by decide), fun h_ => absurd h_ (by decide)⟩
     ·skip
      clear B C R
      refine sc rfl ?_ ?_
      ·rintro b a w' ⟨v9, ha, Q_B, Q_C, Q_R, Q_S1, Q_S2⟩ hb_ hon hoff K hK
       have e63 : a.tmps[63]? = some (.pointer (some ⟨gw, 0, none⟩)) := by rw [ha]; exact (putSel_off rfl).trans rfl
       replace ha := Am ha
       refine value_ (w1 := w') (v := .pointer (some ⟨gw, 0, none⟩)) (by rfl) rfl ?_ ?_
       ·go_simp
        (try simp only [i64_w])
        try rfl
       refine hK.out _ _ ⟨v9, (puk ha 0 hb_ rfl rfl rfl), Q_B, Q_C, Q_R, fun h0_ _ => hof (hoff 11 (by kernel_rfl)) h0_, fun h0_ => hof (hoff 14 (by kernel_rfl)) h0_⟩
      refine sc rfl ?_ ?_
      ·rintro b a w' ⟨v9, ha, Q_B, Q_C, Q_R, Q_S1, Q_S2⟩ hb_ hon hoff K hK
       have e64 := psn ha 0 rfl rfl (hon 2 (by kernel_rfl)) rfl
       replace ha := Am ha
       refine value_ (w1 := w') (v := .pointer (some ⟨gw, 0, none⟩)) (by rfl) rfl ?_ ?_
       ·go_simp
        (try simp only [i64_w])
        try rfl
       refine hK.out _ _ ⟨v9, (puk ha 1 hb_ rfl rfl rfl), Q_B, Q_C, Q_R, fun h0_ _ => hof (hoff 11 (by kernel_rfl)) h0_, fun h0_ => hof (hoff 14 (by kernel_rfl)) h0_⟩
      refine sc rfl ?_ ?_
      ·rintro b a w' ⟨v9, ha, Q_B, Q_C, Q_R, Q_S1, Q_S2⟩ hb_ hon hoff K hK
       have e65 := psn ha 1 rfl rfl (hon 3 (by kernel_rfl)) rfl
       replace ha := Am ha
       have C := Am (Q_C (hoff 11 (by kernel_rfl)))
       have hs := blk_cell C.out 0
       refine value_ (w1 := w') (v := .slice A7 xs.length c7) (by rfl) rfl ?_ ?_
       ·go_simp
        (try simp only [i64_w])
        try rfl
       refine hK.out _ _ ⟨v9, (puk ha 2 hb_ rfl rfl rfl), Q_B, Q_C, Q_R, fun h0_ _ => hof (hoff 11 (by kernel_rfl)) h0_, fun h0_ => hof (hoff 14 (by kernel_rfl)) h0_⟩
      refine sc rfl ?_ ?_
      ·rintro b a w' ⟨v9, ha, Q_B, Q_C, Q_R, Q_S1, Q_S2⟩ hb_ hon hoff K hK
       have e67 : a.tmps[67]? = some (.slice Av n cv) := by rw [ha]; exact (putSel_off rfl).trans rfl
       replace ha := Am ha
       refine value_ (w1 := w') (v := .int .i64 (n : Int)) (by rfl) rfl ?_ ?_
       ·go_simp
        (try simp only [i64_w])
        try rfl
       refine hK.out _ _ ⟨v9, (puk ha 3 hb_ rfl rfl rfl), Q_B, Q_C, Q_R, fun h0_ _ => hof (hoff 11 (by kernel_rfl)) h0_, fun h0_ => hof (hoff 14 (by kernel_rfl)) h0_⟩
      refine sc rfl ?_ ?_
      ·rintro b a w' ⟨v9, ha, Q_B, Q_C, Q_R, Q_S1, Q_S2⟩ hb_ hon hoff K hK
       have e68 := psn ha 3 rfl rfl (hon 6 (by kernel_rfl)) rfl
       replace ha := Am ha
       have B := Am (Q_B (hoff 11 (by kernel_rfl)))
       have C := Am (Q_C (hoff 11 (by kernel_rfl)))
       have R := Am (Q_R (hoff 11 (by kernel_rfl)))
       refine goes_ Tryd.func54 (by kernel_rfl) rfl #[.int .i64 (n : Int)] (by rfl) rfl rfl (by first | (simp only [List.map_toArray, List.map_cons, List.map_nil, Act.eval, Array.getD_eq_getD_getElem?, Option.getD_some, e68]; done) | (simp only [List.map_toArray, List.map_cons, List.map_nil, Act.eval, Array.getD_eq_getD_getElem?, Option.getD_some, e68]; rfl)) ?_
       refine (HPD.out w').mono ?_
       rintro e w1 ⟨rfl, hD1⟩
       refine ⟨_, rfl, ?_⟩
       refine hK.out _ _ ⟨v9, (puk ha 4 hb_ rfl rfl rfl), fun _ => B.out.trans (Only.of_below (S := fun _ => False) (drawn_below hD1)) (fun k _ h => h.elim), fun _ => blk_below C.out (drawn_below hD1), fun _ => R_only R.out (Only.of_below (S := fun _ => False) (drawn_below hD1)) (fun _ _ _ h => h), fun h0_ _ => hof (hoff 11 (by kernel_rfl)) h0_, fun h0_ => hof (hoff 14 (by kernel_rfl)) h0_⟩
      refine sc rfl ?_ ?_
      ·rintro b a w' ⟨v9, ha, Q_B, Q_C, Q_R, Q_S1, Q_S2⟩ hb_ hon hoff K hK
       have e70 : a.tmps[70]? = some (.slice Av n cv) := by rw [ha]; exact (putSel_off rfl).trans rfl
       replace ha := Am ha
       refine value_ (w1 := w') (v := .int .i64 (n : Int)) (by rfl) rfl ?_ ?_
       ·go_simp
        (try simp only [i64_w])
        try rfl
       refine hK.out _ _ ⟨v9, (puk ha 5 hb_ rfl rfl rfl), Q_B, Q_C, Q_R, fun h0_ _ => hof (hoff 11 (by kernel_rfl)) h0_, fun h0_ => hof (hoff 14 (by kernel_rfl)) h0_⟩
      refine sc rfl ?_ ?_
      ·rintro b a w' ⟨v9, ha, Q_B, Q_C, Q_R, Q_S1, Q_S2⟩ hb_ hon hoff K hK
       have e69 := psn ha 4 rfl rfl (hon 7 (by kernel_rfl)) rfl
       have e71 := psn ha 5 rfl rfl (hon 9 (by kernel_rfl)) rfl
       replace ha := Am ha
       have B := Am (Q_B (hoff 11 (by kernel_rfl)))
       have C := Am (Q_C (hoff 11 (by kernel_rfl)))
       have R := Am (Q_R (hoff 11 (by kernel_rfl)))
       have hs := HSUB.out
       refine value_ (w1 := w') (v := .int .i64 (pad : Int)) (by rfl) rfl (by go_simp; simp only [i64_w]; exact hs) ?_
       refine hK.out _ _ ⟨v9, (puk ha 6 hb_ rfl rfl rfl), fun _ => B.out, fun _ => C.out, fun _ => R.out, fun h0_ _ => hof (hoff 11 (by kernel_rfl)) h0_, fun h0_ => hof (hoff 14 (by kernel_rfl)) h0_⟩
      refine sc rfl ?_ ?_
      ·rintro b a w' ⟨v9, ha, Q_B, Q_C, Q_R, Q_S1, Q_S2⟩ hb_ hon hoff K hK
       have e66 := psn ha 2 rfl rfl (hon 4 (by kernel_rfl)) rfl
       have e72 := psn ha 6 rfl rfl (hon 10 (by kernel_rfl)) rfl
       replace ha := Am ha
       have B := Am (Q_B hb_)
       have C := Am (Q_C hb_)
       have R := Am (Q_R hb_)
       refine Kd.R_append_zeros_step (kx := .i64) (Kd.int .u8) (w0 := w') (W := w') (gw + 1) (by rfl) _ _ 27 3 5 (.int .u8 0) 1 rfl Tryd.underlying27 Tryd.underlying3 info_u8 rfl (by decide) (by decide) (.slice A7 xs.length c7) xs 0 (pad : Int) okW (by simp [Act.eval, Array.getD_eq_getD_getElem?, e66]) (by simp [Act.eval, Array.getD_eq_getD_getElem?, e72]) rfl (fun k hk => HOK5.out k (by have := B.out.size; omega)) R.out (by omega) (Below.refl _ _) (by have := blk_lt C.out; omega) (by have := HXL.out; have := HM.out; omega) ?_
       intro v1 w1 hR1 hB1 hG1 _
       rw [Int.toNat_natCast] at hR1
       refine hK.out _ _ ⟨v1, (puk ha 7 hb_ rfl rfl rfl), fun h0_ => absurd ((up_self b 11).symm.trans h0_) (by decide), fun h0_ => absurd ((up_self b 11).symm.trans h0_) (by decide), fun h0_ => absurd ((up_self b 11).symm.trans h0_) (by decide), fun _ _ => ⟨hR1, blk_grown C.out hG1 (fun e => HGO.out (R.out.1 _ e.symm)), B.out.grown hG1 (fun k _ e => Or.inr (R.out.1 k e))⟩, fun h0_ => hof (hoff 14 (by kernel_rfl)) h0_⟩
      refine sc rfl ?_ ?_
      ·rintro b a w' ⟨v9, ha, Q_B, Q_C, Q_R, Q_S1, Q_S2⟩ hb_ hon hoff K hK
       have e62 : a.tmps[62]? = some (.pointer (some ⟨gw, 0, none⟩)) := by rw [ha]; exact (putSel_off rfl).trans rfl
       replace ha := Am ha
       refine value_ (w1 := w') (v := .pointer (some ⟨gw, 0, none⟩)) (by rfl) rfl ?_ ?_
       ·go_simp
        (try simp only [i64_w])
        try rfl
       refine hK.out _ _ ⟨v9, (puk ha 8 hb_ rfl rfl rfl), fun h0_ => absurd ((hon 11 (by kernel_rfl)).symm.trans h0_) (by decide), fun h0_ => absurd ((hon 11 (by kernel_rfl)).symm.trans h0_) (by decide), fun h0_ => absurd ((hon 11 (by kernel_rfl)).symm.trans h0_) (by decide), Q_S1, fun h0_ => hof (hoff 14 (by kernel_rfl)) h0_⟩
      refine sc rfl ?_ ?_
      ·rintro b a w' ⟨v9, ha, Q_B, Q_C, Q_R, Q_S1, Q_S2⟩ hb_ hon hoff K hK
       have e74 := psn ha 8 rfl rfl (hon 12 (by kernel_rfl)) rfl
       replace ha := Am ha
       refine value_ (w1 := w') (v := .pointer (some ⟨gw, 0, none⟩)) (by rfl) rfl ?_ ?_
       ·go_simp
        (try simp only [i64_w])
        try rfl
       refine hK.out _ _ ⟨v9, (puk ha 9 hb_ rfl rfl rfl), fun h0_ => absurd ((hon 11 (by kernel_rfl)).symm.trans h0_) (by decide), fun h0_ => absurd ((hon 11 (by kernel_rfl)).symm.trans h0_) (by decide), fun h0_ => absurd ((hon 11 (by kernel_rfl)).symm.trans h0_) (by decide), Q_S1, fun h0_ => hof (hoff 14 (by kernel_rfl)) h0_⟩
      refine sc rfl ?_ ?_
      ·rintro b a w' ⟨v9, ha, Q_B, Q_C, Q_R, Q_S1, Q_S2⟩ hb_ hon hoff K hK
       have e75 := psn ha 9 rfl rfl (hon 13 (by kernel_rfl)) rfl
       have e73 := psn ha 7 rfl rfl (hon 11 (by kernel_rfl)) rfl
       replace ha := Am ha
       have S1 := Am (Q_S1 (hon 11 (by kernel_rfl)) hb_)
       obtain ⟨hR1, hC1, hF1⟩ := S1.out
       obtain ⟨A8, c8, hv9⟩ := Kd.R_slice hR1
       have hs := blk_cell hC1 0
       have hf := blk_frozen hC1 0
       refine skip_ (w1 := w'.setCell ⟨gw, 0, none⟩ v9) (by rfl) rfl (by generalize (xs ++ List.replicate pad 0).length = zl at hv9; rw [hv9] at e73 ⊢; go_simp; try rfl) ?_
       refine hK.out _ _ ⟨v9, (by rw [ha.out]; exact putSel_none (v := undef) rfl), fun h0_ => absurd ((hon 11 (by kernel_rfl)).symm.trans h0_) (by decide), fun h0_ => absurd ((hon 11 (by kernel_rfl)).symm.trans h0_) (by decide), fun h0_ => absurd ((hon 11 (by kernel_rfl)).symm.trans h0_) (by decide), fun _ h1_ => absurd ((up_self b 14).symm.trans h1_) (by decide), fun _ => ⟨v9, blk_put hC1 0 v9 rfl, Kd.R_far hR1 (p := ⟨gw, 0, none⟩) (fun k hk (e : k = gw) => HGO.out (e ▸ hk)) v9, hF1.setCell (fun _ => Or.inl rfl) v9⟩⟩
      exact steps_nil
     rintro b a w' hall ⟨v9, ha, Q_B, Q_C, Q_R, Q_S1, Q_S2⟩
     clear B C R
     have hb2_ := hall 2 (by kernel_rfl)
     have hb3_ := hall 3 (by kernel_rfl)
     have hb4_ := hall 4 (by kernel_rfl)
     have hb6_ := hall 6 (by kernel_rfl)
     have hb7_ := hall 7 (by kernel_rfl)
     have hb9_ := hall 9 (by kernel_rfl)
     have hb10_ := hall 10 (by kernel_rfl)
     have hb11_ := hall 11 (by kernel_rfl)
     have hb12_ := hall 12 (by kernel_rfl)
     have hb13_ := hall 13 (by kernel_rfl)
     have hb14_ := hall 14 (by kernel_rfl)
     subst ha
     simp only [putSel, hb2_, hb3_, hb4_, hb6_, hb7_, hb9_, hb10_, hb11_, hb12_, hb13_, hb14_, if_true, Act.put, List.setIfInBounds_toArray, List.set_cons_zero, List.set_cons_succ]
     clear Q_B
     clear Q_C
     clear Q_R
     clear Q_S1
     have S2 := Am (Q_S2 hb14_)
     clear Q_S2
     clear hall hb2_ hb3_ hb4_ hb6_ hb7_ hb9_ hb10_ hb11_ hb12_ hb13_ hb14_
     obtain ⟨u, hg, hR, hF⟩ := S2.out
     clear S2 HC HR HSUB HPD
     obtain ⟨A9, c9, rfl⟩ := Kd.R_slice hR
     have HB9 := Lh (HBW.out.trans ((HF5.out.trans hF (fun k _ h => h)).below HBW.out.size HBO.out))
     have HR9 := Lh (Kd.R_mono (ok' := fun k => k ≠ gw) hR (fun k hk (e : k = gw) => HGO.out (e ▸ hk)))
     have HC9 := Lh hg
     have k0 : w'.cell? ⟨gw, 0, none⟩ = some (.slice A9 (xs ++ List.replicate pad 0).length c9) := blk_cell hg 0
     have hxl : (xs ++ List.replicate pad (0 : Int)).length ≤ 131074 := by have := HXL.out; have := HM.out; simp; omega
     clear hg hR hF HF5 HOK5 HXL HM HGO HBO HBW
     generalize hacc : xs ++ List.replicate pad (0 : Int) = acc2 at *
     obtain ⟨nl, hnl⟩ : ∃ nl, acc2.length = nl := ⟨_, rfl⟩
     rw [hnl] at k0 hxl
     have HNL := Lh hnl
     have hA3 := HA2.out
     rw [hnl] at hA3
     by_cases hb : 65536 < nl
     ·rw [if_pos hb] at hA3
      subst hA3
      clear HA2 HR9 HC9 hnl HNL hacc
      go_wp2
      go_ret2
      exact ⟨_, rfl, Kd.R_nil _ _ _ _ _, HB9.out⟩
     ·rw [if_neg hb] at hA3
      have HA3 := Lh hA3
      clear HA2 hA3 hacc hnl
      go_wp2
      go_roundw
      case rel => exact ⟨i + 1, acc2, by omega, by go_num, HA3, (by have := HNL.out; show _ ≤ _; omega), ⟨_, HC9.out, HR9.out⟩, HB9⟩
      case measure => simp [intOf]; omega
    ·obtain rfl : i = l.length := by omega
     have hA := HA.out
     rw [List.drop_length, runE] at hA
     subst hA
     obtain ⟨u, hg, hR⟩ := HW.out
     obtain ⟨Au, cu, rfl⟩ := Kd.R_slice hR
     have k0 : wr.cell? ⟨gw, 0, none⟩ = some (.slice Au acc.length cu) := blk_cell hg 0
     have HR := Lh (Kd.R_mono (ok' := fun _ => True) (Kd.R_lower hR (base' := w.heap.size) (by have := HGW.out; omega)) (fun _ _ => trivial))
     clear HRE HW0 HBW HVAL HLC HA hg hR HW HAL
     generalize hnl : acc.length = nl at *
     go_wp2
     go_ret2
     exact ⟨_, rfl, HR.out, HB.out⟩
end Go.Proofs.YtdlamomabonkjaaDoor.Ch
end
section
namespace Go.Proofs.YtdlamomabonkjaaDoor.Ch
open Go.RowKit YtdlamomabonkjaaDoorW.PrintWords YtdlamomabonkjaaDoorW.PrintLast Base PCh ParDec ParEnc
theorem byte_of_int {w : World} {A : Option Addr} {l : List UInt8} (h : (Kd.int .u8).C w A (ints l).length (ints l)) : byte.C w A l.length l := by
 obtain ⟨h1, h2, h3⟩ := h
 rw [ints_length] at h2 h3
 refine ⟨rfl, h2, fun hn => ?_⟩
 obtain ⟨ad, e, hc⟩ := h3 hn
 refine ⟨ad, e, fun j p hj => ?_⟩
 exact hc j (p.toNat : Int) (by unfold ints; rw [List.getElem?_map, hj]; rfl)
theorem chk_row1 {w : World} {g : Nat} {x : Chk} {L : Lay} (hb : w.heap[g]? = some (.cells (CV x L) 41 (0, 0))) (hx : CR w x L) : Kd.C k41 w (some ⟨g, 0, none⟩) 1 [x] := by
 refine ⟨rfl, by simp, fun _ => ⟨_, rfl, fun j p hj => ?_⟩⟩
 rcases j with _ | j
 ·simp only [List.getElem?_cons_zero, Option.some.injEq] at hj
  subst hj
  refine ⟨(CV x L).toList, rfl, hx.K, fun i u hu => ?_⟩
  rw [Nat.zero_mul, Nat.zero_add]
  exact cells_of_blk hb i u hu
 ·simp at hj
theorem checkD_lists {x : Chk} (h : checkD x = 0) : x.f10.length ≤ 4096 ∧ x.f11.length ≤ 4096 ∧ x.f12.length ≤ 4096 := by
 unfold checkD at h
 split at h
 ·cases h
 ·split at h
  ·cases h
  ·split at h
   ·cases h
   ·split at h
    ·cases h
    ·omega
theorem check_any (w : World) (x : Chk) (L : Lay) (hx : CR w x L) (hl : x.f13.length ≤ 140737488355232) : Calls Tryd.prog 46 #[.agg (CV x L)] w fun e w' => e = .returned (.int .i64 (checkD x)) ∧ Below w.heap.size w w' :=
 check_calls w x L hx (fun W hW _ h10 h11 h12 _ => (value_calls W.heap.size W x L (Nat.le_refl _) (fun W' hB => hW.below hB) h10 h11 h12 hl).mono fun e w' h => h.P)
end Go.Proofs.YtdlamomabonkjaaDoor.Ch
end
section
namespace Go.Proofs.YtdlamomabonkjaaDoor.Ch
open Go.RowKit YtdlamomabonkjaaDoorW.PrintWords YtdlamomabonkjaaDoorW.PrintLast Base PCh ParDec ParEnc
noncomputable def sizeD (x : Chk) : Nat := if checkD x = 0 then (chunkL x).length else 0
theorem padded_f (n : Nat) (h : n ≤ 140737488355328) : chunk_padded.f (n : Int) = some (((n + 3) / 4 * 4 : Nat) : Int) := by
 unfold chunk_padded.f
 have e : wrap64 ((n : Int) + 3) = ((n + 3 : Nat) : Int) := by unfold wrap64; omega
 rw [e, Int.tdiv_eq_ediv_of_nonneg (by omega)]
 congr 1
 unfold wrap64
 omega
set_option maxHeartbeats 4000000 in
theorem size_calls (w : World) (x : Chk) (L : Lay) (hx : CR w x L) (hl : x.f13.length ≤ 140737488351232) :
  Calls Tryd.prog 47 #[.agg (CV x L)] w fun e w' => e = .returned (.int .i64 (sizeD x : Int)) ∧ Below w.heap.size w w' := by
 have HC := Lh (fun (W : World) (h : Below w.heap.size w W) => check_any W x L (hx.below h) (by omega))
 have HV := Lh (fun (W : World) (h : Below w.heap.size w W) (hc : checkD x = 0) => (value_calls W.heap.size W x L (Nat.le_refl _) (fun W' hB => (hx.below h).below hB) (checkD_lists hc).1 (checkD_lists hc).2.1 (checkD_lists hc).2.2 (by omega)).mono fun e w' h => h.P)
 have HXS := Lh (show (Tryd.prog.info? 41).map (·.size) = some (CV x L).size by kernel_rfl)
 have HCL := Lh (chunkL_len x)
 have HLE := Lh (fun hc : checkD x = 0 => checkD_len hc)
 have X := B1.new w x L
 unfold sizeD
 obtain ⟨CD, hcd⟩ : ∃ CD, checkD x = CD := ⟨_, rfl⟩
 rw [hcd] at HC HV HLE ⊢
 clear hx hcd hl
 generalize (chunkL x).length = cl at *
 obtain ⟨SZ, hsz⟩ : ∃ SZ : Nat, (if CD = 0 then cl else 0) = SZ := ⟨_, rfl⟩
 rw [hsz]
 have HSZ := Lh hsz
 clear hsz
 go_enter Tryd.func47, Tryd.ntmps47
 go_upto_region 1 with (fail)
 refine wp_gen (B1 w x L) X ?_
 clear X
 intro W X
 go_wp2_with (with_reducible refine gate_dst (N := 3) rfl ?_; refine wpList_load_row rfl 41 (.tmp 1) rfl _ rfl 41 _ (0, 0) _ X.x0 Tryd.underlying41 rfl HXS.out ?_)
 refine (HC.out W X.x2).mono ?_
 rintro e w2 ⟨rfl, hB2⟩
 replace X := X.below hB2
 clear hB2 HC
 by_cases h0 : CD = 0
 ·subst h0
  have HV2 := Lh (HV.out w2 X.x2 rfl)
  have HL2 := Lh (HLE.out rfl)
  clear HV HLE
  unfold ValP at HV2
  go_wp2_with (with_reducible refine gate_dst (N := 6) rfl ?_; refine wpList_load_row rfl 41 (.tmp 1) rfl _ rfl 41 _ (0, 0) _ X.x0 Tryd.underlying41 rfl HXS.out ?_)
  refine HV2.out.mono ?_
  rintro e w5 ⟨A9, c9, rfl, hle9, hC9, hB5⟩
  replace X := X.below hB5
  clear hC9 hB5 hle9 HV2
  generalize (valueD x).length = vl at *
  have e4 : wrap64 (4 + (vl : Int)) = ((4 + vl : Nat) : Int) := by have := HL2.out; unfold wrap64; omega
  have HP := Lh (fun W => chunk_padded.calls ((4 + vl : Nat) : Int) _ W (padded_f (4 + vl) (by have := HL2.out; omega)))
  go_wp2_with fail
  rw [e4]
  refine (HP.out _).mono ?_
  rintro e w6 ⟨rfl, ⟨m6, rfl⟩⟩
  go_wp2
  go_ret
  have hz : ((4 + (vl : Int) + 3) / 4 * 4) = (SZ : Int) := by
   have h1 := HSZ.out
   have h2 := HCL.out
   simp only [if_true] at h1
   omega
  exact ⟨congrArg (fun z => Ending.returned (.int .i64 z)) hz, (X.drewN m6).x2⟩
 ·have q : (CD != 0) = true := by simp [h0]
  go_wp2
  go_ret
  have hz : (0 : Int) = (SZ : Int) := by
   have h1 := HSZ.out
   rw [if_neg h0] at h1
   omega
  exact ⟨congrArg (fun z => Ending.returned (.int .i64 z)) hz, X.x2⟩
set_option maxHeartbeats 4000000 in
theorem rsize_calls (w : World) (x : Chk) (L : Lay) (hx : CR w x L) (hok : OkC x) :
  Calls Tryd.prog 49 #[.agg (CV x L)] w fun e w' => e = .returned (.int .i64 (sizeD x : Int)) ∧ Below w.heap.size w w' := by
 have HC := Lh (fun (W : World) (h : Below w.heap.size w W) => rcheck_calls W x L (hx.below h) hok)
 have HV := Lh (fun (W : World) (h : Below w.heap.size w W) (hc : checkD x = 0) => rvalue_calls W x L (hx.below h) (check_ok.1 hc).bare (checkD_lists hc).1 (checkD_lists hc).2.1 (checkD_lists hc).2.2 hok.l13)
 have HXS := Lh (show (Tryd.prog.info? 41).map (·.size) = some (CV x L).size by kernel_rfl)
 have HCL := Lh (chunkL_len x)
 have HLE := Lh (fun hc : checkD x = 0 => checkD_len hc)
 have X := B1.new w x L
 unfold sizeD
 obtain ⟨CD, hcd⟩ : ∃ CD, checkD x = CD := ⟨_, rfl⟩
 rw [hcd] at HC HV HLE ⊢
 clear hx hcd hok
 generalize (chunkL x).length = cl at *
 obtain ⟨SZ, hsz⟩ : ∃ SZ : Nat, (if CD = 0 then cl else 0) = SZ := ⟨_, rfl⟩
 rw [hsz]
 have HSZ := Lh hsz
 clear hsz
 go_enter Tryd.func49, Tryd.ntmps49
 go_upto_region 1 with (fail)
 refine wp_gen (B1 w x L) X ?_
 clear X
 intro W X
 go_wp2_with (with_reducible refine gate_dst (N := 3) rfl ?_; refine wpList_load_row rfl 41 (.tmp 1) rfl _ rfl 41 _ (0, 0) _ X.x0 Tryd.underlying41 rfl HXS.out ?_)
 refine (HC.out W X.x2).mono ?_
 rintro e w2 ⟨rfl, hB2⟩
 replace X := X.below hB2
 clear hB2 HC
 by_cases h0 : CD = 0
 ·subst h0
  have HV2 := Lh (HV.out w2 X.x2 rfl)
  have HL2 := Lh (HLE.out rfl)
  clear HV HLE
  go_wp2_with (with_reducible refine gate_dst (N := 6) rfl ?_; refine wpList_load_row rfl 41 (.tmp 1) rfl _ rfl 41 _ (0, 0) _ X.x0 Tryd.underlying41 rfl HXS.out ?_)
  refine HV2.out.mono ?_
  rintro e w5 ⟨v9, rfl, hR5, hB5⟩
  obtain ⟨A9, c9, rfl⟩ := Kd.R_slice hR5
  replace X := X.below hB5
  clear hR5 hB5 HV2
  generalize (valueD x).length = vl at *
  go_wp2
  go_ret
  have hz : wrap64 (wrap64 ((wrap64 ((vl : Int) + 7)).tdiv 4) * 4) = (SZ : Int) := by
   have h1 := HSZ.out
   have h2 := HCL.out
   have h3 := HL2.out
   simp only [if_true] at h1
   rw [show wrap64 ((vl : Int) + 7) = (vl : Int) + 7 by unfold wrap64; omega, Int.tdiv_eq_ediv_of_nonneg (by omega)]
   unfold wrap64
   omega
  exact ⟨congrArg (fun z => Ending.returned (.int .i64 z)) hz, X.x2⟩
 ·have q : (CD != 0) = true := by simp [h0]
  go_wp2
  go_ret
  have hz : (0 : Int) = (SZ : Int) := by
   have h1 := HSZ.out
   rw [if_neg h0] at h1
   omega
  exact ⟨congrArg (fun z => Ending.returned (.int .i64 z)) hz, X.x2⟩
end Go.Proofs.YtdlamomabonkjaaDoor.Ch
end
section
namespace Go.Proofs.YtdlamomabonkjaaDoor.Ch
open Go.RowKit YtdlamomabonkjaaDoorW.PrintWords YtdlamomabonkjaaDoorW.PrintLast Base PCh ParDec ParEnc
theorem z16 : in16 0 := by unfold in16; omega
theorem z32 : in32 0 := by unfold in32; omega
theorem nog : ∀ g ∈ ([] : List GapS), okG g := fun _ h => by cases h
theorem noi {P : Int → Prop} : ∀ g ∈ ([] : List Int), P g := fun _ h => by cases h
theorem nop : ∀ p ∈ ([] : List PrmS), okQ p := fun _ h => by cases h
theorem fourL_in (l : List Int) : ∀ b ∈ fourL l, inB b := by
 induction l with
 | nil => intro b h; cases h
 | cons n r ih =>
  intro b h
  unfold fourL at h
  rcases List.mem_append.1 h with h | h
  ·simp only [List.mem_cons, List.not_mem_nil, or_false] at h
   unfold inB
   omega
  ·exact ih b h
theorem twoL_in (l : List Int) : ∀ b ∈ twoL l, inB b := by
 induction l with
 | nil => intro b h; cases h
 | cons n r ih =>
  intro b h
  unfold twoL at h
  rcases List.mem_append.1 h with h | h
  ·simp only [List.mem_cons, List.not_mem_nil, or_false] at h
   unfold inB
   omega
  ·exact ih b h
theorem nil_in : ∀ b ∈ ([] : List Int), inB b := fun _ h => by cases h
theorem app_in {a b : List Int} (ha : ∀ x ∈ a, inB x) (hb : ∀ x ∈ b, inB x) : ∀ x ∈ a ++ b, inB x := fun x h => (List.mem_append.1 h).elim (ha x) (hb x)
theorem encP_in {ps : List PrmS} (h : ∀ p ∈ ps, okQ p) : ∀ b ∈ (encP ps).1, inB b := by
 unfold encP
 by_cases hl : ps.length > 256
 ·rw [if_pos hl]; exact nil_in
 rw [if_neg hl]
 by_cases hs : allShort ps
 ·rw [runB_short ps hs]
  exact fold_in ps [] nil_in (fun q hq => ⟨(h q hq).1.1, (h q hq).1.2, by have := hs q hq; omega, fun x hx => (h q hq).2 x hx⟩)
 ·rw [runB_long ps hs]; exact nil_in
theorem value_in {x : Chk} (h : OkC x) : ∀ b ∈ valueD x, inB b := by
 unfold valueD
 split
 ·unfold valData; exact app_in (app_in (app_in (fourL_in _) (twoL_in _)) (fourL_in _)) h.r13
 split
 ·exact app_in (app_in (app_in (fourL_in _) (twoL_in _)) (fourL_in _)) (encP_in h.r14)
 split
 ·exact app_in (app_in (app_in (fourL_in _) (twoL_in _)) (twoL_in _)) (fourL_in _)
 split
 ·exact app_in (app_in (app_in (app_in (fourL_in _) (twoL_in _)) (twoL_in _)) (twoL_in _)) (fourL_in _)
 split
 ·exact encP_in h.r14
 split
 ·exact fourL_in _
 split
 ·exact nil_in
 ·exact h.r13
theorem chunk_in {x : Chk} (h : OkC x) : ∀ b ∈ chunkL x, inB b := by
 unfold chunkL
 refine app_in (app_in (app_in ?_ (twoL_in _)) (value_in h)) ?_
 ·intro b hb
  simp only [List.mem_cons, List.not_mem_nil, or_false] at hb
  rcases hb with rfl | rfl
  ·exact h.r0
  ·exact h.r1
 ·intro b hb
  unfold padL at hb
  rw [(List.mem_replicate.1 hb).2]
  unfold inB
  omega
theorem flat_in (l : List Chk) (h : ∀ x ∈ l, OkC x) : ∀ b ∈ flatL l, inB b := by
 induction l with
 | nil => exact nil_in
 | cons x r ih => exact app_in (chunk_in (h x (List.mem_cons_self ..))) (ih (fun y hy => h y (List.mem_cons_of_mem _ hy)))
theorem enc_in {l : List Chk} (h : ∀ x ∈ l, OkC x) : ∀ b ∈ (encD l).1, inB b := by
 by_cases e : (encD l).2 = 0
 ·rw [(enc_good e).2.1]; exact flat_in l h
 ·rw [enc_bad e]; exact nil_in
end Go.Proofs.YtdlamomabonkjaaDoor.Ch
end
section
namespace Go.Proofs.YtdlamomabonkjaaDoor.Pk
open Go.RowKit YtdlamomabonkjaaDoorW.PrintWords YtdlamomabonkjaaDoorW.PrintLast Base PCh ParDec ParEnc Ch
def aloneK (k : Int) : Bool := k == 1 || k == 2 || k == 14
theorem alone_calls (k : Int) (w : World) : Calls Tryd.prog 18 #[.int .u8 k] w fun e w' => e = .returned (.bool (aloneK k)) ∧ Drawn0 w w' := by
 refine packet_Alone.calls k (aloneK k) w ?_
 unfold packet_Alone.f aloneK
 by_cases h1 : k = 1
 ·subst h1; rfl
 by_cases h2 : k = 2
 ·subst h2; rfl
 rw [if_neg h1, if_neg h2]
 have e1 : (k == 1) = false := by simp [h1]
 have e2 : (k == 2) = false := by simp [h2]
 rw [e1, e2]; rfl
def anyAlone (l : List Chk) : Bool := l.any fun x => aloneK x.f0
set_option maxHeartbeats 4000000 in
theorem apart1_calls (w : World) (x : Chk) (L : Lay) : Calls Tryd.prog 51 #[.agg (CV x L)] w fun e w' => e = .returned (.bool (aloneK x.f0)) ∧ Below w.heap.size w w' := by
 have HA := Lh (fun (W : World) => alone_calls x.f0 W)
 have HXS := Lh (show (Tryd.prog.info? 41).map (·.size) = some (CV x L).size by kernel_rfl)
 have HXZ := Lh (show (#[.int .u8 0, .int .u8 0, .int .u32 0, .int .u16 0, .int .u16 0, .int .u32 0, .int .u32 0, .int .u32 0, .int .u16 0, .int .u16 0, .slice none 0 0, .slice none 0 0, .slice none 0 0, .slice none 0 0, .slice none 0 0] : Array Value).size = (CV x L).size from rfl)
 have HXO := Lh (CV_one x L)
 have H0 : (CV x L)[0]? = some (.int .u8 x.f0) := rfl
 generalize x.f0 = k at *
 generalize CV x L = CX at *
 have H0 := Lh H0
 go_enter Tryd.func51, Tryd.ntmps51
 go_wp2_with fail
 refine (HA.out _).mono ?_
 rintro e w1 ⟨rfl, hD⟩
 have HB := Lh (below_then (below_alloc (Below.refl w.heap.size w) (.cells CX 41)) (by simp) hD.below)
 clear hD HA HXS HXZ HXO H0
 go_wp2
 go_ret
 exact ⟨rfl, HB.out⟩
def aloneI : Nat → List Chk → Int
 | _, [] => -1
 | i, x :: r => if aloneK x.f0 = true then (i : Int) else aloneI (i + 1) r
theorem aloneI_any (l : List Chk) : ∀ i, decide (0 ≤ aloneI i l) = anyAlone l := by
 induction l with
 | nil => intro i; rfl
 | cons x r ih =>
  intro i
  unfold aloneI anyAlone
  by_cases h : aloneK x.f0 = true
  ·rw [if_pos h, List.any_cons, h, Bool.true_or]; exact decide_eq_true (by omega)
  ·rw [if_neg h, ih (i + 1), List.any_cons, Bool.eq_false_iff.2 h, Bool.false_or]; rfl
set_option maxHeartbeats 4000000 in
theorem index_calls (w : World) (A : Option Addr) (c : Nat) (l : List Chk) (hl : Kd.C k41 w A l.length l) :
  Calls Tryd.prog 75 #[.slice A l.length c, .func (.func 51) #[] #[]] w fun e w' => e = .returned (.int .i64 (aloneI 0 l)) ∧ Below w.heap.size w w' := by
 have HLC := Lh (fun (W : World) (h : Below w.heap.size w W) => Kd.C_below hl h)
 have HMX := Lh hl.2.1
 clear hl
 go_enter Tryd.func75, Tryd.ntmps75
 have hm := HMX.out
 go_wp2
 go_loopw [8] (fun v8 w' => ∃ i : Nat, i ≤ l.length ∧ v8 = .int .i64 i ∧ Hid (aloneI 0 l = aloneI i (l.drop i)) ∧ Hid (Below w.heap.size w w')) (fun v8 _ => l.length - (intOf v8).toNat)
 case atStart => exact ⟨0, by omega, rfl, rfl, Below.refl _ _⟩
 case round =>
  obtain ⟨i, hi, rfl, HS, HB⟩ := hrel
  by_cases hlt : i < l.length
  ·obtain ⟨ad, x, L, rfl, hd, hxm, hcell, hx⟩ := chk_at (HLC.out wr HB.out) i hlt
   have hA := HS.out
   rw [hd, aloneI] at hA
   have HF := Lh (fun W => apart1_calls W x L)
   have HCL := Lh hcell
   have HXS := Lh (show (Tryd.prog.info? 41).map (·.size) = some (CV x L).size by kernel_rfl)
   clear hcell hd hxm HS
   generalize CV x L = CX at *
   clear hx
   generalize aloneK x.f0 = q at *
   have HA := Lh hA
   clear hA
   go_wp2_with (first | (with_reducible refine gate_dst (N := 15) rfl ?_; go_must (refine wpList_load_cells rfl 41 (.tmp 14) rfl rfl CX _ (fun j v hv => HCL.out j v hv) Tryd.underlying41 rfl HXS.out ?_)))
   refine (HF.out _).mono ?_
   rintro e w1 ⟨rfl, hB1⟩
   have HB2 := Lh (below_then HB.out HB.out.size hB1)
   clear hB1 HB HCL HF HXS
   cases q with
   | true =>
    have hA := HA.out
    rw [if_pos rfl] at hA
    clear HA
    have HA := Lh hA
    clear hA
    go_wp2
    go_ret
    exact ⟨by rw [HA.out]; rfl, HB2.out⟩
   | false =>
    have hA := HA.out
    rw [if_neg Bool.false_ne_true] at hA
    clear HA
    have HA := Lh hA
    clear hA
    go_wp2
    go_roundw
    case rel => exact ⟨i + 1, by omega, by go_num, HA, HB2⟩
    case measure => simp [intOf]; omega
  ·obtain rfl : i = l.length := by omega
   have HD := Lh (show aloneI 0 l = -1 by rw [HS.out, List.drop_length]; rfl)
   go_wp2
   go_ret
   exact ⟨by rw [HD.out]; rfl, HB.out⟩
set_option maxHeartbeats 4000000 in
theorem contains_calls (w : World) (A : Option Addr) (c : Nat) (l : List Chk) (hl : Kd.C k41 w A l.length l) :
  Calls Tryd.prog 50 #[.slice A l.length c, .func (.func 51) #[] #[]] w fun e w' => e = .returned (.bool (anyAlone l)) ∧ Below w.heap.size w w' := by
 have HX := Lh (index_calls w A c l hl)
 rw [← aloneI_any l 0]
 generalize aloneI 0 l = k at *
 go_enter Tryd.func50, Tryd.ntmps50
 go_wp2_with fail
 refine HX.out.mono ?_
 rintro e w1 ⟨rfl, hB⟩
 have HB := Lh hB
 clear hB HX hl
 go_wp2
 go_ret
 exact ⟨rfl, HB.out⟩
def apartB (l : List Chk) : Bool := decide (1 < l.length) && anyAlone l
set_option maxHeartbeats 4000000 in
theorem apart_calls (w : World) (A : Option Addr) (c : Nat) (l : List Chk) (hl : Kd.C k41 w A l.length l) :
  Calls Tryd.prog 27 #[.slice A l.length c] w fun e w' => e = .returned (.bool (apartB l)) ∧ Below w.heap.size w w' := by
 have HX := Lh (fun W (h : Below w.heap.size w W) => contains_calls W A c l (Kd.C_below hl h))
 clear hl
 unfold apartB
 by_cases h1 : 1 < l.length
 ·rw [decide_eq_true h1, Bool.true_and]
  generalize anyAlone l = q at *
  have h2 : (1 : Int) < (l.length : Int) := by omega
  generalize l.length = m at *
  go_enter Tryd.func27, Tryd.ntmps27
  go_wp2_with fail
  refine (HX.out w (Below.refl _ _)).mono ?_
  rintro e w1 ⟨rfl, hB⟩
  have HB := Lh hB
  clear hB HX
  go_wp2
  go_ret
  exact ⟨rfl, HB.out⟩
 ·rw [decide_eq_false h1, Bool.false_and]
  clear HX
  go_enter Tryd.func27, Tryd.ntmps27
  go_wp2
  go_ret
  exact ⟨rfl, Below.refl _ _⟩
end Go.Proofs.YtdlamomabonkjaaDoor.Pk
end
section
namespace Go.Proofs.YtdlamomabonkjaaDoor.Pk
open Go.RowKit YtdlamomabonkjaaDoorW.PrintWords YtdlamomabonkjaaDoorW.PrintLast Base PCh ParDec ParEnc Ch
structure BS where
 D : List (List Chk)
 R : List Chk
 left : Nat
noncomputable def outB (s : BS) : List (List Chk) := if s.R.isEmpty = true then s.D else s.D ++ [s.R]
noncomputable def bstep (m : Nat) (s : BS) (x : Chk) : BS :=
 if s.R.isEmpty = true ∨ s.left < sizeD x ∨ apartB (s.R ++ [x]) = true then ⟨outB s, [x], m - 12 - sizeD x⟩ else ⟨s.D, s.R ++ [x], s.left - sizeD x⟩
noncomputable def rowsB (m : Nat) (l : List Chk) : BS := l.foldl (bstep m) ⟨[], [], 0⟩
noncomputable def bundD (mtu : Int) (l : List Chk) : List (List Chk) × Int :=
 if mtu < 100 ∨ 1500 < mtu then ([], 1) else if chkAll l = 0 then (if (∀ x ∈ l, 12 + sizeD x ≤ mtu.toNat) then (outB (rowsB mtu.toNat l), 0) else ([], 2)) else ([], chkAll l)
theorem flatL_app (a b : List Chk) : flatL (a ++ b) = flatL a ++ flatL b := by
 induction a with
 | nil => rfl
 | cons x r ih => rw [List.cons_append, flatL, flatL, ih, List.append_assoc]
theorem flatL_one (x : Chk) : flatL [x] = chunkL x := by rw [flatL, flatL, List.append_nil]
def SepB (m : Nat) (a b : List Chk) : Prop := ∃ y r, b = y :: r ∧ (apartB (a ++ [y]) = true ∨ m < 12 + (flatL (a ++ [y])).length)
def GoodB (m : Nat) (r : List Chk) : Prop := r ≠ [] ∧ apartB r = false ∧ 12 + (flatL r).length ≤ m
structure BInv (m : Nat) (s : BS) (l : List Chk) : Prop where
 fl : (s.D ++ [s.R]).flatten = l
 gd : ∀ r ∈ s.D, GoodB m r
 gr : s.R ≠ [] → GoodB m s.R ∧ s.left + 12 + (flatL s.R).length = m
 st : s.R = [] → s.D = []
 sep : ∀ i, i + 1 < s.D.length → SepB m (s.D.getD i []) (s.D.getD (i + 1) [])
 sepr : s.R ≠ [] → s.D ≠ [] → SepB m (s.D.getD (s.D.length - 1) []) s.R
theorem sep_app {m : Nat} {a b c : List Chk} (h : SepB m a b) : SepB m a (b ++ c) := by
 obtain ⟨y, r, rfl, h⟩ := h
 exact ⟨y, r ++ c, rfl, h⟩
theorem getD_app_lt {α : Type} (l r : List α) (d : α) (i : Nat) (h : i < l.length) : (l ++ r).getD i d = l.getD i d := by
 simp only [List.getD_eq_getElem?_getD]
 rw [List.getElem?_append_left h]
theorem getD_app_len {α : Type} (l : List α) (x d : α) : (l ++ [x]).getD l.length d = x := by
 simp [List.getD_eq_getElem?_getD]
theorem binv_step {m : Nat} {s : BS} {l : List Chk} (h : BInv m s l) (x : Chk) (hc : checkD x = 0) (hm : 12 + sizeD x ≤ m) : BInv m (bstep m s x) (l ++ [x]) ∧ (bstep m s x).R ≠ [] := by
 have hs : sizeD x = (chunkL x).length := by unfold sizeD; rw [if_pos hc]
 unfold bstep
 by_cases hR : s.R = []
 ·have hD := h.st hR
  rw [if_pos (Or.inl (by rw [hR]; rfl))]
  have ho : outB s = [] := by unfold outB; rw [if_pos (by rw [hR]; rfl), hD]
  refine ⟨⟨?_, ?_, ?_, ?_, ?_, ?_⟩, by simp⟩
  ·have := h.fl
   rw [hD, hR] at this
   rw [← this, ho]
   simp
  ·intro r hr; rw [ho] at hr; cases hr
  ·intro _
   exact ⟨⟨by simp, rfl, by rw [flatL_one]; omega⟩, by rw [flatL_one]; dsimp only; omega⟩
  ·intro e; simp at e
  ·intro i hi; rw [ho] at hi; simp at hi
  ·intro _ e; exact absurd ho e
 ·have hne : s.R.isEmpty = false := by cases hh : s.R with
   | nil => exact absurd hh hR
   | cons _ _ => rfl
  obtain ⟨hg, hl⟩ := h.gr hR
  have ho : outB s = s.D ++ [s.R] := by unfold outB; rw [if_neg (by rw [hne]; exact Bool.false_ne_true)]
  by_cases hn : s.left < sizeD x ∨ apartB (s.R ++ [x]) = true
  ·rw [if_pos (Or.inr hn)]
   refine ⟨⟨?_, ?_, ?_, ?_, ?_, ?_⟩, by simp⟩
   ·rw [ho, ← h.fl]; simp
   ·intro r hr
    rw [ho] at hr
    rcases List.mem_append.1 hr with hr | hr
    ·exact h.gd r hr
    ·rw [List.mem_singleton.1 hr]; exact hg
   ·intro _
    exact ⟨⟨by simp, rfl, by rw [flatL_one]; omega⟩, by rw [flatL_one]; dsimp only; omega⟩
   ·intro e; simp at e
   ·intro i hi
    rw [ho] at hi ⊢
    rw [List.length_append, List.length_singleton] at hi
    by_cases h2 : i + 1 < s.D.length
    ·rw [getD_app_lt _ _ _ _ (by omega), getD_app_lt _ _ _ _ h2]; exact h.sep i h2
    ·have e : i + 1 = s.D.length := by omega
     rw [getD_app_lt _ _ _ _ (by omega), e, getD_app_len, show i = s.D.length - 1 by omega]
     exact h.sepr hR (by intro e2; rw [e2] at e; simp at e)
   ·intro _ _
    rw [ho, List.length_append, List.length_singleton, Nat.add_sub_cancel, getD_app_len]
    refine ⟨x, [], rfl, ?_⟩
    rcases hn with hn | hn
    ·right; rw [flatL_app, flatL_one, List.length_append]; omega
    ·left; exact hn
  ·have hn1 : ¬ s.left < sizeD x := fun e => hn (Or.inl e)
   have hn2 : apartB (s.R ++ [x]) = false := Bool.eq_false_iff.2 fun e => hn (Or.inr e)
   rw [if_neg (fun e => e.elim (fun e => by rw [hne] at e; cases e) hn)]
   refine ⟨⟨?_, h.gd, ?_, ?_, h.sep, ?_⟩, by simp⟩
   ·rw [← h.fl]; simp
   ·intro _
    have hlen : (flatL (s.R ++ [x])).length = (flatL s.R).length + sizeD x := by rw [flatL_app, flatL_one, List.length_append, hs]
    exact ⟨⟨by simp, hn2, by rw [hlen]; omega⟩, by rw [hlen]; dsimp only; omega⟩
   ·intro e; simp at e
   ·intro _ hD
    exact sep_app (h.sepr hR hD)
theorem binv_rows {m : Nat} (l : List Chk) (hc : ∀ x ∈ l, checkD x = 0) (hm : ∀ x ∈ l, 12 + sizeD x ≤ m) : BInv m (rowsB m l) l ∧ (l ≠ [] → (rowsB m l).R ≠ []) := by
 have key : ∀ (r : List Chk) (s : BS) (a : List Chk), BInv m s a → (a ≠ [] → s.R ≠ []) → (∀ x ∈ r, checkD x = 0) → (∀ x ∈ r, 12 + sizeD x ≤ m) → BInv m (r.foldl (bstep m) s) (a ++ r) ∧ (a ++ r ≠ [] → (r.foldl (bstep m) s).R ≠ []) := by
  intro r
  induction r with
  | nil => intro s a h h2 _ _; rw [List.append_nil]; exact ⟨h, h2⟩
  | cons x r ih =>
   intro s a h _ h1 h2
   obtain ⟨h3, h4⟩ := binv_step h x (h1 x List.mem_cons_self) (h2 x List.mem_cons_self)
   have := ih (bstep m s x) (a ++ [x]) h3 (fun _ => h4) (fun y hy => h1 y (List.mem_cons_of_mem _ hy)) (fun y hy => h2 y (List.mem_cons_of_mem _ hy))
   rw [List.append_assoc, List.singleton_append] at this
   exact this
 have := key l ⟨[], [], 0⟩ [] ⟨rfl, fun r hr => by (cases hr), fun e => absurd rfl e, fun _ => rfl, fun i hi => by (simp at hi), fun e => absurd rfl e⟩ (fun e => absurd rfl e) hc hm
 rw [List.nil_append] at this
 exact this
structure RowsOk (m : Nat) (o : List (List Chk)) (l : List Chk) : Prop where
 fl : o.flatten = l
 gd : ∀ r ∈ o, GoodB m r
 sep : ∀ i, i + 1 < o.length → SepB m (o.getD i []) (o.getD (i + 1) [])
theorem rows_ok {m : Nat} {s : BS} {l : List Chk} (h : BInv m s l) : RowsOk m (outB s) l := by
 unfold outB
 by_cases hR : s.R = []
 ·rw [if_pos (by rw [hR]; rfl)]
  have := h.fl
  rw [h.st hR, hR] at this
  rw [h.st hR]
  exact ⟨by rw [← this]; rfl, fun r hr => by (cases hr), fun i hi => by (simp at hi)⟩
 ·have hne : s.R.isEmpty = false := by cases hh : s.R with
   | nil => exact absurd hh hR
   | cons _ _ => rfl
  rw [if_neg (by rw [hne]; exact Bool.false_ne_true)]
  refine ⟨h.fl, fun r hr => ?_, fun i hi => ?_⟩
  ·rcases List.mem_append.1 hr with hr | hr
   ·exact h.gd r hr
   ·rw [List.mem_singleton.1 hr]; exact (h.gr hR).1
  ·rw [List.length_append, List.length_singleton] at hi
   by_cases h2 : i + 1 < s.D.length
   ·rw [getD_app_lt _ _ _ _ (by omega), getD_app_lt _ _ _ _ h2]; exact h.sep i h2
   ·have e : i + 1 = s.D.length := by omega
    rw [getD_app_lt _ _ _ _ (by omega), e, getD_app_len, show i = s.D.length - 1 by omega]
    exact h.sepr hR (by intro e2; rw [e2] at e; simp at e)
theorem apart_prev {m : Nat} {s : BS} {l : List Chk} (h : BInv m s l) (y x : Chk) (a : List Chk) (hy : s.R = a ++ [y]) : apartB (s.R ++ [x]) = (aloneK x.f0 || aloneK y.f0) := by
 have hg := (h.gr (by rw [hy]; simp)).1.2.1
 have h1 : apartB (s.R ++ [x]) = anyAlone (s.R ++ [x]) := by
  unfold apartB
  rw [hy, decide_eq_true (by simp), Bool.true_and]
 have h2 : anyAlone (s.R ++ [x]) = (anyAlone s.R || aloneK x.f0) := by
  unfold anyAlone
  rw [List.any_append, List.any_cons, List.any_nil, Bool.or_false]
 rw [h1, h2]
 rw [hy] at hg ⊢
 cases a with
 | nil => show (([y] : List Chk).any _ || _) = _; rw [List.any_cons, List.any_nil, Bool.or_false, Bool.or_comm]
 | cons b a =>
  unfold apartB at hg
  rw [decide_eq_true (by simp), Bool.true_and] at hg
  rw [hg]
  unfold anyAlone at hg
  simp only [List.any_append, List.any_cons, List.any_nil, Bool.or_false, Bool.or_eq_false_iff] at hg
  rw [hg.2, Bool.or_false, Bool.false_or]
theorem rows_mem {m : Nat} {o : List (List Chk)} {l : List Chk} (h : RowsOk m o l) {P : Chk → Prop} (hp : ∀ x ∈ l, P x) : ∀ r ∈ o, ∀ x ∈ r, P x := by
 intro r hr x hx
 exact hp x (by rw [← h.fl]; exact List.mem_flatten.2 ⟨r, hr, hx⟩)
theorem flatten_len {o : List (List Chk)} (h : ∀ r ∈ o, r ≠ []) : o.length ≤ o.flatten.length := by
 induction o with
 | nil => simp
 | cons r o ih =>
  rw [List.flatten_cons, List.length_append, List.length_cons]
  have h1 := ih fun x hx => h x (List.mem_cons_of_mem _ hx)
  have h2 : 0 < r.length := List.length_pos_iff.2 (h r List.mem_cons_self)
  omega
end Go.Proofs.YtdlamomabonkjaaDoor.Pk
end
section
namespace Go.Proofs.YtdlamomabonkjaaDoor.Base
open Go.RowKit YtdlamomabonkjaaDoorW.PrintWords YtdlamomabonkjaaDoorW.PrintLast
section
variable {P : Program} {ops : Array Oper} {Q : Exit → Act → World → Prop} {B O C : List Nat} {W : World} {I : Nat → Value → World → Prop} {u0 : Value} {L : (Nat → Value) → Sel} {a0 : Act} {i : Nat} {p : Tmp}
theorem gr_callc (i k m : Nat) {t : Tmp} {vals : List Value} {oi : Oper} {f : FuncId} {fn : Func} {ax : Array Operand} {ts : Array TypeId} (ho : ops[i]? = some oi) (hg : oi.guard = none) (hd : oi.dst = some t) (hm : C[m]? = some i) (hL : ∀ vs, (L vs)[k]? = some (i, t, vs (m + 1)))
  (hset : ∀ vs v', (L vs).set k (i, t, v') = L (fun j => if j = m + 1 then v' else vs j)) (hdist : ∀ vs, ((L vs).take k ++ (L vs).drop (k + 1)).all (fun e => !(e.1 == i) && !(e.2.1 == t)) = true) (hnd : (C.take m ++ C.drop (m + 1)).contains i = false) (hprev : (C.take m).all (fun q => O.contains q && (B.getD i 0).testBit q) = true)
  (hf : P.funcs[f]? = some fn) (hname : (fn.name == "runtime.NumGoroutine") = false) (hbd : fn.body.isSome = true) (hop : oi.op = .call { callee := .value (.func f), args := ax, argTypes := ts })
  (har : Ar O B i L a0 ax.toList vals) (hcall : ∀ u w, I m u w → Calls P f vals.toArray w fun e w' => ∃ v', e = .returned v' ∧ I (m + 1) v' w') : StepAt P ops Q B O (GrI C I u0 L a0) i := by
 rintro b a w hG hb hon hoff
 obtain ⟨vs, hu, ha, hI, hK2⟩ := gr_step i k m hm hL hset hdist hnd hprev hG hb hon
 refine ⟨oi, ho, fun K hK => ?_⟩
 rw [hd]
 have e2 := har b vs hon hoff
 refine goes_ hf hname hbd vals.toArray (wanted_none0 hg) hd hop ?_ ?_
 ·apply Array.toList_inj.1
  rw [Array.toList_map, ha, e2]
 ·refine (hcall (vs m) w hI).mono ?_
  rintro e w' ⟨v', rfl, hI'⟩
  exact ⟨v', rfl, hK.out _ _ (hK2 v' w' hI')⟩
end
end Go.Proofs.YtdlamomabonkjaaDoor.Base
end
section
namespace CrcMath
def poly : Nat := 2197175160
theorem poly_eq : poly = 2197175160 := rfl
attribute [irreducible] poly
def bitStep (n : Nat) : Nat := if n % 2 = 1 then (n / 2) ^^^ poly else n / 2
def bitSteps : Nat → Nat → Nat
 | 0, n => n
 | k + 1, n => bitSteps k (bitStep n)
theorem half_xor (a b : Nat) : (a ^^^ b) / 2 = a / 2 ^^^ b / 2 := by
 have := Nat.xor_div_two (a := a) (b := b)
 exact this
theorem bitStep_xor (a b : Nat) : bitStep (a ^^^ b) = bitStep a ^^^ bitStep b := by
 unfold bitStep
 have h : (a ^^^ b) % 2 = (a % 2 + b % 2) % 2 := by
  have := Nat.xor_mod_two_pow (a := a) (b := b) (n := 1)
  rcases Nat.mod_two_eq_zero_or_one a with ha | ha <;> rcases Nat.mod_two_eq_zero_or_one b with hb | hb <;> simp [ha, hb] at this ⊢ <;> omega
 rw [h, half_xor]
 generalize poly = p
 rcases Nat.mod_two_eq_zero_or_one a with ha | ha <;> rcases Nat.mod_two_eq_zero_or_one b with hb | hb <;> simp [ha, hb]
 ·exact (Nat.xor_assoc _ _ _)
 ·ac_rfl
 ·rw [show a / 2 ^^^ p ^^^ (b / 2 ^^^ p) = (a / 2 ^^^ b / 2) ^^^ (p ^^^ p) by ac_rfl, Nat.xor_self, Nat.xor_zero]
theorem bitSteps_xor (k a b : Nat) : bitSteps k (a ^^^ b) = bitSteps k a ^^^ bitSteps k b := by
 induction k generalizing a b with
 | zero => rfl
 | succ k ih => simp only [bitSteps, bitStep_xor, ih]
theorem bitSteps_add (j k n : Nat) : bitSteps (j + k) n = bitSteps k (bitSteps j n) := by
 induction j generalizing n with
 | zero => simp [bitSteps]
 | succ j ih => rw [Nat.succ_add]; simp only [bitSteps, ih]
theorem bitSteps_shift (k n : Nat) : bitSteps k (n <<< k) = n := by
 induction k generalizing n with
 | zero => simp [bitSteps]
 | succ k ih =>
  have : n <<< (k + 1) = 2 * (n <<< k) := by simp [Nat.shiftLeft_eq, Nat.pow_succ]; ac_rfl
  simp only [bitSteps, bitStep]
  rw [this, if_neg (by omega), Nat.mul_div_cancel_left _ (by decide)]
  exact ih n
theorem bitStep_lt {n : Nat} (h : n < 4294967296) : bitStep n < 4294967296 := by
 unfold bitStep
 have h1 : n / 2 < 4294967296 := by omega
 split
 ·exact Nat.xor_lt_two_pow (n := 32) h1 (by rw [poly_eq]; decide)
 ·exact h1
theorem bitSteps_lt {k n : Nat} (h : n < 4294967296) : bitSteps k n < 4294967296 := by
 induction k generalizing n with
 | zero => exact h
 | succ k ih => exact ih (bitStep_lt h)
def byteStep (r : Nat) (c : UInt8) : Nat := bitSteps 8 (r ^^^ c.toNat)
theorem byteStep_lt {r : Nat} (h : r < 4294967296) (c : UInt8) : byteStep r c < 4294967296 :=
 bitSteps_lt (Nat.xor_lt_two_pow (n := 32) h (by have := c.toNat_lt; omega))
theorem byteStep_eq (r : Nat) (c : UInt8) : byteStep r c = bitSteps 8 (r ^^^ c.toNat) := rfl
attribute [irreducible] byteStep
def ext (r : Nat) (l : List UInt8) : Nat := l.foldl byteStep r
theorem ext_append (r : Nat) (a b : List UInt8) : ext r (a ++ b) = ext (ext r a) b := List.foldl_append
theorem ext_lt {r : Nat} (h : r < 4294967296) (l : List UInt8) : ext r l < 4294967296 := by
 induction l generalizing r with
 | nil => exact h
 | cons c l ih => exact ih (byteStep_lt h c)
def nib : Nat → Nat := fun i => [0, 274646895, 549293790, 820201905, 1098587580, 1361435347, 1640403810, 1905808397, 2197175160, 2460548119, 2722870694, 2987750089, 3280807620, 3553878443, 3811616794, 4084100981].getD i 0
theorem nib_tab : ∀ i : Nat, i < 16 → bitSteps 4 i = nib i := by
 unfold bitSteps bitSteps bitSteps bitSteps bitSteps bitStep
 rw [poly_eq]
 decide +kernel
theorem split4 (r : Nat) : r = (r / 2 ^ 4) <<< 4 ^^^ (r % 2 ^ 4) := by
 apply Nat.eq_of_testBit_eq
 intro i
 rw [Nat.testBit_xor, Nat.testBit_shiftLeft, Nat.testBit_mod_two_pow, Nat.testBit_div_two_pow]
 by_cases h : i < 4
 ·simp [h, show ¬ 4 ≤ i by omega]
 ·simp [h, show 4 ≤ i by omega, show i - 4 + 4 = i by omega]
attribute [irreducible] nib bitSteps
theorem four' (r a b : Nat) (h1 : r = a <<< 4 ^^^ b) : bitSteps 4 r = a ^^^ bitSteps 4 b := by
 rw [h1, bitSteps_xor, bitSteps_shift]
theorem four (r : Nat) : bitSteps 4 r = r / 16 ^^^ nib (r % 16) :=
 (four' r _ _ (split4 r)).trans (congrArg (r / 16 ^^^ ·) (nib_tab _ (Nat.mod_lt _ (by decide))))
theorem eight (r : Nat) : bitSteps 8 r = (r / 16 ^^^ nib (r % 16)) / 16 ^^^ nib ((r / 16 ^^^ nib (r % 16)) % 16) := by
 rw [show (8 : Nat) = 4 + 4 from rfl, bitSteps_add, four (bitSteps 4 r), four r]
def sumL (l : List UInt8) : Nat := ext 4294967295 l ^^^ 4294967295
theorem sumL_eq (l : List UInt8) : sumL l = ext 4294967295 l ^^^ 4294967295 := rfl
theorem sumL_lt (l : List UInt8) : sumL l < 4294967296 := Nat.xor_lt_two_pow (n := 32) (ext_lt (by decide) l) (by decide)
def puts (l : List UInt8) (s : Nat) : Nat → List UInt8
 | 0 => l
 | i + 1 => (puts l s i).set (8 + i) (UInt8.ofNat (s >>> (8 * i)))
theorem puts_length (l : List UInt8) (s k : Nat) : (puts l s k).length = l.length := by
 induction k with
 | zero => rfl
 | succ k ih => simp [puts, ih]
def noSum (l : List UInt8) : List UInt8 := l.take 8 ++ [0, 0, 0, 0] ++ l.drop 12
theorem puts_four (l : List UInt8) (s : Nat) (h : 12 ≤ l.length) : puts l s 4 = l.take 8 ++ [UInt8.ofNat s, UInt8.ofNat (s >>> 8), UInt8.ofNat (s >>> 16), UInt8.ofNat (s >>> 24)] ++ l.drop 12 := by
 match l, h with
 | _ :: _ :: _ :: _ :: _ :: _ :: _ :: _ :: _ :: _ :: _ :: _ :: r, _ => rfl
theorem puts_again (l : List UInt8) (s t : Nat) (h : 12 ≤ l.length) : puts (puts l s 4) t 4 = puts l t 4 := by
 match l, h with
 | _ :: _ :: _ :: _ :: _ :: _ :: _ :: _ :: _ :: _ :: _ :: _ :: r, _ => rfl
theorem noSum_puts (l : List UInt8) (s : Nat) (h : 12 ≤ l.length) : noSum (puts l s 4) = noSum l := by
 match l, h with
 | _ :: _ :: _ :: _ :: _ :: _ :: _ :: _ :: _ :: _ :: _ :: _ :: r, _ => rfl
def putL (l : List UInt8) : List UInt8 := puts l (sumL (noSum l)) 4
theorem putL_eq (l : List UInt8) : putL l = puts l (sumL (noSum l)) 4 := rfl
theorem putL_length (l : List UInt8) : (putL l).length = l.length := puts_length _ _ _
def checkL (l : List UInt8) : Int := if l.length < 12 then 20 else if putL l = l then 0 else 21
theorem check_put (l : List UInt8) (h : 12 ≤ l.length) : checkL (putL l) = 0 := by
 have h1 : putL (putL l) = putL l := by
  rw [putL_eq (putL l), putL_eq l, noSum_puts _ _ h, puts_again _ _ _ h]
 rw [checkL, if_neg (by rw [putL_length]; omega), if_pos h1]
attribute [irreducible] sumL
end CrcMath
end
section
namespace Go.Proofs.YtdlamomabonkjaaDoor.Crc
open Go.RowKit YtdlamomabonkjaaDoorW.PrintWords Base CrcMath
structure Table (w : World) : Prop where mk :: (out : ∀ i : Nat, i < 16 → w.cell? ⟨0, i, none⟩ = some (.int .u32 (nib i : Int)))
theorem xor32 (a b : Nat) (ha : a < 4294967296) (hb : b < 4294967296) : bits .xor .u32 (a : Int) (b : Int) = ((a ^^^ b : Nat) : Int) := by
 have ha' : a % 2 ^ 32 = a := Nat.mod_eq_of_lt ha
 have hb' : b % 2 ^ 32 = b := Nat.mod_eq_of_lt hb
 have := Nat.xor_lt_two_pow (n := 32) ha hb
 have e : (BitVec.ofNat 32 a ^^^ BitVec.ofNat 32 b).toNat = a ^^^ b := by rw [BitVec.toNat_xor, BitVec.toNat_ofNat, BitVec.toNat_ofNat, ha', hb']
 have e2 : bits .xor .u32 (a : Int) (b : Int) = IntKind.u32.wrap ((BitVec.ofNat 32 a ^^^ BitVec.ofNat 32 b).toNat : Nat) := by
  rfl
 rw [e2, e, IntKind.wrap_u32]
 omega
theorem and15 (a : Nat) (ha : a < 4294967296) : bits .and .u32 (a : Int) 15 = ((a % 16 : Nat) : Int) := by
 have := bits_mask .u32 32 (by decide) (fun n h0 h1 => by rw [IntKind.wrap_u32]; omega) 4 (by decide) (a : Int) (by omega) (by omega)
 rw [show (2 : Int) ^ 4 - 1 = 15 from rfl] at this
 rw [this]
 rfl
theorem and15_lt (a : Nat) : a % 16 < 16 := Nat.mod_lt _ (by decide)
theorem nib_lt (i : Nat) (h : i < 16) : nib i < 4294967296 := by
 have : ∀ i : Nat, i < 16 → nib i < 4294967296 := by decide +kernel
 exact this i h
theorem byte_round {w : World} (ht : Table w) (r : Nat) (hr : r < 4294967296) (c : UInt8) : ∃ x i n y i2 n2 : Nat,
  bits .xor .u32 (r : Int) ((c.toNat : Int) % 4294967296) = (x : Int) ∧ bits .and .u32 (x : Int) 15 = (i : Int) ∧ i < 16 ∧ w.cell? ⟨0, i, none⟩ = some (.int .u32 (n : Int)) ∧
  bits .xor .u32 ((x : Int) / 16) (n : Int) = (y : Int) ∧ bits .and .u32 (y : Int) 15 = (i2 : Int) ∧ i2 < 16 ∧ w.cell? ⟨0, i2, none⟩ = some (.int .u32 (n2 : Int)) ∧
  bits .xor .u32 ((y : Int) / 16) (n2 : Int) = (byteStep r c : Nat) := by
 have hc : c.toNat < 4294967296 := by have := c.toNat_lt; omega
 have h1 : r ^^^ c.toNat < 4294967296 := Nat.xor_lt_two_pow (n := 32) hr hc
 have h2 : ∀ x : Nat, x < 4294967296 → x / 16 ^^^ nib (x % 16) < 4294967296 := fun x hx => Nat.xor_lt_two_pow (n := 32) (by omega) (nib_lt _ (and15_lt _))
 have h3 : ∀ x : Nat, x < 4294967296 → bits .xor .u32 ((x : Int) / 16) (nib (x % 16) : Int) = ((x / 16 ^^^ nib (x % 16) : Nat) : Int) := fun x hx => by
  rw [show ((x : Int) / 16) = ((x / 16 : Nat) : Int) from rfl]
  exact xor32 _ _ (by omega) (nib_lt _ (and15_lt _))
 refine ⟨_, _, _, _, _, _, by rw [Int.emod_eq_of_lt (by omega) (by omega)]; exact xor32 r c.toNat hr hc, and15 _ h1, and15_lt _, ht.out _ (and15_lt _), h3 _ h1, and15 _ (h2 _ h1), and15_lt _, ht.out _ (and15_lt _), ?_⟩
 rw [h3 _ (h2 _ h1), byteStep_eq, eight]
theorem ext_take_succ (r : Nat) (p : List UInt8) (j : Nat) (h : j < p.length) : ext r (p.take (j + 1)) = byteStep (ext r (p.take j)) (p.getD j 0) := by
 rw [List.take_succ_eq_append_getElem h, ext_append, getD_lt _ _ _ h]
 rfl
theorem flatten_take_succ (r : Nat) (l : List (List UInt8)) (k : Nat) (h : k < l.length) : ext r (l.take (k + 1)).flatten = ext (ext r (l.take k).flatten) (l.getD k []) := by
 rw [List.take_succ_eq_append_getElem h, List.flatten_append, ext_append, getD_lt _ _ _ h]
 simp
theorem extend_calls (r : Nat) (hr : r < 4294967296) (A : Option Addr) (c : Nat) (parts : List (List UInt8)) (w : World) (ht : Table w) (hp : bytesK.C w A parts.length parts) :
  Calls Tryd.prog 90 #[.int .u32 (r : Int), .slice A parts.length c] w fun e w' => e = .returned (.int .u32 (ext r parts.flatten : Nat)) ∧ w = w' := by
 have hlen := hp.2.1
 go_enter Tryd.func90, Tryd.ntmps90
 go_wp2
 go_loop [0, 11] (fun v0 v11 => ∃ k : Nat, k ≤ parts.length ∧ v11 = .int .i64 k ∧ v0 = .int .u32 (ext r (parts.take k).flatten : Nat)) (fun _ i => parts.length - (intOf i).toNat)
 case atStart => exact ⟨0, Nat.zero_le _, rfl, rfl⟩
 case round =>
  obtain ⟨k, hk, rfl, rfl⟩ := hrel
  by_cases hlt : k < parts.length
  ·obtain ⟨ad, A0, c0, rfl, hx, hl0, hb⟩ := bytes_at hp k hlt
   have hlen0 := hb.2.1
   generalize hP : parts.getD k [] = p at *
   have HP := Lh hP
   clear hP
   generalize hR : ext r (parts.take k).flatten = r0 at *
   have HR := Lh hR
   have hr0 : r0 < 4294967296 := hR ▸ ext_lt hr _
   clear hR
   go_wp2
   go_loop [0, 17] (fun v0 v17 => ∃ j : Nat, j ≤ p.length ∧ v17 = .int .i64 j ∧ v0 = .int .u32 (ext r0 (p.take j) : Nat)) (fun _ i => p.length - (intOf i).toNat)
   case atStart => exact ⟨0, Nat.zero_le _, rfl, rfl⟩
   case round =>
    obtain ⟨j, hj, rfl, rfl⟩ := hrel
    by_cases hjl : j < p.length
    ·obtain ⟨ad1, rfl, hy⟩ := byte_at hb j hjl
     generalize hR1 : ext r0 (p.take j) = r1 at *
     have hr1 : r1 < 4294967296 := hR1 ▸ ext_lt hr0 _
     have HR1 := Lh hR1
     clear hR1
     obtain ⟨x, i, n, y, i2, n2, e1, e2, l1, t1, e3, e4, l2, t2, e5⟩ := byte_round ht r1 hr1 (p.getD j 0)
     generalize hB : byteStep r1 (p.getD j 0) = b at *
     have HB := Lh hB
     clear hB
     generalize hC : (p.getD j 0).toNat = cn at *
     clear hC
     go_wp2
     go_round
     case rel => exact ⟨j + 1, by omega, by go_num, by rw [ext_take_succ _ _ _ hjl, HR1.out, HB.out]⟩
     case measure => simp [intOf]; omega
    ·obtain rfl : j = p.length := by omega
     go_wp2
     go_round
     case rel => exact ⟨k + 1, by omega, by go_num, by rw [flatten_take_succ _ _ _ hlt, HR.out, HP.out, List.take_length]⟩
     case measure => simp [intOf]; omega
  ·obtain rfl : k = parts.length := by omega
   go_wp2
   go_ret
   exact ⟨rfl, rfl⟩
end Go.Proofs.YtdlamomabonkjaaDoor.Crc
end
section
namespace Go.Proofs.YtdlamomabonkjaaDoor.Crc
open Go.RowKit YtdlamomabonkjaaDoorW.PrintWords Base CrcMath
theorem sum_calls (A : Option Addr) (c : Nat) (parts : List (List UInt8)) (w : World) (ht : Table w) (hp : bytesK.C w A parts.length parts) :
  Calls Tryd.prog 78 #[.slice A parts.length c] w fun e w' => e = .returned (.int .u32 (sumL parts.flatten : Nat)) ∧ w = w' := by
 have h := extend_calls 4294967295 (by decide) A c parts w ht hp
 have hx := ext_lt (r := 4294967295) (by decide) parts.flatten
 have hS := sumL_eq parts.flatten
 have hm : IntKind.u32.max = 4294967295 := rfl
 have hs : IntKind.u32.signed = false := rfl
 generalize ext 4294967295 parts.flatten = x at *
 have e1 : bits .xor .u32 4294967295 (x : Int) = ((sumL parts.flatten : Nat) : Int) := by rw [hS, Nat.xor_comm]; exact xor32 4294967295 x (by decide) hx
 clear hS
 generalize sumL parts.flatten = y at *
 go_enter Tryd.func78, Tryd.ntmps78
 go_wp2_with (go_at_call 90; refine h.mono ?_; rintro e w' ⟨rfl, rfl⟩)
 go_ret
 exact ⟨rfl, rfl⟩
theorem Table.below {w w1 : World} (ht : Table w) (hb : Below w.heap.size w w1) : Table w1 := ⟨fun i hi => pw_cell_below hb (ht.out i hi)⟩
end Go.Proofs.YtdlamomabonkjaaDoor.Crc
end
section
namespace Go.Proofs.YtdlamomabonkjaaDoor.Base
open Go.RowKit YtdlamomabonkjaaDoorW.PrintWords
theorem take_eq_succ {α : Type} (l l' : List α) (k : Nat) (h : k < l.length) (h' : k < l'.length) (ht : l.take k = l'.take k) (he : l[k] = l'[k]) : l.take (k + 1) = l'.take (k + 1) := by
 rw [List.take_succ_eq_append_getElem h, List.take_succ_eq_append_getElem h', ht, he]
theorem equal_calls (A A' : Option Addr) (c c' : Nat) (l l' : List UInt8) (w : World) (hb : byte.C w A l.length l) (hb' : byte.C w A' l'.length l') :
  Calls Tryd.prog 67 #[.slice A l.length c, .slice A' l'.length c'] w fun e w' => e = .returned (.bool (decide (l = l'))) ∧ Drawn0 w w' := by
 have hlen := hb.2.1
 have hlen' := hb'.2.1
 by_cases hL : l.length = l'.length
 ·have hne : (((l.length : Nat) : Int) != ((l'.length : Nat) : Int)) = false := by simp [hL]
  have HL := Lh hL
  clear hL
  go_enter Tryd.func67, Tryd.ntmps67
  go_wp2
  go_loopw [13] (fun v13 w' => ∃ k : Nat, k ≤ l.length ∧ v13 = .int .i64 k ∧ Hid (l.take k = l'.take k) ∧ Drawn0 w w') (fun v13 _ => l.length - (intOf v13).toNat)
  case atStart => exact ⟨0, by omega, rfl, rfl, Drawn0.refl _⟩
  case round =>
   obtain ⟨k, hk, rfl, hT, hD⟩ := hrel
   obtain ⟨⟨nd, rfl⟩⟩ := hD
   by_cases hlt : k < l.length
   ·have hlt' : k < l'.length := by rw [← HL.out]; exact hlt
    obtain ⟨ad, rfl, hx⟩ := byte_at hb k hlt
    obtain ⟨ad', rfl, hx'⟩ := byte_at hb' k hlt'
    have gx := getD_lt l 0 k hlt
    have gx' := getD_lt l' 0 k hlt'
    generalize l.getD k 0 = p at *
    generalize l'.getD k 0 = p' at *
    have GX := Lh gx
    have GX' := Lh gx'
    clear gx gx'
    by_cases hp : p = p'
    ·subst hp
     have ht : (((p.toNat : Nat) : Int) != ((p.toNat : Nat) : Int)) = false := by simp
     generalize ((p.toNat : Nat) : Int) = q at *
     go_wp2
     go_quiet (fail)
     go_wp2
     go_roundw
     case rel => exact ⟨k + 1, by omega, by go_num, take_eq_succ l l' k hlt hlt' hT.out (by rw [← GX.out, ← GX'.out]), drawn2 (by first | exact ⟨_, rfl⟩ | exact ⟨_, World.drewN_drewN ..⟩)⟩
     case measure => simp [intOf]; omega
    ·have ht : (((p.toNat : Nat) : Int) != ((p'.toNat : Nat) : Int)) = true := by
      simp only [bne_iff_ne, ne_eq, Int.natCast_inj, UInt8.toNat_inj]
      exact hp
     have HP := Lh hp
     clear hp
     generalize hq : ((p.toNat : Nat) : Int) = q at *
     generalize hq' : ((p'.toNat : Nat) : Int) = q' at *
     clear hq hq'
     go_wp2
     go_quiet (fail)
     go_wp2
     go_ret
     exact ⟨ret_bool (decide_eq_false (fun h => HP.out (by rw [GX.out, GX'.out]; simp [h]))).symm, drawn2 (by first | exact ⟨_, rfl⟩ | exact ⟨_, World.drewN_drewN ..⟩)⟩
   ·obtain rfl : k = l.length := by omega
    go_wp2
    go_ret
    refine ⟨ret_bool (decide_eq_true ?_).symm, Drawn0.mk ⟨nd, rfl⟩⟩
    have := hT.out
    rwa [List.take_length, HL.out, List.take_length] at this
 ·have hne : (((l.length : Nat) : Int) != ((l'.length : Nat) : Int)) = true := by simp; omega
  have HL := Lh hL
  clear hL
  go_enter Tryd.func67, Tryd.ntmps67
  go_wp2
  go_ret
  exact ⟨ret_bool (decide_eq_false (fun h => HL.out (congrArg List.length h))).symm, Drawn0.refl _⟩
end Go.Proofs.YtdlamomabonkjaaDoor.Base
end
section
namespace Go.Proofs.YtdlamomabonkjaaDoor.Crc
open Go.RowKit YtdlamomabonkjaaDoorW.PrintWords Base CrcMath
theorem call3 {w : World} (ht : Table w) {lits : Array Value} {n1 : Nat} {A0 A1 A2 : Option Addr} {c0 c1 c2 : Nat} {p0 p1 p2 : List UInt8}
  (h0 : byte.C w A0 p0.length p0) (k0 : p0.length ≤ c0) (h1 : byte.C (w.alloc (.cells lits 5)) A1 n1 p1) (k1 : n1 ≤ c1) (h2 : byte.C w A2 p2.length p2) (k2 : p2.length ≤ c2) :
  Calls Tryd.prog 78 #[.slice (some ⟨w.heap.size + 1, 0, none⟩) 3 3]
   ((w.alloc (.cells lits 5)).alloc (.cells #[.slice A0 p0.length c0, .slice A1 n1 c1, .slice A2 p2.length c2] 27)).drew
   fun e w' => e = .returned (.int .u32 (sumL [p0, p1, p2].flatten : Nat)) ∧ Below w.heap.size w w' := by
 have hn : p1.length = n1 := h1.1
 have hz : (w.alloc (.cells lits 5)).heap.size = w.heap.size + 1 := by simp
 have hrow : bytesK.C ((w.alloc (.cells lits 5)).alloc (.cells [.slice A0 p0.length c0, .slice A1 n1 c1, .slice A2 p2.length c2].toArray 27)) (some ⟨(w.alloc (.cells lits 5)).heap.size, 0, none⟩) 3 [p0, p1, p2] := by
  refine row_lit bytesK rfl _ _ [.slice A0 p0.length c0, .slice A1 n1 c1, .slice A2 p2.length c2] [p0, p1, p2] rfl (by simp) ?_
  intro j v p hv hp
  match j, hv, hp with
  | 0, hv, hp => obtain rfl := Option.some.inj hv; obtain rfl := Option.some.inj hp; exact K_bytes (Kd.C_alloc h0 _) k0
  | 1, hv, hp => obtain rfl := Option.some.inj hv; obtain rfl := Option.some.inj hp; subst hn; exact K_bytes h1 k1
  | 2, hv, hp => obtain rfl := Option.some.inj hv; obtain rfl := Option.some.inj hp; exact K_bytes (Kd.C_alloc h2 _) k2
  | j + 3, hv, hp => cases hv
 have hB : Below w.heap.size w ((w.alloc (.cells lits 5)).alloc (.cells #[.slice A0 p0.length c0, .slice A1 n1 c1, .slice A2 p2.length c2] 27)).drew :=
  (((Below.refl _ _).alloc (Nat.le_refl _) _).alloc (by simp) _).drew
 rw [hz] at hrow
 refine (sum_calls _ 3 [p0, p1, p2] _ (ht.below hB) (Kd.C_drew hrow)).mono ?_
 rintro e w' ⟨rfl, rfl⟩
 exact ⟨rfl, hB⟩
theorem low_calls (A : Option Addr) (c : Nat) (l : List UInt8) (w : World) (ht : Table w) (hb : byte.C w A l.length l) (hc : l.length ≤ c) (hl : 12 ≤ l.length) :
  Calls Tryd.prog 56 #[.slice A l.length c] w fun e w' => e = .returned (.int .u32 (sumL (noSum l) : Nat)) ∧ Below w.heap.size w w' := by
 have hlen := hb.2.1
 obtain ⟨s1, b1, c1⟩ := take_bytes hb hc 8 8 rfl (by omega)
 obtain ⟨A2, s2, b2, c2⟩ := drop_bytes hb hc 12 12 rfl hl
 have hB : noSum l = [l.take 8, [0, 0, 0, 0], l.drop 12].flatten := by simp [noSum]
 rw [hB]
 clear hB
 generalize l.take 8 = l1 at *
 generalize l.drop 12 = l2 at *
 have b0 : byte.C (w.alloc (.cells #[.int .u8 0, .int .u8 0, .int .u8 0, .int .u8 0] 5)) (some ⟨w.heap.size, 0, none⟩) 4 [0, 0, 0, 0] :=
  row_lit byte rfl w 5 [.int .u8 0, .int .u8 0, .int .u8 0, .int .u8 0] [0, 0, 0, 0] rfl (by decide) (lit_byte _ _ (by rfl))
 have h := call3 ht (lits := #[.int .u8 0, .int .u8 0, .int .u8 0, .int .u8 0]) b1 c1 b0 (Nat.le_refl 4) b2 c2
 clear ht hb b1 b2 b0
 generalize sumL [l1, [0, 0, 0, 0], l2].flatten = s at *
 go_enter Tryd.func56, Tryd.ntmps56
 go_wp2
 go_region_with (go_at_call 78; refine h.mono ?_; rintro e w' ⟨rfl, hB⟩)
 all_goals
  go_wp2
  go_ret
  exact ⟨rfl, hB⟩
def PutDone (l : List UInt8) (w : World) (e : Ending) (w' : World) : Prop := ∃ v, e = .returned (.tuple #[v, .int .i64 0]) ∧ byte.R 5 w' w.heap.size (fun _ => True) v l ∧ Below w.heap.size w w'
theorem ofNat_shr (s k : Nat) : ((UInt8.ofNat (s >>> k)).toNat : Int) = (s : Int) / (2 ^ k : Nat) % 256 := by
 rw [UInt8.toNat_ofNat', Nat.shiftRight_eq_div_pow]
 omega
theorem put_brief (A : Option Addr) (c : Nat) (l : List UInt8) (w : World) (hl : l.length < 12) :
  Calls Tryd.prog 30 #[.slice A l.length c] w fun e w' => e = .returned (.tuple #[.slice none 0 0, .int .i64 20]) ∧ w = w' := by
 go_enter Tryd.func30, Tryd.ntmps30
 go_wp2
 go_ret2
 exact ⟨rfl, rfl⟩
theorem put_calls (A : Option Addr) (c : Nat) (l : List UInt8) (w : World) (ht : Table w) (hb : byte.C w A l.length l) (hc : l.length ≤ c) (hm : l.length ≤ 140737488355328) (hl : 12 ≤ l.length) :
  Calls Tryd.prog 30 #[.slice A l.length c] w (PutDone (puts l (sumL (noSum l)) 4) w) := by
 have hcl := clone_calls A c l w hb hm
 have hlow := fun (w1 : World) (h : Below w.heap.size w w1) => low_calls A c l w1 (ht.below h) (Kd.C_below hb h) hc hl
 have hs : sumL (noSum l) < 4294967296 := sumL_lt _
 generalize sumL (noSum l) = s at *
 go_enter Tryd.func30, Tryd.ntmps30
 go_wp2_with fail
 refine hcl.mono ?_
 rintro e w1 ⟨v, rfl, hR, hB⟩
 obtain ⟨g, cap, rfl, hg, hg1⟩ := (Kd.R_own hR).elim fun _ h => h.form (by omega)
 clear hcl hb ht
 go_wp2_with fail
 refine (hlow w1 hB).mono ?_
 rintro e w2 ⟨rfl, hB2⟩
 have hR2 := Kd.R_below hR hB2
 have hB3 : Below w.heap.size w w2 := below_then hB hB.size hB2
 clear hlow hR hB hB2 hg1
 go_wp2
 go_loopw [14] (fun v14 w' => ∃ k : Nat, k ≤ 4 ∧ v14 = .int .i64 k ∧ byte.R 5 w' w.heap.size (fun _ => True) (.slice (some ⟨g, 0, none⟩) l.length cap) (puts l s k) ∧ Below w.heap.size w w') (fun v14 _ => 4 - (intOf v14).toNat)
 case atStart => exact ⟨0, by omega, rfl, hR2, hB3⟩
 case round =>
  obtain ⟨k, hk, rfl, hR, hB⟩ := hrel
  have hpl := puts_length l s k
  rcases (by omega : k = 0 ∨ k = 1 ∨ k = 2 ∨ k = 3 ∨ k = 4) with rfl | rfl | rfl | rfl | rfl
  ·obtain ⟨hcl, hfr⟩ := byte_cell hR 8 (by omega)
   go_wp2
   go_roundw
   case rel => exact ⟨1, by omega, rfl, byte_put hR 8 _ _ (by rw [show (8 * 0) = 0 from rfl, ofNat_shr, show ((2 ^ 0 : Nat) : Int) = 1 from rfl]; omega), hB.setCell hg _⟩
   case measure => simp [intOf]
  ·obtain ⟨hcl, hfr⟩ := byte_cell hR 9 (by omega)
   go_wp2
   go_roundw
   case rel => exact ⟨2, by omega, rfl, byte_put hR 9 _ _ (by rw [show (8 * 1) = 8 from rfl, ofNat_shr, show ((2 ^ 8 : Nat) : Int) = 256 from rfl]), hB.setCell hg _⟩
   case measure => simp [intOf]
  ·obtain ⟨hcl, hfr⟩ := byte_cell hR 10 (by omega)
   go_wp2
   go_roundw
   case rel => exact ⟨3, by omega, rfl, byte_put hR 10 _ _ (by rw [show (8 * 2) = 16 from rfl, ofNat_shr, show ((2 ^ 16 : Nat) : Int) = 65536 from rfl]), hB.setCell hg _⟩
   case measure => simp [intOf]
  ·obtain ⟨hcl, hfr⟩ := byte_cell hR 11 (by omega)
   go_wp2
   go_roundw
   case rel => exact ⟨4, by omega, rfl, byte_put hR 11 _ _ (by rw [show (8 * 3) = 24 from rfl, ofNat_shr, show ((2 ^ 24 : Nat) : Int) = 16777216 from rfl]; omega), hB.setCell hg _⟩
   case measure => simp [intOf]
  ·go_wp2
   go_ret2
   exact ⟨_, rfl, hR, hB⟩
theorem check_calls (A : Option Addr) (c : Nat) (l : List UInt8) (w : World) (ht : Table w) (hb : byte.C w A l.length l) (hc : l.length ≤ c) (hm : l.length ≤ 140737488355328) :
  Calls Tryd.prog 79 #[.slice A l.length c] w fun e w' => e = .returned (.int .i64 (checkL l)) ∧ Below w.heap.size w w' := by
 by_cases hl : l.length < 12
 ·have h := put_brief A c l w hl
  have hL : checkL l = 20 := if_pos hl
  rw [hL]
  go_enter Tryd.func79, Tryd.ntmps79
  go_wp2_with fail
  refine h.mono ?_
  rintro e w' ⟨rfl, rfl⟩
  go_wp2
  go_ret
  exact ⟨rfl, Below.refl _ _⟩
 ·have h := put_calls A c l w ht hb hc hm (by omega)
  have hL : checkL l = if putL l = l then 0 else 21 := if_neg hl
  rw [hL]
  have hlen := puts_length l (sumL (noSum l)) 4
  have hP : puts l (sumL (noSum l)) 4 = putL l := rfl
  rw [hP] at h hlen
  generalize putL l = q at *
  by_cases hq : q = l
  ·rw [if_pos hq]
   have HQ := Lh hq
   have HL := Lh hlen
   clear hq hlen hP hL
   go_enter Tryd.func79, Tryd.ntmps79
   go_wp2_with fail
   refine h.mono ?_
   rintro e w1 ⟨v, rfl, hR, hB⟩
   obtain ⟨A1, c1, rfl, hle, hC⟩ := Kd.R_reads hR
   have he := equal_calls A1 A c1 c q l w1 hC (Kd.C_below hb hB)
   rw [decide_eq_true HQ.out] at he
   clear h hR hb
   go_wp2_with fail
   refine he.mono ?_
   rintro e w' ⟨rfl, hD⟩
   go_wp2
   go_ret
   exact ⟨rfl, below_then hB hB.size hD.below⟩
  ·rw [if_neg hq]
   have HQ := Lh hq
   have HL := Lh hlen
   clear hq hlen hP hL
   go_enter Tryd.func79, Tryd.ntmps79
   go_wp2_with fail
   refine h.mono ?_
   rintro e w1 ⟨v, rfl, hR, hB⟩
   obtain ⟨A1, c1, rfl, hle, hC⟩ := Kd.R_reads hR
   have he := equal_calls A1 A c1 c q l w1 hC (Kd.C_below hb hB)
   rw [decide_eq_false HQ.out] at he
   clear h hR hb
   go_wp2_with fail
   refine he.mono ?_
   rintro e w' ⟨rfl, hD⟩
   go_wp2
   go_ret
   exact ⟨rfl, below_then hB hB.size hD.below⟩
end Go.Proofs.YtdlamomabonkjaaDoor.Crc
end
section
namespace Go.Proofs.YtdlamomabonkjaaDoor.Pk
open Go.RowKit YtdlamomabonkjaaDoorW.PrintWords YtdlamomabonkjaaDoorW.PrintLast Base PCh ParDec ParEnc Ch Crc CrcMath
structure PX (w1 : World) (ys : List Int) (v : Value) (W : World) : Prop where
 bl : Below w1.heap.size w1 W
 r : (Kd.int .u8).R 5 W w1.heap.size (fun _ => True) v ys
theorem PX.nil {w1 W : World} (h : Below w1.heap.size w1 W) : PX w1 [] (.slice none 0 0) W := ⟨h, Kd.R_nil _ _ _ _ _⟩
theorem pu32 (n : Int) : IntKind.u32.wrap n = n % 4294967296 := by simp [IntKind.wrap, IntKind.bits, IntKind.signed]
theorem two32 (n : Int) : twoL [IntKind.u32.wrap n] = twoL [n] := by
 rw [pu32]
 simp only [twoL, List.append_nil, List.cons.injEq, and_true]
 omega
theorem put_two (l : List Int) (n : Int) (hl : l.length ≤ 140737488355000) : packet_put.f 3 l n 2 = some (l ++ twoL [n]) := by
 have e1 : shr .u32 n (wrap64 (8 * 1)) % 256 = n / 256 % 256 := by simp [shr, wrap64, IntKind.wrap, IntKind.bits, IntKind.signed]
 have e0 : shr .u32 n (wrap64 (8 * 0)) % 256 = n % 256 := by simp [shr, wrap64, IntKind.wrap, IntKind.bits, IntKind.signed]
 unfold packet_put.f
 rw [show wrap64 (2 - 1) = 1 by unfold wrap64; omega, packet_put.l0, if_pos (by decide), if_pos (by unfold wrap64; omega), if_pos (by omega), e1, show wrap64 (1 - 1) = 0 by unfold wrap64; omega, packet_put.l0, if_pos (by decide), if_pos (by unfold wrap64; omega), if_pos (by rw [List.length_append]; simp; omega), e0, show wrap64 (0 - 1) = -1 by unfold wrap64; omega, packet_put.l0, if_neg (by decide)]
 simp [twoL]
theorem put_four (l : List Int) (n : Int) (hl : l.length ≤ 140737488355000) : packet_put.f 5 l n 4 = some (l ++ fourL [n]) := by
 have e3 : shr .u32 n (wrap64 (8 * 3)) % 256 = n / 16777216 % 256 := by simp [shr, wrap64, IntKind.wrap, IntKind.bits, IntKind.signed]
 have e2 : shr .u32 n (wrap64 (8 * 2)) % 256 = n / 65536 % 256 := by simp [shr, wrap64, IntKind.wrap, IntKind.bits, IntKind.signed]
 have e1 : shr .u32 n (wrap64 (8 * 1)) % 256 = n / 256 % 256 := by simp [shr, wrap64, IntKind.wrap, IntKind.bits, IntKind.signed]
 have e0 : shr .u32 n (wrap64 (8 * 0)) % 256 = n % 256 := by simp [shr, wrap64, IntKind.wrap, IntKind.bits, IntKind.signed]
 unfold packet_put.f
 rw [show wrap64 (4 - 1) = 3 by unfold wrap64; omega, packet_put.l0, if_pos (by decide), if_pos (by unfold wrap64; omega), if_pos (by omega), e3, show wrap64 (3 - 1) = 2 by unfold wrap64; omega, packet_put.l0, if_pos (by decide), if_pos (by unfold wrap64; omega), if_pos (by rw [List.length_append]; simp; omega), e2, show wrap64 (2 - 1) = 1 by unfold wrap64; omega, packet_put.l0, if_pos (by decide), if_pos (by unfold wrap64; omega), if_pos (by simp only [List.length_append, List.length_cons, List.length_nil]; omega), e1, show wrap64 (1 - 1) = 0 by unfold wrap64; omega, packet_put.l0, if_pos (by decide), if_pos (by unfold wrap64; omega), if_pos (by simp only [List.length_append, List.length_cons, List.length_nil]; omega), e0, show wrap64 (0 - 1) = -1 by unfold wrap64; omega, packet_put.l0, if_neg (by decide)]
 simp [fourL]
theorem PX.put {w1 W : World} {ys zs : List Int} {v : Value} (h : PX w1 ys v W) (k : Nat) (n m : Int) (hf : packet_put.f k ys n m = some zs) :
  Calls Tryd.prog 29 #[v, .int .u32 n, .int .i64 m] W fun e w' => ∃ v', e = .returned v' ∧ PX w1 zs v' w' :=
 (packet_put.calls k (fun _ => True) v ys n m zs w1 W h.bl h.r hf).mono fun e w' ⟨v', h1, h2, h3, _⟩ => ⟨v', h1, h3, Kd.R_mono h2 (fun _ _ => trivial)⟩
theorem PX.two {w1 W : World} {ys : List Int} {v : Value} (h : PX w1 ys v W) (n : Int) (t : List Int) (ht : twoL [n] = t) (hl : ys.length ≤ 140737488355000) :
  Calls Tryd.prog 29 #[v, .int .u32 n, .int .i64 2] W fun e w' => ∃ v', e = .returned v' ∧ PX w1 (ys ++ t) v' w' := by
 subst ht
 exact h.put 3 n 2 (put_two ys n hl)
theorem PX.four {w1 W : World} {ys : List Int} {v : Value} (h : PX w1 ys v W) (n : Int) (hl : ys.length ≤ 140737488355000) :
  Calls Tryd.prog 29 #[v, .int .u32 n, .int .i64 4] W fun e w' => ∃ v', e = .returned v' ∧ PX w1 (ys ++ fourL [n]) v' w' := h.put 5 n 4 (put_four ys n hl)
def headL (f t q : Int) : List Int := twoL [f] ++ twoL [t] ++ fourL [q] ++ fourL [0]
theorem headL_length (f t q : Int) : (headL f t q).length = 12 := rfl
theorem head_in (f t q : Int) : ∀ b ∈ headL f t q, inB b := by
 intro b hb
 have h : ∀ x ∈ twoL [f], inB x := fun x hx => by simp [twoL] at hx; rcases hx with h | h <;> (subst h; unfold inB; omega)
 have h2 : ∀ x ∈ twoL [t], inB x := fun x hx => by simp [twoL] at hx; rcases hx with h | h <;> (subst h; unfold inB; omega)
 have h3 : ∀ n, ∀ x ∈ fourL [n], inB x := fun n x hx => by simp [fourL] at hx; rcases hx with h | h | h | h <;> (subst h; unfold inB; omega)
 unfold headL at hb
 simp only [List.mem_append] at hb
 rcases hb with ((hb | hb) | hb) | hb
 ·exact h b hb
 ·exact h2 b hb
 ·exact h3 q b hb
 ·exact h3 0 b hb
noncomputable def pencD (f t q : Int) (l : List Chk) : List UInt8 × Int :=
 if (decide (0 < f) && decide (0 < t)) = false then ([], 72) else if l.length = 0 then ([], 73) else if apartB l = true then ([], 74)
 else if (encD l).2 = 0 then (if 65536 < 12 + (encD l).1.length then ([], 2) else (putL (bytesOf (headL f t q ++ (encD l).1)), 0)) else ([], (encD l).2)
theorem ports_ok (f t q : Int) (l : List Chk) : packet_ports.f f t q l = some (decide (0 < f) && decide (0 < t)) := by
 unfold packet_ports.f
 by_cases h : f > 0
 ·rw [if_pos h, decide_eq_true (show 0 < f from h), Bool.true_and]
 ·rw [if_neg h, decide_eq_false (show ¬ 0 < f from h), Bool.false_and]
def pkeT12 : Bool × List (List Nat × List Nat) := (true, [([], []), ([0], [0]), ([1], [1]), ([2], [2]), ([], []), ([4], [4]), ([5], [5]), ([3, 6, 3], [3, 6]), ([], []), ([8], [8]), ([7, 9, 7], [7, 9]), ([10, 10, 0, 1, 2, 3, 4, 5, 6, 7, 8, 9, 10], [10])])
def pkeB12 : List Nat := [0, 1, 3, 7, 0, 16, 48, 127, 0, 256, 1023, 2047]
theorem pketab12 : Go.Proofs.YtdlamomabonkjaaDoorW.PrintLast.rtab .any (Go.Proofs.YtdlamomabonkjaaDoorW.PrintLast.opsOf Tryd.f10 12) = pkeT12 := by kernel_rfl
theorem pkebits12 : Go.Proofs.YtdlamomabonkjaaDoorW.PrintLast.waitsOk pkeT12.2 pkeB12 = true := by kernel_rfl
end Go.Proofs.YtdlamomabonkjaaDoor.Pk
end
section
namespace Go.Proofs.YtdlamomabonkjaaDoor.Pk
open Go.RowKit YtdlamomabonkjaaDoorW.PrintWords YtdlamomabonkjaaDoorW.PrintLast Base PCh ParDec Ch
def errP (at_ code : Int) : Ending := .panicked [{ v := .iface 93 (.agg #[.int .i64 at_, .int .i64 code]), recovered := false }]
theorem must_ok (w : World) (a c : Int) : Calls Tryd.prog 59 #[.bool true, .int .i64 a, .int .i64 c] w fun e w' => e = .returned (.tuple #[]) ∧ w' = w := by
 go_enter Tryd.func59, Tryd.ntmps59
 go_wp2
 exact ⟨rfl, _, results_none rfl _ _ _, rfl, rfl⟩
theorem must_bad (w : World) (a c : Int) : Calls Tryd.prog 59 #[.bool false, .int .i64 a, .int .i64 c] w fun e w' => e = errP a c ∧ w' = w := by
 unfold errP
 go_enter Tryd.func59, Tryd.ntmps59
 go_wp2
 exact ⟨rfl, rfl, rfl⟩
def PS (w0 w : World) (g : Nat) (v : List UInt8) (f t q : Int) (CH : Value) : Prop := ∃ A c, w.heap[g]? = some (.cells #[.slice A v.length c, .int .u16 f, .int .u16 t, .int .u32 q, CH] 99 (0, 0)) ∧ v.length ≤ c ∧ byte.C w0 A v.length v
theorem or24 (x y : Nat) (hx : x < 16777216) (hy : y < 256) : bits .or .u32 ((x : Int) * 256) (y : Int) = ((x * 256 + y : Nat) : Int) := by
 have h := (bits_nat .u32 32 (by decide) (fun n h0 h1 => by simp [IntKind.wrap, IntKind.bits, IntKind.signed]; omega) (x * 256) y (by omega) (by omega)).2
 have e : x * 256 ||| y = x * 256 + y := by
  have := Nat.shiftLeft_add_eq_or_of_lt (i := 8) (b := y) (by omega) x
  rw [Nat.shiftLeft_eq] at this
  exact this.symm
 rw [e] at h
 rw [show ((x : Int) * 256) = ((x * 256 : Nat) : Int) from (Int.natCast_mul x 256).symm]
 exact h
theorem u32_small (n : Int) (h : 0 ≤ n) (h2 : n < 4294967296) : IntKind.u32.wrap n = n := by simp only [IntKind.wrap, IntKind.bits, IntKind.signed]; simp; omega
theorem be_snoc (l : List UInt8) (b : UInt8) : be (l ++ [b]) = be l * 256 + b.toNat := by simp [be]
theorem fold_lt (l : List UInt8) : ∀ a : Nat, l.foldl (fun a b => a * 256 + b.toNat) a < (a + 1) * 256 ^ l.length := by
 induction l with
 | nil => intro a; simp
 | cons b l ih =>
  intro a
  rw [List.foldl_cons, List.length_cons, Nat.pow_succ]
  have h := ih (a * 256 + b.toNat)
  have hb := b.toNat_lt
  have h2 : (a * 256 + b.toNat + 1) * 256 ^ l.length ≤ ((a + 1) * 256) * 256 ^ l.length := Nat.mul_le_mul_right _ (by omega)
  calc _ < _ := h
   _ ≤ _ := h2
   _ = (a + 1) * (256 ^ l.length * 256) := by rw [Nat.mul_assoc, Nat.mul_comm 256]
theorem be_lt3 (l : List UInt8) (h : l.length ≤ 3) : be l < 16777216 := by
 have h1 := fold_lt l 0
 have h2 : 256 ^ l.length ≤ 256 ^ 3 := Nat.pow_le_pow_right (by decide) h
 unfold be
 omega
set_option maxHeartbeats 4000000 in
theorem number_calls (w0 w : World) (g n : Nat) (v : List UInt8) (f t q : Int) (CH : Value) (hs : PS w0 w g v f t q CH) (hB : Below w0.heap.size w0 w) (hg : w0.heap.size ≤ g) (hn : n ≤ v.length) (h4 : n ≤ 4) (hv : v.length ≤ 140737488355328) :
  Calls Tryd.prog 80 #[.pointer (some ⟨g, 0, none⟩), .int .i64 (n : Int)] w fun e w' => e = .returned (.int .u32 (be (v.take n) : Nat)) ∧ PS w0 w' g (v.drop n) f t q CH ∧ Only (· = g) w w' := by
 obtain ⟨A, c, hb, hc, hC⟩ := hs
 have k0 : w.cell? ⟨g, 0, none⟩ = some (.slice A v.length c) := blk_cell hb 0
 have HBK := Lh (fun (W : World) (h : Below w.heap.size w W) => blk_below hb h)
 have HC := Lh (fun (W : World) (h : Below w.heap.size w W) => Kd.C_below hC (below_then hB hB.size h))
 have HC0 := Lh hC
 have hnc : n ≤ c := Nat.le_trans hn hc
 obtain ⟨ht1, ht2, ht3⟩ := take_bytes hC hc n (n : Int) rfl hn
 obtain ⟨A2, hd1, hd2, hd3⟩ := drop_bytes hC hc n (n : Int) rfl hn
 have HP := Lh (fun (W : World) (h : Below w.heap.size w W) => (⟨⟨A2, c - n, blk_put (blk_below hb h) 0 _ rfl, hd3, hd2⟩, (Only.setCell (S := (· = g)) (Only.of_below h) (fun _ => rfl) _)⟩ : PS w0 (W.setCell ⟨g, 0, none⟩ (.slice A2 (v.drop n).length (c - n))) g (v.drop n) f t q CH ∧ Only (· = g) w (W.setCell ⟨g, 0, none⟩ (.slice A2 (v.drop n).length (c - n)))))
 have HF := Lh (fun (W : World) (h : Below w.heap.size w W) => blk_frozen (blk_below hb h) 0)
 clear ht2 ht3 hd2 hd3 hb hC
 have hlt1 : (v.take n).length = n := by rw [List.length_take]; omega
 rw [hlt1] at ht1
 clear hlt1
 generalize c - n = c2 at *
 generalize (v.drop n).length = n2 at *
 go_enter Tryd.func80, Tryd.ntmps80
 go_wp2
 go_loopw [5, 15] (fun v5 v15 W => ∃ i : Nat, i ≤ n ∧ v5 = .int .u32 (be (v.take i) : Nat) ∧ v15 = .int .i64 i ∧ Hid (Below w.heap.size w W)) (fun _ v15 _ => n - (intOf v15).toNat)
 case atStart => exact ⟨0, by omega, rfl, rfl, Below.refl _ _⟩
 case round =>
  obtain ⟨i, hi, rfl, rfl, HB⟩ := hrel
  by_cases hlt : i < n
  ·obtain ⟨ad, rfl, x0⟩ := byte_at (HC.out wr HB.out) i (by omega)
   have ht : v.take (i + 1) = v.take i ++ [v.getD i 0] := by
    rw [List.take_succ_eq_append_getElem (by omega)]
    congr 2
    simp [List.getD_eq_getElem?_getD, show i < v.length by omega]
   have hbe : be (v.take (i + 1)) = be (v.take i) * 256 + (v.getD i 0).toNat := by rw [ht, be_snoc]
   have hx : be (v.take i) < 16777216 := be_lt3 _ (by rw [List.length_take]; omega)
   have hy : (v.getD i 0).toNat < 256 := (v.getD i 0).toNat_lt
   have hor := or24 _ _ hx hy
   rw [← hbe] at hor
   have HBE := Lh (show ∃ z : Nat, be (v.take (i + 1)) = z ∧ True from ⟨_, rfl, trivial⟩)
   have hw1 : IntKind.u32.wrap ((v.getD i 0).toNat : Int) = ((v.getD i 0).toNat : Int) := u32_small _ (by omega) (by omega)
   have hw3 : IntKind.u32.wrap ((be (v.take i) : Int) * 256) = (be (v.take i) : Int) * 256 := u32_small _ (by omega) (by omega)
   clear ht hbe HBK HC HC0 HBE HP HF
   obtain ⟨z, hz⟩ : ∃ z, be (v.take (i + 1)) = z := ⟨_, rfl⟩
   have HZ := Lh hz
   rw [hz] at hor
   clear hz
   generalize be (v.take i) = x at *
   generalize (v.getD i 0).toNat = y at *
   go_wp2
   go_roundw
   case rel => exact ⟨i + 1, by omega, by rw [HZ.out], by go_num, HB⟩
   case measure => simp [intOf]; omega
  ·have hin : i = n := by omega
   have hbk := HBK.out wr HB.out
   have k0 : wr.cell? ⟨g, 0, none⟩ = some (.slice A v.length c) := blk_cell hbk 0
   have f0 := HF.out wr HB.out
   have HP1 := Lh (HP.out wr HB.out)
   clear hbk HBK HP HF HC HC0
   subst hin
   go_wp2
   go_ret
   exact ⟨rfl, HP1.out⟩
end Go.Proofs.YtdlamomabonkjaaDoor.Pk
end
section
namespace Go.Proofs.YtdlamomabonkjaaDoor.Base
open Go.RowKit YtdlamomabonkjaaDoorW.PrintWords YtdlamomabonkjaaDoorW.PrintLast
def GrK (C : List Nat) (I : Nat → World → Prop) (L : Sel) (a0 : Act) (b : Nat → Bool) (a : Act) (w : World) : Prop :=
 ∃ s, s ≤ C.length ∧ (∀ j c, C[j]? = some c → (j < s → b c = true) ∧ (s ≤ j → b c = false)) ∧ a = putSel a0 b L ∧ I s w
theorem putSel_skip {b : Nat → Bool} {i : Nat} {L : Sel} {a : Act} (h : L.all (fun e => !(e.1 == i)) = true) : putSel a (up b i) L = putSel a b L :=
 putSel_congr (fun e he => up_ne (by have := List.all_eq_true.1 h e he; simpa using this))
section
variable {P : Program} {ops : Array Oper} {Q : Exit → Act → World → Prop} {B O C : List Nat} {W : World} {I : Nat → World → Prop} {L : Sel} {a0 : Act} {i : Nat} {p : Tmp}
theorem gk_op (J : World → Prop) (i k : Nat) {t : Tmp} {u v : Value} {oi : Oper} (ho : ops[i]? = some oi) (hg : oi.guard = none) (hd : oi.dst = some t) (hL : L[k]? = some (i, t, v))
  (hdist : (L.take k ++ L.drop (k + 1)).all (fun e => !(e.1 == i) && !(e.2.1 == t)) = true) (hC : C.contains i = false) (hr : Rd O B i (fun _ => L) a0 p (fun _ => u)) (hJ : ∀ s w, I s w → J w)
  (hrun : ∀ (a : Act) (w : World), J w → a.tmps[p]? = some u → (execOp a.eval oi).run P w = .ok (.value v) w) : StepAt P ops Q B O (GrK C I L a0) i := by
 rintro b a w ⟨s, h0, h1, ha, hI⟩ hb hon hoff
 refine ⟨oi, ho, fun K hK => ?_⟩
 rw [hd]
 refine value_ (w1 := w) (v := v) (wanted_none0 hg) hd (hrun a w (hJ _ _ hI) (by rw [ha]; exact hr b (fun _ => undef) hon hoff)) (hK.out _ _ ⟨s, h0, fun j c hc => ?_, ?_, hI⟩)
 ·have hne : c ≠ i := fun e => by
   rw [e] at hc
   have := List.mem_of_getElem? hc
   rw [List.contains_iff_mem.2 this] at hC
   cases hC
  rw [up_ne hne]
  exact h1 j c hc
 ·rw [ha]
  exact putSel_upk k hb hL (set_same hL) hdist
theorem gk_step (i m : Nat) (hm : C[m]? = some i) (hnd : (C.take m ++ C.drop (m + 1)).contains i = false) (hprev : (C.take m).all (fun q => O.contains q && (B.getD i 0).testBit q) = true)
  {b : Nat → Bool} {a : Act} {w : World} (hI : GrK C I L a0 b a w) (hb : b i = false) (hon : ∀ j, (O.contains j && (B.getD i 0).testBit j) = true → b j = true) :
  a = putSel a0 b L ∧ I m w ∧ ∀ a' w', a' = putSel a0 (up b i) L → I (m + 1) w' → GrK C I L a0 (up b i) a' w' := by
 obtain ⟨s, h0, h1, ha, hI⟩ := hI
 have hs : s = m := by
  have e1 := h1 m i hm
  rcases Nat.lt_trichotomy s m with h | h | h
  ·have hlt : s < C.length := by
    have := (List.getElem?_eq_some_iff.1 hm).1
    omega
   have hc := List.getElem?_eq_getElem hlt
   have e2 := (h1 s _ hc).2 (Nat.le_refl _)
   have e3 := List.all_eq_true.1 hprev C[s] (List.mem_take_iff_getElem.2 ⟨s, by omega, rfl⟩)
   rw [hon _ e3] at e2
   cases e2
  ·exact h
  ·rw [e1.1 h] at hb
   cases hb
 subst hs
 refine ⟨ha, hI, fun a' w' ha' hI' => ⟨s + 1, ?_, fun j c hc => ?_, ha', hI'⟩⟩
 ·have := (List.getElem?_eq_some_iff.1 hm).1
  omega
 ·by_cases hj : j = s
  ·subst hj
   rw [hm] at hc
   injection hc with hc
   subst hc
   exact ⟨fun _ => up_self _ _, fun h => absurd h (by omega)⟩
  ·have hne : c ≠ i := fun e => by
    subst e
    have hmem : c ∈ C.take s ++ C.drop (s + 1) := by
     rw [List.mem_append]
     have hl := (List.getElem?_eq_some_iff.1 hc)
     obtain ⟨hl1, hl2⟩ := hl
     by_cases h : j < s
     ·exact Or.inl (List.mem_take_iff_getElem.2 ⟨j, by omega, hl2⟩)
     ·refine Or.inr (List.mem_drop_iff_getElem.2 ⟨j - (s + 1), by omega, ?_⟩)
      rw [← hl2]
      congr 1
      omega
    rw [List.contains_iff_mem.2 hmem] at hnd
    cases hnd
   rw [up_ne hne]
   have := h1 j c hc
   exact ⟨fun h => this.1 (by omega), fun h => this.2 (by omega)⟩
theorem gk_call (i k m : Nat) {t : Tmp} {v : Value} {vals : List Value} {oi : Oper} {f : FuncId} {fn : Func} {ax : Array Operand} {ts : Array TypeId} (ho : ops[i]? = some oi) (hg : oi.guard = none) (hd : oi.dst = some t) (hm : C[m]? = some i) (hL : L[k]? = some (i, t, v))
  (hdist : (L.take k ++ L.drop (k + 1)).all (fun e => !(e.1 == i) && !(e.2.1 == t)) = true) (hnd : (C.take m ++ C.drop (m + 1)).contains i = false) (hprev : (C.take m).all (fun q => O.contains q && (B.getD i 0).testBit q) = true)
  (hf : P.funcs[f]? = some fn) (hname : (fn.name == "runtime.NumGoroutine") = false) (hbd : fn.body.isSome = true) (hop : oi.op = .call { callee := .value (.func f), args := ax, argTypes := ts })
  (har : Ar O B i (fun _ => L) a0 ax.toList vals) (hcall : ∀ w, I m w → Calls P f vals.toArray w fun e w' => e = .returned v ∧ I (m + 1) w') : StepAt P ops Q B O (GrK C I L a0) i := by
 rintro b a w hG hb hon hoff
 obtain ⟨ha, hI, hK2⟩ := gk_step i m hm hnd hprev hG hb hon
 refine ⟨oi, ho, fun K hK => ?_⟩
 rw [hd]
 have e2 := har b (fun _ => undef) hon hoff
 refine goes_ hf hname hbd vals.toArray (wanted_none0 hg) hd hop ?_ ?_
 ·apply Array.toList_inj.1
  rw [Array.toList_map, ha, e2]
 ·refine (hcall w hI).mono ?_
  rintro e w' ⟨rfl, hI'⟩
  exact ⟨v, rfl, hK.out _ _ (hK2 _ w' (by rw [ha]; exact putSel_upk k hb hL (set_same hL) hdist) hI')⟩
theorem gk_store (i m : Nat) {s : Tmp} {u v : Value} {f : World → World} {oi : Oper} (ho : ops[i]? = some oi) (hg : oi.guard = none) (hd : oi.dst = none) (hm : C[m]? = some i) (hL : L.all (fun e => !(e.1 == i)) = true)
  (hnd : (C.take m ++ C.drop (m + 1)).contains i = false) (hprev : (C.take m).all (fun q => O.contains q && (B.getD i 0).testBit q) = true) (hp : Rd O B i (fun _ => L) a0 p (fun _ => u)) (hs : Rd O B i (fun _ => L) a0 s (fun _ => v))
  (hrun : ∀ (a : Act) (w : World), I m w → a.tmps[p]? = some u → a.tmps[s]? = some v → (execOp a.eval oi).run P w = .ok .skip (f w)) (hI : ∀ w, I m w → I (m + 1) (f w)) : StepAt P ops Q B O (GrK C I L a0) i := by
 rintro b a w hG hb hon hoff
 obtain ⟨ha, hIm, hK2⟩ := gk_step i m hm hnd hprev hG hb hon
 refine ⟨oi, ho, fun K hK => ?_⟩
 rw [hd]
 refine skip_ (w1 := f w) (wanted_none0 hg) hd (hrun a w hIm (by rw [ha]; exact hp b (fun _ => undef) hon hoff) (by rw [ha]; exact hs b (fun _ => undef) hon hoff)) (hK.out _ _ (hK2 _ _ ?_ (hI w hIm)))
 show a = _
 rw [ha]
 exact (putSel_skip hL).symm
theorem grow_known {id : Nat} (O C : List Nat) (I : Nat → World → Prop) (L : Sel) {n : Nat} {l : Array Bool} {Tb : Bool × List (List Nat × List Nat)} (hm : P.follows .mixedOrders = true) (hn : ops.size = n) (hl : Array.replicate n false = l) (hT : rtab .any ops = Tb) (hw : waitsOk Tb.2 B = true) (hk : baseOk Tb.2 O = true) (hl2 : (lof Tb.2.length O (fun _ => false) == l.toList && O.length == n) = true)
  (hLO : L.all (fun e => O.contains e.1) = true) (hCO : (C.all fun e => O.contains e) = true) (h0 : I 0 W.drew) (hs : ∀ i ∈ O, StepAt P ops Q B O (GrK C I L a0) i)
  (hend : ∀ (w : World), I C.length w → Q .normal (putSel a0 (fun _ => true) L) w) : Code.wp P (Code.region id ops true) Q a0 W := by
 refine start_ (S := fun _ => True) (ds := []) l hm hn hl trivial (fun _ => ?_)
 refine inv_at O (fun a0 => GrK C I L a0) hT hw hk hl2 ⟨0, Nat.zero_le _, fun j c _ => ⟨fun h => absurd h (Nat.not_lt_zero _), fun _ => rfl⟩, ?_, h0⟩ hs ?_
 ·clear hLO hs hend
  induction L with
  | nil => rfl
  | cons e r ih => unfold putSel; exact ih
 ·rintro b a w hall ⟨s, hs1, h1, ha, hI⟩
  have e1 : putSel a0 b L = putSel a0 (fun _ => true) L := putSel_congr (fun e he => hall _ (List.all_eq_true.1 (hLO) e he))
  have e2 : s = C.length := by
   rcases Nat.lt_or_ge s C.length with h | h
   ·have hc := List.getElem?_eq_getElem h
    have e2 := (h1 s _ hc).2 (Nat.le_refl _)
    rw [hall _ (List.all_eq_true.1 hCO _ (List.getElem_mem h))] at e2
    cases e2
   ·omega
  rw [ha, e1]
  rw [e2] at hI
  exact hend w hI
end
end Go.Proofs.YtdlamomabonkjaaDoor.Base
end
section
namespace Go.Proofs.YtdlamomabonkjaaDoor.Pk
open Go.RowKit YtdlamomabonkjaaDoorW.PrintWords YtdlamomabonkjaaDoorW.PrintLast Base PCh ParDec Ch Crc CrcMath
theorem PS.put1 {w0 W : World} {g : Nat} {v : List UInt8} {f t q : Int} {CH : Value} (h : PS w0 W g v f t q CH) (x : Int) : PS w0 (W.setCell ⟨g, 1, none⟩ (.int .u16 x)) g v x t q CH := by
 obtain ⟨A, c, hb, hc, hC⟩ := h
 exact ⟨A, c, blk_put hb 1 _ rfl, hc, hC⟩
theorem PS.put2 {w0 W : World} {g : Nat} {v : List UInt8} {f t q : Int} {CH : Value} (h : PS w0 W g v f t q CH) (x : Int) : PS w0 (W.setCell ⟨g, 2, none⟩ (.int .u16 x)) g v f x q CH := by
 obtain ⟨A, c, hb, hc, hC⟩ := h
 exact ⟨A, c, blk_put hb 2 _ rfl, hc, hC⟩
theorem PS.put3 {w0 W : World} {g : Nat} {v : List UInt8} {f t q : Int} {CH : Value} (h : PS w0 W g v f t q CH) (x : Int) : PS w0 (W.setCell ⟨g, 3, none⟩ (.int .u32 x)) g v f t x CH := by
 obtain ⟨A, c, hb, hc, hC⟩ := h
 exact ⟨A, c, blk_put hb 3 _ rfl, hc, hC⟩
theorem _root_.Go.Proofs.YtdlamomabonkjaaDoor.Base.Only.thn {S : Nat → Prop} {w W W' : World} (h : Only S w W) (hb : Below W.heap.size W W') : Only S w W' := h.trans (Only.of_below (S := fun _ => False) hb) (fun _ _ h => h.elim)
theorem PS.below {w0 W W' : World} {g : Nat} {v : List UInt8} {f t q : Int} {CH : Value} (h : PS w0 W g v f t q CH) (hB : Below W.heap.size W W') : PS w0 W' g v f t q CH := by
 obtain ⟨A, c, hb, hc, hC⟩ := h
 exact ⟨A, c, blk_below hb hB, hc, hC⟩
theorem u16_small (n : Int) (h : 0 ≤ n) (h2 : n < 65536) : IntKind.u16.wrap n = n := by simp only [IntKind.wrap, IntKind.bits, IntKind.signed]; simp; omega
theorem be_lt2 (l : List UInt8) (h : l.length ≤ 2) : be l < 65536 := by
 have h1 := fold_lt l 0
 have h2 : 256 ^ l.length ≤ 256 ^ 2 := Nat.pow_le_pow_right (by decide) h
 unfold be
 omega
def hdF (b : List UInt8) : Nat := be (b.take 2)
def hdT (b : List UInt8) : Nat := be ((b.drop 2).take 2)
def hdQ (b : List UInt8) : Nat := be (((b.drop 2).drop 2).take 4)
def headE (b : List UInt8) : Int := if 65536 < b.length then 2 else if checkL b = 0 then (if (decide (0 < (hdF b : Int)) && decide (0 < (hdT b : Int))) = true then 0 else 72) else checkL b
def pkhT3 : Bool × List (List Nat × List Nat) := (true, [([], []), ([], []), ([], []), ([], []), ([3], [3]), ([4], [4]), ([5], [5]), ([6], [6]), ([], []), ([8], [8]), ([9], [9]), ([10, 6], [10]), ([11], [11]), ([], []), ([13], [13]), ([14], [14]), ([15, 11], [15]), ([0, 0, 3, 4, 5, 6, 7, 11, 16], [0]), ([17, 0, 3, 4, 5, 6, 7, 11, 16], [17]), ([18, 0, 3, 4, 5, 6, 7, 11, 16], [18]), ([19, 7, 16, 0, 3, 4, 5, 6, 7, 11, 16], [7, 19]), ([1, 0, 1, 3, 4, 5, 6, 7, 8, 9, 10, 11, 12, 16, 17, 18, 19, 20], [1]), ([21, 0, 1, 3, 4, 5, 6, 7, 8, 9, 10, 11, 12, 16, 17, 18, 19, 20], [21]), ([22, 0, 1, 3, 4, 5, 6, 7, 8, 9, 10, 11, 12, 16, 17, 18, 19, 20], [22]), ([23, 12, 20, 0, 1, 3, 4, 5, 6, 7, 8, 9, 10, 11, 12, 16, 17, 18, 19, 20], [12, 23]), ([2, 0, 1, 2, 3, 4, 5, 6, 7, 8, 9, 10, 11, 12, 13, 14, 15, 16, 17, 18, 19, 20, 21, 22, 23, 24], [2]), ([25, 0, 1, 2, 3, 4, 5, 6, 7, 8, 9, 10, 11, 12, 13, 14, 15, 16, 17, 18, 19, 20, 21, 22, 23, 24], [25]), ([26, 0, 1, 2, 3, 4, 5, 6, 7, 8, 9, 10, 11, 12, 13, 14, 15, 16, 17, 18, 19, 20, 21, 22, 23, 24], [26]), ([27, 16, 24, 0, 1, 2, 3, 4, 5, 6, 7, 8, 9, 10, 11, 12, 13, 14, 15, 16, 17, 18, 19, 20, 21, 22, 23, 24], [16, 27])])
def pkhB3 : List Nat := [0, 0, 0, 0, 8, 24, 56, 120, 0, 256, 768, 1912, 3960, 0, 8192, 24576, 61304, 126969, 258041, 520185, 1044473, 2097147, 4194299, 8388603, 16777211, 33554431, 67108863, 134217727, 268435455]
theorem pkhtab3 : Go.Proofs.YtdlamomabonkjaaDoorW.PrintLast.rtab .any (Go.Proofs.YtdlamomabonkjaaDoorW.PrintLast.opsOf Tryd.f58 3) = pkhT3 := by kernel_rfl
theorem pkhbits3 : Go.Proofs.YtdlamomabonkjaaDoorW.PrintLast.waitsOk pkhT3.2 pkhB3 = true := by kernel_rfl
def HeadP (w0 w : World) (g : Nat) (v : List UInt8) (E nf nt nq : Int) (e : Ending) (w' : World) : Prop :=
 Only (· = g) w w' ∧ (E ≠ 0 → e = errP 0 E ∧ ∃ x0, w'.heap[g]? = some (.cells x0 99 (0, 0))) ∧ (E = 0 → e = .returned (.tuple #[]) ∧ PS w0 w' g (v.drop 12) nf nt nq (.slice none 0 0))
theorem blk_sub {w : World} {g : Nat} {t : TypeId} {cs : Array Value} (h : w.heap[g]? = some (.cells cs t (0, 0))) (k : Nat) (sub : Array Value) (hs : ∀ j v, sub.toList[j]? = some v → cs[k + j]? = some v) : ∀ j v, sub.toList[j]? = some v → w.cell? ((⟨g, k, none⟩ : Addr).add j) = some v := by
 intro j v hv
 rw [WideShapes.add_plain, blk_cell h]
 exact hs j v hv
theorem PS.sub {w0 W : World} {g : Nat} {v : List UInt8} {f t q : Int} {CH : Value} (h : PS w0 W g v f t q CH) : ∀ j u, (#[.int .u16 f, .int .u16 t, .int .u32 q, CH] : Array Value).toList[j]? = some u → W.cell? ((⟨g, 1, none⟩ : Addr).add j) = some u := by
 obtain ⟨A, c, hb, hc, hC⟩ := h
 refine blk_sub hb 1 _ fun j u hu => ?_
 match j, hu with
 | 0, hu => exact hu
 | 1, hu => exact hu
 | 2, hu => exact hu
 | 3, hu => exact hu
 | _ + 4, hu => simp at hu
theorem PS.blk {w0 W : World} {g : Nat} {v : List UInt8} {f t q : Int} {CH : Value} (h : PS w0 W g v f t q CH) : ∃ x0, W.heap[g]? = some (.cells x0 99 (0, 0)) := by
 obtain ⟨A, c, hb, hc, hC⟩ := h
 exact ⟨_, hb⟩
set_option maxHeartbeats 4000000 in
theorem head_calls (w0 w : World) (g : Nat) (v : List UInt8) (hT : Table w) (hs : PS w0 w g v 0 0 0 (.slice none 0 0)) (hB : Below w0.heap.size w0 w) (hg : w0.heap.size ≤ g) (hv : v.length ≤ 140737488355328) :
  Calls Tryd.prog 58 #[.pointer (some ⟨g, 0, none⟩)] w (HeadP w0 w g v (headE v) (hdF v : Nat) (hdT v : Nat) (hdQ v : Nat)) := by
 have HS0 := Lh hs
 have HHP := Lh (fun (W : World) (E nf nt nq : Int) (e : Ending) (h : Only (· = g) w W ∧ (E ≠ 0 → e = errP 0 E ∧ ∃ x0, W.heap[g]? = some (.cells x0 99 (0, 0))) ∧ (E = 0 → e = .returned (.tuple #[]) ∧ PS w0 W g (v.drop 12) nf nt nq (.slice none 0 0))) => (show HeadP w0 w g v E nf nt nq e W from h))
 have hlt : g < w.heap.size := by obtain ⟨A, c, hb, _⟩ := hs; exact blk_lt hb
 have HM := Lh (fun (W : World) (a c : Int) => must_bad W a c)
 have HMO := Lh (fun (W : World) (a c : Int) => must_ok W a c)
 obtain ⟨A, c, hb, hc, hC⟩ := hs
 have k0 : w.cell? ⟨g, 0, none⟩ = some (.slice A v.length c) := blk_cell hb 0
 have HBK := Lh (fun (W : World) (h : Below w.heap.size w W) => blk_below hb h)
 by_cases h6 : 65536 < v.length
 ·have hE : headE v = 2 := by unfold headE; rw [if_pos h6]
  have hz : decide ((v.length : Int) ≤ 65536) = false := decide_eq_false (by omega)
  rw [hE]
  clear hE hb hc hC HS0 hT h6 hv HMO
  generalize v.length = n at *
  clear HHP
  unfold errP at HM
  unfold HeadP errP
  go_enter Tryd.func58, Tryd.ntmps58
  go_wp2_with fail
  refine (HM.out _ _ _).mono ?_
  rintro e w1 ⟨rfl, rfl⟩
  exact ⟨rfl, Only.refl _ _, fun _ => ⟨rfl, _, HBK.out _ (Below.refl _ _)⟩, fun h => absurd h (by decide)⟩
 ·have hz : decide ((v.length : Int) ≤ 65536) = true := decide_eq_true (by omega)
  have HCK := Lh (fun (W : World) (h : Below w.heap.size w W) => Crc.check_calls A c v W (hT.below h) (Kd.C_below hC (below_then hB hB.size h)) hc hv)
  have k0 : w.cell? ⟨g, 0, none⟩ = some (.slice A v.length c) := blk_cell hb 0
  by_cases hcz : checkL v = 0
  ·have hlen : 12 ≤ v.length := by
    unfold checkL at hcz
    split at hcz
    ·cases hcz
    ·omega
   have hE : headE v = if (decide (0 < (hdF v : Int)) && decide (0 < (hdT v : Int))) = true then 0 else 72 := by unfold headE; rw [if_neg h6, if_pos hcz]
   have HPB := Lh (ports_ok ((hdF v : Nat) : Int) ((hdT v : Nat) : Int) ((hdQ v : Nat) : Int) [])
   rw [hE]
   obtain ⟨E, hEE⟩ : ∃ E : Int, (if (decide (0 < (hdF v : Int)) && decide (0 < (hdT v : Int))) = true then 0 else 72) = E := ⟨_, rfl⟩
   rw [hEE]
   have HEE := Lh hEE
   clear hEE
   rw [hcz] at HCK
   clear hE hcz
   have HS := Lh (fun (W : World) (h : Below w.heap.size w W) => (show PS w0 W g v 0 0 0 (.slice none 0 0) from ⟨A, c, blk_below hb h, hc, hC⟩))
   clear hb hc hC HS0 hT
   go_enter Tryd.func58, Tryd.ntmps58
   go_wp2_with fail
   refine (HMO.out _ _ _).mono ?_
   rintro e w1 ⟨rfl, rfl⟩
   go_wp2_with fail
   refine (HCK.out _ (Below.refl _ _)).mono ?_
   rintro e w1 ⟨rfl, hB1⟩
   have HB1 := Lh hB1
   clear hB1 HCK k0
   go_wp2_with fail
   refine (HMO.out _ _ _).mono ?_
   rintro e w2 ⟨rfl, rfl⟩
   go_upto_region 3 with (fail)
   clear hz
   have HW1 := Lh (show IntKind.u16.wrap ((hdF v : Nat) : Int) = ((hdF v : Nat) : Int) from u16_small _ (by omega) (by have := be_lt2 (v.take 2) (by rw [List.length_take]; omega); unfold hdF; omega))
   have HW2 := Lh (show IntKind.u16.wrap ((hdT v : Nat) : Int) = ((hdT v : Nat) : Int) from u16_small _ (by omega) (by have := be_lt2 ((v.drop 2).take 2) (by rw [List.length_take]; omega); unfold hdT; omega))
   have HS2 := Lh (show PS w0 w2.drew g v 0 0 0 (.slice none 0 0) from HS.out w2.drew (pw_below_drewN HB1.out 1))
   clear HS
   have HBW := Lh (fun (W : World) (h : Only (· = g) w2 W) => (show Below w0.heap.size w0 W from (below_then hB hB.size HB1.out).trans (h.below (Nat.le_trans hB.size HB1.out.size) (fun k hk => by subst hk; exact hg))))
   have HN1 := Lh (fun (W : World) (h : PS w0 W g v 0 0 0 (.slice none 0 0) ∧ Only (· = g) w2 W) => (number_calls w0 W g 2 v 0 0 0 _ h.1 (HBW.out W h.2) hg (by omega) (by omega) hv).mono fun e w' ⟨he, hp, ho⟩ => (⟨he, hp, h.2.trans ho (fun _ _ h => h)⟩ : _ ∧ PS w0 w' g (v.drop 2) 0 0 0 (.slice none 0 0) ∧ Only (· = g) w2 w'))
   have HN2 := Lh (fun (W : World) (h : PS w0 W g (v.drop 2) 0 0 0 (.slice none 0 0) ∧ Only (· = g) w2 W) => (number_calls w0 W g 2 (v.drop 2) 0 0 0 _ h.1 (HBW.out W h.2) hg (by rw [List.length_drop]; omega) (by omega) (by rw [List.length_drop]; omega)).mono fun e w' ⟨he, hp, ho⟩ => (⟨he, hp, h.2.trans ho (fun _ _ h => h)⟩ : _ ∧ PS w0 w' g ((v.drop 2).drop 2) 0 0 0 (.slice none 0 0) ∧ Only (· = g) w2 w'))
   have HN3 := Lh (fun (W : World) (h : PS w0 W g ((v.drop 2).drop 2) 0 0 0 (.slice none 0 0) ∧ Only (· = g) w2 W) => (number_calls w0 W g 4 ((v.drop 2).drop 2) 0 0 0 _ h.1 (HBW.out W h.2) hg (by simp only [List.length_drop]; omega) (by omega) (by simp only [List.length_drop]; omega)).mono fun e w' ⟨he, hp, ho⟩ => (⟨he, hp, h.2.trans ho (fun _ _ h => h)⟩ : _ ∧ PS w0 w' g (((v.drop 2).drop 2).drop 4) 0 0 0 (.slice none 0 0) ∧ Only (· = g) w2 w'))
   rw [show be (v.take 2) = hdF v from rfl] at HN1
   rw [show be ((v.drop 2).take 2) = hdT v from rfl] at HN2
   rw [show be (((v.drop 2).drop 2).take 4) = hdQ v from rfl] at HN3
   generalize ((hdF v : Nat) : Int) = nf at *
   generalize ((hdT v : Nat) : Int) = nt at *
   generalize ((hdQ v : Nat) : Int) = nq at *
   refine grow_known (B := pkhB3) [0, 1, 2, 3, 4, 5, 6, 7, 8, 9, 10, 11, 12, 13, 14, 15, 16, 17, 18, 19, 20, 21, 22, 23, 24, 25, 26, 27, 28] [6, 11, 16, 20, 24, 28] (fun s W => match s with | 0 => PS w0 W g v 0 0 0 (.slice none 0 0) ∧ Only (· = g) w2 W | 1 => PS w0 W g (v.drop 2) 0 0 0 (.slice none 0 0) ∧ Only (· = g) w2 W | 2 => PS w0 W g ((v.drop 2).drop 2) 0 0 0 (.slice none 0 0) ∧ Only (· = g) w2 W | 3 => PS w0 W g (((v.drop 2).drop 2).drop 4) 0 0 0 (.slice none 0 0) ∧ Only (· = g) w2 W | 4 => PS w0 W g (((v.drop 2).drop 2).drop 4) nf 0 0 (.slice none 0 0) ∧ Only (· = g) w2 W | 5 => PS w0 W g (((v.drop 2).drop 2).drop 4) nf nt 0 (.slice none 0 0) ∧ Only (· = g) w2 W | _ => PS w0 W g (((v.drop 2).drop 2).drop 4) nf nt nq (.slice none 0 0) ∧ Only (· = g) w2 W) [(0, 21, .pointer (some ⟨g, 0, none⟩)), (1, 22, .pointer (some ⟨g, 0, none⟩)), (2, 23, .pointer (some ⟨g, 0, none⟩)), (3, 24, .pointer (some ⟨g, 0, none⟩)), (4, 25, .pointer (some ⟨g, 0, none⟩)), (5, 26, .pointer (some ⟨g, 0, none⟩)), (6, 27, .int .u32 nf), (7, 28, .int .u16 nf), (8, 29, .pointer (some ⟨g, 0, none⟩)), (9, 30, .pointer (some ⟨g, 0, none⟩)), (10, 31, .pointer (some ⟨g, 0, none⟩)), (11, 32, .int .u32 nt), (12, 33, .int .u16 nt), (13, 34, .pointer (some ⟨g, 0, none⟩)), (14, 35, .pointer (some ⟨g, 0, none⟩)), (15, 36, .pointer (some ⟨g, 0, none⟩)), (16, 37, .int .u32 nq), (17, 38, .pointer (some ⟨g, 0, none⟩)), (18, 39, .pointer (some ⟨g, 1, none⟩)), (19, 40, .pointer (some ⟨g, 1, none⟩)), (21, 41, .pointer (some ⟨g, 0, none⟩)), (22, 42, .pointer (some ⟨g, 1, none⟩)), (23, 43, .pointer (some ⟨g, 2, none⟩)), (25, 44, .pointer (some ⟨g, 0, none⟩)), (26, 45, .pointer (some ⟨g, 1, none⟩)), (27, 46, .pointer (some ⟨g, 3, none⟩))] (by kernel_rfl) rfl (l := #[false, false, false, false, false, false, false, false, false, false, false, false, false, false, false, false, false, false, false, false, false, false, false, false, false, false, false, false, false]) rfl pkhtab3 pkhbits3 (by kernel_rfl) (by kernel_rfl) rfl rfl ?_ ?_ ?_
   ·exact ⟨HS2.out, (Only.refl _ _).drew⟩
   ·exact steps_cons (gk_op (p := 0) (fun _ => True) 0 0 rfl rfl rfl rfl rfl rfl (u := .pointer (some ⟨g, 0, none⟩)) (rd_off (p := 0) (fun _ => rfl) rfl) (fun _ _ _ => trivial) (fun a w hJ e => by go_simp)) (steps_cons (gk_op (p := 0) (fun _ => True) 1 1 rfl rfl rfl rfl rfl rfl (u := .pointer (some ⟨g, 0, none⟩)) (rd_off (p := 0) (fun _ => rfl) rfl) (fun _ _ _ => trivial) (fun a w hJ e => by go_simp)) (steps_cons (gk_op (p := 0) (fun _ => True) 2 2 rfl rfl rfl rfl rfl rfl (u := .pointer (some ⟨g, 0, none⟩)) (rd_off (p := 0) (fun _ => rfl) rfl) (fun _ _ _ => trivial) (fun a w hJ e => by go_simp)) (steps_cons (gk_op (p := 0) (fun _ => True) 3 3 rfl rfl rfl rfl rfl rfl (u := .pointer (some ⟨g, 0, none⟩)) (rd_off (p := 0) (fun _ => rfl) rfl) (fun _ _ _ => trivial) (fun a w hJ e => by go_simp)) (steps_cons (gk_op (p := 24) (fun _ => True) 4 4 rfl rfl rfl rfl rfl rfl (u := .pointer (some ⟨g, 0, none⟩)) (rd_on (p := 24) 3 3 (fun _ => rfl) (fun _ => rfl) (by kernel_rfl) rfl) (fun _ _ _ => trivial) (fun a w hJ e => by go_simp)) (steps_cons (gk_op (p := 25) (fun _ => True) 5 5 rfl rfl rfl rfl rfl rfl (u := .pointer (some ⟨g, 0, none⟩)) (rd_on (p := 25) 4 4 (fun _ => rfl) (fun _ => rfl) (by kernel_rfl) rfl) (fun _ _ _ => trivial) (fun a w hJ e => by go_simp)) (steps_cons (gk_call (v := .int .u32 nf) (vals := [.pointer (some ⟨g, 0, none⟩), .int .i64 2]) 6 6 0 rfl rfl rfl rfl rfl rfl rfl (by kernel_rfl) Tryd.func80 (by kernel_rfl) rfl rfl (ar_t (rd_on (p := 26) 5 5 (fun _ => rfl) (fun _ => rfl) (by kernel_rfl) rfl) (ar_c (.int .i64 2) (ar_n))) (fun w h => (HN1.out w h))) (steps_cons (gk_op (p := 27) (fun _ => True) 7 7 rfl rfl rfl rfl rfl rfl (u := .int .u32 nf) (rd_on (p := 27) 6 6 (fun _ => rfl) (fun _ => rfl) (by kernel_rfl) rfl) (fun _ _ _ => trivial) (fun a w hJ e => by have h16 := HW1.out; go_simp)) (steps_cons (gk_op (p := 0) (fun _ => True) 8 8 rfl rfl rfl rfl rfl rfl (u := .pointer (some ⟨g, 0, none⟩)) (rd_off (p := 0) (fun _ => rfl) rfl) (fun _ _ _ => trivial) (fun a w hJ e => by go_simp)) (steps_cons (gk_op (p := 29) (fun _ => True) 9 9 rfl rfl rfl rfl rfl rfl (u := .pointer (some ⟨g, 0, none⟩)) (rd_on (p := 29) 8 8 (fun _ => rfl) (fun _ => rfl) (by kernel_rfl) rfl) (fun _ _ _ => trivial) (fun a w hJ e => by go_simp)) (steps_cons (gk_op (p := 30) (fun _ => True) 10 10 rfl rfl rfl rfl rfl rfl (u := .pointer (some ⟨g, 0, none⟩)) (rd_on (p := 30) 9 9 (fun _ => rfl) (fun _ => rfl) (by kernel_rfl) rfl) (fun _ _ _ => trivial) (fun a w hJ e => by go_simp)) (steps_cons (gk_call (v := .int .u32 nt) (vals := [.pointer (some ⟨g, 0, none⟩), .int .i64 2]) 11 11 1 rfl rfl rfl rfl rfl rfl rfl (by kernel_rfl) Tryd.func80 (by kernel_rfl) rfl rfl (ar_t (rd_on (p := 31) 10 10 (fun _ => rfl) (fun _ => rfl) (by kernel_rfl) rfl) (ar_c (.int .i64 2) (ar_n))) (fun w h => (HN2.out w h))) (steps_cons (gk_op (p := 32) (fun _ => True) 12 12 rfl rfl rfl rfl rfl rfl (u := .int .u32 nt) (rd_on (p := 32) 11 11 (fun _ => rfl) (fun _ => rfl) (by kernel_rfl) rfl) (fun _ _ _ => trivial) (fun a w hJ e => by have h16 := HW2.out; go_simp)) (steps_cons (gk_op (p := 0) (fun _ => True) 13 13 rfl rfl rfl rfl rfl rfl (u := .pointer (some ⟨g, 0, none⟩)) (rd_off (p := 0) (fun _ => rfl) rfl) (fun _ _ _ => trivial) (fun a w hJ e => by go_simp)) (steps_cons (gk_op (p := 34) (fun _ => True) 14 14 rfl rfl rfl rfl rfl rfl (u := .pointer (some ⟨g, 0, none⟩)) (rd_on (p := 34) 13 13 (fun _ => rfl) (fun _ => rfl) (by kernel_rfl) rfl) (fun _ _ _ => trivial) (fun a w hJ e => by go_simp)) (steps_cons (gk_op (p := 35) (fun _ => True) 15 15 rfl rfl rfl rfl rfl rfl (u := .pointer (some ⟨g, 0, none⟩)) (rd_on (p := 35) 14 14 (fun _ => rfl) (fun _ => rfl) (by kernel_rfl) rfl) (fun _ _ _ => trivial) (fun a w hJ e => by go_simp)) (steps_cons (gk_call (v := .int .u32 nq) (vals := [.pointer (some ⟨g, 0, none⟩), .int .i64 4]) 16 16 2 rfl rfl rfl rfl rfl rfl rfl (by kernel_rfl) Tryd.func80 (by kernel_rfl) rfl rfl (ar_t (rd_on (p := 36) 15 15 (fun _ => rfl) (fun _ => rfl) (by kernel_rfl) rfl) (ar_c (.int .i64 4) (ar_n))) (fun w h => (HN3.out w h))) (steps_cons (gk_op (p := 21) (fun _ => True) 17 17 rfl rfl rfl rfl rfl rfl (u := .pointer (some ⟨g, 0, none⟩)) (rd_on (p := 21) 0 0 (fun _ => rfl) (fun _ => rfl) (by kernel_rfl) rfl) (fun _ _ _ => trivial) (fun a w hJ e => by go_simp)) (steps_cons (gk_op (p := 38) (fun _ => True) 18 18 rfl rfl rfl rfl rfl rfl (u := .pointer (some ⟨g, 0, none⟩)) (rd_on (p := 38) 17 17 (fun _ => rfl) (fun _ => rfl) (by kernel_rfl) rfl) (fun _ _ _ => trivial) (fun a w hJ e => by go_simp)) (steps_cons (gk_op (p := 39) (fun _ => True) 19 19 rfl rfl rfl rfl rfl rfl (u := .pointer (some ⟨g, 1, none⟩)) (rd_on (p := 39) 18 18 (fun _ => rfl) (fun _ => rfl) (by kernel_rfl) rfl) (fun _ _ _ => trivial) (fun a w hJ e => by go_simp)) (steps_cons (gk_store (p := 40) (s := 28) (u := .pointer (some ⟨g, 1, none⟩)) (v := .int .u16 nf) (f := fun W => W.setCell ⟨g, 1, none⟩ (.int .u16 nf)) 20 3 rfl rfl rfl rfl rfl rfl (by kernel_rfl) (rd_on (p := 40) 19 19 (fun _ => rfl) (fun _ => rfl) (by kernel_rfl) rfl) (rd_on (p := 28) 7 7 (fun _ => rfl) (fun _ => rfl) (by kernel_rfl) rfl) (fun a w h e1 e2 => by obtain ⟨A, c, hb, hc, hC⟩ := h.1; have f0 := blk_frozen hb 1; have k0 := blk_cell hb 1; go_simp) (fun w h => ⟨h.1.put1 _, h.2.setCell (fun _ => rfl) _⟩)) (steps_cons (gk_op (p := 22) (fun _ => True) 21 20 rfl rfl rfl rfl rfl rfl (u := .pointer (some ⟨g, 0, none⟩)) (rd_on (p := 22) 1 1 (fun _ => rfl) (fun _ => rfl) (by kernel_rfl) rfl) (fun _ _ _ => trivial) (fun a w hJ e => by go_simp)) (steps_cons (gk_op (p := 41) (fun _ => True) 22 21 rfl rfl rfl rfl rfl rfl (u := .pointer (some ⟨g, 0, none⟩)) (rd_on (p := 41) 20 21 (fun _ => rfl) (fun _ => rfl) (by kernel_rfl) rfl) (fun _ _ _ => trivial) (fun a w hJ e => by go_simp)) (steps_cons (gk_op (p := 42) (fun _ => True) 23 22 rfl rfl rfl rfl rfl rfl (u := .pointer (some ⟨g, 1, none⟩)) (rd_on (p := 42) 21 22 (fun _ => rfl) (fun _ => rfl) (by kernel_rfl) rfl) (fun _ _ _ => trivial) (fun a w hJ e => by go_simp)) (steps_cons (gk_store (p := 43) (s := 33) (u := .pointer (some ⟨g, 2, none⟩)) (v := .int .u16 nt) (f := fun W => W.setCell ⟨g, 2, none⟩ (.int .u16 nt)) 24 4 rfl rfl rfl rfl rfl rfl (by kernel_rfl) (rd_on (p := 43) 22 23 (fun _ => rfl) (fun _ => rfl) (by kernel_rfl) rfl) (rd_on (p := 33) 12 12 (fun _ => rfl) (fun _ => rfl) (by kernel_rfl) rfl) (fun a w h e1 e2 => by obtain ⟨A, c, hb, hc, hC⟩ := h.1; have f0 := blk_frozen hb 2; have k0 := blk_cell hb 2; go_simp) (fun w h => ⟨h.1.put2 _, h.2.setCell (fun _ => rfl) _⟩)) (steps_cons (gk_op (p := 23) (fun _ => True) 25 23 rfl rfl rfl rfl rfl rfl (u := .pointer (some ⟨g, 0, none⟩)) (rd_on (p := 23) 2 2 (fun _ => rfl) (fun _ => rfl) (by kernel_rfl) rfl) (fun _ _ _ => trivial) (fun a w hJ e => by go_simp)) (steps_cons (gk_op (p := 44) (fun _ => True) 26 24 rfl rfl rfl rfl rfl rfl (u := .pointer (some ⟨g, 0, none⟩)) (rd_on (p := 44) 23 25 (fun _ => rfl) (fun _ => rfl) (by kernel_rfl) rfl) (fun _ _ _ => trivial) (fun a w hJ e => by go_simp)) (steps_cons (gk_op (p := 45) (fun _ => True) 27 25 rfl rfl rfl rfl rfl rfl (u := .pointer (some ⟨g, 1, none⟩)) (rd_on (p := 45) 24 26 (fun _ => rfl) (fun _ => rfl) (by kernel_rfl) rfl) (fun _ _ _ => trivial) (fun a w hJ e => by go_simp)) (steps_cons (gk_store (p := 46) (s := 37) (u := .pointer (some ⟨g, 3, none⟩)) (v := .int .u32 nq) (f := fun W => W.setCell ⟨g, 3, none⟩ (.int .u32 nq)) 28 5 rfl rfl rfl rfl rfl rfl (by kernel_rfl) (rd_on (p := 46) 25 27 (fun _ => rfl) (fun _ => rfl) (by kernel_rfl) rfl) (rd_on (p := 37) 16 16 (fun _ => rfl) (fun _ => rfl) (by kernel_rfl) rfl) (fun a w h e1 e2 => by obtain ⟨A, c, hb, hc, hC⟩ := h.1; have f0 := blk_frozen hb 3; have k0 := blk_cell hb 3; go_simp) (fun w h => ⟨h.1.put3 _, h.2.setCell (fun _ => rfl) _⟩)) steps_nil))))))))))))))))))))))))))))
   intro W4 hI
   have HI := Lh (show PS w0 W4 g (((v.drop 2).drop 2).drop 4) nf nt nq (.slice none 0 0) ∧ Only (· = g) w2 W4 from hI)
   clear hI HN1 HN2 HN3 HS2
   simp only [putSel, if_true, Act.put, List.setIfInBounds_toArray, List.set_cons_zero, List.set_cons_succ]
   have HN4 := Lh ((number_calls w0 W4 g 4 (((v.drop 2).drop 2).drop 4) nf nt nq _ HI.out.1 (HBW.out W4 HI.out.2) hg (by simp only [List.length_drop]; omega) (by omega) (by simp only [List.length_drop]; omega)).mono fun e w' ⟨he, hp, ho⟩ => (⟨he, hp, HI.out.2.trans ho (fun _ _ h => h)⟩ : _ ∧ PS w0 w' g ((((v.drop 2).drop 2).drop 4).drop 4) nf nt nq (.slice none 0 0) ∧ Only (· = g) w2 w'))
   rw [show (((v.drop 2).drop 2).drop 4).drop 4 = v.drop 12 by simp only [List.drop_drop]] at HN4
   go_wp2_with fail
   refine HN4.out.mono ?_
   rintro e W5 ⟨rfl, hP5, hO5⟩
   have HP5 := Lh hP5
   have hO6 := HB1.out
   have HO5 := Lh ((Only.of_below (S := (· = g)) HB1.out).trans hO5 (fun _ _ h => h))
   have HPC := Lh (fun (W : World) => packet_ports.calls nf nt nq none 0 [] _ W (Kd.C_nil _ _) (Nat.le_refl _) HPB.out)
   clear hP5 hO5 hO6 HN4 HI HBW HB1 HPB HBK
   generalize (decide (0 < nf) && decide (0 < nt)) = pb at *
   have hsub := HP5.out.sub
   have HSB := Lh hsub
   clear hsub
   go_wp2_with (with_reducible refine gate_dst (N := 54) rfl ?_; go_must (refine wpList_load_cells rfl 26 (.tmp 53) rfl rfl #[.int .u16 nf, .int .u16 nt, .int .u32 nq, .slice none 0 0] _ (fun j v hv => HSB.out j v hv) Tryd.underlying26 rfl (by kernel_rfl) ?_))
   refine (HPC.out W5).mono ?_
   rintro e W6 ⟨rfl, hB6⟩
   have HB6 := Lh hB6
   clear hB6 HPC HSB
   cases pb with
   | true =>
    have hE0 := HEE.out
    rw [if_pos rfl] at hE0
    subst hE0
    go_wp2_with fail
    refine (HMO.out _ _ _).mono ?_
    rintro e W7 ⟨rfl, rfl⟩
    go_wp2
    exact ⟨rfl, _, results_none rfl _ _ _, HHP.out _ _ _ _ _ _ ⟨HO5.out.thn HB6.out, fun h => absurd rfl h, fun _ => ⟨rfl, HP5.out.below HB6.out⟩⟩⟩
   | false =>
    have hE0 := HEE.out
    rw [if_neg (by decide)] at hE0
    subst hE0
    unfold errP at HM HHP
    go_wp2_with fail
    refine (HM.out _ _ _).mono ?_
    rintro e W7 ⟨rfl, rfl⟩
    exact ⟨rfl, HHP.out _ _ _ _ _ _ ⟨HO5.out.thn HB6.out, fun _ => ⟨rfl, (HP5.out.below HB6.out).blk⟩, fun h => absurd h (by decide)⟩⟩
  ·have hE : headE v = checkL v := by unfold headE; rw [if_neg h6, if_neg hcz]
   rw [hE]
   have hez : (checkL v == 0) = false := by simp [hcz]
   have HCZ := Lh hcz
   clear hE hb hc hC HS0 hT h6 hv hcz
   generalize checkL v = cv at *
   generalize v.length = n at *
   clear HHP
   unfold errP at HM
   unfold HeadP errP
   go_enter Tryd.func58, Tryd.ntmps58
   go_wp2_with fail
   refine (HMO.out _ _ _).mono ?_
   rintro e w1 ⟨rfl, rfl⟩
   go_wp2_with fail
   refine (HCK.out _ (Below.refl _ _)).mono ?_
   rintro e w1 ⟨rfl, hB1⟩
   have HB1 := Lh hB1
   clear hB1 HCK
   go_wp2_with fail
   refine (HM.out _ _ _).mono ?_
   rintro e w2 ⟨rfl, rfl⟩
   exact ⟨rfl, Only.of_below HB1.out, fun _ => ⟨rfl, _, HBK.out _ HB1.out⟩, fun h => absurd h HCZ.out⟩
end Go.Proofs.YtdlamomabonkjaaDoor.Pk
end
section
namespace Go.Proofs.YtdlamomabonkjaaDoor.Pk
open Go.RowKit YtdlamomabonkjaaDoorW.PrintWords YtdlamomabonkjaaDoorW.PrintLast Base PCh ParDec Ch Crc CrcMath
theorem _root_.Go.Proofs.YtdlamomabonkjaaDoor.Base.Only.setRow {S : Nat → Prop} {a w : World} (h : Only S a w) {g : Nat} (hg : g < a.heap.size → S g) (cs : Array Value) : Only S a (w.setRow g cs) :=
 ⟨h.os, h.tape, h.output, by rw [setRow_size]; exact h.size, fun k hk hn => (setRow_other _ _ _ _ (fun e => hn (by subst e; exact hg hk))).trans (h.block k hk hn)⟩
def pkrT5 : Bool × List (List Nat × List Nat) := (true, [([], []), ([], []), ([1], [1]), ([], []), ([3], [3]), ([0, 0], [0]), ([2, 5, 0, 1, 2, 5], [2]), ([4, 6, 0, 1, 2, 3, 4, 5, 6], [4])])
def pkrB5 : List Nat := [0, 0, 2, 0, 8, 1, 39, 127]
theorem pkrtab5 : Go.Proofs.YtdlamomabonkjaaDoorW.PrintLast.rtab .any (Go.Proofs.YtdlamomabonkjaaDoorW.PrintLast.opsOf Tryd.f57 5) = pkrT5 := by kernel_rfl
theorem pkrbits5 : Go.Proofs.YtdlamomabonkjaaDoorW.PrintLast.waitsOk pkrT5.2 pkrB5 = true := by kernel_rfl
theorem pcatch_idle (a b c : Addr) (w : World) :
  CallsD Tryd.prog 57 #[.pointer (some a), .pointer (some b), .pointer (some c)] .returning w fun e u' w' => e = .returned (.tuple #[]) ∧ u' = .returning ∧ w' = w := by
 refine callsD_of_wpS Tryd.func57 rfl fun c₀ cs hu => ?_
 apply wpS_seq
 apply wpS_region
 simp [wpOpsS, go_sem, recoverD, hu, Tryd.ntmps57, Exit.thenS]
 have ht : (#[Value.pointer (some a), Value.pointer (some b), Value.pointer (some c)] ++ ((Array.replicate 19 undef).setIfInBounds 3 Value.nilIface).setIfInBounds 0 Value.nilIface) = #[.pointer (some a), .pointer (some b), .pointer (some c), .nilIface, undef, undef, .nilIface, undef, undef, undef, undef, undef, undef, undef, undef, undef, undef, undef, undef, undef, undef, undef] := by kernel_rfl
 rw [ht]
 refine wpS_of_wp ?_
 go_wp2
 cases c₀
 simp_all [bodyPostS, results, Tryd.results57]
def fltV (at_ code : Int) : Value := .iface 93 (.agg #[.int .i64 at_, .int .i64 code])
set_option maxHeartbeats 4000000 in
theorem pcatch_err (a b c : Nat) (at_ code : Int) (older : List PanicEntry) (w : World) (x0 : Array Value) (x1 x2 : Value) (t1 t2 : TypeId)
  (h0 : w.heap[a]? = some (.cells x0 26 (0, 0))) (hx0 : x0.size = 4) (h1 : w.heap[b]? = some (.cells #[x1] t1 (0, 0))) (h2 : w.heap[c]? = some (.cells #[x2] t2 (0, 0))) (hab : a ≠ b) (hac : a ≠ c) (hbc : b ≠ c) :
  CallsD Tryd.prog 57 #[.pointer (some ⟨a, 0, none⟩), .pointer (some ⟨b, 0, none⟩), .pointer (some ⟨c, 0, none⟩)] (.panicking ({ v := fltV at_ code, recovered := false } :: older)) w fun e u' w' => e = .returned (.tuple #[]) ∧ u' = .panicking ({ v := fltV at_ code, recovered := true } :: older) ∧
   w'.heap[a]? = some (.cells #[.int .u16 0, .int .u16 0, .int .u32 0, .slice none 0 0] 26 (0, 0)) ∧ w'.heap[b]? = some (.cells #[.int .i64 at_] t1 (0, 0)) ∧ w'.heap[c]? = some (.cells #[.int .i64 code] t2 (0, 0)) ∧ Only (fun k => k = a ∨ k = b ∨ k = c) w w' := by
 unfold fltV
 refine callsD_of_wpS Tryd.func57 rfl fun c₀ cs hu => ?_
 apply wpS_seq
 apply wpS_region
 simp [wpOpsS, go_sem, recoverD, hu, Tryd.ntmps57, Exit.thenS]
 generalize hfv : (Value.iface 93 (.agg #[.int .i64 at_, .int .i64 code])) = fv at *
 have ht : ∀ fv : Value, (#[Value.pointer (some ⟨a, 0, none⟩), Value.pointer (some ⟨b, 0, none⟩), Value.pointer (some ⟨c, 0, none⟩)] ++ ((Array.replicate 19 undef).setIfInBounds 3 fv).setIfInBounds 0 fv) = #[.pointer (some ⟨a, 0, none⟩), .pointer (some ⟨b, 0, none⟩), .pointer (some ⟨c, 0, none⟩), fv, undef, undef, fv, undef, undef, undef, undef, undef, undef, undef, undef, undef, undef, undef, undef, undef, undef, undef] := fun fv => by kernel_rfl
 rw [ht]
 subst hfv
 have hta : ∀ W : World, (Instr.typeAssert (Value.iface 93 (.agg #[.int .i64 at_, .int .i64 code])) 20 93 true).run Tryd.prog W = .ok (.tuple #[.agg #[.int .i64 at_, .int .i64 code], .bool true]) W := fun W => by rfl
 refine wpS_of_wp ?_
 have hl0 := blk_lt h0
 have hl1 := blk_lt h1
 have hl2 := blk_lt h2
 have H0 := Lh (fun (W : World) (h : Below w.heap.size w W) => (⟨blk_below h0 h, blk_below h1 h, blk_below h2 h⟩ : W.heap[a]? = some (.cells x0 26 (0, 0)) ∧ W.heap[b]? = some (.cells #[x1] t1 (0, 0)) ∧ W.heap[c]? = some (.cells #[x2] t2 (0, 0))))
 have HX0 := Lh (show x0.size = (#[.int .u16 0, .int .u16 0, .int .u32 0, .slice none 0 0] : Array Value).size from hx0)
 obtain ⟨gf, hgf⟩ : ∃ gf, w.heap.size = gf := ⟨_, rfl⟩
 have HNE := Lh (show (a ≠ b ∧ a ≠ c ∧ b ≠ c) ∧ a < gf ∧ b < gf ∧ c < gf from ⟨⟨hab, hac, hbc⟩, by omega, by omega, by omega⟩)
 clear h0 h1 h2 hx0 hab hac hbc hl0 hl1 hl2
 go_upto_region 5 with (fail)
 refine wp_gen (fun W => W.heap[w.heap.size]? = some (.cells #[.int .i64 at_, .int .i64 code] 93 (0, 0)) ∧ Below w.heap.size w W) ⟨by first | exact blk_new _ _ | exact blk_put (blk_new _ _) 0 _ rfl, below_alloc (Below.refl _ _) _⟩ ?_
 rintro W0 ⟨hf0, hB0⟩
 rw [hgf] at hf0
 try rw [hgf]
 obtain ⟨ka, kb, kc⟩ := H0.out W0 hB0
 have HI := Lh (⟨ka, kb, kc, hf0, Only.of_below hB0⟩ : W0.heap[a]? = some (.cells x0 26 (0, 0)) ∧ W0.heap[b]? = some (.cells #[x1] t1 (0, 0)) ∧ W0.heap[c]? = some (.cells #[x2] t2 (0, 0)) ∧ W0.heap[gf]? = some (.cells #[.int .i64 at_, .int .i64 code] 93 (0, 0)) ∧ Only (fun k => k = a ∨ k = b ∨ k = c) w W0)
 clear ka kb kc hf0 hB0 H0 hta ht
 refine grow_known (B := pkrB5) [0, 1, 2, 3, 4, 5, 6, 7] [5, 6, 7] (fun s W => match s with | 0 => W.heap[a]? = some (.cells x0 26 (0, 0)) ∧ W.heap[b]? = some (.cells #[x1] t1 (0, 0)) ∧ W.heap[c]? = some (.cells #[x2] t2 (0, 0)) ∧ W.heap[gf]? = some (.cells #[.int .i64 at_, .int .i64 code] 93 (0, 0)) ∧ Only (fun k => k = a ∨ k = b ∨ k = c) w W | 1 => W.heap[a]? = some (.cells #[.int .u16 0, .int .u16 0, .int .u32 0, .slice none 0 0] 26 (0, 0)) ∧ W.heap[b]? = some (.cells #[x1] t1 (0, 0)) ∧ W.heap[c]? = some (.cells #[x2] t2 (0, 0)) ∧ W.heap[gf]? = some (.cells #[.int .i64 at_, .int .i64 code] 93 (0, 0)) ∧ Only (fun k => k = a ∨ k = b ∨ k = c) w W | 2 => W.heap[a]? = some (.cells #[.int .u16 0, .int .u16 0, .int .u32 0, .slice none 0 0] 26 (0, 0)) ∧ W.heap[b]? = some (.cells #[.int .i64 at_] t1 (0, 0)) ∧ W.heap[c]? = some (.cells #[x2] t2 (0, 0)) ∧ W.heap[gf]? = some (.cells #[.int .i64 at_, .int .i64 code] 93 (0, 0)) ∧ Only (fun k => k = a ∨ k = b ∨ k = c) w W | _ => W.heap[a]? = some (.cells #[.int .u16 0, .int .u16 0, .int .u32 0, .slice none 0 0] 26 (0, 0)) ∧ W.heap[b]? = some (.cells #[.int .i64 at_] t1 (0, 0)) ∧ W.heap[c]? = some (.cells #[.int .i64 code] t2 (0, 0)) ∧ W.heap[gf]? = some (.cells #[.int .i64 at_, .int .i64 code] 93 (0, 0)) ∧ Only (fun k => k = a ∨ k = b ∨ k = c) w W) [(0, 17, .agg #[.int .u16 0, .int .u16 0, .int .u32 0, .slice none 0 0]), (1, 18, .pointer (some ⟨gf, 0, none⟩)), (2, 19, .int .i64 at_), (3, 20, .pointer (some ⟨gf, 1, none⟩)), (4, 21, .int .i64 code)] (by kernel_rfl) rfl (l := #[false, false, false, false, false, false, false, false]) rfl pkrtab5 pkrbits5 (by kernel_rfl) (by kernel_rfl) rfl rfl ?_ ?_ ?_
 ·exact ⟨blk_drewN HI.out.1 1, blk_drewN HI.out.2.1 1, blk_drewN HI.out.2.2.1 1, blk_drewN HI.out.2.2.2.1 1, HI.out.2.2.2.2.drew⟩
 ·exact steps_cons (gk_op (p := 0) (fun W => W.heap[gf]? = some (.cells #[.int .i64 at_, .int .i64 code] 93 (0, 0))) 0 0 rfl rfl rfl rfl rfl rfl (u := .pointer (some ⟨a, 0, none⟩)) (rd_off (p := 0) (fun _ => rfl) rfl) (fun s W h => by match s, h with | 0, h => exact h.2.2.2.1 | 1, h => exact h.2.2.2.1 | 2, h => exact h.2.2.2.1 | _ + 3, h => exact h.2.2.2.1) (fun a w hJ e => by go_simp; first | done | rfl)) (steps_cons (gk_op (p := 4) (fun W => W.heap[gf]? = some (.cells #[.int .i64 at_, .int .i64 code] 93 (0, 0))) 1 1 rfl rfl rfl rfl rfl rfl (u := .pointer (some ⟨gf, 0, none⟩)) (rd_off (p := 4) (fun _ => rfl) rfl) (fun s W h => by match s, h with | 0, h => exact h.2.2.2.1 | 1, h => exact h.2.2.2.1 | 2, h => exact h.2.2.2.1 | _ + 3, h => exact h.2.2.2.1) (fun a w hJ e => by go_simp)) (steps_cons (gk_op (p := 18) (fun W => W.heap[gf]? = some (.cells #[.int .i64 at_, .int .i64 code] 93 (0, 0))) 2 2 rfl rfl rfl rfl rfl rfl (u := .pointer (some ⟨gf, 0, none⟩)) (rd_on (p := 18) 1 1 (fun _ => rfl) (fun _ => rfl) (by kernel_rfl) rfl) (fun s W h => by match s, h with | 0, h => exact h.2.2.2.1 | 1, h => exact h.2.2.2.1 | 2, h => exact h.2.2.2.1 | _ + 3, h => exact h.2.2.2.1) (fun a w hJ e => by have k0 := blk_cell hJ 0; have hs : w.cell? ⟨gf, 0, none⟩ = some (.int .i64 at_) := k0; go_simp)) (steps_cons (gk_op (p := 4) (fun W => W.heap[gf]? = some (.cells #[.int .i64 at_, .int .i64 code] 93 (0, 0))) 3 3 rfl rfl rfl rfl rfl rfl (u := .pointer (some ⟨gf, 0, none⟩)) (rd_off (p := 4) (fun _ => rfl) rfl) (fun s W h => by match s, h with | 0, h => exact h.2.2.2.1 | 1, h => exact h.2.2.2.1 | 2, h => exact h.2.2.2.1 | _ + 3, h => exact h.2.2.2.1) (fun a w hJ e => by go_simp)) (steps_cons (gk_op (p := 20) (fun W => W.heap[gf]? = some (.cells #[.int .i64 at_, .int .i64 code] 93 (0, 0))) 4 4 rfl rfl rfl rfl rfl rfl (u := .pointer (some ⟨gf, 1, none⟩)) (rd_on (p := 20) 3 3 (fun _ => rfl) (fun _ => rfl) (by kernel_rfl) rfl) (fun s W h => by match s, h with | 0, h => exact h.2.2.2.1 | 1, h => exact h.2.2.2.1 | 2, h => exact h.2.2.2.1 | _ + 3, h => exact h.2.2.2.1) (fun a w hJ e => by have hs : w.cell? ⟨gf, 1, none⟩ = some (.int .i64 code) := blk_cell hJ 1; go_simp)) (steps_cons (gk_store (p := 0) (s := 17) (u := .pointer (some ⟨a, 0, none⟩)) (v := .agg #[.int .u16 0, .int .u16 0, .int .u32 0, .slice none 0 0]) (f := fun W => W.setRow a #[.int .u16 0, .int .u16 0, .int .u32 0, .slice none 0 0]) 5 0 rfl rfl rfl rfl rfl rfl (by kernel_rfl) (rd_off (p := 0) (fun _ => rfl) rfl) (rd_on (p := 17) 0 0 (fun _ => rfl) (fun _ => rfl) (by kernel_rfl) rfl) (fun a w h e1 e2 => by exact exec_store_row 26 (.tmp 0) (.tmp 17) rfl (eval_of e1) (eval_of e2) h.1 (by kernel_rfl) HX0.out (by simp [Value.oneCell'])) (fun W h => ⟨setRow_heap _ _ _ _ _ _ h.1, (setRow_other _ _ _ _ (by have := HNE.out; omega)).trans h.2.1, (setRow_other _ _ _ _ (by have := HNE.out; omega)).trans h.2.2.1, (setRow_other _ _ _ _ (by have := HNE.out; omega)).trans h.2.2.2.1, h.2.2.2.2.setRow (fun _ => Or.inl rfl) _⟩)) (steps_cons (gk_store (p := 1) (s := 19) (u := .pointer (some ⟨b, 0, none⟩)) (v := .int .i64 at_) (f := fun W => W.setCell ⟨b, 0, none⟩ (.int .i64 at_)) 6 1 rfl rfl rfl rfl rfl rfl (by kernel_rfl) (rd_off (p := 1) (fun _ => rfl) rfl) (rd_on (p := 19) 2 2 (fun _ => rfl) (fun _ => rfl) (by kernel_rfl) rfl) (fun a w h e1 e2 => by have hs : w.cell? ⟨b, 0, none⟩ = some x1 := blk_cell h.2.1 0; have hf := blk_frozen h.2.1 0; go_simp; first | done | rfl) (fun W h => ⟨blk_far (p := ⟨b, 0, none⟩) h.1 (by have := HNE.out; show a ≠ b; omega) _, blk_put h.2.1 0 _ rfl, blk_far (p := ⟨b, 0, none⟩) h.2.2.1 (by have := HNE.out; show c ≠ b; omega) _, blk_far (p := ⟨b, 0, none⟩) h.2.2.2.1 (by have := HNE.out; show gf ≠ b; omega) _, h.2.2.2.2.setCell (fun _ => Or.inr (Or.inl rfl)) _⟩)) (steps_cons (gk_store (p := 2) (s := 21) (u := .pointer (some ⟨c, 0, none⟩)) (v := .int .i64 code) (f := fun W => W.setCell ⟨c, 0, none⟩ (.int .i64 code)) 7 2 rfl rfl rfl rfl rfl rfl (by kernel_rfl) (rd_off (p := 2) (fun _ => rfl) rfl) (rd_on (p := 21) 4 4 (fun _ => rfl) (fun _ => rfl) (by kernel_rfl) rfl) (fun a w h e1 e2 => by have hs : w.cell? ⟨c, 0, none⟩ = some x2 := blk_cell h.2.2.1 0; have hf := blk_frozen h.2.2.1 0; go_simp; first | done | rfl) (fun W h => ⟨blk_far (p := ⟨c, 0, none⟩) h.1 (by have := HNE.out; show a ≠ c; omega) _, blk_far (p := ⟨c, 0, none⟩) h.2.1 (by have := HNE.out; show b ≠ c; omega) _, blk_put h.2.2.1 0 _ rfl, blk_far (p := ⟨c, 0, none⟩) h.2.2.2.1 (by have := HNE.out; show gf ≠ c; omega) _, h.2.2.2.2.setCell (fun _ => Or.inr (Or.inr rfl)) _⟩)) steps_nil)))))))
 intro W4 hI
 have HI2 := Lh hI
 clear hI HI
 simp only [putSel, if_true, Act.put, List.setIfInBounds_toArray, List.set_cons_zero, List.set_cons_succ]
 go_wp2
 show bodyPostS _ _ _ _ _ _ _ _ _
 cases c₀
 simp only at hu
 subst hu
 obtain ⟨r0, r1, r2, _, r4⟩ := HI2.out
 exact ⟨rfl, _, rfl, _, results_none rfl _ _ _, rfl, rfl, r0, r1, r2, r4⟩
end Go.Proofs.YtdlamomabonkjaaDoor.Pk
end
section
namespace Go.Proofs.YtdlamomabonkjaaDoor.Pk
open Go.RowKit YtdlamomabonkjaaDoorW.PrintWords YtdlamomabonkjaaDoorW.PrintLast Base PCh ParDec Ch Crc CrcMath
theorem sub4 (x0 x1 x2 x3 x4 : Value) : ∀ j v, (#[x1, x2, x3, x4] : Array Value).toList[j]? = some v → (#[x0, x1, x2, x3, x4] : Array Value)[1 + j]? = some v := by
 intro j u hu
 match j, hu with
 | 0, hu => exact hu
 | 1, hu => exact hu
 | 2, hu => exact hu
 | 3, hu => exact hu
 | _ + 4, hu => simp at hu
theorem boxes4 (w : World) (cs : Array Value) :
  ((((w.alloc (.cells #[.int .u16 0, .int .u16 0, .int .u32 0, .slice none 0 0] 26)).alloc (.cells #[.int .i64 0] 3)).alloc (.cells #[.int .i64 0] 28)).alloc (.cells cs 99)).heap[w.heap.size + 1 + 1 + 1]? = some (.cells cs 99 (0, 0)) ∧
  ((((w.alloc (.cells #[.int .u16 0, .int .u16 0, .int .u32 0, .slice none 0 0] 26)).alloc (.cells #[.int .i64 0] 3)).alloc (.cells #[.int .i64 0] 28)).alloc (.cells cs 99)).heap[w.heap.size]? = some (.cells #[.int .u16 0, .int .u16 0, .int .u32 0, .slice none 0 0] 26 (0, 0)) ∧
  ((((w.alloc (.cells #[.int .u16 0, .int .u16 0, .int .u32 0, .slice none 0 0] 26)).alloc (.cells #[.int .i64 0] 3)).alloc (.cells #[.int .i64 0] 28)).alloc (.cells cs 99)).heap[w.heap.size + 1]? = some (.cells #[.int .i64 0] 3 (0, 0)) ∧
  ((((w.alloc (.cells #[.int .u16 0, .int .u16 0, .int .u32 0, .slice none 0 0] 26)).alloc (.cells #[.int .i64 0] 3)).alloc (.cells #[.int .i64 0] 28)).alloc (.cells cs 99)).heap[w.heap.size + 1 + 1]? = some (.cells #[.int .i64 0] 28 (0, 0)) ∧
  Below w.heap.size w ((((w.alloc (.cells #[.int .u16 0, .int .u16 0, .int .u32 0, .slice none 0 0] 26)).alloc (.cells #[.int .i64 0] 3)).alloc (.cells #[.int .i64 0] 28)).alloc (.cells cs 99)) := by
 have s1 : (w.alloc (.cells #[.int .u16 0, .int .u16 0, .int .u32 0, .slice none 0 0] 26)).heap.size = w.heap.size + 1 := by simp
 have s2 : ((w.alloc (.cells #[.int .u16 0, .int .u16 0, .int .u32 0, .slice none 0 0] 26)).alloc (.cells #[.int .i64 0] 3)).heap.size = w.heap.size + 1 + 1 := by simp
 have s3 : (((w.alloc (.cells #[.int .u16 0, .int .u16 0, .int .u32 0, .slice none 0 0] 26)).alloc (.cells #[.int .i64 0] 3)).alloc (.cells #[.int .i64 0] 28)).heap.size = w.heap.size + 1 + 1 + 1 := by simp
 have h0 := blk_new w (.cells #[.int .u16 0, .int .u16 0, .int .u32 0, .slice none 0 0] 26)
 have h1 := blk_new (w.alloc (.cells #[.int .u16 0, .int .u16 0, .int .u32 0, .slice none 0 0] 26)) (.cells #[.int .i64 0] 3)
 have h2 := blk_new ((w.alloc (.cells #[.int .u16 0, .int .u16 0, .int .u32 0, .slice none 0 0] 26)).alloc (.cells #[.int .i64 0] 3)) (.cells #[.int .i64 0] 28)
 have h3 := blk_new (((w.alloc (.cells #[.int .u16 0, .int .u16 0, .int .u32 0, .slice none 0 0] 26)).alloc (.cells #[.int .i64 0] 3)).alloc (.cells #[.int .i64 0] 28)) (.cells cs 99)
 rw [s1] at h1
 rw [s2] at h2
 rw [s3] at h3
 exact ⟨h3, blk_alloc (blk_alloc (blk_alloc h0 _) _) _, blk_alloc (blk_alloc h1 _) _, blk_alloc h2 _, below_alloc (below_alloc (below_alloc (below_alloc (Below.refl _ _) _) _) _) _⟩
structure PD where
 f : Int
 t : Int
 q : Int
 l : List Chk
 a : Int
 e : Int
def pzero (a e : Int) : PD := ⟨0, 0, 0, [], a, e⟩
noncomputable def preadD (b : List UInt8) (wh : Bool) : PD :=
 if headE b = 0 then
  (if wh = false then ⟨(hdF b : Nat), (hdT b : Nat), (hdQ b : Nat), [], 0, 0⟩
  else if (b.drop 12).length = 0 then pzero 0 73
  else if (allL (b.drop 12)).2.2 = 0 then (if apartB (allL (b.drop 12)).1 = true then pzero 0 74 else ⟨(hdF b : Nat), (hdT b : Nat), (hdQ b : Nat), (allL (b.drop 12)).1, 0, 0⟩)
  else pzero (12 + (allL (b.drop 12)).2.1) (allL (b.drop 12)).2.2)
 else pzero 0 (headE b)
def ReadPP (w : World) (D : PD) (e : Ending) (w' : World) : Prop :=
 ∃ v, e = .returned (.tuple #[.agg #[.int .u16 D.f, .int .u16 D.t, .int .u32 D.q, v], .int .i64 D.a, .int .i64 D.e]) ∧ Kd.R k41 41 w' w.heap.size (fun _ => True) v D.l ∧ Below w.heap.size w w'
theorem pread_results (tmps : Array Value) (w : World) (a b c : Nat) (cs : Array Value) (v1 v2 : Value) (t0 : tmps.getD 4 undef = .pointer (some ⟨a, 0, none⟩)) (t1 : tmps.getD 5 undef = .pointer (some ⟨b, 0, none⟩)) (t2 : tmps.getD 6 undef = .pointer (some ⟨c, 0, none⟩))
  (h0 : w.heap[a]? = some (.cells cs 26 (0, 0))) (h1 : w.heap[b]? = some (.cells #[v1] 3 (0, 0))) (h2 : w.heap[c]? = some (.cells #[v2] 28 (0, 0))) (hcs : cs.size = 4 := by first | rfl | assumption) :
  (results Tryd.f31 tmps).run Tryd.prog w = .ok (.tuple #[.agg cs, v1, v2]) w := by
 have k1 := blk_cell h1 0
 have k2 := blk_cell h2 0
 have hi : (Tryd.prog.info? 26).map (·.size) = some cs.size := by rw [hcs]; kernel_rfl
 have hl := run_loadVar_row w a 26 26 cs (0, 0) _ h0 Tryd.underlying26 rfl hi
 rw [Array.getD_eq_getD_getElem?] at t0 t1 t2
 have l1 : (loadVar 3 ⟨b, 0, none⟩).run Tryd.prog w = .ok v1 w := by simp [go_sem, k1]
 have l2 : (loadVar 28 ⟨c, 0, none⟩).run Tryd.prog w = .ok v2 w := by simp [go_sem, k2]
 simp [results, Tryd.results31, asAddr, t0, t1, t2, hl, l1, l2]
theorem all_at (b : List UInt8) : ∀ (n at_ : Nat) (acc : List Chk), at_ ≤ b.length → 0 ≤ (allD n b at_ acc).2.1 ∧ (allD n b at_ acc).2.1 ≤ b.length := by
 intro n
 induction n with
 | zero => intro at_ acc _; unfold allD; exact ⟨Int.le_refl _, by simp⟩
 | succ n ih =>
  intro at_ acc ha
  unfold allD
  by_cases h : at_ < b.length
  ·rw [if_pos h]
   by_cases h2 : (decC (b.drop at_)).2.2 ≠ 0
   ·rw [if_pos h2]; dsimp only; omega
   ·rw [if_neg h2]
    obtain ⟨k, h3, h4, h5⟩ := decC_len (Classical.not_not.1 h2)
    rw [List.length_drop] at h5
    exact ih _ _ (by rw [h3]; simp; omega)
  ·rw [if_neg h]; exact ⟨Int.le_refl _, by simp⟩
theorem head_len {b : List UInt8} (h : headE b = 0) : 12 ≤ b.length ∧ b.length ≤ 65536 ∧ checkL b = 0 := by
 unfold headE at h
 by_cases h6 : 65536 < b.length
 ·rw [if_pos h6] at h; cases h
 rw [if_neg h6] at h
 by_cases hc : checkL b = 0
 ·refine ⟨?_, by omega, hc⟩
  unfold checkL at hc
  split at hc
  ·cases hc
  ·omega
 ·rw [if_neg hc] at h; exact absurd h hc
def AllOk (b : List UInt8) : Prop := ∀ (W : World) (A : Option Addr) (c : Nat), byte.C W A b.length b → b.length ≤ c → b.length ≤ 1048576 →
 Calls Tryd.prog 60 #[.slice A b.length c] W fun e w' => ∃ v, e = .returned (.tuple #[v, .int .i64 (allL b).2.1, .int .i64 (allL b).2.2]) ∧ Kd.R k41 41 w' W.heap.size (fun _ => True) v (allL b).1 ∧ Below W.heap.size W w'
set_option maxHeartbeats 4000000 in
theorem pread_with (w : World) (A : Option Addr) (b : List UInt8) (c : Nat) (wh : Bool) (hT : Table w) (hb : byte.C w A b.length b) (hc : b.length ≤ c) (hv : b.length ≤ 140737488355328) (HAC : wh = true → AllOk (b.drop 12)) :
  Calls Tryd.prog 31 #[.slice A b.length c, .bool wh] w (ReadPP w (preadD b wh)) := by
 have hmf : ∀ (fn : Fn) (first cap : Array Value) (w : World), (Instr.makeFunc fn first cap).run Tryd.prog w = .ok (.func fn first cap) w := fun _ _ _ _ => rfl
 have HAX := Lh HAC
 clear HAC
 unfold AllOk at HAX
 obtain ⟨D, hD⟩ : ∃ D, preadD b wh = D := ⟨_, rfl⟩
 rw [hD]
 have HD := Lh (show D = preadD b wh from hD.symm)
 have HT := Lh (fun (W : World) (h : Below w.heap.size w W) => hT.below h)
 have HBC := Lh hb
 have HM := Lh (fun (W : World) (a c : Int) => must_bad W a c)
 have HMO := Lh (fun (W : World) (a c : Int) => must_ok W a c)
 clear hb hD hT
 obtain ⟨n0, hn0⟩ : ∃ n, b.length = n := ⟨_, rfl⟩
 have HN0 := Lh hn0
 rw [hn0] at hc hv ⊢
 clear hn0
 go_enter_defers Tryd.func31, Tryd.ntmps31
 go_upto_region 3 with (fail)
 refine wp_gen (fun W => W.heap[w.heap.size + 1 + 1 + 1]? = some (.cells #[.slice A n0 c, .int .u16 0, .int .u16 0, .int .u32 0, .slice none 0 0] 99 (0, 0)) ∧ W.heap[w.heap.size]? = some (.cells #[.int .u16 0, .int .u16 0, .int .u32 0, .slice none 0 0] 26 (0, 0)) ∧ W.heap[w.heap.size + 1]? = some (.cells #[.int .i64 0] 3 (0, 0)) ∧ W.heap[w.heap.size + 1 + 1]? = some (.cells #[.int .i64 0] 28 (0, 0)) ∧ Below w.heap.size w W) (boxes4 w _) ?_
 rintro W0 ⟨hg, hp, ha, he, hB⟩
 generalize hge : w.heap.size + 1 + 1 + 1 = g at *
 generalize hgn : w.heap.size + 1 + 1 = ge at *
 generalize hgm : w.heap.size + 1 = ga at *
 obtain ⟨gp, hgp⟩ : ∃ gp, w.heap.size = gp := ⟨_, rfl⟩
 have HG := Lh (show w.heap.size = gp ∧ ga = gp + 1 ∧ ge = gp + 2 ∧ g = gp + 3 ∧ g < W0.heap.size from ⟨hgp, by omega, by omega, by omega, blk_lt hg⟩)
 have hps : PS w W0 g b 0 0 0 (.slice none 0 0) := ⟨A, c, by rw [HN0.out]; exact hg, by rw [HN0.out]; exact hc, HBC.out⟩
 have HHD := Lh (head_calls w W0 g b (HT.out W0 hB) hps hB (by omega) (by rw [HN0.out]; exact hv))
 have HK := Lh (fun (W : World) (h : Only (· = g) W0 W) => (⟨h.blk (by rw [← hgp]; exact hp) (by show gp ≠ g; omega), h.blk ha (by show ga ≠ g; omega), h.blk he (by show ge ≠ g; omega), hB.trans (h.below hB.size (fun k hk => by subst hk; omega))⟩ : W.heap[gp]? = some (.cells #[.int .u16 0, .int .u16 0, .int .u32 0, .slice none 0 0] 26 (0, 0)) ∧ W.heap[ga]? = some (.cells #[.int .i64 0] 3 (0, 0)) ∧ W.heap[ge]? = some (.cells #[.int .i64 0] 28 (0, 0)) ∧ Below w.heap.size w W))
 rw [hgp]
 clear hg hp ha he hB hge hgn hgm hgp hps hc hv
 go_wp2_with fail
 refine HHD.out.mono ?_
 intro e W3 hP
 unfold HeadP at hP
 obtain ⟨hO, hbad, hok⟩ := hP
 by_cases hh : headE b = 0
 ·obtain ⟨rfl, hP3⟩ := hok hh
  obtain ⟨hl12, hl6, hck⟩ := head_len hh
  have HSUB := Lh (fun (W : World) (h : Below W3.heap.size W3 W) => (hP3.below h).sub)
  obtain ⟨A3, c3, hb3, hc3, hC3⟩ := hP3
  have HO := Lh hO
  have HDH := Lh (show preadD b wh = if wh = false then ⟨(hdF b : Nat), (hdT b : Nat), (hdQ b : Nat), [], 0, 0⟩
  else if (b.drop 12).length = 0 then pzero 0 73
  else if (allL (b.drop 12)).2.2 = 0 then (if apartB (allL (b.drop 12)).1 = true then pzero 0 74 else ⟨(hdF b : Nat), (hdT b : Nat), (hdQ b : Nat), (allL (b.drop 12)).1, 0, 0⟩)
  else pzero (12 + (allL (b.drop 12)).2.1) (allL (b.drop 12)).2.2 from by unfold preadD; rw [if_pos hh])
  have k0 : W3.cell? ⟨g, 0, none⟩ = some (.slice A3 (b.drop 12).length c3) := blk_cell hb3 0
  have HAL := Lh (fun (hw : wh = true) (W : World) (h : Below w.heap.size w W) => HAX.out hw W A3 c3 (Kd.C_below hC3 h) hc3 (by rw [List.length_drop]; omega))
  have HAT := Lh (show 0 ≤ (allL (b.drop 12)).2.1 ∧ (allL (b.drop 12)).2.1 ≤ 65536 from by
   have := all_at (b.drop 12) ((b.drop 12).length + 1) 0 [] (Nat.zero_le _)
   have h2 : (b.drop 12).length ≤ 65536 := by rw [List.length_drop]; omega
   exact ⟨this.1, Int.le_trans this.2 (by omega)⟩)
  have HB3 := Lh hb3
  rw [HDH.out] at HD
  clear HAX hbad hok hh HHD hC3 hc3 hl12 hl6 hck hO hb3 HDH HBC HT HN0
  generalize ((hdF b : Nat) : Int) = nf at *
  generalize ((hdT b : Nat) : Int) = nt at *
  generalize ((hdQ b : Nat) : Int) = nq at *
  generalize allL (b.drop 12) = AL at *
  obtain ⟨xs, at_, er⟩ := AL
  dsimp only at HD HAL HAT
  generalize (b.drop 12).length = n at *
  cases wh with
  | false =>
   have HDE := Lh (show D = ⟨nf, nt, nq, [], 0, 0⟩ from by rw [HD.out, if_pos rfl])
   have HOX := Lh (show Only (· = g) W0 W3 from HO.out)
   have HSB := Lh (HSUB.out W3 (Below.refl _ _))
   have HR := Lh (fun (W : World) (h : Only (fun k => k = gp ∨ k = ga ∨ k = ge) W3 W) => (Kd.R_nil _ _ _ _ _ : Kd.R k41 41 W w.heap.size (fun _ => True) (.slice none 0 0) []))
   obtain ⟨CS, hCS⟩ : ∃ CS : Array Value, #[.int .u16 nf, .int .u16 nt, .int .u32 nq, (.slice none 0 0)] = CS := ⟨_, rfl⟩
   have HCZ := Lh (show (#[.int .u16 0, .int .u16 0, .int .u32 0, .slice none 0 0] : Array Value).size = CS.size by rw [← hCS]; rfl)
   have HCI := Lh (show (Tryd.prog.info? 26).map (·.size) = some CS.size by rw [← hCS]; kernel_rfl)
   have HC1 := Lh (show CS.all (·.oneCell') = true by rw [← hCS]; simp [Value.oneCell'])
   rw [hCS] at HSB
   have HCS := Lh hCS
   clear hCS
   obtain ⟨q0, q1, q2, qb⟩ := HK.out _ HOX.out
   have hb1 : (W3.setRow gp CS).heap[ga]? = some (.cells #[.int .i64 0] 3 (0, 0)) := (setRow_other _ _ _ _ (by have := HG.out; omega)).trans q1
   have hb2 : (W3.setRow gp CS).heap[ge]? = some (.cells #[.int .i64 0] 28 (0, 0)) := (setRow_other _ _ _ _ (by have := HG.out; omega)).trans q2
   have kb : (W3.setRow gp CS).cell? ⟨ga, 0, none⟩ = some (.int .i64 0) := blk_cell hb1 0
   have fb := blk_frozen hb1 0
   have hb3 := blk_far (p := ⟨ga, 0, none⟩) hb2 (show ge ≠ ga by have := HG.out; omega) (.int .i64 0)
   have kc : ((W3.setRow gp CS).setCell ⟨ga, 0, none⟩ (.int .i64 0)).cell? ⟨ge, 0, none⟩ = some (.int .i64 0) := blk_cell hb3 0
   have fc := blk_frozen hb3 0
   have HQ0 := Lh q0
   have HX0 := Lh (blk_far (p := ⟨ge, 0, none⟩) (blk_far (p := ⟨ga, 0, none⟩) (setRow_heap _ _ _ CS _ _ q0) (show gp ≠ ga by have := HG.out; omega) (.int .i64 0)) (show gp ≠ ge by have := HG.out; omega) (.int .i64 0))
   have HX1 := Lh (blk_far (p := ⟨ge, 0, none⟩) (blk_put hb1 0 (.int .i64 0) rfl) (show ga ≠ ge by have := HG.out; omega) (.int .i64 0))
   have HX2 := Lh (blk_put hb3 0 (.int .i64 0) rfl)
   have HXO := Lh ((((Only.refl (fun k => k = gp ∨ k = ga ∨ k = ge) W3).setRow (g := gp) (fun _ => Or.inl rfl) CS).setCell (p := ⟨ga, 0, none⟩) (fun _ => Or.inr (Or.inl rfl)) (.int .i64 0)).setCell (p := ⟨ge, 0, none⟩) (fun _ => Or.inr (Or.inr rfl)) (.int .i64 0))
   have HQB := Lh qb
   clear q0 q1 q2 qb hb1 hb2 hb3
   go_wp2_with (first | (with_reducible refine gate_dst (N := 23) rfl ?_; go_must (refine wpList_load_cells rfl 26 (.tmp 22) rfl rfl CS _ (fun j v hv => HSB.out j v hv) Tryd.underlying26 rfl HCI.out ?_)) | (refine wpList_store_row rfl 26 _ _ rfl gp CS rfl rfl 26 #[.int .u16 0, .int .u16 0, .int .u32 0, .slice none 0 0] HQ0.out HCI.out HCZ.out HC1.out ?_))
   refine leaves_cons (f := 57) (args := #[.pointer (some ⟨gp, 0, none⟩), .pointer (some ⟨ga, 0, none⟩), .pointer (some ⟨ge, 0, none⟩)]) (by simp) (by simp [go_sem]) ?_
   refine (pcatch_idle _ _ _ _).mono ?_
   rintro e u' w'' ⟨rfl, rfl, rfl⟩
   exact ⟨_, pread_results _ _ _ _ _ _ _ _ rfl rfl rfl HX0.out HX1.out HX2.out HCZ.out.symm, (.slice none 0 0), by rw [HDE.out, ← HCS.out], by rw [HDE.out]; exact HR.out _ HXO.out, HQB.out.trans (HXO.out.below HQB.out.size (fun k hk => by have := HG.out; omega))⟩
  | true =>
   rw [if_neg (by decide)] at HD
   by_cases hn : n = 0
   ·rw [if_pos hn] at HD
    have hz : decide (0 < n) = false := decide_eq_false (by omega)
    have HD0 := Lh HD.out
    clear HD hn HAL
    unfold errP at HM
    go_wp2_with fail
    refine (HM.out _ _ _).mono ?_
    rintro e W3 ⟨rfl, rfl⟩
    clear hz k0 HM HMO
    have HDE := Lh (show D = pzero (0) (73) from HD0.out)
    have HOX := Lh (HO.out)
    go_wp2
    refine leaves_cons (f := 57) (args := #[.pointer (some ⟨gp, 0, none⟩), .pointer (some ⟨ga, 0, none⟩), .pointer (some ⟨ge, 0, none⟩)]) (by simp) (by simp [go_sem]) ?_
    refine (pcatch_err gp ga ge (0) (73) [] _ _ _ _ _ _ (HK.out _ HOX.out).1 rfl (HK.out _ HOX.out).2.1 (HK.out _ HOX.out).2.2.1 (by have := HG.out; omega) (by have := HG.out; omega) (by have := HG.out; omega)).mono ?_
    rintro e u' w'' ⟨rfl, rfl, s0, s1, s2, hO2⟩
    exact ⟨_, pread_results _ _ _ _ _ _ _ _ rfl rfl rfl s0 s1 s2, .slice none 0 0, by rw [HDE.out]; rfl, by rw [HDE.out]; exact Kd.R_nil _ _ _ _ _, (HK.out _ HOX.out).2.2.2.trans (hO2.below (HK.out _ HOX.out).2.2.2.size (fun k hk => by have := HG.out; omega))⟩
   ·rw [if_neg hn] at HD
    have hz : decide (0 < n) = true := decide_eq_true (by omega)
    clear hn
    go_wp2_with fail
    refine (HMO.out _ _ _).mono ?_
    rintro e W3 ⟨rfl, rfl⟩
    clear hz
    go_wp2_with fail
    refine (HAL.out (by first | trivial | rfl) _ (HK.out _ HO.out).2.2.2).mono ?_
    rintro e W5 ⟨v5, rfl, hR5, hB5⟩
    obtain ⟨A5, c5, rfl, hle5, hC5⟩ := Kd.R_reads hR5
    have HR5 := Lh hR5
    have HB5 := Lh hB5
    have HLE5 := Lh hle5
    have HC5 := Lh hC5
    clear hR5 hle5 hC5 hB5 HAL k0
    by_cases her : er = 0
    ·subst her
     rw [if_pos rfl] at HD
     go_wp2_with fail
     refine (HMO.out _ _ _).mono ?_
     rintro e W5 ⟨rfl, rfl⟩
     have HAP := Lh (apart_calls W5 A5 c5 xs HC5.out)
     generalize apartB xs = ab at *
     go_wp2_with fail
     refine HAP.out.mono ?_
     rintro e W7 ⟨rfl, hB7⟩
     have HB7 := Lh (below_then HB5.out HB5.out.size hB7)
     have HR7 := Lh (Kd.R_below HR5.out hB7)
     clear hB7 HAP HC5
     cases ab with
     | true =>
      rw [if_pos rfl] at HD
      have HD0 := Lh HD.out
      clear HD HR7 HR5
      unfold errP at HM
      go_wp2_with fail
      refine (HM.out _ _ _).mono ?_
      rintro e W7 ⟨rfl, rfl⟩
      clear HM HMO
      have HDE := Lh (show D = pzero (0) (74) from HD0.out)
      have HOX := Lh (HO.out.thn HB7.out)
      go_wp2
      refine leaves_cons (f := 57) (args := #[.pointer (some ⟨gp, 0, none⟩), .pointer (some ⟨ga, 0, none⟩), .pointer (some ⟨ge, 0, none⟩)]) (by simp) (by simp [go_sem]) ?_
      refine (pcatch_err gp ga ge (0) (74) [] _ _ _ _ _ _ (HK.out _ HOX.out).1 rfl (HK.out _ HOX.out).2.1 (HK.out _ HOX.out).2.2.1 (by have := HG.out; omega) (by have := HG.out; omega) (by have := HG.out; omega)).mono ?_
      rintro e u' w'' ⟨rfl, rfl, s0, s1, s2, hO2⟩
      exact ⟨_, pread_results _ _ _ _ _ _ _ _ rfl rfl rfl s0 s1 s2, .slice none 0 0, by rw [HDE.out]; rfl, by rw [HDE.out]; exact Kd.R_nil _ _ _ _ _, (HK.out _ HOX.out).2.2.2.trans (hO2.below (HK.out _ HOX.out).2.2.2.size (fun k hk => by have := HG.out; omega))⟩
     | false =>
      rw [if_neg (by decide)] at HD
      go_wp2_with fail
      refine (HMO.out _ _ _).mono ?_
      rintro e W7 ⟨rfl, rfl⟩
      have hbg := blk_below HB3.out HB7.out
      have fg := blk_frozen hbg 4
      have kg : W7.cell? ⟨g, 4, none⟩ = some (.slice none 0 0) := blk_cell hbg 4
      have HBG := Lh hbg
      clear hbg
      go_upto_region 11 with (fail)
      have HOY := Lh ((HO.out.thn HB7.out).setCell (p := ⟨g, 4, none⟩) (fun _ => rfl) (.slice A5 xs.length c5))
      have HBY := Lh (blk_put HBG.out 4 (.slice A5 xs.length c5) rfl)
      have HRY := Lh (R_only HR7.out ((Only.refl (· = g) W7).setCell (p := ⟨g, 4, none⟩) (fun _ => rfl) (.slice A5 xs.length c5)) (fun k hk _ h => by have h1 := HG.out; have h2 := HO.out.size; have h3 : k = g := h; omega))
      have HSZ := Lh (show g < W3.heap.size from by have h1 := HG.out; have h2 := HO.out.size; omega)
      clear HR5 HR7 kg fg HBG
      refine wp_gen (fun W => W = W7.setCell ⟨g, 4, none⟩ (.slice A5 xs.length c5)) rfl ?_
      intro W9 hW9
      rw [← hW9] at HOY HBY HRY
      clear hW9
      have HDE := Lh (show D = ⟨nf, nt, nq, xs, 0, 0⟩ from HD.out)
      have HOX := Lh (show Only (· = g) W0 W9 from HOY.out)
      have HSB := Lh (blk_sub HBY.out 1 #[.int .u16 nf, .int .u16 nt, .int .u32 nq, .slice A5 xs.length c5] (sub4 _ _ _ _ _))
      have HR := Lh (fun (W : World) (h : Only (fun k => k = gp ∨ k = ga ∨ k = ge) W9 W) => (Kd.R_lower (R_only HRY.out h (fun k hk _ h2 => by have h1 := HG.out; have h3 := HSZ.out; omega)) (by have h1 := HG.out; have h3 := HSZ.out; omega) : Kd.R k41 41 W w.heap.size (fun _ => True) (.slice A5 xs.length c5) xs))
      obtain ⟨CS, hCS⟩ : ∃ CS : Array Value, #[.int .u16 nf, .int .u16 nt, .int .u32 nq, (.slice A5 xs.length c5)] = CS := ⟨_, rfl⟩
      have HCZ := Lh (show (#[.int .u16 0, .int .u16 0, .int .u32 0, .slice none 0 0] : Array Value).size = CS.size by rw [← hCS]; rfl)
      have HCI := Lh (show (Tryd.prog.info? 26).map (·.size) = some CS.size by rw [← hCS]; kernel_rfl)
      have HC1 := Lh (show CS.all (·.oneCell') = true by rw [← hCS]; simp [Value.oneCell'])
      rw [hCS] at HSB
      have HCS := Lh hCS
      clear hCS
      obtain ⟨q0, q1, q2, qb⟩ := HK.out _ HOX.out
      have hb1 : (W9.setRow gp CS).heap[ga]? = some (.cells #[.int .i64 0] 3 (0, 0)) := (setRow_other _ _ _ _ (by have := HG.out; omega)).trans q1
      have hb2 : (W9.setRow gp CS).heap[ge]? = some (.cells #[.int .i64 0] 28 (0, 0)) := (setRow_other _ _ _ _ (by have := HG.out; omega)).trans q2
      have kb : (W9.setRow gp CS).cell? ⟨ga, 0, none⟩ = some (.int .i64 0) := blk_cell hb1 0
      have fb := blk_frozen hb1 0
      have hb3 := blk_far (p := ⟨ga, 0, none⟩) hb2 (show ge ≠ ga by have := HG.out; omega) (.int .i64 0)
      have kc : ((W9.setRow gp CS).setCell ⟨ga, 0, none⟩ (.int .i64 0)).cell? ⟨ge, 0, none⟩ = some (.int .i64 0) := blk_cell hb3 0
      have fc := blk_frozen hb3 0
      have HQ0 := Lh q0
      have HX0 := Lh (blk_far (p := ⟨ge, 0, none⟩) (blk_far (p := ⟨ga, 0, none⟩) (setRow_heap _ _ _ CS _ _ q0) (show gp ≠ ga by have := HG.out; omega) (.int .i64 0)) (show gp ≠ ge by have := HG.out; omega) (.int .i64 0))
      have HX1 := Lh (blk_far (p := ⟨ge, 0, none⟩) (blk_put hb1 0 (.int .i64 0) rfl) (show ga ≠ ge by have := HG.out; omega) (.int .i64 0))
      have HX2 := Lh (blk_put hb3 0 (.int .i64 0) rfl)
      have HXO := Lh ((((Only.refl (fun k => k = gp ∨ k = ga ∨ k = ge) W9).setRow (g := gp) (fun _ => Or.inl rfl) CS).setCell (p := ⟨ga, 0, none⟩) (fun _ => Or.inr (Or.inl rfl)) (.int .i64 0)).setCell (p := ⟨ge, 0, none⟩) (fun _ => Or.inr (Or.inr rfl)) (.int .i64 0))
      have HQB := Lh qb
      clear q0 q1 q2 qb hb1 hb2 hb3
      go_wp2_with (first | (with_reducible refine gate_dst (N := 60) rfl ?_; go_must (refine wpList_load_cells rfl 26 (.tmp 59) rfl rfl CS _ (fun j v hv => HSB.out j v hv) Tryd.underlying26 rfl HCI.out ?_)) | (refine wpList_store_row rfl 26 _ _ rfl gp CS rfl rfl 26 #[.int .u16 0, .int .u16 0, .int .u32 0, .slice none 0 0] HQ0.out HCI.out HCZ.out HC1.out ?_))
      refine leaves_cons (f := 57) (args := #[.pointer (some ⟨gp, 0, none⟩), .pointer (some ⟨ga, 0, none⟩), .pointer (some ⟨ge, 0, none⟩)]) (by simp) (by simp [go_sem]) ?_
      refine (pcatch_idle _ _ _ _).mono ?_
      rintro e u' w'' ⟨rfl, rfl, rfl⟩
      exact ⟨_, pread_results _ _ _ _ _ _ _ _ rfl rfl rfl HX0.out HX1.out HX2.out HCZ.out.symm, (.slice A5 xs.length c5), by rw [HDE.out, ← HCS.out], by rw [HDE.out]; exact HR.out _ HXO.out, HQB.out.trans (HXO.out.below HQB.out.size (fun k hk => by have := HG.out; omega))⟩
    ·rw [if_neg her] at HD
     have hz : (er == 0) = false := by simp [her]
     have hwr : wrap64 (12 + at_) = 12 + at_ := by have := HAT.out; unfold wrap64; omega
     have HD0 := Lh HD.out
     clear HD HR5 HC5 her
     unfold errP at HM
     go_wp2_with fail
     refine (HM.out _ _ _).mono ?_
     rintro e W5 ⟨rfl, rfl⟩
     clear hz hwr HM HMO
     have HDE := Lh (show D = pzero (12 + at_) (er) from HD0.out)
     have HOX := Lh (HO.out.thn HB5.out)
     go_wp2
     refine leaves_cons (f := 57) (args := #[.pointer (some ⟨gp, 0, none⟩), .pointer (some ⟨ga, 0, none⟩), .pointer (some ⟨ge, 0, none⟩)]) (by simp) (by simp [go_sem]) ?_
     refine (pcatch_err gp ga ge (12 + at_) (er) [] _ _ _ _ _ _ (HK.out _ HOX.out).1 rfl (HK.out _ HOX.out).2.1 (HK.out _ HOX.out).2.2.1 (by have := HG.out; omega) (by have := HG.out; omega) (by have := HG.out; omega)).mono ?_
     rintro e u' w'' ⟨rfl, rfl, s0, s1, s2, hO2⟩
     exact ⟨_, pread_results _ _ _ _ _ _ _ _ rfl rfl rfl s0 s1 s2, .slice none 0 0, by rw [HDE.out]; rfl, by rw [HDE.out]; exact Kd.R_nil _ _ _ _ _, (HK.out _ HOX.out).2.2.2.trans (hO2.below (HK.out _ HOX.out).2.2.2.size (fun k hk => by have := HG.out; omega))⟩
 ·obtain ⟨rfl, _⟩ := hbad hh
  have hde : preadD b wh = pzero 0 (headE b) := by unfold preadD; rw [if_neg hh]
  rw [hde] at HD
  have HD0 := Lh HD.out
  have HO := Lh hO
  clear hok hbad hh hde HD hO HHD HM HMO
  generalize headE b = hE at *
  unfold errP
  have HDE := Lh (show D = pzero (0) (hE) from HD0.out)
  have HOX := Lh (HO.out)
  go_wp2
  refine leaves_cons (f := 57) (args := #[.pointer (some ⟨gp, 0, none⟩), .pointer (some ⟨ga, 0, none⟩), .pointer (some ⟨ge, 0, none⟩)]) (by simp) (by simp [go_sem]) ?_
  refine (pcatch_err gp ga ge (0) (hE) [] _ _ _ _ _ _ (HK.out _ HOX.out).1 rfl (HK.out _ HOX.out).2.1 (HK.out _ HOX.out).2.2.1 (by have := HG.out; omega) (by have := HG.out; omega) (by have := HG.out; omega)).mono ?_
  rintro e u' w'' ⟨rfl, rfl, s0, s1, s2, hO2⟩
  exact ⟨_, pread_results _ _ _ _ _ _ _ _ rfl rfl rfl s0 s1 s2, .slice none 0 0, by rw [HDE.out]; rfl, by rw [HDE.out]; exact Kd.R_nil _ _ _ _ _, (HK.out _ HOX.out).2.2.2.trans (hO2.below (HK.out _ HOX.out).2.2.2.size (fun k hk => by have := HG.out; omega))⟩
theorem pdec_results (tmps : Array Value) (w : World) (g : Nat) (cs : Array Value) (v1 v2 : Value) (t0 : tmps.getD 2 undef = .pointer (some ⟨g, 0, none⟩)) (t1 : tmps.getD 3 undef = v1) (t2 : tmps.getD 4 undef = v2)
  (h0 : w.heap[g]? = some (.cells cs 26 (0, 0))) (hcs : cs.size = 4) :
  (results Tryd.f12 tmps).run Tryd.prog w = .ok (.tuple #[.agg cs, v1, v2]) w := by
 have hi : (Tryd.prog.info? 26).map (·.size) = some cs.size := by rw [hcs]; kernel_rfl
 have hl := run_loadVar_row w g 26 26 cs (0, 0) _ h0 Tryd.underlying26 rfl hi
 rw [Array.getD_eq_getD_getElem?] at t0 t1 t2
 simp [results, Tryd.results12, asAddr, t0, t1, t2, hl]
set_option maxHeartbeats 1000000 in
theorem pdecode_with (w : World) (A : Option Addr) (b : List UInt8) (c : Nat) (hT : Table w) (hb : byte.C w A b.length b) (hc : b.length ≤ c) (hv : b.length ≤ 140737488355328) (HAC : AllOk (b.drop 12)) :
  Calls Tryd.prog 12 #[.slice A b.length c] w (ReadPP w (preadD b true)) := by
 have HR := Lh (fun (W : World) (h : Below w.heap.size w W) => pread_with W A b c true (hT.below h) (Kd.C_below hb h) hc hv (fun _ => HAC))
 clear HAC
 generalize preadD b true = D at *
 clear hb hc hT hv
 unfold ReadPP at HR ⊢
 generalize b.length = n at *
 obtain ⟨g, hg⟩ : ∃ g, w.heap.size = g := ⟨_, rfl⟩
 have HG := Lh hg
 clear hg
 go_enter Tryd.func12, Tryd.ntmps12
 go_upto_region 1 with (fail)
 refine wp_gen (fun W => W.heap[w.heap.size]? = some (.cells #[.int .u16 0, .int .u16 0, .int .u32 0, .slice none 0 0] 26 (0, 0)) ∧ Below w.heap.size w W) ⟨blk_new _ _, below_alloc (Below.refl _ _) _⟩ ?_
 rintro W0 ⟨h0, hB⟩
 rw [HG.out] at h0 ⊢
 go_wp2_with fail
 refine (HR.out W0 hB).mono ?_
 rintro e W1 ⟨v, rfl, hR, hB1⟩
 obtain ⟨A1, c1, rfl, hle1, hC1⟩ := Kd.R_reads hR
 have HR1 := Lh hR
 have HB1 := Lh (below_then hB hB.size hB1)
 have H1 := Lh (blk_below h0 hB1)
 have HGW := Lh (show g < W0.heap.size from blk_lt h0)
 clear h0 hB hR hB1 HR hle1 hC1
 obtain ⟨CS, hCS⟩ : ∃ CS : Array Value, #[.int .u16 D.f, .int .u16 D.t, .int .u32 D.q, .slice A1 D.l.length c1] = CS := ⟨_, rfl⟩
 have HCZ := Lh (show (#[.int .u16 0, .int .u16 0, .int .u32 0, .slice none 0 0] : Array Value).size = CS.size by rw [← hCS]; rfl)
 have HCI := Lh (show (Tryd.prog.info? 26).map (·.size) = some CS.size by rw [← hCS]; kernel_rfl)
 have HC1 := Lh (show CS.all (·.oneCell') = true by rw [← hCS]; simp [Value.oneCell'])
 have HCS := Lh hCS
 rw [hCS]
 clear hCS
 go_wp2_with (refine wpList_store_row rfl 26 _ _ rfl g CS rfl rfl 26 #[.int .u16 0, .int .u16 0, .int .u32 0, .slice none 0 0] H1.out HCI.out HCZ.out HC1.out ?_)
 refine bodyPost_ret (pdec_results _ _ g CS _ _ rfl rfl rfl (setRow_heap _ _ _ _ _ _ H1.out) HCZ.out.symm) rfl ⟨_, by rw [← HCS.out]; first | done | rfl, Kd.R_lower (R_only HR1.out ((Only.refl (· = g) W1).setRow (fun _ => rfl) CS) (fun k hk _ h => by have h1 := HGW.out; have h3 : k = g := h; omega)) (by have h1 := HGW.out; have h2 := HG.out; omega), HB1.out.trans (((Only.refl (· = g) W1).setRow (fun _ => rfl) CS).below HB1.out.size (fun k hk => by have h2 := HG.out; have h3 : k = g := hk; omega))⟩
end Go.Proofs.YtdlamomabonkjaaDoor.Pk
end
section
namespace Go.Proofs.YtdlamomabonkjaaDoor.Pk
open Go.RowKit YtdlamomabonkjaaDoorW.PrintWords YtdlamomabonkjaaDoorW.PrintLast Base PCh ParDec ParEnc Ch Crc CrcMath
theorem chk_size (x : Chk) (L : Lay) : (Tryd.prog.info? 41).map (·.size) = some (CV x L).size := by kernel_rfl
theorem chk_zsize (x : Chk) (L : Lay) : (#[.int .u8 0, .int .u8 0, .int .u32 0, .int .u16 0, .int .u16 0, .int .u32 0, .int .u32 0, .int .u32 0, .int .u16 0, .int .u16 0, .slice none 0 0, .slice none 0 0, .slice none 0 0, .slice none 0 0, .slice none 0 0] : Array Value).size = (CV x L).size := rfl
theorem ralone_calls (k : Int) (w : World) : Calls Tryd.prog 19 #[.int .u8 k] w fun e w' => e = .returned (.bool (aloneK k)) ∧ Drawn0 w w' := by
 refine ropewalkref07_Alone.calls k (aloneK k) w ?_
 unfold ropewalkref07_Alone.f aloneK
 by_cases h1 : k = 1
 ·subst h1; rfl
 by_cases h2 : k = 2
 ·subst h2; rfl
 simp [h1, h2]
end Go.Proofs.YtdlamomabonkjaaDoor.Pk
end
section
namespace Go.Proofs.YtdlamomabonkjaaDoor.Base
open Go.RowKit YtdlamomabonkjaaDoorW.PrintWords YtdlamomabonkjaaDoorW.PrintLast
def updV (vs : Nat → Value) (m : Nat) (v : Value) : Nat → Value := fun j => if j = m then v else vs j
def GvI (C : List Nat) (I : Nat → (Nat → Value) → World → Prop) (L : (Nat → Value) → Sel) (a0 : Act) (b : Nat → Bool) (a : Act) (w : World) : Prop :=
 ∃ (s : Nat) (vs : Nat → Value), s ≤ C.length ∧ (∀ j c, C[j]? = some c → (j < s → b c = true) ∧ (s ≤ j → b c = false)) ∧ a = putSel a0 b (L vs) ∧ I s vs w
def RdL (O B : List Nat) (i : Nat) (L : (Nat → Value) → Sel) (a0 : Act) : List (Tmp × ((Nat → Value) → Value)) → Prop
 | [] => True
 | x :: r => Rd O B i L a0 x.1 x.2 ∧ RdL O B i L a0 r
def Has (a : Act) (vs : Nat → Value) : List (Tmp × ((Nat → Value) → Value)) → Prop
 | [] => True
 | x :: r => a.tmps[x.1]? = some (x.2 vs) ∧ Has a vs r
def ArV (O B : List Nat) (i : Nat) (L : (Nat → Value) → Sel) (a0 : Act) (os : List Operand) (vals : (Nat → Value) → List Value) : Prop :=
 ∀ (b : Nat → Bool) (vs : Nat → Value), (∀ j, (O.contains j && (B.getD i 0).testBit j) = true → b j = true) → (∀ d, (O.contains d && (B.getD d 0).testBit i) = true → b d = false) → os.map (putSel a0 b (L vs)).eval = vals vs
def Wt (ops : Array Oper) (O B : List Nat) (i : Nat) (L : (Nat → Value) → Sel) (a0 : Act) (oi : Oper) (r : Bool) : Prop :=
 ∀ (b : Nat → Bool) (vs : Nat → Value), (∀ j, (O.contains j && (B.getD i 0).testBit j) = true → b j = true) → (∀ d, (O.contains d && (B.getD d 0).testBit i) = true → b d = false) → Region.wanted oi (yielded ops (putSel a0 b (L vs)).tmps) = r
section
variable {P : Program} {ops : Array Oper} {Q : Exit → Act → World → Prop} {B O C : List Nat} {W : World} {I : Nat → (Nat → Value) → World → Prop} {L : (Nat → Value) → Sel} {a0 : Act} {i : Nat} {p : Tmp} {oi : Oper}
theorem has_of : ∀ {ps : List (Tmp × ((Nat → Value) → Value))}, RdL O B i L a0 ps → ∀ (b : Nat → Bool) (vs : Nat → Value), (∀ j, (O.contains j && (B.getD i 0).testBit j) = true → b j = true) → (∀ d, (O.contains d && (B.getD d 0).testBit i) = true → b d = false) → Has (putSel a0 b (L vs)) vs ps
 | [], _, _, _, _, _ => trivial
 | _ :: _, h, b, vs, h1, h2 => ⟨h.1 b vs h1 h2, has_of h.2 b vs h1 h2⟩
theorem arv_n : ArV O B i L a0 [] (fun _ => []) := fun _ _ _ _ => rfl
theorem arv_t {v : (Nat → Value) → Value} {os : List Operand} {vals : (Nat → Value) → List Value} (h0 : Rd O B i L a0 p v) (h : ArV O B i L a0 os vals) : ArV O B i L a0 (.tmp p :: os) (fun vs => v vs :: vals vs) := fun b vs h1 h2 => by rw [List.map_cons, h b vs h1 h2, eval_of (h0 b vs h1 h2)]
theorem wt_none (hg : oi.guard = none) : Wt ops O B i L a0 oi true := fun _ _ _ _ => wanted_none0 hg
theorem wt_on {g : Nat} {u : Bool} {og : Oper} {t : Tmp} (hg : oi.guard = some (g, u)) (ho : ops[g]? = some og) (hd : og.dst = some t) (hr : Rd O B i L a0 t (fun _ => .bool u)) : Wt ops O B i L a0 oi true := fun b vs h1 h2 => wanted_on hg ho hd (hr b vs h1 h2)
theorem wt_off {g : Nat} {u : Bool} {og : Oper} {t : Tmp} (hg : oi.guard = some (g, u)) (ho : ops[g]? = some og) (hd : og.dst = some t) (hr : Rd O B i L a0 t (fun _ => .bool (!u))) : Wt ops O B i L a0 oi false := fun b vs h1 h2 => wanted_off hg ho hd (hr b vs h1 h2)
theorem chain_skip {b : Nat → Bool} {s : Nat} (hC : C.contains i = false) (h1 : ∀ j c, C[j]? = some c → (j < s → b c = true) ∧ (s ≤ j → b c = false)) : ∀ j c, C[j]? = some c → (j < s → up b i c = true) ∧ (s ≤ j → up b i c = false) := by
 intro j c hc
 have hne : c ≠ i := fun e => by
  rw [e] at hc
  have := List.mem_of_getElem? hc
  rw [List.contains_iff_mem.2 this] at hC
  cases hC
 rw [up_ne hne]
 exact h1 j c hc
theorem gv_op (m M : Nat) (ps : List (Tmp × ((Nat → Value) → Value))) (i k : Nat) {t : Tmp} {fv : (Nat → Value) → Value} {oi : Oper} (ho : ops[i]? = some oi) (hd : oi.dst = some t) (hw : Wt ops O B i L a0 oi true) (hL : ∀ vs, (L vs)[k]? = some (i, t, fv vs))
  (hdist : ∀ vs, ((L vs).take k ++ (L vs).drop (k + 1)).all (fun e => !(e.1 == i) && !(e.2.1 == t)) = true) (hC : C.contains i = false) (hmC : Nat.ble m C.length = true) (hmm : (C.take m).all (fun q => O.contains q && (B.getD i 0).testBit q) = true) (hMM : (match C[M]? with | some c => O.contains c && (B.getD c 0).testBit i | none => true) = true) (hr : RdL O B i L a0 ps)
  (hrun : ∀ (a : Act) (w : World) (s : Nat) (vs : Nat → Value), m ≤ s → s ≤ M → I s vs w → Has a vs ps → (execOp a.eval oi).run P w = .ok (.value (fv vs)) w) : StepAt P ops Q B O (GvI C I L a0) i := by
 rintro b a w ⟨s, vs, h0, h1, ha, hI⟩ hb hon hoff
 have hms : m ≤ s := by
  rcases Nat.lt_or_ge s m with h | h
  ·rcases Nat.lt_or_ge s C.length with h2 | h2
   ·have hc := List.getElem?_eq_getElem h2
    have e2 := (h1 s _ hc).2 (Nat.le_refl _)
    have e3 := List.all_eq_true.1 hmm C[s] (List.mem_take_iff_getElem.2 ⟨s, by omega, rfl⟩)
    rw [hon _ e3] at e2
    cases e2
   ·have := Nat.le_of_ble_eq_true hmC
    omega
  ·exact h
 have hsM : s ≤ M := by
  cases hc : C[M]? with
  | none =>
   have := List.getElem?_eq_none_iff.1 hc
   omega
  | some c =>
   rw [hc] at hMM
   rcases Nat.lt_or_ge M s with h | h
   ·have e2 := (h1 M c hc).1 h
    rw [hoff c hMM] at e2
    cases e2
   ·exact h
 refine ⟨oi, ho, fun K hK => ?_⟩
 rw [hd]
 refine value_ (w1 := w) (v := fv vs) (by rw [ha]; exact hw b vs hon hoff) hd (hrun a w s vs hms hsM hI (by rw [ha]; exact has_of hr b vs hon hoff)) (hK.out _ _ ⟨s, vs, h0, chain_skip hC h1, ?_, hI⟩)
 rw [ha]
 exact putSel_upk k hb (hL vs) (set_same (hL vs)) (hdist vs)
theorem gv_off (i k : Nat) {t : Tmp} {oi : Oper} (ho : ops[i]? = some oi) (hd : oi.dst = some t) (hw : Wt ops O B i L a0 oi false) (hL : ∀ vs, (L vs)[k]? = some (i, t, undef))
  (hdist : ∀ vs, ((L vs).take k ++ (L vs).drop (k + 1)).all (fun e => !(e.1 == i) && !(e.2.1 == t)) = true) (hC : C.contains i = false) : StepAt P ops Q B O (GvI C I L a0) i := by
 rintro b a w ⟨s, vs, h0, h1, ha, hI⟩ hb hon hoff
 refine ⟨oi, ho, fun K hK => ?_⟩
 rw [hd, if_neg (by rw [ha, hw b vs hon hoff]; exact Bool.false_ne_true)]
 refine hK.out _ _ ⟨s, vs, h0, chain_skip hC h1, ?_, hI⟩
 rw [ha]
 exact putSel_upk k hb (hL vs) (set_same (hL vs)) (hdist vs)
theorem gv_step (i k m : Nat) {t : Tmp} (hm : C[m]? = some i) (hL : ∀ vs, (L vs)[k]? = some (i, t, vs (m + 1))) (hset : ∀ vs v', (L vs).set k (i, t, v') = L (updV vs (m + 1) v'))
  (hdist : ∀ vs, ((L vs).take k ++ (L vs).drop (k + 1)).all (fun e => !(e.1 == i) && !(e.2.1 == t)) = true) (hnd : (C.take m ++ C.drop (m + 1)).contains i = false) (hprev : (C.take m).all (fun q => O.contains q && (B.getD i 0).testBit q) = true)
  {b : Nat → Bool} {a : Act} {w : World} (hI : GvI C I L a0 b a w) (hb : b i = false) (hon : ∀ j, (O.contains j && (B.getD i 0).testBit j) = true → b j = true) :
  ∃ vs, a = putSel a0 b (L vs) ∧ I m vs w ∧ ∀ v' w', I (m + 1) (updV vs (m + 1) v') w' → GvI C I L a0 (up b i) (a.put (some t) v') w' := by
 obtain ⟨s, vs, h0, h1, ha, hI⟩ := hI
 have hs : s = m := by
  have e1 := h1 m i hm
  rcases Nat.lt_trichotomy s m with h | h | h
  ·have hlt : s < C.length := by
    have := (List.getElem?_eq_some_iff.1 hm).1
    omega
   have hc := List.getElem?_eq_getElem hlt
   have e2 := (h1 s _ hc).2 (Nat.le_refl _)
   have e3 := List.all_eq_true.1 hprev C[s] (List.mem_take_iff_getElem.2 ⟨s, by omega, rfl⟩)
   rw [hon _ e3] at e2
   cases e2
  ·exact h
  ·rw [e1.1 h] at hb
   cases hb
 subst hs
 refine ⟨vs, ha, hI, fun v' w' hI' => ⟨s + 1, updV vs (s + 1) v', ?_, fun j c hc => ?_, ?_, hI'⟩⟩
 ·have := (List.getElem?_eq_some_iff.1 hm).1
  omega
 ·by_cases hj : j = s
  ·subst hj
   rw [hm] at hc
   injection hc with hc
   subst hc
   exact ⟨fun _ => up_self _ _, fun h => absurd h (by omega)⟩
  ·have hne : c ≠ i := fun e => by
    subst e
    have hmem : c ∈ C.take s ++ C.drop (s + 1) := by
     rw [List.mem_append]
     have hl := (List.getElem?_eq_some_iff.1 hc)
     obtain ⟨hl1, hl2⟩ := hl
     by_cases h : j < s
     ·exact Or.inl (List.mem_take_iff_getElem.2 ⟨j, by omega, hl2⟩)
     ·refine Or.inr (List.mem_drop_iff_getElem.2 ⟨j - (s + 1), by omega, ?_⟩)
      rw [← hl2]
      congr 1
      omega
    rw [List.contains_iff_mem.2 hmem] at hnd
    cases hnd
   rw [up_ne hne]
   have := h1 j c hc
   exact ⟨fun h => this.1 (by omega), fun h => this.2 (by omega)⟩
 ·rw [ha]
  exact putSel_upk k hb (hL vs) (hset vs v') (hdist vs)
theorem gv_put (i m : Nat) (hm : C[m]? = some i) (hL : ∀ vs, (L vs).all (fun e => !(e.1 == i)) = true) (hnd : (C.take m ++ C.drop (m + 1)).contains i = false) (hprev : (C.take m).all (fun q => O.contains q && (B.getD i 0).testBit q) = true)
  {b : Nat → Bool} {a : Act} {w : World} (hI : GvI C I L a0 b a w) (hb : b i = false) (hon : ∀ j, (O.contains j && (B.getD i 0).testBit j) = true → b j = true) :
  ∃ vs, a = putSel a0 b (L vs) ∧ I m vs w ∧ ∀ w', I (m + 1) vs w' → GvI C I L a0 (up b i) a w' := by
 obtain ⟨s, vs, h0, h1, ha, hI⟩ := hI
 have hs : s = m := by
  have e1 := h1 m i hm
  rcases Nat.lt_trichotomy s m with h | h | h
  ·have hlt : s < C.length := by
    have := (List.getElem?_eq_some_iff.1 hm).1
    omega
   have hc := List.getElem?_eq_getElem hlt
   have e2 := (h1 s _ hc).2 (Nat.le_refl _)
   have e3 := List.all_eq_true.1 hprev C[s] (List.mem_take_iff_getElem.2 ⟨s, by omega, rfl⟩)
   rw [hon _ e3] at e2
   cases e2
  ·exact h
  ·rw [e1.1 h] at hb
   cases hb
 subst hs
 refine ⟨vs, ha, hI, fun w' hI' => ⟨s + 1, vs, ?_, fun j c hc => ?_, ?_, hI'⟩⟩
 ·have := (List.getElem?_eq_some_iff.1 hm).1
  omega
 ·by_cases hj : j = s
  ·subst hj
   rw [hm] at hc
   injection hc with hc
   subst hc
   exact ⟨fun _ => up_self _ _, fun h => absurd h (by omega)⟩
  ·have hne : c ≠ i := fun e => by
    subst e
    have hmem : c ∈ C.take s ++ C.drop (s + 1) := by
     rw [List.mem_append]
     have hl := (List.getElem?_eq_some_iff.1 hc)
     obtain ⟨hl1, hl2⟩ := hl
     by_cases h : j < s
     ·exact Or.inl (List.mem_take_iff_getElem.2 ⟨j, by omega, hl2⟩)
     ·refine Or.inr (List.mem_drop_iff_getElem.2 ⟨j - (s + 1), by omega, ?_⟩)
      rw [← hl2]
      congr 1
      omega
    rw [List.contains_iff_mem.2 hmem] at hnd
    cases hnd
   rw [up_ne hne]
   have := h1 j c hc
   exact ⟨fun h => this.1 (by omega), fun h => this.2 (by omega)⟩
 ·rw [ha]
  exact (putSel_skip (hL vs)).symm
theorem gv_call (i k m : Nat) {t : Tmp} {vals : (Nat → Value) → List Value} {oi : Oper} {f : FuncId} {fn : Func} {ax : Array Operand} {ts : Array TypeId} (ho : ops[i]? = some oi) (hd : oi.dst = some t) (hw : Wt ops O B i L a0 oi true) (hm : C[m]? = some i) (hL : ∀ vs, (L vs)[k]? = some (i, t, vs (m + 1))) (hset : ∀ vs v', (L vs).set k (i, t, v') = L (updV vs (m + 1) v'))
  (hdist : ∀ vs, ((L vs).take k ++ (L vs).drop (k + 1)).all (fun e => !(e.1 == i) && !(e.2.1 == t)) = true) (hnd : (C.take m ++ C.drop (m + 1)).contains i = false) (hprev : (C.take m).all (fun q => O.contains q && (B.getD i 0).testBit q) = true)
  (hf : P.funcs[f]? = some fn) (hname : (fn.name == "runtime.NumGoroutine") = false) (hbd : fn.body.isSome = true) (hop : oi.op = .call { callee := .value (.func f), args := ax, argTypes := ts })
  (har : ArV O B i L a0 ax.toList vals) (hcall : ∀ vs w, I m vs w → Calls P f (vals vs).toArray w fun e w' => ∃ v', e = .returned v' ∧ I (m + 1) (updV vs (m + 1) v') w') : StepAt P ops Q B O (GvI C I L a0) i := by
 rintro b a w hG hb hon hoff
 obtain ⟨vs, ha, hI, hK2⟩ := gv_step i k m hm hL hset hdist hnd hprev hG hb hon
 refine ⟨oi, ho, fun K hK => ?_⟩
 rw [hd]
 refine goes_ hf hname hbd (vals vs).toArray (by rw [ha]; exact hw b vs hon hoff) hd hop ?_ ?_
 ·apply Array.toList_inj.1
  rw [Array.toList_map, ha, har b vs hon hoff]
 ·refine (hcall vs w hI).mono ?_
  rintro e w' ⟨v', rfl, hI'⟩
  exact ⟨v', rfl, hK.out _ _ (hK2 v' w' hI')⟩
theorem gv_gen (ps : List (Tmp × ((Nat → Value) → Value))) (i k m : Nat) {t : Tmp} {oi : Oper} (ho : ops[i]? = some oi) (hd : oi.dst = some t) (hw : Wt ops O B i L a0 oi true) (hm : C[m]? = some i) (hL : ∀ vs, (L vs)[k]? = some (i, t, vs (m + 1))) (hset : ∀ vs v', (L vs).set k (i, t, v') = L (updV vs (m + 1) v'))
  (hdist : ∀ vs, ((L vs).take k ++ (L vs).drop (k + 1)).all (fun e => !(e.1 == i) && !(e.2.1 == t)) = true) (hnd : (C.take m ++ C.drop (m + 1)).contains i = false) (hprev : (C.take m).all (fun q => O.contains q && (B.getD i 0).testBit q) = true) (hr : RdL O B i L a0 ps)
  (hstep : ∀ (a : Act) (w : World) (K : Act → World → Prop) (vs : Nat → Value), I m vs w → Has a vs ps → Region.wanted oi (yielded ops a.tmps) = true → (∀ v' w', I (m + 1) (updV vs (m + 1) v') w' → K (a.put (some t) v') w') → if Region.wanted oi (yielded ops a.tmps) = true then Oper.wp P oi a w K Q else K (a.put (some t) undef) w) : StepAt P ops Q B O (GvI C I L a0) i := by
 rintro b a w hG hb hon hoff
 obtain ⟨vs, ha, hI, hK2⟩ := gv_step i k m hm hL hset hdist hnd hprev hG hb hon
 refine ⟨oi, ho, fun K hK => ?_⟩
 rw [hd]
 exact hstep a w K vs hI (by rw [ha]; exact has_of hr b vs hon hoff) (by rw [ha]; exact hw b vs hon hoff) (fun v' w' h => hK.out _ _ (hK2 v' w' h))
theorem gv_store (ps : List (Tmp × ((Nat → Value) → Value))) (i m : Nat) {f : (Nat → Value) → World → World} {oi : Oper} (ho : ops[i]? = some oi) (hd : oi.dst = none) (hw : Wt ops O B i L a0 oi true) (hm : C[m]? = some i) (hL : ∀ vs, (L vs).all (fun e => !(e.1 == i)) = true)
  (hnd : (C.take m ++ C.drop (m + 1)).contains i = false) (hprev : (C.take m).all (fun q => O.contains q && (B.getD i 0).testBit q) = true) (hr : RdL O B i L a0 ps)
  (hrun : ∀ (a : Act) (w : World) (vs : Nat → Value), I m vs w → Has a vs ps → (execOp a.eval oi).run P w = .ok .skip (f vs w)) (hI : ∀ vs w, I m vs w → I (m + 1) vs (f vs w)) : StepAt P ops Q B O (GvI C I L a0) i := by
 rintro b a w hG hb hon hoff
 obtain ⟨vs, ha, hIm, hK2⟩ := gv_put i m hm hL hnd hprev hG hb hon
 refine ⟨oi, ho, fun K hK => ?_⟩
 rw [hd]
 exact skip_ (w1 := f vs w) (by rw [ha]; exact hw b vs hon hoff) hd (hrun a w vs hIm (by rw [ha]; exact has_of hr b vs hon hoff)) (hK.out _ _ (hK2 _ (hI vs w hIm)))
theorem grow_v {id : Nat} (O C : List Nat) (I : Nat → (Nat → Value) → World → Prop) (L : (Nat → Value) → Sel) {n : Nat} {l : Array Bool} {Tb : Bool × List (List Nat × List Nat)} (hm : P.follows .mixedOrders = true) (hn : ops.size = n) (hl : Array.replicate n false = l) (hT : rtab .any ops = Tb) (hw : waitsOk Tb.2 B = true) (hk : baseOk Tb.2 O = true) (hl2 : (lof Tb.2.length O (fun _ => false) == l.toList && O.length == n) = true)
  (hLO : ∀ vs, (L vs).all (fun e => O.contains e.1) = true) (hCO : (C.all fun e => O.contains e) = true) (vs0 : Nat → Value) (h0 : I 0 vs0 W.drew) (hs : ∀ i ∈ O, StepAt P ops Q B O (GvI C I L a0) i)
  (hend : ∀ (vs : Nat → Value) (w : World), I C.length vs w → Q .normal (putSel a0 (fun _ => true) (L vs)) w) : Code.wp P (Code.region id ops true) Q a0 W := by
 refine start_ (S := fun _ => True) (ds := []) l hm hn hl trivial (fun _ => ?_)
 refine inv_at O (fun a0 => GvI C I L a0) hT hw hk hl2 ⟨0, vs0, Nat.zero_le _, fun j c _ => ⟨fun h => absurd h (Nat.not_lt_zero _), fun _ => rfl⟩, ?_, h0⟩ hs ?_
 ·generalize L vs0 = LL
  clear hLO hs hend
  induction LL with
  | nil => rfl
  | cons e r ih => unfold putSel; exact ih
 ·rintro b a w hall ⟨s, vs, hs1, h1, ha, hI⟩
  have e1 : putSel a0 b (L vs) = putSel a0 (fun _ => true) (L vs) := putSel_congr (fun e he => hall _ (List.all_eq_true.1 (hLO vs) e he))
  have e2 : s = C.length := by
   rcases Nat.lt_or_ge s C.length with h | h
   ·have hc := List.getElem?_eq_getElem h
    have e2 := (h1 s _ hc).2 (Nat.le_refl _)
    rw [hall _ (List.all_eq_true.1 hCO _ (List.getElem_mem h))] at e2
    cases e2
   ·omega
  rw [ha, e1]
  rw [e2] at hI
  exact hend vs w hI
end
end Go.Proofs.YtdlamomabonkjaaDoor.Base
end
section
namespace Go.Proofs.YtdlamomabonkjaaDoor.Pk
open Go.RowKit YtdlamomabonkjaaDoorW.PrintWords YtdlamomabonkjaaDoorW.PrintLast Base PCh ParDec Ch
abbrev CL := Chk × Lay
theorem CV_cell (x : Chk) (L : Lay) : ∀ u ∈ (CV x L).toList, u.oneCell' = true := by
 have h := CV_one x L
 rw [← Array.all_toList] at h
 exact List.all_eq_true.1 h
def cvK : Kd CL where
 sz := 15
 E := []
 K := fun _ p cs => cs = (CV p.1 p.2).toList
 M := fun _ _ _ p cs => cs = (CV p.1 p.2).toList
 K_len := fun h => by rw [h]; rfl
 K_one := fun h u hu => by
  rw [h] at hu
  exact CV_cell _ _ u hu
 K_below := fun _ h => h
 K_of_M := fun h => h
 M_mono := fun _ h => h
 M_bound := fun h => h
 M_move := fun _ h => h
 M_lower := fun _ h => h
def fsts (ps : List CL) : List Chk := ps.map (·.1)
theorem fsts_len (ps : List CL) : (fsts ps).length = ps.length := List.length_map ..
theorem cv_chk {w : World} {A : Option Addr} {n : Nat} {ps : List CL} (h : cvK.C w A n ps) (hp : ∀ p ∈ ps, CR w p.1 p.2) : Kd.C k41 w A n (fsts ps) := by
 obtain ⟨h1, h2, h3⟩ := h
 refine ⟨by rw [fsts_len]; exact h1, h2, fun hn => ?_⟩
 obtain ⟨ad, e, hc⟩ := h3 hn
 refine ⟨ad, e, fun j x hj => ?_⟩
 unfold fsts at hj
 rw [List.getElem?_map] at hj
 obtain ⟨p, hp1, rfl⟩ := Option.map_eq_some_iff.1 hj
 obtain ⟨cs, hl, hK, hcell⟩ := hc j p hp1
 have hK' : cs = (CV p.1 p.2).toList := hK
 exact ⟨cs, hl, by rw [hK']; exact (hp p (List.mem_of_getElem? hp1)).K, hcell⟩
abbrev RW := (Option Nat × Nat) × List CL
def encR (z : RW) : Value := .slice (z.1.1.map fun g => ⟨g, 0, none⟩) z.2.length z.1.2
def rawR : Kd RW := Kd.scalar encR (fun _ => rfl)
theorem encR_own (z : RW) : (encR z).ownBlock = z.1.1 := by
 obtain ⟨⟨g, c⟩, ps⟩ := z
 cases g <;> rfl
def OwnZ (W : World) (B : Nat) (z : RW) : Prop := cvK.R 41 W B (fun _ => True) (encR z) z.2
theorem OwnZ.C {W : World} {B : Nat} {z : RW} (h : OwnZ W B z) : cvK.C W (z.1.1.map fun g => ⟨g, 0, none⟩) z.2.length z.2 ∧ z.2.length ≤ z.1.2 := by
 obtain ⟨A, c, he, hle, hC⟩ := Kd.R_reads h
 unfold encR at he
 injection he with e1 e2 e3
 rw [e1]
 exact ⟨hC, by omega⟩
theorem OwnZ.below {W W' : World} {B : Nat} {z : RW} (h : OwnZ W B z) (hb : Below W.heap.size W W') : OwnZ W' B z := Kd.R_below h hb
theorem R_grown_far {α : Type} {d : Kd α} {e base : Nat} {ok : Nat → Prop} {v : Value} {xs : List α} {w w1 : World} {row : Option Nat} (h : d.R e w base ok v xs) (hE : d.E = []) (hg : w.grownBy w1 row) (hne : ∀ g, v.ownBlock = some g → row ≠ some g) : d.R e w1 base ok v xs := by
 refine Kd.R_mono (Kd.R_grown (ok := fun k => ok k ∧ row ≠ some k) ?_ hg (fun k hk e2 => hk.2 e2.symm)) (fun k hk => hk.1)
 obtain ⟨h0, h1⟩ := h
 refine ⟨fun k hk => ⟨h0 k hk, hne k hk⟩, ?_⟩
 obtain ⟨inner, ho, hr⟩ := h1
 refine ⟨inner, ho, hr.imp_ fun p c hp => ?_⟩
 have hb := d.M_bound hp
 exact d.M_mono (fun k hk => by
  obtain ⟨_, _, _, q, hq, _⟩ := hk
  rw [hE] at hq
  cases hq) hb
theorem R_apart2 {α β : Type} {d : Kd α} {d' : Kd β} {e e' base base' : Nat} {ok ok' : Nat → Prop} {v v' : Value} {xs : List α} {ys : List β} {w w1 : World} (h : d.R e w base ok v xs) (h' : d'.R e' w base' ok' v' ys) (hE : d.E = []) (ht : e ≠ e') (hg : w.grownBy w1 v'.ownBlock) : d.R e w1 base ok v xs := by
 refine R_grown_far h hE hg fun g hv hv' => ?_
 obtain ⟨inner, ho⟩ := Kd.R_own h
 obtain ⟨inner', ho'⟩ := Kd.R_own h'
 obtain ⟨c1, h1⟩ := own_typed ho g hv
 obtain ⟨c2, h2⟩ := own_typed ho' g hv'
 rw [h1] at h2
 injection h2 with h2
 injection h2 with _ h2
 exact ht h2
theorem R_store_apart {α β : Type} {d : Kd α} {d' : Kd β} {e e' base base' : Nat} {ok ok' : Nat → Prop} {v v' : Value} {xs : List α} {ys : List β} {w : World} (h : d.R e w base ok v xs) (h' : d'.R e' w base' ok' v' ys) (hE : d.E = []) (ht : e ≠ e') {g : Nat} (hg : v'.ownBlock = some g) (i : Nat) (u : Value) : d.R e (w.setCell ⟨g, i, none⟩ u) base ok v xs := by
 obtain ⟨inner', ho'⟩ := Kd.R_own h'
 obtain ⟨c2, h2⟩ := own_typed ho' g hg
 refine Kd.R_set h h2 (fun q hq => ?_) i u
 rw [hE] at hq
 rcases List.mem_cons.1 hq with rfl | hq
 ·exact ht
 ·cases hq
theorem cv_one (W : World) (x : Chk) (L : Lay) : cvK.C (W.alloc (.cells (CV x L) 41)) (some ⟨W.heap.size, 0, none⟩) 1 [(x, L)] := by
 refine ⟨rfl, by decide, fun _ => ⟨_, rfl, fun j p hj => ?_⟩⟩
 match j, hj with
 | 0, hj =>
  obtain rfl : (x, L) = p := by simpa using hj
  refine ⟨(CV x L).toList, rfl, rfl, fun i u hu => ?_⟩
  rw [Nat.zero_mul, Nat.zero_add, add_plain]
  rw [cell_of_row _ _ _ _ _ _ (heap_alloc_new W _)]
  simpa using hu
 | j + 1, hj => simp at hj
theorem info_sl : (Tryd.prog.info? 24).map (fun i => (i.zero, i.size, i.bytes)) = some (some (.slice none 0 0), rawR.sz, 24) := by kernel_rfl
theorem info_cv : (Tryd.prog.info? 41).map (fun i => (i.zero, i.size, i.bytes)) = some (some (.agg zerV), cvK.sz, 152) := by kernel_rfl
theorem raw_rows {w : World} {A : Option Addr} {n : Nat} {zs : List RW} (h : rawR.C w A n zs) (hz : ∀ z ∈ zs, Kd.C k41 w (z.1.1.map fun g => ⟨g, 0, none⟩) z.2.length (fsts z.2) ∧ z.2.length ≤ z.1.2) : (Kd.slice 41 k41).C w A n (zs.map fun z => fsts z.2) := by
 obtain ⟨h1, h2, h3⟩ := h
 refine ⟨by rw [List.length_map]; exact h1, h2, fun hn => ?_⟩
 obtain ⟨ad, e, hc⟩ := h3 hn
 refine ⟨ad, e, fun j x hj => ?_⟩
 rw [List.getElem?_map] at hj
 obtain ⟨z, hz1, rfl⟩ := Option.map_eq_some_iff.1 hj
 obtain ⟨cs, hl, hK, hcell⟩ := hc j z hz1
 obtain ⟨hC, hle⟩ := hz z (List.mem_of_getElem? hz1)
 have hK' : cs = [encR z] := hK
 refine ⟨cs, hl, ⟨_, z.1.2, ?_, by rw [fsts_len]; exact hle, by rw [fsts_len]; exact hC⟩, hcell⟩
 rw [hK', fsts_len]
 rfl
end Go.Proofs.YtdlamomabonkjaaDoor.Pk
end
section
namespace Go.Proofs.YtdlamomabonkjaaDoor.Pk
open Go.RowKit YtdlamomabonkjaaDoorW.PrintWords YtdlamomabonkjaaDoorW.PrintLast Base PCh ParDec Ch
theorem cv_empty (W : World) : cvK.R 41 (W.alloc (.cells #[] 41)) W.heap.size (fun _ => True) (.slice (some ⟨W.heap.size, 0, none⟩) 0 0) [] :=
 ⟨fun _ _ => trivial, OwnRow.lit (inner := []) W W.heap.size (Reps.none _ _) (Nat.le_refl _) (by simp)⟩
theorem clonec_calls (w : World) (g n cap : Nat) (ps : List CL) (hC : cvK.C w (some ⟨g, 0, none⟩) n ps) (hn : n * 152 ≤ 140737488355328) :
  Calls Tryd.prog 48 #[.slice (some ⟨g, 0, none⟩) n cap] w fun e w' => ∃ v, e = .returned v ∧ cvK.R 41 w' w.heap.size (fun _ => True) v ps ∧ Below w.heap.size w w' := by
 have HC := Lh hC
 clear hC
 have he := fun (W : World) => Lib.run_eql_slice_nil (P := Tryd.prog) W 24 41 (some ⟨g, 0, none⟩) n cap 0 0 Tryd.underlying24
 go_enter Tryd.func48, Tryd.ntmps48
 go_wp2_with (at_builtin; go_must (refine Kd.R_append_rows cvK (Rr := cvK.K w) (w0 := w) (W := w.alloc (.cells #[] 41)) w.heap.size rfl _ _ 24 41 (.agg zerV) 152 rfl Tryd.underlying24 info_cv rfl (by decide) (by decide) (.slice (some ⟨w.heap.size, 0, none⟩) 0 0) [] ps (some ⟨g, 0, none⟩) n cap (fun _ => True) (fun _ => False) rfl rfl (cv_empty w) (Kd.C_alloc HC.out _) (fun _ _ h => h) (fun _ h => h.elim) (fun _ _ => trivial) ((Below.refl _ _).alloc (Nat.le_refl _) _) (by simp) (by simp; omega) ?_); (intro v1 w1 hR1 hB1 hG1 _; rw [List.nil_append] at hR1; have HR1 := Lh hR1; have HB1 := Lh hB1; clear hR1 hB1 hG1))
 go_ret
 exact ⟨_, rfl, HR1.out, HB1.out⟩
end Go.Proofs.YtdlamomabonkjaaDoor.Pk
end
section
namespace Go.Proofs.YtdlamomabonkjaaDoor.Pk
open Go.RowKit YtdlamomabonkjaaDoorW.PrintWords YtdlamomabonkjaaDoorW.PrintLast Base PCh ParDec Ch
structure BSt (w W : World) (zs : List RW) (v : Value) : Prop where
 out : rawR.R 24 W w.heap.size (fun _ => True) v zs
 own : ∀ z ∈ zs, OwnZ W w.heap.size z
 cr : ∀ z ∈ zs, ∀ p ∈ z.2, CR w p.1 p.2
 bl : Below w.heap.size w W
 dist : ∀ ds r, zs = ds ++ [r] → ∀ z ∈ ds, ∀ g, z.1.1 = some g → r.1.1 ≠ some g
theorem BSt.nil (w W : World) (h : Below w.heap.size w W) : BSt w W [] (.slice none 0 0) := ⟨Kd.R_nil _ _ _ _ _, (fun _ h => by cases h), (fun _ h => by cases h), h, fun ds r e => by
 have := congrArg List.length e
 simp at this⟩
theorem BSt.below {w W W' : World} {zs : List RW} {v : Value} (h : BSt w W zs v) (hb : Below W.heap.size W W') : BSt w W' zs v :=
 ⟨Kd.R_below h.out hb, fun z hz => (h.own z hz).below hb, h.cr, below_then h.bl h.bl.size hb, h.dist⟩
def nilZ : RW := ((none, 0), [])
theorem BSt.opened {w W w1 : World} {zs : List RW} {v v1 : Value} (h : BSt w W zs v) (h1 : rawR.R 24 w1 w.heap.size (fun _ => True) v1 (zs ++ [nilZ])) (hg : W.grownBy w1 v.ownBlock) (hb : Below w.heap.size w w1) : BSt w w1 (zs ++ [nilZ]) v1 := by
 refine ⟨h1, fun z hz => ?_, fun z hz p hp => ?_, hb, fun ds r e => ?_⟩
 ·rcases List.mem_append.1 hz with hz | hz
  ·exact R_apart2 (h.own z hz) h.out rfl (by decide) hg
  ·rw [List.mem_singleton.1 hz]
   exact Kd.R_nil _ _ _ _ _
 ·rcases List.mem_append.1 hz with hz | hz
  ·exact h.cr z hz p hp
  ·rw [List.mem_singleton.1 hz] at hp
   cases hp
 ·obtain ⟨_, hr⟩ := List.append_inj' e rfl
  have : nilZ = r := (List.cons.inj hr).1
  subst this
  intro z _ g _ e2
  cases e2
structure AppP (w W : World) (v : Value) (ds : List RW) (r : RW) (x : Chk) (L : Lay) (v2 : Value) : Prop where
 out : rawR.R 24 W w.heap.size (fun _ => True) v (ds ++ [r])
 own : ∀ z ∈ ds, OwnZ W w.heap.size z
 last : cvK.R 41 W w.heap.size (fun _ => True) v2 (r.2 ++ [(x, L)])
 cr : ∀ z ∈ ds ++ [r], ∀ p ∈ z.2, CR w p.1 p.2
 crx : CR w x L
 bl : Below w.heap.size w W
 dist : ∀ z ∈ ds, ∀ g, z.1.1 = some g → v2.ownBlock ≠ some g
theorem BSt.app {w W w1 : World} {ds : List RW} {r : RW} {v v2 : Value} {x : Chk} {L : Lay} (h : BSt w W (ds ++ [r]) v) (hx : CR w x L) (h2 : cvK.R 41 w1 w.heap.size (fun _ => True) v2 (r.2 ++ [(x, L)])) (hg : W.grownBy w1 (encR r).ownBlock) (hat : v2.ownBlock = (encR r).ownBlock ∨ ∃ b, v2.ownBlock = some b ∧ W.heap.size ≤ b) (hb : Below w.heap.size w w1) : AppP w w1 v ds r x L v2 := by
 have hr : r ∈ ds ++ [r] := List.mem_append_right _ (List.mem_singleton_self _)
 have hd : ∀ z ∈ ds, z ∈ ds ++ [r] := fun z hz => List.mem_append_left _ hz
 refine ⟨R_apart2 h.out (h.own r hr) rfl (by decide) hg, fun z hz => ?_, h2, h.cr, hx, hb, fun z hz g hzg => ?_⟩
 ·refine R_grown_far (h.own z (hd z hz)) rfl hg fun g hzg => ?_
  rw [encR_own] at hzg ⊢
  exact h.dist ds r rfl z hz g hzg
 ·rcases hat with hat | ⟨b, hat, hbb⟩
  ·rw [hat, encR_own]
   exact h.dist ds r rfl z hz g hzg
  ·rw [hat]
   intro e
   injection e with e
   obtain ⟨inner, ho⟩ := Kd.R_own (h.own z (hd z hz))
   have := own_lt ho g (by rw [encR_own]; exact hzg)
   omega
theorem set_last {α : Type} (ds : List α) (r r' : α) : (ds ++ [r]).set ds.length r' = ds ++ [r'] := by
 rw [List.set_append_right _ _ (Nat.le_refl _), Nat.sub_self]
 rfl
theorem AppP.store {w W : World} {v v2 : Value} {ds : List RW} {r : RW} {x : Chk} {L : Lay} (h : AppP w W v ds r x L v2) {go n cap : Nat} (hv : v = .slice (some ⟨go, 0, none⟩) n cap) : ∃ r' : RW, r'.2 = r.2 ++ [(x, L)] ∧ encR r' = v2 ∧ BSt w (W.setCell ⟨go, ds.length, none⟩ v2) (ds ++ [r']) v := by
 obtain ⟨g, cp, hv2, hgb, _⟩ := (Kd.R_own h.last).elim fun _ h => h.form (by rw [List.length_append]; simp)
 have he : encR ((some g, cp), r.2 ++ [(x, L)]) = v2 := by rw [hv2]; rfl
 have hvo : v.ownBlock = some go := by rw [hv]; rfl
 refine ⟨((some g, cp), r.2 ++ [(x, L)]), rfl, he, ?_⟩
 have ho := h.out
 rw [hv] at ho ⊢
 have h1 := Kd.R_putn ho (ds.length : Int) ((some g, cp), r.2 ++ [(x, L)])
 rw [Int.toNat_natCast, set_last] at h1
 have h1' : rawR.R 24 (W.setCell ⟨go, ds.length, none⟩ v2) w.heap.size (fun _ => True) (.slice (some ⟨go, 0, none⟩) n cap) (ds ++ [((some g, cp), r.2 ++ [(x, L)])]) := by
  rw [← he]
  exact h1
 refine ⟨h1', fun z hz => ?_, fun z hz p hp => ?_, h.bl.setCell (p := ⟨go, ds.length, none⟩) (Kd.R_base ho go rfl) v2, fun ds' r' e => ?_⟩
 ·rcases List.mem_append.1 hz with hz | hz
  ·exact R_store_apart (h.own z hz) ho rfl (by decide) rfl _ _
  ·rw [List.mem_singleton.1 hz]
   have := R_store_apart h.last ho rfl (by decide) rfl ds.length v2
   rw [← he] at this ⊢
   exact this
 ·rcases List.mem_append.1 hz with hz | hz
  ·exact h.cr z (List.mem_append_left _ hz) p hp
  ·rw [List.mem_singleton.1 hz] at hp
   rcases List.mem_append.1 hp with hp | hp
   ·exact h.cr r (List.mem_append_right _ (List.mem_singleton_self _)) p hp
   ·rw [List.mem_singleton.1 hp]
    exact h.crx
 ·obtain ⟨e1, e2⟩ := List.append_inj' e rfl
  have e3 := (List.cons.inj e2).1
  subst e1 e3
  intro z hz g' hzg e4
  exact h.dist z hz g' hzg (by rw [← he, encR_own]; exact e4)
theorem BSt.last {w W : World} {ds : List RW} {r : RW} {v : Value} (h : BSt w W (ds ++ [r]) v) : ∃ go cap, v = .slice (some ⟨go, 0, none⟩) (ds.length + 1) cap ∧ w.heap.size ≤ go := by
 obtain ⟨g, cp, hv, hgb, _⟩ := (Kd.R_own h.out).elim fun _ h => h.form (by rw [List.length_append]; simp)
 exact ⟨g, cp, by rw [hv, List.length_append]; rfl, hgb⟩
theorem BSt.cell {w W : World} {ds : List RW} {r : RW} {go n cap : Nat} (h : BSt w W (ds ++ [r]) (.slice (some ⟨go, 0, none⟩) n cap)) : W.cell? ⟨go, ds.length, none⟩ = some (encR r) ∧ W.frozen? ⟨go, ds.length, none⟩ = false := by
 have hn := (Kd.R_reads' h.out).1
 rw [List.length_append] at hn
 have h1 := Kd.R_celln nilZ h.out (ds.length : Int) (by omega) (by simp at hn; omega)
 rw [Int.toNat_natCast] at h1
 have h2 : rdOf nilZ (ds ++ [r]) (ds.length : Int) = r := by
  unfold rdOf
  rw [Int.toNat_natCast, getD_app_len]
 rw [h2] at h1
 exact h1
theorem BSt.read {w W : World} {zs : List RW} {v : Value} (h : BSt w W zs v) : ∃ A c, v = .slice A zs.length c ∧ zs.length ≤ c ∧ (Kd.slice 41 k41).C W A zs.length (zs.map fun z => fsts z.2) := by
 obtain ⟨A, c, hv, hle, hC⟩ := Kd.R_reads h.out
 refine ⟨A, c, hv, hle, raw_rows hC fun z hz => ?_⟩
 obtain ⟨h1, h2⟩ := (h.own z hz).C
 exact ⟨cv_chk h1 (fun p hp => (h.cr z hz p hp).below h.bl), h2⟩
end Go.Proofs.YtdlamomabonkjaaDoor.Pk
end
section
namespace Go.Proofs.YtdlamomabonkjaaDoor.Pk
open Go.ChangeShapes Go.WideShapes Go.ChangeAt Go.RowKit YtdlamomabonkjaaDoorW.PrintWords Base PCh ParDec Ch
def OkL (l : List Chk) : Prop := l.length * 152 ≤ 140737488351232 ∧ ∀ x ∈ l, OkC x
end Go.Proofs.YtdlamomabonkjaaDoor.Pk
end
section
namespace Go.Proofs.YtdlamomabonkjaaDoor.Pk
open Go.RowKit YtdlamomabonkjaaDoorW.PrintWords YtdlamomabonkjaaDoorW.PrintLast Base PCh ParDec Ch
def RelB (m : Nat) (a : List Chk) (zs : List RW) (lf : Nat) : Prop := zs.map (fun z => fsts z.2) = outB (rowsB m a) ∧ lf = (rowsB m a).left ∧ ∀ x ∈ a, 12 + sizeD x ≤ m
theorem RelB.nil (m : Nat) : RelB m [] [] 0 := ⟨rfl, rfl, fun _ h => by cases h⟩
theorem take_next {l : List Chk} {i : Nat} {x : Chk} {r : List Chk} (h : l.drop i = x :: r) : l.take (i + 1) = l.take i ++ [x] := by
 have hi : i < l.length := by
  rcases Nat.lt_or_ge i l.length with h1 | h1
  ·exact h1
  ·rw [List.drop_of_length_le h1] at h; cases h
 have hx : l[i] = x := by
  have := List.drop_eq_getElem_cons hi
  rw [this] at h
  exact (List.cons.inj h).1
 rw [List.take_succ_eq_append_getElem hi, hx]
theorem rowsB_snoc (m : Nat) (a : List Chk) (x : Chk) : rowsB m (a ++ [x]) = bstep m (rowsB m a) x := by
 unfold rowsB
 rw [List.foldl_append]
 rfl
theorem outB_one (D : List (List Chk)) (x : Chk) (q : Nat) : outB ⟨D, [x], q⟩ = D ++ [[x]] := by
 unfold outB
 rw [if_neg (by simp)]
theorem outB_last {m : Nat} {s : BS} {a : List Chk} (hI : BInv m s a) {ds : List RW} {r : RW} (h : (ds ++ [r]).map (fun z => fsts z.2) = outB s) : s.R = fsts r.2 ∧ s.D = ds.map (fun z => fsts z.2) ∧ s.R ≠ [] := by
 unfold outB at h
 by_cases hR : s.R = []
 ·rw [if_pos (by rw [hR]; rfl), hI.st hR] at h
  have := congrArg List.length h
  simp at this
 ·have hne : s.R.isEmpty = false := by cases hh : s.R with
   | nil => exact absurd hh hR
   | cons _ _ => rfl
  rw [if_neg (by rw [hne]; exact Bool.false_ne_true), List.map_append] at h
  obtain ⟨h1, h2⟩ := List.append_inj' h rfl
  exact ⟨((List.cons.inj h2).1).symm, h1.symm, hR⟩
theorem RelB.open_ {m : Nat} {a : List Chk} {zs : List RW} {lf : Nat} (h : RelB m a zs lf) (hI : BInv m (rowsB m a) a) {x : Chk} (hx : 12 + sizeD x ≤ m) (hop : zs = [] ∨ lf < sizeD x ∨ ∃ ds r, zs = ds ++ [r] ∧ apartB (fsts r.2 ++ [x]) = true) {r' : RW} {L : Lay} (hr : r'.2 = nilZ.2 ++ [(x, L)]) : RelB m (a ++ [x]) (zs ++ [r']) (m - 12 - sizeD x) := by
 obtain ⟨h1, h2, h3⟩ := h
 have hs : rowsB m (a ++ [x]) = ⟨outB (rowsB m a), [x], m - 12 - sizeD x⟩ := by
  rw [rowsB_snoc]
  unfold bstep
  rw [if_pos]
  rcases hop with hop | hop | ⟨ds, r, hz, hap⟩
  ·left
   rw [hop] at h1
   cases hh : (rowsB m a).R with
   | nil => rfl
   | cons y t =>
    unfold outB at h1
    rw [if_neg (by rw [hh]; simp)] at h1
    have := congrArg List.length h1
    simp at this
  ·right; left; rw [← h2]; exact hop
  ·right; right
   rw [hz] at h1
   rw [(outB_last hI h1).1]
   exact hap
 refine ⟨?_, by rw [hs], fun y hy => ?_⟩
 ·rw [List.map_append, h1, hs]
  rw [outB_one]
  show _ ++ [fsts r'.2] = _
  rw [hr]
  rfl
 ·rcases List.mem_append.1 hy with hy | hy
  ·exact h3 y hy
  ·rw [List.mem_singleton.1 hy]; exact hx
theorem RelB.stay {m : Nat} {a : List Chk} {ds : List RW} {r : RW} {lf : Nat} (h : RelB m a (ds ++ [r]) lf) (hI : BInv m (rowsB m a) a) {x : Chk} (hx : 12 + sizeD x ≤ m) (hl : sizeD x ≤ lf) (hap : apartB (fsts r.2 ++ [x]) = false) {r' : RW} {L : Lay} (hr : r'.2 = r.2 ++ [(x, L)]) : RelB m (a ++ [x]) (ds ++ [r']) (lf - sizeD x) := by
 obtain ⟨h1, h2, h3⟩ := h
 obtain ⟨e1, e2, e3⟩ := outB_last hI h1
 have hne : (rowsB m a).R.isEmpty = false := by cases hh : (rowsB m a).R with
  | nil => exact absurd hh e3
  | cons _ _ => rfl
 have hs : rowsB m (a ++ [x]) = ⟨(rowsB m a).D, (rowsB m a).R ++ [x], (rowsB m a).left - sizeD x⟩ := by
  rw [rowsB_snoc]
  unfold bstep
  rw [if_neg]
  rintro (e | e | e)
  ·rw [hne] at e; cases e
  ·omega
  ·rw [e1, hap] at e; cases e
 refine ⟨?_, by rw [hs, h2], fun y hy => ?_⟩
 ·rw [hs]
  unfold outB
  rw [if_neg (by simp), List.map_append, e1, e2]
  show _ ++ [fsts r'.2] = _
  rw [hr]
  unfold fsts
  rw [List.map_append]
  rfl
 ·rcases List.mem_append.1 hy with hy | hy
  ·exact h3 y hy
  ·rw [List.mem_singleton.1 hy]; exact hx
theorem size_le (x : Chk) (h : checkD x = 0) : sizeD x ≤ 65540 := by
 unfold sizeD
 rw [if_pos h, chunkL_len]
 have := checkD_len h
 omega
theorem RelB.len {m : Nat} {l : List Chk} {i : Nat} {zs : List RW} {lf : Nat} (h : RelB m (l.take i) zs lf) (hI : BInv m (rowsB m (l.take i)) (l.take i)) (hc : ∀ x ∈ l, checkD x = 0) (hmx : l.length ≤ 9223372036854775807) (hl : l.length * 152 ≤ 140737488351232) : (zs.length + 1) * 24 ≤ 140737488355328 ∧ zs.length ≤ 925904600000 := by
 have h1 := rows_ok hI
 have h2 := flatten_len (fun r hr => (h1.gd r hr).1)
 rw [h1.fl, List.length_take] at h2
 have h3 : zs.length = (outB (rowsB m (l.take i))).length := by rw [← h.1, List.length_map]
 omega
theorem RelB.row {m : Nat} {l : List Chk} {i : Nat} {ds : List RW} {r : RW} {lf : Nat} (h : RelB m (l.take i) (ds ++ [r]) lf) (hI : BInv m (rowsB m (l.take i)) (l.take i)) (hl : l.length * 152 ≤ 140737488351232) : (r.2.length + 1) * 152 ≤ 140737488355328 ∧ r.2.length ≤ 925904600000 := by
 obtain ⟨e1, e2, e3⟩ := outB_last hI h.1
 have h1 := congrArg List.length hI.fl
 rw [List.length_flatten, List.map_append, List.sum_append] at h1
 simp only [List.map_cons, List.map_nil, List.sum_cons, List.sum_nil] at h1
 rw [e1, fsts_len, List.length_take] at h1
 omega
theorem BSt.cell2 {w W : World} {ds : List RW} {r : RW} {go n cap : Nat} (h : rawR.R 24 W w.heap.size (fun _ => True) (.slice (some ⟨go, 0, none⟩) n cap) (ds ++ [r])) : W.cell? ⟨go, ds.length, none⟩ = some (encR r) ∧ W.frozen? ⟨go, ds.length, none⟩ = false := by
 have hn := (Kd.R_reads' h).1
 rw [List.length_append] at hn
 have h1 := Kd.R_celln nilZ h (ds.length : Int) (by omega) (by simp at hn; omega)
 rw [Int.toNat_natCast] at h1
 have h2 : rdOf nilZ (ds ++ [r]) (ds.length : Int) = r := by
  unfold rdOf
  rw [Int.toNat_natCast, getD_app_len]
 rw [h2] at h1
 exact h1
theorem blk_far_row {w W w1 : World} {zs : List RW} {v : Value} (h : BSt w W zs v) {g : Nat} {cs : Array Value} (hb : W.heap[g]? = some (.cells cs 41 (0, 0))) (hg : W.grownBy w1 v.ownBlock) : w1.heap[g]? = some (.cells cs 41 (0, 0)) := by
 refine (hg.block g (blk_lt hb) fun e => ?_).trans hb
 obtain ⟨inner, ho⟩ := Kd.R_own h.out
 obtain ⟨c2, h2⟩ := own_typed ho g e.symm
 rw [hb] at h2
 injection h2 with h2
 injection h2 with _ h2
 exact absurd h2 (by decide)
end Go.Proofs.YtdlamomabonkjaaDoor.Pk
end
section
namespace Go.Proofs.YtdlamomabonkjaaDoor.Pk
open Go.RowKit YtdlamomabonkjaaDoorW.PrintWords YtdlamomabonkjaaDoorW.PrintLast Base PCh ParDec Ch
theorem own_one (W : World) (x : Chk) (L : Lay) (B : Nat) (hB : B ≤ W.heap.size) : OwnZ (W.alloc (.cells (CV x L) 41)) B ((some W.heap.size, 1), [(x, L)]) := by
 have h := OwnRow.lit (R := cvK.M W B (fun _ => True)) (size := 15) (e := 41) (ps := [((x, L) : CL)]) W B (inner := (CV x L).toList) (Reps.front (c := (CV x L).toList) rfl rfl (Reps.none _ _) (List.append_nil _)) hB (by simp)
 rw [Array.toArray_toList] at h
 exact ⟨fun _ _ => trivial, h⟩
theorem BSt.opened1 {w W1 W w1 : World} {zs : List RW} {v v1 : Value} {x : Chk} {L : Lay} (h0 : BSt w W1 zs v) (hx : CR w x L) (h : BSt w W zs v) (ho : OwnZ W w.heap.size ((some W1.heap.size, 1), [(x, L)])) (h1 : rawR.R 24 w1 w.heap.size (fun _ => True) v1 (zs ++ [((some W1.heap.size, 1), [(x, L)])])) (hg : W.grownBy w1 v.ownBlock) (hb : Below w.heap.size w w1) : BSt w w1 (zs ++ [((some W1.heap.size, 1), [(x, L)])]) v1 := by
 refine ⟨h1, fun z hz => ?_, fun z hz p hp => ?_, hb, fun ds r e => ?_⟩
 ·rcases List.mem_append.1 hz with hz | hz
  ·exact R_apart2 (h.own z hz) h.out rfl (by decide) hg
  ·rw [List.mem_singleton.1 hz]
   exact R_apart2 ho h.out rfl (by decide) hg
 ·rcases List.mem_append.1 hz with hz | hz
  ·exact h.cr z hz p hp
  ·rw [List.mem_singleton.1 hz] at hp
   rw [List.mem_singleton.1 hp]
   exact hx
 ·obtain ⟨e1, hr⟩ := List.append_inj' e rfl
  have e2 := (List.cons.inj hr).1
  subst e1 e2
  intro z hz g hzg e3
  obtain ⟨inner, ho2⟩ := Kd.R_own (h0.own z hz)
  have := own_lt ho2 g (by rw [encR_own]; exact hzg)
  injection e3 with e3
  omega
theorem last_row {m : Nat} {s : BS} {a : List Chk} {y : Chk} (h : BInv m s (a ++ [y])) : ∃ b, s.R = b ++ [y] := by
 have hfl := h.fl
 rcases List.eq_nil_or_concat s.R with hR | ⟨b, z, hR⟩
 ·rw [h.st hR, hR] at hfl
  have := congrArg List.length hfl
  simp at this
 ·rw [List.concat_eq_append] at hR
  rw [hR, List.flatten_append, List.flatten_cons, List.flatten_nil, List.append_nil, ← List.append_assoc] at hfl
  obtain ⟨_, h2⟩ := List.append_inj' hfl rfl
  exact ⟨b, by rw [hR, (List.cons.inj h2).1]⟩
theorem RelB.prev {m : Nat} {l : List Chk} {i j : Nat} {zs : List RW} {lf : Nat} {y : Chk} {t : List Chk} (h : RelB m (l.take i) zs lf) (hI : BInv m (rowsB m (l.take i)) (l.take i)) (hij : i = j + 1) (hd : l.drop j = y :: t) (x : Chk) : ∃ ds r, zs = ds ++ [r] ∧ apartB (fsts r.2 ++ [x]) = (aloneK x.f0 || aloneK y.f0) := by
 have e : l.take i = l.take j ++ [y] := by rw [hij]; exact take_next hd
 have hI2 := hI
 rw [e] at hI2
 obtain ⟨b, hb⟩ := last_row hI2
 have hb' : (rowsB m (l.take i)).R = b ++ [y] := by rw [e]; exact hb
 have ha := apart_prev hI y x b hb'
 rcases List.eq_nil_or_concat zs with hz | ⟨ds, r, hz⟩
 ·have h1 := h.1
  rw [hz] at h1
  unfold outB at h1
  rw [if_neg (by rw [hb']; simp)] at h1
  have := congrArg List.length h1
  simp at this
 ·rw [List.concat_eq_append] at hz
  refine ⟨ds, r, hz, ?_⟩
  have h1 := h.1
  rw [hz] at h1
  rw [← (outB_last hI h1).1]
  exact ha
end Go.Proofs.YtdlamomabonkjaaDoor.Pk
end
section
namespace Go.Proofs.YtdlamomabonkjaaDoor.Ch
open Go.RowKit YtdlamomabonkjaaDoorW.PrintWords YtdlamomabonkjaaDoorW.PrintLast Base PCh ParDec ParEnc
theorem fold15 (a0 a1 a2 a3 a4 a5 a6 a7 a8 a9 a10 a11 a12 a13 a14 : Value) : Array.foldl (fun (cs : Array Value) (x : Value × Nat) => cs.setIfInBounds x.snd x.fst) #[.int .u8 0, .int .u8 0, .int .u32 0, .int .u16 0, .int .u16 0, .int .u32 0, .int .u32 0, .int .u32 0, .int .u16 0, .int .u16 0, .slice none 0 0, .slice none 0 0, .slice none 0 0, .slice none 0 0, .slice none 0 0] (#[a0, a1, a2, a3, a4, a5, a6, a7, a8, a9, a10, a11, a12, a13, a14] : Array Value).zipIdx 0 15 = #[a0, a1, a2, a3, a4, a5, a6, a7, a8, a9, a10, a11, a12, a13, a14] := by
 simp [List.zipIdx]
theorem exec_one {o : Oper} {a : Act} {w : World} (y : Tmp) (x : Chk) (L : Lay) (ho : o.op = .buildSlice 24 1 #[(0, .tmp y)]) (hx : a.tmps[y]? = some (.agg (CV x L))) : (execOp a.eval o).run Tryd.prog w = .ok (.value (.slice (some ⟨w.heap.size, 0, none⟩) 1 1)) (w.alloc (.cells (CV x L) 41)) := by
 unfold execOp
 simp only [ho]
 go_simp
 rw [if_neg (by simp [CV, Value.cells])]
 go_simp
 exact congrArg (fun c => w.alloc (.cells c 41)) (fold15 _ _ _ _ _ _ _ _ _ _ _ _ _ _ _)
theorem wpList_one {ops : Array Oper} {rest : List Oper} {op : Oper} {a : Act} {w : World} {Q : Exit → Act → World → Prop} (hgd : op.guard = none) (y : Tmp) (ho : op.op = .buildSlice 24 1 #[(0, .tmp y)]) (CX : Array Value) (hx : a.tmps[y]? = some (.agg CX)) (x : Chk) (L : Lay) (hc : CV x L = CX)
  (h : wpList Tryd.prog ops Q rest (a.put op.dst (.slice (some ⟨w.heap.size, 0, none⟩) 1 1)) (w.alloc (.cells CX 41))) : wpList Tryd.prog ops Q (op :: rest) a w := by
 subst hc
 refine wpList_plain hgd fun _ hK => ?_
 have hK' := hK _ _ h
 unfold Oper.wp
 rw [exec_one y x L ho hx]
 exact hK'
end Go.Proofs.YtdlamomabonkjaaDoor.Ch
end
