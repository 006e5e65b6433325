/- The statement AssocStrangers of ropewalk/ropewalklaw22.AssocStrangers. Proved from the walk As.strangers_row. -/
import Derived.Test.YthiaakjbapgibaaGreatSa5
set_option maxRecDepth 100000
set_option linter.unusedVariables false
set_option linter.unusedSimpArgs false
section
namespace Go.Proofs.YthiaakjbapgibaaGreat.Ch
open Go.RowKit YthiaakjbapgibaaGreatW.PrintWords YthiaakjbapgibaaGreatW.PrintLast Base PCh ParDec
theorem below_cell {B : Nat} {w W : World} {a : Addr} {v : Value} (h : Below B w W) (hlt : a.block < B) (hc : w.cell? a = some v) : W.cell? a = some v := by
 have := h.block a.block hlt
 simpa [World.cell?, this] using hc
theorem WS.alloc {w : World} {gw : Nat} {xs : List Int} (h : WS w gw xs) (x : Obj) : WS (w.alloc x) gw xs := by
 obtain ⟨u, hg, hR⟩ := h
 exact ⟨u, blk_alloc hg _, Kd.R_alloc hR _⟩
theorem gapL_length (l : List GapS) : (gapL l).length = 2 * l.length := by
 induction l with
 | nil => rfl
 | cons g r ih => simp only [gapL, List.length_append, List.length_cons, List.length_nil, ih]; omega
theorem twoL_app (a b : List Int) : twoL (a ++ b) = twoL a ++ twoL b := by
 induction a with
 | nil => rfl
 | cons n r ih => simp only [List.cons_append, twoL, ih, List.append_assoc]
set_option maxHeartbeats 2000000 in
theorem wgaps_calls (w : World) (gw : Nat) (xs : List Int) (A : Option Addr) (c : Nat) (gs : List GapS) (hs : WS w gw xs) (hA : ∀ W, Fr gw w W → Kd.C k195 W A gs.length gs) (hx : xs.length + 4 * gs.length ≤ 140737488355328) :
  Calls Tryz.prog 142 #[.pointer (some ⟨gw, 0, none⟩), .slice A gs.length c] w fun e w' => e = .returned (.tuple #[]) ∧ WS w' gw (xs ++ twoL (gapL gs)) ∧ Fr gw w w' := by
 have HS := Lh hs
 have HA := Lh hA
 have hm := (hA w (Fr.refl _ _)).2.1
 have HGW := Lh (show gw < w.heap.size by obtain ⟨u, hg, _⟩ := hs; exact blk_lt hg)
 have HX := Lh hx
 clear hs hA hx
 go_enter Tryz.func142, Tryz.ntmps142
 go_wp2
 go_loopw [8] (fun v8 wr => ∃ (i : Nat) (ys : List Int), i ≤ gs.length ∧ v8 = .int .i64 (i : Int) ∧ Hid (ys.length = xs.length + 4 * i) ∧ Hid (ys ++ twoL (gapL (gs.drop i)) = xs ++ twoL (gapL gs)) ∧ Hid (WS wr gw ys) ∧ Hid (Fr gw w wr)) (fun v8 _ => gs.length - (intOf v8).toNat)
 case atStart => exact ⟨0, xs, Nat.zero_le _, rfl, (by show _ = _; omega), rfl, HS.out, Fr.refl _ _⟩
 case round =>
  obtain ⟨i, ys, hi, rfl, HL, HE, HW, HF⟩ := hrel
  by_cases hlt : i < gs.length
  ·obtain ⟨ad, rfl, x0, x1⟩ := at_T195 (HA.out _ HF.out) (i : Int) (by omega) (by omega)
   rw [Int.toNat_natCast] at x0 x1
   have hE := HE.out
   rw [gap_drop gs i hlt, gapL, twoL_app, ← List.append_assoc] at hE
   generalize rd_T195 gs (i : Int) = g at *
   have HE2 := Lh hE
   have HXL := Lh (show ys.length + 2 * [g.f0, g.f1].length ≤ 140737488355328 by have := HX.out; have := HL.out; simp; omega)
   have HL2 := Lh (show (ys ++ twoL [g.f0, g.f1]).length = xs.length + 4 * (i + 1) by rw [List.length_append, twoL_length]; have := HL.out; simp; omega)
   have HT := Lh (wtwo_lit (wr.alloc (.cells #[.int .u16 g.f0, .int .u16 g.f1] 195)) gw ys [g.f0, g.f1] [.int .u16 g.f0, .int .u16 g.f1] 2 rfl rfl (HW.out.alloc _) HXL.out)
   rw [World.size_alloc] at HT
   have HGS := Lh (show gw ≤ wr.heap.size by have := HGW.out; have := HF.out.below.size; omega)
   clear hE HE HXL
   go_wp2_with fail
   refine HT.out.mono ?_
   rintro e w1 ⟨rfl, hS, hF⟩
   have HF2 := Lh ((HF.out.alloc HGS.out _).trans hF)
   have HS2 := Lh hS
   clear hS hF HT HW HF x0 x1
   go_wp2
   go_roundw
   case rel => exact ⟨i + 1, _, by omega, by go_num, HL2, HE2, HS2, HF2⟩
   case measure => simp [intOf]; omega
  ·obtain rfl : i = gs.length := by omega
   have hE := HE.out
   rw [List.drop_length, show twoL (gapL []) = [] from rfl, List.append_nil] at hE
   subst hE
   clear HE
   go_wp2
   go_end0
   exact ⟨rfl, HW.out, HF.out⟩
structure VX (w : World) (x : Chk) (L : Lay) (xs : List Int) (W : World) : Prop where
 x0 : W.heap[w.heap.size]? = some (.cells (CV x L) 65 (0, 0))
 ws : WS W (w.heap.size + 1) xs
 bl : Below w.heap.size w W
theorem VX.cell {w W : World} {x : Chk} {L : Lay} {xs : List Int} (h : VX w x L xs W) (i : Nat) : W.cell? ⟨w.heap.size, i, none⟩ = (CV x L)[i]? := blk_cell h.x0 i
theorem VX.fr {w W W' : World} {x : Chk} {L : Lay} {xs ys : List Int} (h : VX w x L xs W) (hs : WS W' (w.heap.size + 1) ys) (hf : Fr (w.heap.size + 1) W W') : VX w x L ys W' :=
 ⟨(hf.below.block _ (by omega)).trans h.x0, hs, h.bl.trans (hf.below.mono (by omega))⟩
theorem VX.below {w W W' : World} {x : Chk} {L : Lay} {xs : List Int} (h : VX w x L xs W) (hb : Below W.heap.size W W') : VX w x L xs W' := by
 obtain ⟨u, hg, hR⟩ := h.ws
 exact ⟨blk_below h.x0 hb, ⟨u, blk_below hg hb, R_only hR (Only.of_below (S := fun _ => False) hb) (fun _ _ _ h => h)⟩, below_then h.bl h.bl.size hb⟩
theorem VX.new (w : World) (x : Chk) (L : Lay) : VX w x L [] ((w.alloc (.cells (CV x L) 65)).alloc (.cells #[.slice none 0 0] 168)) := by
 refine ⟨blk_alloc (blk_new _ _) _, ⟨_, ?_, Kd.R_nil _ _ _ _ _⟩, below_alloc (below_alloc (Below.refl _ _) _) _⟩
 have h := blk_new (w.alloc (.cells (CV x L) 65)) (.cells #[.slice none 0 0] 168)
 rw [World.size_alloc] at h
 exact h
theorem VX.four {w W : World} {x : Chk} {L : Lay} {xs : List Int} (h : VX w x L xs W) (ns : List Int) (vs : List Value) (n : Nat) (hv : vs = ns.map (Value.int .u32)) (hn : ns.length = n) (hx : xs.length ≤ 140737488355300) (hn4 : n ≤ 4) :
  Calls Tryz.prog 140 #[.pointer (some ⟨w.heap.size + 1, 0, none⟩), .slice (some ⟨W.heap.size, 0, none⟩) n n] (W.alloc (.cells vs.toArray 41)) fun e w' => e = .returned (.tuple #[]) ∧ VX w x L (xs ++ fourL ns) w' :=
 (wfour_lit W _ xs ns vs n hv hn h.ws (by omega)).mono fun _ _ ⟨h1, h2, h3⟩ => ⟨h1, h.fr h2 h3⟩
theorem VX.two {w W : World} {x : Chk} {L : Lay} {xs : List Int} (h : VX w x L xs W) (ns : List Int) (vs : List Value) (n : Nat) (hv : vs = ns.map (Value.int .u16)) (hn : ns.length = n) (hx : xs.length ≤ 140737488355300) (hn4 : n ≤ 4) :
  Calls Tryz.prog 141 #[.pointer (some ⟨w.heap.size + 1, 0, none⟩), .slice (some ⟨W.heap.size, 0, none⟩) n n] (W.alloc (.cells vs.toArray 50)) fun e w' => e = .returned (.tuple #[]) ∧ VX w x L (xs ++ twoL ns) w' :=
 (wtwo_lit W _ xs ns vs n hv hn h.ws (by omega)).mono fun _ _ ⟨h1, h2, h3⟩ => ⟨h1, h.fr h2 h3⟩
theorem VX.gaps {w W : World} {x : Chk} {L : Lay} {xs : List Int} (h : VX w x L xs W) (A : Option Addr) (c : Nat) (gs : List GapS) (hC : Kd.C k195 w A gs.length gs) (hx : xs.length ≤ 140737488300000) (hg : gs.length ≤ 4096) :
  Calls Tryz.prog 142 #[.pointer (some ⟨w.heap.size + 1, 0, none⟩), .slice A gs.length c] W fun e w' => e = .returned (.tuple #[]) ∧ VX w x L (xs ++ twoL (gapL gs)) w' :=
 (wgaps_calls W _ xs A c gs h.ws (fun W' hf => Kd.C_below hC (h.bl.trans (hf.below.mono (by omega)))) (by omega)).mono fun _ _ ⟨h1, h2, h3⟩ => ⟨h1, h.fr h2 h3⟩
theorem VX.dups {w W : World} {x : Chk} {L : Lay} {xs : List Int} (h : VX w x L xs W) (A : Option Addr) (c : Nat) (ns : List Int) (hC : (Kd.int .u32).C w A ns.length ns) (hx : xs.length ≤ 140737488300000) (hg : ns.length ≤ 4096) :
  Calls Tryz.prog 140 #[.pointer (some ⟨w.heap.size + 1, 0, none⟩), .slice A ns.length c] W fun e w' => e = .returned (.tuple #[]) ∧ VX w x L (xs ++ fourL ns) w' :=
 (wfour_calls W _ xs A c ns h.ws (fun W' hf => Kd.C_below hC (h.bl.trans (hf.below.mono (by omega)))) (by omega)).mono fun _ _ ⟨h1, h2, h3⟩ => ⟨h1, h.fr h2 h3⟩
theorem encP_len (ps : List PrmS) : (encP ps).1.length ≤ 16777728 := by
 unfold encP
 by_cases h : ps.length > 256
 ·rw [if_pos h]; simp
 rw [if_neg h]
 have hr : ∀ (qs : List PrmS) (b : List Int), (ParEnc.runB b qs).1.length ≤ b.length + 65538 * qs.length := by
  intro qs
  induction qs with
  | nil => intro b; simp [ParEnc.runB]
  | cons p r ih =>
   intro b
   unfold ParEnc.runB
   split
   ·simp
   ·rename_i hp
    have h1 := ParEnc.stepB_le b p (by omega)
    have h2 := ih (ParEnc.stepB b p)
    simp only [List.length_cons]
    omega
 have := hr ps []
 simp only [List.length_nil] at this
 omega
theorem u16_len {n : Nat} (h : n ≤ 4096) : IntKind.u16.wrap (n : Int) = (n : Int) := by
 simp [IntKind.wrap, IntKind.bits, IntKind.signed]
 omega
set_option maxHeartbeats 8000000 in
theorem value_calls (b0 : Nat) (w : World) (x : Chk) (L : Lay) (hb0 : b0 ≤ w.heap.size) (hx : ∀ W', Below b0 w W' → CR W' x L) (l10 : x.f10.length ≤ 4096) (l11 : x.f11.length ≤ 4096) (l12 : x.f12.length ≤ 4096) (l13 : x.f13.length ≤ 140737488355232) :
  Calls Tryz.prog 107 #[.agg (CV x L)] w (ValQ b0 (valueD x) w) := by
 have hxw := hx w (Below.refl _ _)
 have HCR := Lh (fun (W' : World) (h : Below w.heap.size w W') => hxw.below h)
 have HXX := Lh hx
 have H14 := Lh (fun (W' : World) (h : Below w.heap.size w W') => encP_calls W' L.A14 L.c14 x.f14 (Kd.C_below hxw.h14 h) hxw.l14)
 have X := VX.new w x L
 have HXW := Lh hxw
 have HEL := Lh (encP_len x.f14)
 clear hx hxw
 go_enter Tryz.func107, Tryz.ntmps107
 go_upto_region 2 with (fail)
 refine wp_gen (VX w x L []) X ?_
 clear X
 intro W X
 have k0 : W.cell? ⟨w.heap.size, 0, none⟩ = some (.int .u8 x.f0) := X.cell 0
 by_cases hk : x.f0 = 0
 ·have HV := Lh (show valueD x = [] ++ fourL [x.f2] ++ twoL [x.f3, x.f4] ++ fourL [x.f5] ++ x.f13 from by unfold valueD; rw [if_pos (by omega)]; try rfl)
  have q0 : (x.f0 == 0) = true := by simp [hk]
  clear hk
  have k2 : W.cell? ⟨w.heap.size, 2, none⟩ = some (.int .u32 x.f2) := X.cell 2
  go_wp2_with fail
  refine (X.four [x.f2] [.int .u32 (x.f2)] 1 rfl rfl (by simp [twoL_length, fourL_length, gapL_length]; try omega) (by decide)).mono ?_
  rintro e W1 ⟨rfl, X1⟩
  replace X := X1
  clear X1 k2
  have k3 : W1.cell? ⟨w.heap.size, 3, none⟩ = some (.int .u16 x.f3) := X.cell 3
  have k4 : W1.cell? ⟨w.heap.size, 4, none⟩ = some (.int .u16 x.f4) := X.cell 4
  go_wp2_with fail
  refine (X.two [x.f3, x.f4] [.int .u16 (x.f3), .int .u16 (x.f4)] 2 rfl rfl (by simp [twoL_length, fourL_length, gapL_length]; try omega) (by decide)).mono ?_
  rintro e W2 ⟨rfl, X1⟩
  replace X := X1
  clear X1 k3 k4
  have k5 : W2.cell? ⟨w.heap.size, 5, none⟩ = some (.int .u32 x.f5) := X.cell 5
  go_wp2_with fail
  refine (X.four [x.f5] [.int .u32 (x.f5)] 1 rfl rfl (by simp [twoL_length, fourL_length, gapL_length]; try omega) (by decide)).mono ?_
  rintro e W3 ⟨rfl, X1⟩
  replace X := X1
  clear X1 k5
  go_upto_region 8 with (fail)
  have HXL := Lh (show ([] ++ fourL [x.f2] ++ twoL [x.f3, x.f4] ++ fourL [x.f5]).length + x.f13.length ≤ 140737488355328 by simp [twoL_length, fourL_length]; omega)
  obtain ⟨xs, hxs⟩ : ∃ xs, [] ++ fourL [x.f2] ++ twoL [x.f3, x.f4] ++ fourL [x.f5] = xs := ⟨_, rfl⟩
  obtain ⟨l13', hl13⟩ : ∃ l, x.f13 = l := ⟨_, rfl⟩
  rw [hxs] at X HXL HV
  rw [hl13] at HXL HV
  have k13 : W3.cell? ⟨w.heap.size, 13, none⟩ = some (.slice L.A13 x.f13.length L.c13) := X.cell 13
  have hbd := HXW.out.h13
  rw [hl13] at k13 hbd
  obtain ⟨u, hg, hR⟩ := X.ws
  obtain ⟨Au, cu, rfl⟩ := Kd.R_slice hR
  have HC := Lh hg
  have HR := Lh hR
  have HBW := Lh X.bl
  obtain ⟨gb, hgb⟩ : ∃ gb, w.heap.size = gb := ⟨_, rfl⟩
  obtain ⟨gw, hgw⟩ : ∃ gw, w.heap.size + 1 = gw := ⟨_, rfl⟩
  have HU := Lh (fun (w' : World) (h : Below gw W3 w') => below_cell h (show w.heap.size < gw by omega) k13)
  have HBD := Lh (fun (w' : World) (h : Below gw W3 w') => Kd.C_below hbd (HBW.out.trans (h.mono (by omega))))
  rw [hgw] at HC HR ⊢
  rw [hgb] at HU ⊢
  have HGL := Lh (show gw = w.heap.size + 1 from hgw.symm)
  clear hg hR X k13 hbd hxs hl13 hgb hgw H14 HCR HXX HXW HEL l10 l11 l12 l13 hb0
  generalize l13' = l13 at *
  generalize W3 = W at *
  have B := True.intro
  have C := True.intro
  have R := True.intro
  refine start_ (n := 11) (S := fun w' => True) (ds := []) #[false, false, false, false, false, false, false, false, false, false, false] (by kernel_rfl) rfl rfl trivial (fun hHeld => ?_)
  refine with_tabW valAtab8 valAbits8 (fun HT_ HW_ => ?_)
  refine pu 0 34 ?_ rfl rfl (any_of HT_.out (by kernel_rfl)) (fun _ _ _ h => h) (by rfl) ?_ ?_ ?_ ?_
  rotate_left
  ·intro w'
   go_simp
   with_reducible rfl
  rotate_left
  ·simp only [sL]
   rfl
  refine pu 1 35 ?_ rfl rfl (any_of HT_.out (by kernel_rfl)) (fun _ _ _ h => h) (by rfl) ?_ ?_ ?_ ?_
  rotate_left
  ·intro w'
   go_simp
   with_reducible rfl
  rotate_left
  ·simp only [sL]
   rfl
  refine inv_at [2, 3, 4, 5, 6, 7, 8, 9, 10] (fun a0_ b a w' => ∃ (v9 : Value), a = putSel a0_ b [(2, 36, .pointer (some ⟨gw, 0, none⟩)), (3, 37, .pointer (some ⟨gw, 0, none⟩)), (4, 38, .slice Au xs.length cu), (5, 39, .pointer (some ⟨gb, 13, none⟩)), (6, 40, .slice L.A13 l13.length L.c13), (7, 41, v9), (8, 42, .pointer (some ⟨gw, 0, none⟩)), (9, 43, .pointer (some ⟨gw, 0, none⟩))] ∧ (b 7 = false → Fr gw W w') ∧ (b 7 = false → w'.heap[gw]? = some (.cells #[.slice Au xs.length cu] 168 (0, 0))) ∧ (b 7 = false → (Kd.int .u8).R 5 w' (gw + 1) (fun k => k ≠ gw) (.slice Au xs.length cu) xs) ∧ (b 7 = true → b 10 = false → (Kd.int .u8).R 5 w' (gw + 1) (fun k => k ≠ gw) v9 (xs ++ l13) ∧ w'.heap[gw]? = some (.cells #[.slice Au xs.length cu] 168 (0, 0)) ∧ Fr gw W w') ∧ (b 10 = true → ∃ u, w'.heap[gw]? = some (.cells #[u] 168 (0, 0)) ∧ (Kd.int .u8).R 5 w' (gw + 1) (fun k => k ≠ gw) u (xs ++ l13) ∧ Fr gw W w')) HT_.out HW_.out (by kernel_rfl) (by kernel_rfl) ?_ ?_ ?_
  ·exact ⟨.bool false, by simp only [putSel, Bool.false_eq_true, if_false], fun _ => (Fr.refl _ _).drewN 1, fun _ => HC.out, fun _ => HR.out, fun h_ => absurd h_ (by decide), fun h_ => absurd h_ (by decide)⟩
  ·skip
   clear B C R
   refine sc rfl ?_ ?_
   ·rintro b a w' ⟨v9, ha, Q_B, Q_C, Q_R, Q_S1, Q_S2⟩ hb_ hon hoff K hK
    have e35 : a.tmps[35]? = some (.pointer (some ⟨gw, 0, none⟩)) := by rw [ha]; exact (putSel_off rfl).trans rfl
    replace ha := Am ha
    refine value_ (w1 := w') (v := .pointer (some ⟨gw, 0, none⟩)) (by rfl) rfl ?_ ?_
    ·go_simp
     (try simp only [i64_w])
     try rfl
    refine hK.out _ _ ⟨v9, (puk ha 0 hb_ rfl rfl rfl), Q_B, Q_C, Q_R, fun h0_ _ => hof (hoff 7 (by kernel_rfl)) h0_, fun h0_ => hof (hoff 10 (by kernel_rfl)) h0_⟩
   refine sc rfl ?_ ?_
   ·rintro b a w' ⟨v9, ha, Q_B, Q_C, Q_R, Q_S1, Q_S2⟩ hb_ hon hoff K hK
    have e36 := psn ha 0 rfl rfl (hon 2 (by kernel_rfl)) rfl
    replace ha := Am ha
    refine value_ (w1 := w') (v := .pointer (some ⟨gw, 0, none⟩)) (by rfl) rfl ?_ ?_
    ·go_simp
     (try simp only [i64_w])
     try rfl
    refine hK.out _ _ ⟨v9, (puk ha 1 hb_ rfl rfl rfl), Q_B, Q_C, Q_R, fun h0_ _ => hof (hoff 7 (by kernel_rfl)) h0_, fun h0_ => hof (hoff 10 (by kernel_rfl)) h0_⟩
   refine sc rfl ?_ ?_
   ·rintro b a w' ⟨v9, ha, Q_B, Q_C, Q_R, Q_S1, Q_S2⟩ hb_ hon hoff K hK
    have e37 := psn ha 1 rfl rfl (hon 3 (by kernel_rfl)) rfl
    replace ha := Am ha
    have C := Am (Q_C (hoff 7 (by kernel_rfl)))
    have hs := blk_cell C.out 0
    refine value_ (w1 := w') (v := .slice Au xs.length cu) (by rfl) rfl ?_ ?_
    ·go_simp
     (try simp only [i64_w])
     try rfl
    refine hK.out _ _ ⟨v9, (puk ha 2 hb_ rfl rfl rfl), Q_B, Q_C, Q_R, fun h0_ _ => hof (hoff 7 (by kernel_rfl)) h0_, fun h0_ => hof (hoff 10 (by kernel_rfl)) h0_⟩
   refine sc rfl ?_ ?_
   ·rintro b a w' ⟨v9, ha, Q_B, Q_C, Q_R, Q_S1, Q_S2⟩ hb_ hon hoff K hK
    have e1 : a.tmps[1]? = some (.pointer (some ⟨gb, 0, none⟩)) := by rw [ha]; exact (putSel_off rfl).trans rfl
    replace ha := Am ha
    refine value_ (w1 := w') (v := .pointer (some ⟨gb, 13, none⟩)) (by rfl) rfl ?_ ?_
    ·go_simp
     (try simp only [i64_w])
     try rfl
    refine hK.out _ _ ⟨v9, (puk ha 3 hb_ rfl rfl rfl), Q_B, Q_C, Q_R, fun h0_ _ => hof (hoff 7 (by kernel_rfl)) h0_, fun h0_ => hof (hoff 10 (by kernel_rfl)) h0_⟩
   refine sc rfl ?_ ?_
   ·rintro b a w' ⟨v9, ha, Q_B, Q_C, Q_R, Q_S1, Q_S2⟩ hb_ hon hoff K hK
    have e39 := psn ha 3 rfl rfl (hon 5 (by kernel_rfl)) rfl
    replace ha := Am ha
    have B := Am (Q_B (hoff 7 (by kernel_rfl)))
    have hs : w'.cell? ⟨gb, 13, none⟩ = some (.slice L.A13 l13.length L.c13) := HU.out w' B.out.below
    refine value_ (w1 := w') (v := .slice L.A13 l13.length L.c13) (by rfl) rfl ?_ ?_
    ·go_simp
     (try simp only [i64_w])
     try rfl
    refine hK.out _ _ ⟨v9, (puk ha 4 hb_ rfl rfl rfl), Q_B, Q_C, Q_R, fun h0_ _ => hof (hoff 7 (by kernel_rfl)) h0_, fun h0_ => hof (hoff 10 (by kernel_rfl)) h0_⟩
   refine sc rfl ?_ ?_
   ·rintro b a w' ⟨v9, ha, Q_B, Q_C, Q_R, Q_S1, Q_S2⟩ hb_ hon hoff K hK
    have e38 := psn ha 2 rfl rfl (hon 4 (by kernel_rfl)) rfl
    have e40 := psn ha 4 rfl rfl (hon 6 (by kernel_rfl)) rfl
    replace ha := Am ha
    have B := Am (Q_B hb_)
    have C := Am (Q_C hb_)
    have R := Am (Q_R hb_)
    refine Kd.R_append_rows_step (Kd.int .u8) (Rr := (Kd.int .u8).K w') (w0 := w') (W := w') (gw + 1) (by rfl) _ _ 62 5 _ 1 rfl Tryz.underlying62 info_u8 rfl (by decide) (by decide) (.slice Au xs.length cu) xs l13 L.A13 l13.length L.c13 (fun k => k ≠ gw) (fun _ => False) (by simp [Act.eval, Array.getD_eq_getD_getElem?, e38]) (by simp [Act.eval, Array.getD_eq_getD_getElem?, e40]) R.out (HBD.out w' B.out.below) (fun _ _ h => h) (fun _ h => h.elim) (fun k hk => by have := blk_lt C.out; omega) (Below.refl _ _) (by have := blk_lt C.out; omega) (by have := HXL.out; omega) ?_
    intro v1 w1 hR1 hB1 hG1 _
    refine hK.out _ _ ⟨v1, (puk ha 5 hb_ rfl rfl rfl), fun h0_ => absurd ((up_self b 7).symm.trans h0_) (by decide), fun h0_ => absurd ((up_self b 7).symm.trans h0_) (by decide), fun h0_ => absurd ((up_self b 7).symm.trans h0_) (by decide), fun _ _ => ⟨hR1, blk_grown C.out hG1 (fun e => R.out.1 _ e.symm rfl), B.out.grown R.out (hB1.mono (Nat.le_succ _)) hG1⟩, fun h0_ => hof (hoff 10 (by kernel_rfl)) h0_⟩
   refine sc rfl ?_ ?_
   ·rintro b a w' ⟨v9, ha, Q_B, Q_C, Q_R, Q_S1, Q_S2⟩ hb_ hon hoff K hK
    have e34 : a.tmps[34]? = some (.pointer (some ⟨gw, 0, none⟩)) := by rw [ha]; exact (putSel_off rfl).trans rfl
    replace ha := Am ha
    refine value_ (w1 := w') (v := .pointer (some ⟨gw, 0, none⟩)) (by rfl) rfl ?_ ?_
    ·go_simp
     (try simp only [i64_w])
     try rfl
    refine hK.out _ _ ⟨v9, (puk ha 6 hb_ rfl rfl rfl), fun h0_ => absurd ((hon 7 (by kernel_rfl)).symm.trans h0_) (by decide), fun h0_ => absurd ((hon 7 (by kernel_rfl)).symm.trans h0_) (by decide), fun h0_ => absurd ((hon 7 (by kernel_rfl)).symm.trans h0_) (by decide), Q_S1, fun h0_ => hof (hoff 10 (by kernel_rfl)) h0_⟩
   refine sc rfl ?_ ?_
   ·rintro b a w' ⟨v9, ha, Q_B, Q_C, Q_R, Q_S1, Q_S2⟩ hb_ hon hoff K hK
    have e42 := psn ha 6 rfl rfl (hon 8 (by kernel_rfl)) rfl
    replace ha := Am ha
    refine value_ (w1 := w') (v := .pointer (some ⟨gw, 0, none⟩)) (by rfl) rfl ?_ ?_
    ·go_simp
     (try simp only [i64_w])
     try rfl
    refine hK.out _ _ ⟨v9, (puk ha 7 hb_ rfl rfl rfl), fun h0_ => absurd ((hon 7 (by kernel_rfl)).symm.trans h0_) (by decide), fun h0_ => absurd ((hon 7 (by kernel_rfl)).symm.trans h0_) (by decide), fun h0_ => absurd ((hon 7 (by kernel_rfl)).symm.trans h0_) (by decide), Q_S1, fun h0_ => hof (hoff 10 (by kernel_rfl)) h0_⟩
   refine sc rfl ?_ ?_
   ·rintro b a w' ⟨v9, ha, Q_B, Q_C, Q_R, Q_S1, Q_S2⟩ hb_ hon hoff K hK
    have e43 := psn ha 7 rfl rfl (hon 9 (by kernel_rfl)) rfl
    have e41 := psn ha 5 rfl rfl (hon 7 (by kernel_rfl)) rfl
    replace ha := Am ha
    have S1 := Am (Q_S1 (hon 7 (by kernel_rfl)) hb_)
    obtain ⟨hR1, hC1, hF1⟩ := S1.out
    obtain ⟨A7, c7, hv9⟩ := Kd.R_slice hR1
    have hs := blk_cell hC1 0
    have hf := blk_frozen hC1 0
    refine skip_ (w1 := w'.setCell ⟨gw, 0, none⟩ v9) (by rfl) rfl (by generalize (xs ++ l13).length = zl at hv9; rw [hv9] at e41 ⊢; go_simp; try rfl) ?_
    refine hK.out _ _ ⟨v9, (by rw [ha.out]; exact putSel_none (v := undef) rfl), fun h0_ => absurd ((hon 7 (by kernel_rfl)).symm.trans h0_) (by decide), fun h0_ => absurd ((hon 7 (by kernel_rfl)).symm.trans h0_) (by decide), fun h0_ => absurd ((hon 7 (by kernel_rfl)).symm.trans h0_) (by decide), fun _ h1_ => absurd ((up_self b 10).symm.trans h1_) (by decide), fun _ => ⟨v9, blk_put hC1 0 v9 rfl, Kd.R_far hR1 (p := ⟨gw, 0, none⟩) (fun k hk => hk) v9, hF1.set hC1 0 v9⟩⟩
   exact steps_nil
  rintro b a w' hall ⟨v9, ha, Q_B, Q_C, Q_R, Q_S1, Q_S2⟩
  clear B C R
  have hb2_ := hall 2 (by kernel_rfl)
  have hb3_ := hall 3 (by kernel_rfl)
  have hb4_ := hall 4 (by kernel_rfl)
  have hb5_ := hall 5 (by kernel_rfl)
  have hb6_ := hall 6 (by kernel_rfl)
  have hb7_ := hall 7 (by kernel_rfl)
  have hb8_ := hall 8 (by kernel_rfl)
  have hb9_ := hall 9 (by kernel_rfl)
  have hb10_ := hall 10 (by kernel_rfl)
  subst ha
  simp only [putSel, hb2_, hb3_, hb4_, hb5_, hb6_, hb7_, hb8_, hb9_, hb10_, if_true, Act.put, List.setIfInBounds_toArray, List.set_cons_zero, List.set_cons_succ]
  clear Q_B
  clear Q_C
  clear Q_R
  clear Q_S1
  have S2 := Am (Q_S2 hb10_)
  clear Q_S2
  clear hall hb2_ hb3_ hb4_ hb5_ hb6_ hb7_ hb8_ hb9_ hb10_
  obtain ⟨u, hg, hR, hF⟩ := S2.out
  obtain ⟨A7, c7, rfl⟩ := Kd.R_slice hR
  have k9 : w'.cell? ⟨gw, 0, none⟩ = some (.slice A7 (xs ++ l13).length c7) := blk_cell hg 0
  have HR7 := Lh hR
  have HB7 := Lh (HBW.out.trans (hF.below.mono (by have := HGL.out; omega)))
  clear hg hR hF S2
  generalize hn : (xs ++ l13).length = nl at *
  go_wp2
  go_ret
  rw [HV.out]
  exact ValQ.of_R HR7.out (by have := HGL.out; omega) HB7.out
 by_cases hk0 : x.f0 = 1 ∨ x.f0 = 2
 ·have HV := Lh (show valueD x = [] ++ fourL [x.f6, x.f7] ++ twoL [x.f8, x.f9] ++ fourL [x.f2] ++ (encP x.f14).1 from by unfold valueD; rw [if_neg (by omega), if_pos (by omega)]; try rfl)
  have hq : ((x.f0 == 1) = true) ∨ ((x.f0 == 1) = false ∧ (x.f0 == 2) = true) := by rcases hk0 with h | h <;> simp [h]
  have q0 : (x.f0 == 0) = false := by simp; omega
  clear hk0
  rcases hq with q1 | ⟨q1, q2⟩
  all_goals
   have k6 : W.cell? ⟨w.heap.size, 6, none⟩ = some (.int .u32 x.f6) := X.cell 6
   have k7 : W.cell? ⟨w.heap.size, 7, none⟩ = some (.int .u32 x.f7) := X.cell 7
   go_wp2_with fail
   refine (X.four [x.f6, x.f7] [.int .u32 (x.f6), .int .u32 (x.f7)] 2 rfl rfl (by simp [twoL_length, fourL_length, gapL_length]; try omega) (by decide)).mono ?_
   rintro e W1 ⟨rfl, X1⟩
   replace X := X1
   clear X1 k6 k7
   have k8 : W1.cell? ⟨w.heap.size, 8, none⟩ = some (.int .u16 x.f8) := X.cell 8
   have k9 : W1.cell? ⟨w.heap.size, 9, none⟩ = some (.int .u16 x.f9) := X.cell 9
   go_wp2_with fail
   refine (X.two [x.f8, x.f9] [.int .u16 (x.f8), .int .u16 (x.f9)] 2 rfl rfl (by simp [twoL_length, fourL_length, gapL_length]; try omega) (by decide)).mono ?_
   rintro e W2 ⟨rfl, X1⟩
   replace X := X1
   clear X1 k8 k9
   have k2 : W2.cell? ⟨w.heap.size, 2, none⟩ = some (.int .u32 x.f2) := X.cell 2
   go_wp2_with fail
   refine (X.four [x.f2] [.int .u32 (x.f2)] 1 rfl rfl (by simp [twoL_length, fourL_length, gapL_length]; try omega) (by decide)).mono ?_
   rintro e W3 ⟨rfl, X1⟩
   replace X := X1
   clear X1 k2
   have k14 : W3.cell? ⟨w.heap.size, 14, none⟩ = some (.slice L.A14 x.f14.length L.c14) := X.cell 14
   go_wp2_with fail
   refine (H14.out W3 X.bl).mono ?_
   rintro e W9 ⟨v0, rfl, hR0, hB0⟩
   obtain ⟨A0, c0, rfl, hle0, hC0⟩ := Kd.R_reads hR0
   have HR0 := Lh hR0
   have HBASE := Lh X.bl.size
   have HW1 := Lh (show w.heap.size + 1 < W3.heap.size by obtain ⟨u, hg, _⟩ := X.ws; exact blk_lt hg)
   replace X := X.below hB0
   clear k14 hB0 hR0
   obtain ⟨xs, hxs⟩ : ∃ xs, [] ++ fourL [x.f6, x.f7] ++ twoL [x.f8, x.f9] ++ fourL [x.f2] = xs := ⟨_, rfl⟩
   rw [hxs] at X HV
   have HXL := Lh (show xs.length ≤ 100 by rw [← hxs]; simp [twoL_length, fourL_length])
   obtain ⟨u, hg, hR⟩ := X.ws
   obtain ⟨Au, cu, rfl⟩ := Kd.R_slice hR
   have HC0 := Lh hC0
   have HRW := Lh hR
   have HGW := Lh hg
   have HBW := Lh X.bl
   have HS9 := Lh (show w.heap.size + 1 < W9.heap.size from blk_lt hg)
   have k9 : W9.cell? ⟨w.heap.size + 1, 0, none⟩ = some (.slice Au xs.length cu) := blk_cell hg 0
   clear hg hR X hxs hC0 HR0 HBASE HW1
   generalize hpl : (encP x.f14).1.length = pl at *
   go_wp2_with (at_builtin; go_must (refine Kd.R_append_row (Value.int .u8) (0 : Int) (w0 := W9) (W := W9) (w.heap.size + 1 + 1) rfl _ _ 62 5 _ 1 rfl Tryz.underlying62 info_u8 rfl (by decide) (.slice Au xs.length cu) xs (encP x.f14).1 A0 _ c0 (fun k => k ≠ w.heap.size + 1) rfl rfl (fun k hk => by have := HS9.out; omega) HRW.out HC0.out (Below.refl _ _) (by have := HS9.out; omega) (by have := HXL.out; have := HEL.out; omega) ?_); (intro v1 w1 hR1 hB1 hG1 _; have HR1 := Lh hR1; have HB1 := Lh hB1; have HG1 := Lh hG1; clear hR1 hB1 hG1; refine RowKit.Hid.out ?_))
   refine Lh ?_
   obtain ⟨A7, c7, e7⟩ := Kd.R_slice HR1.out
   have hg1 := blk_grown HGW.out HG1.out (fun e => HRW.out.1 _ e.symm rfl)
   have h9 := blk_cell hg1 0
   have f9 := blk_frozen hg1 0
   subst e7
   have HR2 := Lh (Kd.R_far HR1.out (p := ⟨w.heap.size + 1, 0, none⟩) (fun k hk => hk) (.slice A7 (xs ++ (encP x.f14).1).length c7))
   have HB2 := Lh ((HBW.out.trans (HB1.out.mono (by omega))).setCell (p := ⟨w.heap.size + 1, 0, none⟩) (Nat.le_succ _) (.slice A7 (xs ++ (encP x.f14).1).length c7))
   clear HR1 HB1 HG1 hg1 HRW HGW HBW HC0 k9
   generalize (xs ++ (encP x.f14).1).length = nl at *
   go_wp2
   go_ret
   rw [HV.out]
   exact ValQ.of_R HR2.out (by omega) HB2.out
 by_cases hk : x.f0 = 3
 ·have HV := Lh (show valueD x = [] ++ fourL [x.f2, x.f7] ++ twoL [(x.f10.length : Int), (x.f12.length : Int)] ++ twoL (gapL x.f10) ++ fourL x.f12 from by unfold valueD; rw [if_neg (by omega), if_neg (by omega), if_pos (by omega)]; rw [u16_len l10, u16_len l12]; try rfl)
  have q0 : (x.f0 == 0) = false := by simp; omega
  have q1 : (x.f0 == 1) = false := by simp; omega
  have q2 : (x.f0 == 2) = false := by simp; omega
  have q3 : (x.f0 == 3) = true := by simp [hk]
  clear hk
  have k2 : W.cell? ⟨w.heap.size, 2, none⟩ = some (.int .u32 x.f2) := X.cell 2
  have k7 : W.cell? ⟨w.heap.size, 7, none⟩ = some (.int .u32 x.f7) := X.cell 7
  go_wp2_with fail
  refine (X.four [x.f2, x.f7] [.int .u32 (x.f2), .int .u32 (x.f7)] 2 rfl rfl (by simp [twoL_length, fourL_length, gapL_length]; try omega) (by decide)).mono ?_
  rintro e W1 ⟨rfl, X1⟩
  replace X := X1
  clear X1 k2 k7
  have k10 : W1.cell? ⟨w.heap.size, 10, none⟩ = some (.slice L.A10 x.f10.length L.c10) := X.cell 10
  have k12 : W1.cell? ⟨w.heap.size, 12, none⟩ = some (.slice L.A12 x.f12.length L.c12) := X.cell 12
  go_wp2_with fail
  refine (X.two [(x.f10.length : Int), (x.f12.length : Int)] [.int .u16 ((x.f10.length : Int)), .int .u16 ((x.f12.length : Int))] 2 rfl rfl (by simp [twoL_length, fourL_length, gapL_length]; try omega) (by decide)).mono ?_
  rintro e W2 ⟨rfl, X1⟩
  replace X := X1
  clear X1 k10 k12
  have k10 : W2.cell? ⟨w.heap.size, 10, none⟩ = some (.slice L.A10 x.f10.length L.c10) := X.cell 10
  go_wp2_with fail
  refine (X.gaps L.A10 L.c10 x.f10 HXW.out.h10 (by simp [twoL_length, fourL_length, gapL_length]; try omega) l10).mono ?_
  rintro e W3 ⟨rfl, X1⟩
  replace X := X1
  clear X1 k10
  have k12 : W3.cell? ⟨w.heap.size, 12, none⟩ = some (.slice L.A12 x.f12.length L.c12) := X.cell 12
  go_wp2_with fail
  refine (X.dups L.A12 L.c12 x.f12 HXW.out.h12 (by simp [twoL_length, fourL_length, gapL_length]; try omega) l12).mono ?_
  rintro e W4 ⟨rfl, X1⟩
  replace X := X1
  clear X1 k12
  obtain ⟨u, hg, hR⟩ := X.ws
  obtain ⟨Au, cu, rfl⟩ := Kd.R_slice hR
  have k9 : W4.cell? ⟨w.heap.size + 1, 0, none⟩ = some (.slice Au ([] ++ fourL [x.f2, x.f7] ++ twoL [(x.f10.length : Int), (x.f12.length : Int)] ++ twoL (gapL x.f10) ++ fourL x.f12).length cu) := blk_cell hg 0
  have HRR := Lh hR
  have HXB := Lh X.bl
  clear hg hR X
  generalize ([] ++ fourL [x.f2, x.f7] ++ twoL [(x.f10.length : Int), (x.f12.length : Int)] ++ twoL (gapL x.f10) ++ fourL x.f12).length = nl at *
  go_wp2
  go_ret
  rw [HV.out]
  exact ValQ.of_R HRR.out (by omega) HXB.out
 by_cases hk : x.f0 = 16
 ·have HV := Lh (show valueD x = [] ++ fourL [x.f2, x.f7] ++ twoL [(x.f10.length : Int), (x.f11.length : Int), (x.f12.length : Int), 0] ++ twoL (gapL x.f10) ++ twoL (gapL x.f11) ++ fourL x.f12 from by unfold valueD; rw [if_neg (by omega), if_neg (by omega), if_neg (by omega), if_pos (by omega)]; rw [u16_len l10, u16_len l11, u16_len l12]; try rfl)
  have q0 : (x.f0 == 0) = false := by simp; omega
  have q1 : (x.f0 == 1) = false := by simp; omega
  have q2 : (x.f0 == 2) = false := by simp; omega
  have q3 : (x.f0 == 3) = false := by simp; omega
  have q16 : (x.f0 == 16) = true := by simp [hk]
  clear hk
  have k2 : W.cell? ⟨w.heap.size, 2, none⟩ = some (.int .u32 x.f2) := X.cell 2
  have k7 : W.cell? ⟨w.heap.size, 7, none⟩ = some (.int .u32 x.f7) := X.cell 7
  go_wp2_with fail
  refine (X.four [x.f2, x.f7] [.int .u32 (x.f2), .int .u32 (x.f7)] 2 rfl rfl (by simp [twoL_length, fourL_length, gapL_length]; try omega) (by decide)).mono ?_
  rintro e W1 ⟨rfl, X1⟩
  replace X := X1
  clear X1 k2 k7
  have k10 : W1.cell? ⟨w.heap.size, 10, none⟩ = some (.slice L.A10 x.f10.length L.c10) := X.cell 10
  have k11 : W1.cell? ⟨w.heap.size, 11, none⟩ = some (.slice L.A11 x.f11.length L.c11) := X.cell 11
  have k12 : W1.cell? ⟨w.heap.size, 12, none⟩ = some (.slice L.A12 x.f12.length L.c12) := X.cell 12
  go_wp2_with fail
  refine (X.two [(x.f10.length : Int), (x.f11.length : Int), (x.f12.length : Int), 0] [.int .u16 ((x.f10.length : Int)), .int .u16 ((x.f11.length : Int)), .int .u16 ((x.f12.length : Int)), .int .u16 (0)] 4 rfl rfl (by simp [twoL_length, fourL_length, gapL_length]; try omega) (by decide)).mono ?_
  rintro e W2 ⟨rfl, X1⟩
  replace X := X1
  clear X1 k10 k11 k12
  have k10 : W2.cell? ⟨w.heap.size, 10, none⟩ = some (.slice L.A10 x.f10.length L.c10) := X.cell 10
  go_wp2_with fail
  refine (X.gaps L.A10 L.c10 x.f10 HXW.out.h10 (by simp [twoL_length, fourL_length, gapL_length]; try omega) l10).mono ?_
  rintro e W3 ⟨rfl, X1⟩
  replace X := X1
  clear X1 k10
  have k11 : W3.cell? ⟨w.heap.size, 11, none⟩ = some (.slice L.A11 x.f11.length L.c11) := X.cell 11
  go_wp2_with fail
  refine (X.gaps L.A11 L.c11 x.f11 HXW.out.h11 (by simp [twoL_length, fourL_length, gapL_length]; try omega) l11).mono ?_
  rintro e W4 ⟨rfl, X1⟩
  replace X := X1
  clear X1 k11
  have k12 : W4.cell? ⟨w.heap.size, 12, none⟩ = some (.slice L.A12 x.f12.length L.c12) := X.cell 12
  go_wp2_with fail
  refine (X.dups L.A12 L.c12 x.f12 HXW.out.h12 (by simp [twoL_length, fourL_length, gapL_length]; try omega) l12).mono ?_
  rintro e W5 ⟨rfl, X1⟩
  replace X := X1
  clear X1 k12
  obtain ⟨u, hg, hR⟩ := X.ws
  obtain ⟨Au, cu, rfl⟩ := Kd.R_slice hR
  have k9 : W5.cell? ⟨w.heap.size + 1, 0, none⟩ = some (.slice Au ([] ++ fourL [x.f2, x.f7] ++ twoL [(x.f10.length : Int), (x.f11.length : Int), (x.f12.length : Int), 0] ++ twoL (gapL x.f10) ++ twoL (gapL x.f11) ++ fourL x.f12).length cu) := blk_cell hg 0
  have HRR := Lh hR
  have HXB := Lh X.bl
  clear hg hR X
  generalize ([] ++ fourL [x.f2, x.f7] ++ twoL [(x.f10.length : Int), (x.f11.length : Int), (x.f12.length : Int), 0] ++ twoL (gapL x.f10) ++ twoL (gapL x.f11) ++ fourL x.f12).length = nl at *
  go_wp2
  go_ret
  rw [HV.out]
  exact ValQ.of_R HRR.out (by omega) HXB.out
 by_cases hk0 : x.f0 = 4 ∨ x.f0 = 5 ∨ x.f0 = 6 ∨ x.f0 = 9
 ·have HV := Lh (show valueD x = (encP x.f14).1 from by unfold valueD; rw [if_neg (by omega), if_neg (by omega), if_neg (by omega), if_neg (by omega), if_pos (by omega)]; try rfl)
  have hq : ((x.f0 == 4) = true) ∨ ((x.f0 == 4) = false ∧ (x.f0 == 5) = true) ∨ ((x.f0 == 4) = false ∧ (x.f0 == 5) = false ∧ (x.f0 == 6) = true) ∨ ((x.f0 == 4) = false ∧ (x.f0 == 5) = false ∧ (x.f0 == 6) = false ∧ (x.f0 == 9) = true) := by rcases hk0 with h | h | h | h <;> simp [h]
  have q0 : (x.f0 == 0) = false := by simp; omega
  have q1 : (x.f0 == 1) = false := by simp; omega
  have q2 : (x.f0 == 2) = false := by simp; omega
  have q3 : (x.f0 == 3) = false := by simp; omega
  have q16 : (x.f0 == 16) = false := by simp; omega
  clear hk0
  rcases hq with q4 | ⟨q4, q5⟩ | ⟨q4, q5, q6⟩ | ⟨q4, q5, q6, q9⟩
  all_goals
   have k14 : W.cell? ⟨w.heap.size, 14, none⟩ = some (.slice L.A14 x.f14.length L.c14) := X.cell 14
   go_wp2_with fail
   refine (H14.out W X.bl).mono ?_
   rintro e W9 ⟨v0, rfl, hR0, hB0⟩
   obtain ⟨A0, c0, rfl, hle0, hC0⟩ := Kd.R_reads hR0
   have HR0 := Lh hR0
   have HBASE := Lh X.bl.size
   have HW1 := Lh (show w.heap.size + 1 < W.heap.size by obtain ⟨u, hg, _⟩ := X.ws; exact blk_lt hg)
   replace X := X.below hB0
   clear k14 hB0 hR0
   obtain ⟨u, hg, hR⟩ := X.ws
   obtain ⟨Au, cu, rfl⟩ := Kd.R_slice hR
   have k9 : W9.cell? ⟨w.heap.size + 1, 0, none⟩ = some (.slice Au [].length cu) := blk_cell hg 0
   have f9 := blk_frozen hg 0
   have HR2 := Lh (R_only HR0.out ((Only.refl (· = w.heap.size + 1) W9).setCell (p := ⟨w.heap.size + 1, 0, none⟩) (fun _ => rfl) (.slice A0 (encP x.f14).1.length c0)) (fun k hk _ h => by have := HW1.out; omega))
   have HB2 := Lh (X.bl.setCell (p := ⟨w.heap.size + 1, 0, none⟩) (Nat.le_succ _) (.slice A0 (encP x.f14).1.length c0))
   clear hg hR X hC0 HR0
   generalize (encP x.f14).1.length = nl at *
   go_wp2
   go_ret
   rw [HV.out]
   exact ValQ.of_R HR2.out HBASE.out HB2.out
 by_cases hk : x.f0 = 7
 ·have HV := Lh (show valueD x = [] ++ fourL [x.f2] from by unfold valueD; rw [if_neg (by omega), if_neg (by omega), if_neg (by omega), if_neg (by omega), if_neg (by omega), if_pos (by omega)]; try rfl)
  have q0 : (x.f0 == 0) = false := by simp; omega
  have q1 : (x.f0 == 1) = false := by simp; omega
  have q2 : (x.f0 == 2) = false := by simp; omega
  have q3 : (x.f0 == 3) = false := by simp; omega
  have q16 : (x.f0 == 16) = false := by simp; omega
  have q4 : (x.f0 == 4) = false := by simp; omega
  have q5 : (x.f0 == 5) = false := by simp; omega
  have q6 : (x.f0 == 6) = false := by simp; omega
  have q9 : (x.f0 == 9) = false := by simp; omega
  have q7 : (x.f0 == 7) = true := by simp [hk]
  clear hk
  have k2 : W.cell? ⟨w.heap.size, 2, none⟩ = some (.int .u32 x.f2) := X.cell 2
  go_wp2_with fail
  refine (X.four [x.f2] [.int .u32 (x.f2)] 1 rfl rfl (by simp [twoL_length, fourL_length, gapL_length]; try omega) (by decide)).mono ?_
  rintro e W1 ⟨rfl, X1⟩
  replace X := X1
  clear X1 k2
  obtain ⟨u, hg, hR⟩ := X.ws
  obtain ⟨Au, cu, rfl⟩ := Kd.R_slice hR
  have k9 : W1.cell? ⟨w.heap.size + 1, 0, none⟩ = some (.slice Au ([] ++ fourL [x.f2]).length cu) := blk_cell hg 0
  have HRR := Lh hR
  have HXB := Lh X.bl
  clear hg hR X
  generalize ([] ++ fourL [x.f2]).length = nl at *
  go_wp2
  go_ret
  rw [HV.out]
  exact ValQ.of_R HRR.out (by omega) HXB.out
 by_cases hk0 : x.f0 = 8 ∨ x.f0 = 11 ∨ x.f0 = 14
 ·have HV := Lh (show valueD x = [] from by unfold valueD; rw [if_neg (by omega), if_neg (by omega), if_neg (by omega), if_neg (by omega), if_neg (by omega), if_neg (by omega), if_pos (by omega)]; try rfl)
  have hq : ((x.f0 == 8) = true) ∨ ((x.f0 == 8) = false ∧ (x.f0 == 11) = true) ∨ ((x.f0 == 8) = false ∧ (x.f0 == 11) = false ∧ (x.f0 == 14) = true) := by rcases hk0 with h | h | h <;> simp [h]
  have q0 : (x.f0 == 0) = false := by simp; omega
  have q1 : (x.f0 == 1) = false := by simp; omega
  have q2 : (x.f0 == 2) = false := by simp; omega
  have q3 : (x.f0 == 3) = false := by simp; omega
  have q16 : (x.f0 == 16) = false := by simp; omega
  have q4 : (x.f0 == 4) = false := by simp; omega
  have q5 : (x.f0 == 5) = false := by simp; omega
  have q6 : (x.f0 == 6) = false := by simp; omega
  have q9 : (x.f0 == 9) = false := by simp; omega
  have q7 : (x.f0 == 7) = false := by simp; omega
  clear hk0
  rcases hq with q8 | ⟨q8, q11⟩ | ⟨q8, q11, q14⟩
  all_goals
   obtain ⟨u, hg, hR⟩ := X.ws
   obtain ⟨Au, cu, rfl⟩ := Kd.R_slice hR
   have k9 : W.cell? ⟨w.heap.size + 1, 0, none⟩ = some (.slice Au ([]).length cu) := blk_cell hg 0
   have HRR := Lh hR
   have HXB := Lh X.bl
   clear hg hR X
   generalize ([]).length = nl at *
   go_wp2
   go_ret
   rw [HV.out]
   exact ValQ.of_R HRR.out (by omega) HXB.out
 have HV := Lh (show valueD x = x.f13 from by unfold valueD; rw [if_neg (by omega), if_neg (by omega), if_neg (by omega), if_neg (by omega), if_neg (by omega), if_neg (by omega), if_neg (by omega)]; try rfl)
 have q0 : (x.f0 == 0) = false := by simp; omega
 have q1 : (x.f0 == 1) = false := by simp; omega
 have q2 : (x.f0 == 2) = false := by simp; omega
 have q3 : (x.f0 == 3) = false := by simp; omega
 have q16 : (x.f0 == 16) = false := by simp; omega
 have q4 : (x.f0 == 4) = false := by simp; omega
 have q5 : (x.f0 == 5) = false := by simp; omega
 have q6 : (x.f0 == 6) = false := by simp; omega
 have q9 : (x.f0 == 9) = false := by simp; omega
 have q7 : (x.f0 == 7) = false := by simp; omega
 have q8 : (x.f0 == 8) = false := by simp; omega
 have q11 : (x.f0 == 11) = false := by simp; omega
 have q14 : (x.f0 == 14) = false := by simp; omega
 clear hk hk0
 have k13 : W.cell? ⟨w.heap.size, 13, none⟩ = some (.slice L.A13 x.f13.length L.c13) := X.cell 13
 obtain ⟨u, hg, hR⟩ := X.ws
 obtain ⟨Au, cu, rfl⟩ := Kd.R_slice hR
 have k9 : W.cell? ⟨w.heap.size + 1, 0, none⟩ = some (.slice Au [].length cu) := blk_cell hg 0
 have f9 := blk_frozen hg 0
 have HB2 := Lh (X.bl.setCell (p := ⟨w.heap.size + 1, 0, none⟩) (Nat.le_succ _) (.slice L.A13 x.f13.length L.c13))
 clear hg hR X
 generalize hnl : x.f13.length = nl at *
 go_wp2
 go_ret
 rw [HV.out]
 subst hnl
 exact ⟨L.A13, L.c13, rfl, HXW.out.l13, fun W' hO => (HXX.out W' ((HB2.out.mono hb0).trans (hO.below (by have := HB2.out.size; omega) (fun k hk => hk.1)))).h13, HB2.out⟩
end Go.Proofs.YthiaakjbapgibaaGreat.Ch
end
section
namespace Go.Proofs.YthiaakjbapgibaaGreat.As
open Go.RowKit YthiaakjbapgibaaGreatW.PrintWords YthiaakjbapgibaaGreatW.PrintLast YthiaakjbapgibaaGreatW.PrintMore Base PCh
theorem op_at {w : World} {A : Option Addr} {l : List Opn} (h : kOp.C w A l.length l) (i : Nat) (hi : i < l.length) :
  ∃ ad o L, A = some ad ∧ l[i]? = some o ∧ o ∈ l ∧ (∀ j v, (opV o L).toList[j]? = some v → w.cell? ((ad.add (i * 21)).add j) = some v) ∧ Go.Proofs.YthiaakjbapgibaaGreat.Ch.CR w o.x L := by
 obtain ⟨ad, c, e, _, hK, hc0⟩ := Kd.C_get h l[i] (i : Int) (by omega) (by omega)
 rw [Int.toNat_natCast] at hK hc0
 have e2 : l.getD i l[i] = l[i] := getD_lt _ _ _ hi
 rw [e2] at hK
 obtain ⟨L, rfl, hx⟩ := kOp_open hK
 refine ⟨ad, l[i], L, e, List.getElem?_eq_getElem hi, List.getElem_mem hi, fun j v hv => ?_, hx⟩
 rw [Addr.add_add]
 exact hc0 j v hv
theorem valOk_of {x : Chk} {L : Lay} (h : OkX x) : Go.Proofs.YthiaakjbapgibaaGreat.Ch.ValOk x L :=
 fun W hW _ h10 h11 h12 _ => (Go.Proofs.YthiaakjbapgibaaGreat.Ch.value_calls W.heap.size W x L (Nat.le_refl _) (fun W' hB => hW.below hB) h10 h11 h12 (by have := h.l13; omega)).mono fun e w' h => h.P
structure LI (w : World) (g : Nat) (K : Cfg) (m : Mst) (W : World) : Prop where
 mr : MR w.heap.size g K m W
 mi : MI m
 bl : Below w.heap.size w W
 bx : W.heap[w.heap.size]? = some (.cells (confV K) 52 (0, 0))
theorem LI.below {w : World} {g : Nat} {K : Cfg} {m : Mst} {W W' : World} (h : LI w g K m W) (hb : Below W.heap.size W W') : LI w g K m W' := ⟨h.mr.below hb, h.mi, below_then h.bl h.bl.size hb, blk_below h.bx hb⟩
theorem LI.step {w : World} {g : Nat} {K : Cfg} {m : Mst} {W W' : World} {r : Out} {e : Ending} (h : LI w g K m W) (hP : CallP w.heap.size g K m r W e W') (hi : MI (aft m r)) : LI w g K (aft m r) W' := by
 obtain ⟨hO, hM⟩ := hP.aft
 have hk := hP.kq h.mr
 exact ⟨hM, hi, h.bl.trans (hO.below h.bl.size (fun k hk => by have := h.mr.1; omega)), hk.typ _ _ _ _ h.bx rfl⟩
theorem LI.do {w : World} {g : Nat} {K : Cfg} {m : Mst} {W : World} {o : Opn} {L : Lay} (h : LI w g K m W) (hK : KW K) (ho : OkO o) (hx : Go.Proofs.YthiaakjbapgibaaGreat.Ch.CR w o.x L) :
  Calls Tryz.prog 23 #[.pointer (some ⟨g, 0, none⟩), .agg (opV o L)] W fun e W' => (∃ u c, e = .returned (.tuple #[u, .int .i64 c])) ∧ LI w g K (aft m (doP K m o)) W' ∧ CallP w.heap.size g K m (doP K m o) W e W' :=
 (do_ms h.mr hK h.mi.w ho.x.w h.mi.tr1000 (fun W' hk => hx.below (h.bl.trans (hk.below h.bl.size))) (valOk_of ho.x)).mono fun e W' hP => ⟨hP.ret, h.step hP (aft_MI hK ho.x.w h.mi), hP⟩
attribute [local go_sem] max2_int max_two
end Go.Proofs.YthiaakjbapgibaaGreat.As
end
section
namespace Go.Proofs.YthiaakjbapgibaaGreat.As
open Go.RowKit YthiaakjbapgibaaGreatW.PrintWords YthiaakjbapgibaaGreatW.PrintLast YthiaakjbapgibaaGreatW.PrintMore Base PCh
def staT16 : Bool × List (List Nat × List Nat) := (true, [([], []), ([0], [0]), ([], []), ([1, 2], [1, 2]), ([3, 1], [3]), ([4], [4]), ([4], [4]), ([5, 6, 4], [4, 5, 6]), ([4, 7], [4, 7]), ([8, 4], [8]), ([9], [9]), ([9], [9]), ([10, 11, 9], [9, 10, 11]), ([9, 12], [9, 12]), ([13, 9], [13]), ([14], [14]), ([15, 14, 14], [14, 15]), ([14], [14]), ([16, 17, 14], [14, 16, 17]), ([14, 18], [14, 18]), ([19, 16], [19]), ([20], [20]), ([21, 20], [20, 21]), ([22, 20, 20], [20, 22]), ([23], [23]), ([24, 23], [23, 24]), ([25, 23], [23, 25]), ([23, 26, 20], [20, 23, 26]), ([20, 27], [20, 27]), ([28, 23], [28]), ([29], [29]), ([30, 29], [29, 30]), ([31, 29], [29, 31]), ([29, 32], [29, 32])])
def staB16 : List Nat := [0, 1, 0, 7, 15, 31, 31, 127, 255, 511, 1023, 1023, 4095, 8191, 16383, 32767, 65535, 32767, 262143, 524287, 1048575, 2097151, 4194303, 8388607, 16777215, 33554431, 67108863, 134217727, 268435455, 536870911, 1073741823, 2147483647, 4294967295, 8589934591]
theorem statab16 : Go.Proofs.YthiaakjbapgibaaGreatW.PrintLast.rtab .any (Go.Proofs.YthiaakjbapgibaaGreatW.PrintLast.opsOf Tryz.f8 16) = staT16 := by kernel_rfl
theorem stabits16 : Go.Proofs.YthiaakjbapgibaaGreatW.PrintLast.waitsOk staT16.2 staB16 = true := by kernel_rfl
def stbT16 : Bool × List (List Nat × List Nat) := (true, [([], []), ([0], [0]), ([], []), ([1, 2], [1, 2]), ([3, 1], [3]), ([4], [4]), ([4], [4]), ([5, 6, 4], [4, 5, 6]), ([4, 7], [4, 7]), ([8, 4], [8]), ([9], [9]), ([9], [9]), ([10, 11, 9], [9, 10, 11]), ([9, 12], [9, 12]), ([13, 9], [13]), ([14], [14]), ([15, 14, 14], [14, 15]), ([14], [14]), ([16, 17, 14], [14, 16, 17]), ([14, 18], [14, 18]), ([19, 16], [19]), ([20], [20]), ([21, 20], [20, 21]), ([22, 20, 20], [20, 22]), ([23], [23]), ([24, 23], [23, 24]), ([25, 23], [23, 25]), ([23, 26, 20], [20, 23, 26]), ([20, 27], [20, 27]), ([28, 23], [28]), ([29], [29]), ([30, 29], [29, 30]), ([31, 29], [29, 31]), ([29, 32], [29, 32])])
def stbB16 : List Nat := [0, 1, 0, 7, 15, 31, 31, 127, 255, 511, 1023, 1023, 4095, 8191, 16383, 32767, 65535, 32767, 262143, 524287, 1048575, 2097151, 4194303, 8388607, 16777215, 33554431, 67108863, 134217727, 268435455, 536870911, 1073741823, 2147483647, 4294967295, 8589934591]
theorem stbtab16 : Go.Proofs.YthiaakjbapgibaaGreatW.PrintLast.rtab .any (Go.Proofs.YthiaakjbapgibaaGreatW.PrintLast.opsOf Tryz.f8 16) = stbT16 := by kernel_rfl
theorem stbbits16 : Go.Proofs.YthiaakjbapgibaaGreatW.PrintLast.waitsOk stbT16.2 stbB16 = true := by kernel_rfl
def StrP (m : Mst) (tag : Int) (r : Out) : Prop := (∃ c, r = .error c ∧ c ≠ 0) ∨ r = .ok (m, []) ∨ ∃ y, r = .ok (m, [actSend y tag]) ∧ y.f1 = 1
theorem StrP.er {m : Mst} {tag : Int} (c : Int) (h : c ≠ 0) : StrP m tag (.error c) := Or.inl ⟨c, rfl, h⟩
theorem StrP.ite {m : Mst} {tag : Int} {p : Prop} [Decidable p] {a b : Out} (h1 : p → StrP m tag a) (h2 : ¬ p → StrP m tag b) : StrP m tag (if p then a else b) := by
 by_cases h : p
 ·rw [if_pos h]; exact h1 h
 ·rw [if_neg h]; exact h2 h
theorem StrP.z {m : Mst} {tag : Int} {b : Bool} (hb : b = false) (q : Out) : StrP m tag (if m.s = 0 then (.error 222 : Out) else if b = false then .error 221 else q) :=
 .ite (fun _ => .er 222 (by decide)) (fun _ => .ite (fun _ => .er 221 (by decide)) (fun h => absurd hb h))
theorem take_strange {K : Cfg} {m : Mst} {tag now : Int} {x : Chk} (h1 : ¬ tag = m.tag) (h2 : ¬ tag = m.pr.f0) (h3 : ¬ x.f0 = 10) (h4 : ¬ x.f0 = 1) : StrP m tag (takeP K m tag x now) := by
 have ho : ownB m tag x = false := by
  unfold ownB
  rw [if_neg h4]
  split
  ·split
   ·rfl
   ·exact decide_eq_false h2
  ·exact decide_eq_false h1
 have hot : StrP m tag (otherP m tag x) := .ite (fun _ => Or.inr (Or.inr ⟨_, rfl, rfl⟩)) (fun _ => .ite (fun _ => .er 221 (by decide)) (fun h => absurd ho h))
 refine .ite (fun _ => .er 1 (by decide)) (fun _ => .ite (fun _ => .er 1 (by decide)) (fun _ => .ite (fun _ => .er 1 (by decide)) (fun _ => .ite (fun h => absurd h h4) (fun _ => .ite (fun _ => ?_) (fun _ => .ite (fun h => absurd h h3) (fun _ => .ite (fun _ => ?_) (fun _ => .ite (fun _ => ?_) (fun _ => .ite (fun _ => ?_) (fun _ => .ite (fun _ => ?_) (fun _ => .ite (fun _ => ?_) (fun _ => .ite (fun _ => ?_) (fun _ => ?_))))))))))))
 ·exact StrP.z ho _
 ·exact StrP.z ho _
 ·exact StrP.z ho _
 ·exact StrP.z ho _
 ·exact StrP.z ho _
 ·exact .ite (fun _ => Or.inr (Or.inr ⟨_, rfl, rfl⟩)) (fun _ => .ite (fun _ => .er 221 (by decide)) (fun h => absurd ho h))
 ·exact .ite (fun _ => hot) (fun _ => .ite (fun _ => .er 221 (by decide)) (fun h => absurd ho h))
 ·exact hot
structure L2 (w : World) (x : Chk) (L : Lay) (g : Nat) (K : Cfg) (m : Mst) (W : World) : Prop where
 l : LI w g K m W
 bc : W.heap[w.heap.size + 1]? = some (.cells (Go.Proofs.YthiaakjbapgibaaGreat.Ch.CV x L) 65 (0, 0))
theorem L2.below {w : World} {x : Chk} {L : Lay} {g : Nat} {K : Cfg} {m : Mst} {W W' : World} (h : L2 w x L g K m W) (hb : Below W.heap.size W W') : L2 w x L g K m W' := ⟨h.l.below hb, blk_below h.bc hb⟩
theorem L2.step {w : World} {x : Chk} {L : Lay} {g : Nat} {K : Cfg} {m : Mst} {W W' : World} {r : Out} {e : Ending} (h : L2 w x L g K m W) (hP : CallP w.heap.size g K m r W e W') (hi : MI (aft m r)) : L2 w x L g K (aft m r) W' := ⟨h.l.step hP hi, (hP.kq h.l.mr).typ _ _ _ _ h.bc rfl⟩
theorem L2.do {w : World} {x : Chk} {L : Lay} {g : Nat} {K : Cfg} {m : Mst} {W : World} {o : Opn} {L' : Lay} (h : L2 w x L g K m W) (hK : KW K) (ho : OkO o) (hx : Go.Proofs.YthiaakjbapgibaaGreat.Ch.CR w o.x L') :
  Calls Tryz.prog 23 #[.pointer (some ⟨g, 0, none⟩), .agg (opV o L')] W fun e W' => (∃ u c, e = .returned (.tuple #[u, .int .i64 c])) ∧ L2 w x L g K (aft m (doP K m o)) W' :=
 (h.l.do hK ho hx).mono fun e W' ⟨h1, h2, h3⟩ => ⟨h1, h.step h3 h2.mi⟩
def StrI (Wb : World) (s0 : Int) (p : Pr) (s : Nat) (vs : Nat → Value) (W : World) : Prop :=
 match s with
 | 0 => Below Wb.heap.size Wb W
 | 1 => vs 1 = .int .i64 s0 ∧ Below Wb.heap.size Wb W
 | _ => vs 1 = .int .i64 s0 ∧ vs 2 = .agg (PV p) ∧ Below Wb.heap.size Wb W
theorem ns_b {Wb : World} {s0 : Int} {p : Pr} {s : Nat} {vs : Nat → Value} {W : World} (h : StrI Wb s0 p s vs W) : Below Wb.heap.size Wb W := by
 match s, h with
 | 0, h => exact h
 | 1, h => exact h.2
 | _ + 2, h => exact h.2.2
set_option maxHeartbeats 8000000 in
theorem strangers_row {w : World} (K : Cfg) (hK : OkK K) (A : Option Addr) (c : Nat) (l : List Opn) (hC : kOp.C w A l.length l) (hc : l.length ≤ c) (hp : l.length * 200 ≤ 140737488351232 ∧ ∀ x ∈ l, OkO x) (t : Int) (hwt : (Lit.int .u32 t).wf = true) (x : Chk) (L : Lay) (hx : Go.Proofs.YthiaakjbapgibaaGreat.Ch.CR w x L) (hox : OkX x) (now : Int) (hwn : (Lit.int .i64 now).wf = true) :
  Calls Tryz.prog 8 #[.agg (confV K), .slice A l.length c, .int .u32 t, .agg (Go.Proofs.YthiaakjbapgibaaGreat.Ch.CV x L), .int .i64 now] w fun e w' => e = .returned (.bool true) ∧ Below w.heap.size w w' := by
 have HBX := Lh (blk_alloc (blk_new w (.cells (confV K) 52)) (.cells (Go.Proofs.YthiaakjbapgibaaGreat.Ch.CV x L) 65))
 have HB := Lh (below_alloc (below_alloc (Below.refl w.heap.size w) (.cells (confV K) 52)) (.cells (Go.Proofs.YthiaakjbapgibaaGreat.Ch.CV x L) 65))
 have hbc := blk_new (w.alloc (.cells (confV K) 52)) (.cells (Go.Proofs.YthiaakjbapgibaaGreat.Ch.CV x L) 65)
 rw [World.size_alloc] at hbc
 have HBC := Lh hbc
 have HX := Lh hx
 have HOX := Lh hox
 clear hbc hx hox hwn
 have HI := Lh (show (Tryz.prog.info? 52).map (·.size) = some (confV K).size by rw [show (confV K).size = 25 by simp [confV, confR, hK.key]]; kernel_rfl)
 have HOI := Lh (fun (o : Opn) (L : Lay) => (show (Tryz.prog.info? 67).map (·.size) = some (opV o L).size by kernel_rfl))
 have HK := Lh hK
 have HC := Lh hC
 have HP := Lh hp
 have hlen : l.length < 1000000000000 := by have := hp.1; omega
 clear hK hC hp hwt
 go_enter Tryz.func8, Tryz.ntmps8
 go_upto_region 1 with (fail)
 change Code.wp _ _ _ _ ((w.alloc (.cells (confV K) 52)).alloc (.cells (Go.Proofs.YthiaakjbapgibaaGreat.Ch.CV x L) 65))
 generalize (w.alloc (.cells (confV K) 52)).alloc (.cells (Go.Proofs.YthiaakjbapgibaaGreat.Ch.CV x L) 65) = W1 at *
 go_wp2_with (refine wpList_load_row rfl 52 _ rfl _ rfl 52 _ (0, 0) _ HBX.out Tryz.underlying52 rfl HI.out ?_)
 refine (new_calls W1 K HK.out.key).mono ?_
 intro e W2 hN
 obtain ⟨hB2, hN2⟩ := hN
 by_cases hok : okK K
 rotate_left
 ·rw [if_neg hok] at hN2
  subst hN2
  have HB2 := Lh (HB.out.trans (hB2.mono HB.out.size))
  clear hB2 hok
  go_wp2_with fail
  refine (awake_calls W2).mono ?_
  rintro e W3 ⟨rfl, hB3⟩
  have HB3 := Lh (HB2.out.trans (hB3.mono HB2.out.size))
  clear hB3
  go_wp2
  go_ret
  exact ⟨rfl, HB3.out⟩
 rw [if_pos hok] at hN2
 obtain ⟨g, rfl, hg, hrow⟩ := hN2
 have HLI2 := Lh (show L2 w x L g K (newM K) W2 from ⟨⟨MR.new HK.out.key (Nat.le_trans HB.out.size hg) hrow, MI.new K, HB.out.trans (hB2.mono HB.out.size), blk_below HBX.out hB2⟩, blk_below HBC.out hB2⟩)
 have HKW := Lh (HK.out.toKW hok)
 clear hB2 hg hrow hok
 go_wp2_with fail
 refine (awake_calls W2).mono ?_
 rintro e W3 ⟨rfl, hB3⟩
 have HLI := Lh (HLI2.out.below hB3)
 clear hB3 HLI2
 go_wp2_with fail
 go_loopw [13] (fun v13 wr => ∃ (i : Nat) (m : Mst), i ≤ l.length ∧ v13 = .int .i64 (i : Int) ∧ Hid (L2 w x L g K m wr)) (fun v13 _ => l.length - (intOf v13).toNat)
 case atStart => exact ⟨0, newM K, Nat.zero_le _, rfl, HLI.out⟩
 case round =>
  obtain ⟨i, m, hi, rfl, HL⟩ := hrel
  clear HLI
  by_cases hlt : i < l.length
  ·obtain ⟨ad, o, L, rfl, _, hmem, hcell0, hx⟩ := op_at HC.out i hlt
   have hlt2 : ((i : Int) < (l.length : Int)) := by omega
   have HD := Lh (HL.out.do HKW.out (HP.out.2 o hmem) hx)
   have hcell : ∀ j v, (opV o L).toList[j]? = some v → wr.cell? ((ad.add (i * 21)).add j) = some v := fun j v hv => pw_cell_below HL.out.l.bl (hcell0 j v hv)
   have HCELL := Lh hcell
   clear hcell hcell0 hx HC
   go_wp2_with (refine wpList_load_cells rfl 67 _ rfl rfl (opV o L) _ HCELL.out Tryz.underlying67 rfl (HOI.out o L) ?_)
   refine HD.out.mono ?_
   rintro e w5 ⟨⟨u, c5, rfl⟩, hL5⟩
   have HL5 := Lh hL5
   clear hL5 HL HD HCELL
   go_wp2
   go_roundw
   case rel => exact ⟨i + 1, _, by omega, by go_num, HL5⟩
   case measure => simp [intOf]; omega
  ·obtain rfl : i = l.length := by omega
   go_upto_region 10 with (fail)
   go_wp2_with fail
   refine (own_mr HL.out.l.mr).mono ?_
   rintro e W4 ⟨rfl, hB4⟩
   have HL4 := Lh (HL.out.below hB4)
   clear hB4 HL
   go_wp2_with fail
   refine (state_mr HL4.out.l.mr).mono ?_
   rintro e W4' ⟨rfl, rfl⟩
   go_wp2_with fail
   refine (peer_mr HL4.out.l.mr).mono ?_
   rintro e W5 ⟨rfl, hB5⟩
   have HL5 := Lh (HL4.out.below (below_then (Below.refl _ _) (Nat.le_refl _) hB5))
   clear hB5 HL4
   have HMI := Lh HL5.out.l.mi
   obtain ⟨s0, hs0⟩ : ∃ v, m.s = v := ⟨_, rfl⟩
   obtain ⟨tg, htg⟩ : ∃ v, m.tag = v := ⟨_, rfl⟩
   obtain ⟨tn, htn⟩ : ∃ v, m.tsn = v := ⟨_, rfl⟩
   obtain ⟨p, hp⟩ : ∃ v, m.pr = v := ⟨_, rfl⟩
   have HMS := Lh hs0
   have HMT := Lh htg
   have HMN := Lh htn
   have HMP := Lh hp
   rw [hs0, htg, htn, hp]
   clear hs0 htg htn hp
   have HZ := Lh (blk_new W5 (.cells #[.int .u32 0, .int .u32 0, .int .u32 0, .int .u16 0, .int .u16 0] 71))
   have HPX := Lh (setRow_heap _ _ _ (PV p) _ _ HZ.out)
   have HL6 := Lh (HL5.out.below (below_setRow (below_alloc (Below.refl _ _) (.cells #[.int .u32 0, .int .u32 0, .int .u32 0, .int .u16 0, .int .u16 0] 71)) (Nat.le_refl _) (PV p)))
   go_upto_region 12 with (refine wpList_store_row rfl 71 _ _ rfl W5.heap.size (PV p) rfl rfl 71 _ HZ.out (by kernel_rfl) rfl (by simp [PV, Value.oneCell']) ?_)
   clear HZ HL5
   generalize (W5.alloc (.cells #[.int .u32 0, .int .u32 0, .int .u32 0, .int .u16 0, .int .u16 0] 71)).setRow W5.heap.size (PV p) = W6 at *
   generalize W5.heap.size = gq at *
   have kp : W6.cell? ⟨gq, 0, none⟩ = some (.int .u32 p.f0) := blk_cell HPX.out 0
   have kx : W6.cell? ⟨w.heap.size + 1, 0, none⟩ = some (.int .u8 x.f0) := blk_cell HL6.out.bc 0
   by_cases q1 : t = tg
   ·have q1a : decide (t = tg) = true := decide_eq_true q1
    have q1b : (t == tg) = true := by simpa using q1
    have HQ := Lh q1
    clear q1
    go_wp2
    go_ret
    exact ⟨rfl, HL6.out.l.bl⟩
   have q1a : decide (t = tg) = false := decide_eq_false q1
   have q1b : (t == tg) = false := by simpa using q1
   replace q1 := Lh q1
   by_cases q2 : t = p.f0
   ·have q2a : decide (t = p.f0) = true := decide_eq_true q2
    have q2b : (t == p.f0) = true := by simpa using q2
    have HQ := Lh q2
    clear q2
    go_wp2
    go_ret
    exact ⟨rfl, HL6.out.l.bl⟩
   have q2a : decide (t = p.f0) = false := decide_eq_false q2
   have q2b : (t == p.f0) = false := by simpa using q2
   replace q2 := Lh q2
   by_cases q3 : x.f0 = 10
   ·have q3a : decide (x.f0 = 10) = true := decide_eq_true q3
    have q3b : (x.f0 == 10) = true := by simpa using q3
    have HQ := Lh q3
    clear q3
    go_wp2
    go_ret
    exact ⟨rfl, HL6.out.l.bl⟩
   have q3a : decide (x.f0 = 10) = false := decide_eq_false q3
   have q3b : (x.f0 == 10) = false := by simpa using q3
   replace q3 := Lh q3
   by_cases q4 : x.f0 = 1
   ·have q4a : decide (x.f0 = 1) = true := decide_eq_true q4
    have q4b : (x.f0 == 1) = true := by simpa using q4
    have HQ := Lh q4
    clear q4
    go_wp2
    go_ret
    exact ⟨rfl, HL6.out.l.bl⟩
   have q4a : decide (x.f0 = 1) = false := decide_eq_false q4
   have q4b : (x.f0 == 1) = false := by simpa using q4
   replace q4 := Lh q4
   go_upto_region 14 with (fail)
   clear q1a q1b q2a q2b q3a q3b q4a q4b kp kx
   have HSTR := Lh (take_strange (K := K) (m := m) (tag := t) (now := now) (x := x) (by rw [HMT.out]; exact q1.out) (by rw [HMP.out]; exact q2.out) q3.out q4.out)
   have HTK := Lh (take_ms HL6.out.l.mr HKW.out HMI.out.w HOX.out.w HMI.out.tr1000 (fun W' hk => HX.out.below (HL6.out.l.bl.trans (hk.below HL6.out.l.bl.size))) (valOk_of HOX.out) t now)
   go_wp2_with (refine wpList_load_row rfl 65 _ rfl _ rfl 65 _ (0, 0) _ HL6.out.bc Tryz.underlying65 rfl (by kernel_rfl) ?_)
   refine HTK.out.mono ?_
   intro e W7 hP
   have hPX7 := (hP.kq HL6.out.l.mr).typ _ _ _ _ HPX.out rfl
   rcases HSTR.out with ⟨c, h, hc0⟩ | hok
   ·have HL7 := Lh (HL6.out.step hP (by rw [h]; exact HMI.out))
    rw [h] at hP HL7
    obtain ⟨_, rfl, _⟩ := hP
    have HCN := Lh (show (c != 0) = true by simpa using hc0)
    have HPX7 := Lh hPX7
    clear hPX7 hc0 h HTK HL6 HPX
    replace HL7 := Lh (show L2 w x L g K m W7 from HL7.out)
    go_wp2_with fail
    refine (own_mr HL7.out.l.mr).mono ?_
    rintro e Wb ⟨rfl, hB8⟩
    have HL8 := Lh (HL7.out.below hB8)
    have HPB := Lh (blk_below HPX7.out hB8)
    rw [HMT.out, HMN.out]
    have HST := Lh (fun (W : World) (h : Below Wb.heap.size Wb W) => (show Calls Tryz.prog 17 #[.pointer (some ⟨g, 0, none⟩)] W fun e w' => e = .returned (.int .i64 s0) ∧ W = w' by rw [← HMS.out]; exact state_mr (HL8.out.below h).l.mr))
    have HPE := Lh (fun (W : World) (h : Below Wb.heap.size Wb W) => (show Calls Tryz.prog 30 #[.pointer (some ⟨g, 0, none⟩)] W fun e w' => e = .returned (.agg (PV p)) ∧ Below W.heap.size W w' by rw [← HMP.out]; exact peer_mr (HL8.out.below h).l.mr))
    clear hB8 HL7 HPX7
    go_upto_region 16 with (fail)
    refine grow_v (B := stbB16) [0, 1, 2, 3, 4, 5, 6, 7, 8, 9, 10, 11, 12, 13, 14, 15, 16, 17, 18, 19, 20, 21, 22, 23, 24, 25, 26, 27, 28, 29, 30, 31, 32, 33] [1, 16] (StrI Wb s0 p) (fun vs => [(0, 86, .pointer (some ⟨g, 0, none⟩)), (1, 87, vs 1), (2, 88, .int .i64 s0), (3, 89, .bool false), (4, 90, .bool false), (5, 91, .int .u32 tg), (6, 92, .int .u32 tg), (7, 93, .bool false), (8, 94, .bool false), (9, 95, .bool false), (10, 96, .int .u32 tn), (11, 97, .int .u32 tn), (12, 98, .bool false), (13, 99, .bool false), (14, 100, .bool false), (15, 101, .pointer (some ⟨g, 0, none⟩)), (16, 102, vs 2), (17, 103, .agg (PV p)), (18, 104, .bool false), (19, 105, .bool false), (20, 106, .bool false), (21, 107, .int .i64 c), (22, 108, .bool true), (23, 109, .bool true), (24, 110, .slice none 0 0), (25, 111, .int .i64 0), (26, 112, .bool false), (27, 113, .bool false), (28, 114, .bool false), (29, 115, .bool false), (30, 116, .slice none 0 0), (31, 117, .int .i64 0), (32, 118, .bool false), (33, 119, .bool false)]) (by kernel_rfl) rfl (l := #[false, false, false, false, false, false, false, false, false, false, false, false, false, false, false, false, false, false, false, false, false, false, false, false, false, false, false, false, false, false, false, false, false, false]) rfl stbtab16 stbbits16 (by kernel_rfl) (by kernel_rfl) (fun _ => rfl) rfl (fun _ => undef) ?_ ?_ ?_
    ·exact pw_below_drewN (Below.refl _ _) 1
    ·exact steps_cons (gv_op 0 0 [(11, fun vs => .pointer (some ⟨g, 0, none⟩))] 0 0 (fv := fun vs => .pointer (some ⟨g, 0, none⟩)) rfl rfl (wt_none rfl) (fun _ => rfl) (fun _ => rfl) rfl rfl (by kernel_rfl) (by kernel_rfl) ⟨rd_off (p := 11) (fun _ => rfl) rfl, trivial⟩ (fun a w s vs hm hs h e => by
      obtain rfl : s = 0 := by omega
      obtain ⟨e11, _⟩ := e
      replace e11 : a.tmps[11]? = some (.pointer (some ⟨g, 0, none⟩)) := e11
      go_simp)) (steps_cons (gv_call (vals := fun vs => [.pointer (some ⟨g, 0, none⟩)]) 1 1 0 rfl rfl (wt_none rfl) rfl (fun _ => rfl) (fun _ _ => rfl) (fun _ => rfl) rfl (by kernel_rfl) Tryz.func17 (by kernel_rfl) rfl rfl (arv_t (rd_on (p := 86) 0 0 (fun _ => rfl) (fun _ => rfl) (by kernel_rfl) rfl) (arv_n)) (fun vs w h => (HST.out w (ns_b h)).mono fun e w' ⟨he, hw⟩ => ⟨_, he, rfl, by rw [← hw]; exact ns_b h⟩)) (steps_cons (gv_op 0 1 [(16, fun vs => .int .i64 s0)] 2 2 (fv := fun vs => .int .i64 s0) rfl rfl (wt_none rfl) (fun _ => rfl) (fun _ => rfl) rfl rfl (by kernel_rfl) (by kernel_rfl) ⟨rd_off (p := 16) (fun _ => rfl) rfl, trivial⟩ (fun a w s vs hm hs h e => by
      obtain ⟨e16, _⟩ := e
      replace e16 : a.tmps[16]? = some (.int .i64 s0) := e16
      go_simp)) (steps_cons (gv_op 1 1 [(87, fun vs => vs 1), (88, fun vs => .int .i64 s0)] 3 3 (fv := fun vs => .bool false) rfl rfl (wt_none rfl) (fun _ => rfl) (fun _ => rfl) rfl rfl (by kernel_rfl) (by kernel_rfl) ⟨rd_on (p := 87) 1 1 (fun _ => rfl) (fun _ => rfl) (by kernel_rfl) rfl, rd_on (p := 88) 2 2 (fun _ => rfl) (fun _ => rfl) (by kernel_rfl) rfl, trivial⟩ (fun a w s vs hm hs h e => by
      obtain rfl : s = 1 := by omega
      obtain ⟨e87, e88, _⟩ := e
      replace e87 : a.tmps[87]? = some (vs 1) := e87
      replace e88 : a.tmps[88]? = some (.int .i64 s0) := e88
      have h1 := h.1
      rw [h1] at e87
      clear h1 h
      go_simp; first | done | rfl)) (steps_cons (gv_op 1 1 [(89, fun vs => .bool false)] 4 4 (fv := fun vs => .bool false) rfl rfl (wt_none rfl) (fun _ => rfl) (fun _ => rfl) rfl rfl (by kernel_rfl) (by kernel_rfl) ⟨rd_on (p := 89) 3 3 (fun _ => rfl) (fun _ => rfl) (by kernel_rfl) rfl, trivial⟩ (fun a w s vs hm hs h e => by
      obtain rfl : s = 1 := by omega
      obtain ⟨e89, _⟩ := e
      replace e89 : a.tmps[89]? = some (.bool false) := e89
      go_simp)) (steps_cons (gv_op 1 1 [(20, fun vs => .int .u32 tg)] 5 5 (fv := fun vs => .int .u32 tg) rfl rfl (wt_on (g := 4) (t := 90) rfl rfl rfl (rd_on (p := 90) 4 4 (fun _ => rfl) (fun _ => rfl) (by kernel_rfl) rfl)) (fun _ => rfl) (fun _ => rfl) rfl rfl (by kernel_rfl) (by kernel_rfl) ⟨rd_off (p := 20) (fun _ => rfl) rfl, trivial⟩ (fun a w s vs hm hs h e => by
      obtain rfl : s = 1 := by omega
      obtain ⟨e20, _⟩ := e
      replace e20 : a.tmps[20]? = some (.int .u32 tg) := e20
      go_simp)) (steps_cons (gv_op 1 1 [(14, fun vs => .int .u32 tg)] 6 6 (fv := fun vs => .int .u32 tg) rfl rfl (wt_on (g := 4) (t := 90) rfl rfl rfl (rd_on (p := 90) 4 4 (fun _ => rfl) (fun _ => rfl) (by kernel_rfl) rfl)) (fun _ => rfl) (fun _ => rfl) rfl rfl (by kernel_rfl) (by kernel_rfl) ⟨rd_off (p := 14) (fun _ => rfl) rfl, trivial⟩ (fun a w s vs hm hs h e => by
      obtain rfl : s = 1 := by omega
      obtain ⟨e14, _⟩ := e
      replace e14 : a.tmps[14]? = some (.int .u32 tg) := e14
      go_simp)) (steps_cons (gv_op 1 1 [(91, fun vs => .int .u32 tg), (92, fun vs => .int .u32 tg)] 7 7 (fv := fun vs => .bool false) rfl rfl (wt_on (g := 4) (t := 90) rfl rfl rfl (rd_on (p := 90) 4 4 (fun _ => rfl) (fun _ => rfl) (by kernel_rfl) rfl)) (fun _ => rfl) (fun _ => rfl) rfl rfl (by kernel_rfl) (by kernel_rfl) ⟨rd_on (p := 91) 5 5 (fun _ => rfl) (fun _ => rfl) (by kernel_rfl) rfl, rd_on (p := 92) 6 6 (fun _ => rfl) (fun _ => rfl) (by kernel_rfl) rfl, trivial⟩ (fun a w s vs hm hs h e => by
      obtain rfl : s = 1 := by omega
      obtain ⟨e91, e92, _⟩ := e
      replace e91 : a.tmps[91]? = some (.int .u32 tg) := e91
      replace e92 : a.tmps[92]? = some (.int .u32 tg) := e92
      go_simp; first | done | rfl)) (steps_cons (gv_op 1 1 [(90, fun vs => .bool false), (93, fun vs => .bool false)] 8 8 (fv := fun vs => .bool false) rfl rfl (wt_none rfl) (fun _ => rfl) (fun _ => rfl) rfl rfl (by kernel_rfl) (by kernel_rfl) ⟨rd_on (p := 90) 4 4 (fun _ => rfl) (fun _ => rfl) (by kernel_rfl) rfl, rd_on (p := 93) 7 7 (fun _ => rfl) (fun _ => rfl) (by kernel_rfl) rfl, trivial⟩ (fun a w s vs hm hs h e => by
      obtain rfl : s = 1 := by omega
      obtain ⟨e90, e93, _⟩ := e
      replace e90 : a.tmps[90]? = some (.bool false) := e90
      replace e93 : a.tmps[93]? = some (.bool false) := e93
      go_simp; first | done | rfl)) (steps_cons (gv_op 1 1 [(94, fun vs => .bool false)] 9 9 (fv := fun vs => .bool false) rfl rfl (wt_none rfl) (fun _ => rfl) (fun _ => rfl) rfl rfl (by kernel_rfl) (by kernel_rfl) ⟨rd_on (p := 94) 8 8 (fun _ => rfl) (fun _ => rfl) (by kernel_rfl) rfl, trivial⟩ (fun a w s vs hm hs h e => by
      obtain rfl : s = 1 := by omega
      obtain ⟨e94, _⟩ := e
      replace e94 : a.tmps[94]? = some (.bool false) := e94
      go_simp)) (steps_cons (gv_op 1 1 [(21, fun vs => .int .u32 tn)] 10 10 (fv := fun vs => .int .u32 tn) rfl rfl (wt_on (g := 9) (t := 95) rfl rfl rfl (rd_on (p := 95) 9 9 (fun _ => rfl) (fun _ => rfl) (by kernel_rfl) rfl)) (fun _ => rfl) (fun _ => rfl) rfl rfl (by kernel_rfl) (by kernel_rfl) ⟨rd_off (p := 21) (fun _ => rfl) rfl, trivial⟩ (fun a w s vs hm hs h e => by
      obtain rfl : s = 1 := by omega
      obtain ⟨e21, _⟩ := e
      replace e21 : a.tmps[21]? = some (.int .u32 tn) := e21
      go_simp)) (steps_cons (gv_op 1 1 [(15, fun vs => .int .u32 tn)] 11 11 (fv := fun vs => .int .u32 tn) rfl rfl (wt_on (g := 9) (t := 95) rfl rfl rfl (rd_on (p := 95) 9 9 (fun _ => rfl) (fun _ => rfl) (by kernel_rfl) rfl)) (fun _ => rfl) (fun _ => rfl) rfl rfl (by kernel_rfl) (by kernel_rfl) ⟨rd_off (p := 15) (fun _ => rfl) rfl, trivial⟩ (fun a w s vs hm hs h e => by
      obtain rfl : s = 1 := by omega
      obtain ⟨e15, _⟩ := e
      replace e15 : a.tmps[15]? = some (.int .u32 tn) := e15
      go_simp)) (steps_cons (gv_op 1 1 [(96, fun vs => .int .u32 tn), (97, fun vs => .int .u32 tn)] 12 12 (fv := fun vs => .bool false) rfl rfl (wt_on (g := 9) (t := 95) rfl rfl rfl (rd_on (p := 95) 9 9 (fun _ => rfl) (fun _ => rfl) (by kernel_rfl) rfl)) (fun _ => rfl) (fun _ => rfl) rfl rfl (by kernel_rfl) (by kernel_rfl) ⟨rd_on (p := 96) 10 10 (fun _ => rfl) (fun _ => rfl) (by kernel_rfl) rfl, rd_on (p := 97) 11 11 (fun _ => rfl) (fun _ => rfl) (by kernel_rfl) rfl, trivial⟩ (fun a w s vs hm hs h e => by
      obtain rfl : s = 1 := by omega
      obtain ⟨e96, e97, _⟩ := e
      replace e96 : a.tmps[96]? = some (.int .u32 tn) := e96
      replace e97 : a.tmps[97]? = some (.int .u32 tn) := e97
      go_simp; first | done | rfl)) (steps_cons (gv_op 1 1 [(95, fun vs => .bool false), (98, fun vs => .bool false)] 13 13 (fv := fun vs => .bool false) rfl rfl (wt_none rfl) (fun _ => rfl) (fun _ => rfl) rfl rfl (by kernel_rfl) (by kernel_rfl) ⟨rd_on (p := 95) 9 9 (fun _ => rfl) (fun _ => rfl) (by kernel_rfl) rfl, rd_on (p := 98) 12 12 (fun _ => rfl) (fun _ => rfl) (by kernel_rfl) rfl, trivial⟩ (fun a w s vs hm hs h e => by
      obtain rfl : s = 1 := by omega
      obtain ⟨e95, e98, _⟩ := e
      replace e95 : a.tmps[95]? = some (.bool false) := e95
      replace e98 : a.tmps[98]? = some (.bool false) := e98
      go_simp; first | done | rfl)) (steps_cons (gv_op 1 1 [(99, fun vs => .bool false)] 14 14 (fv := fun vs => .bool false) rfl rfl (wt_none rfl) (fun _ => rfl) (fun _ => rfl) rfl rfl (by kernel_rfl) (by kernel_rfl) ⟨rd_on (p := 99) 13 13 (fun _ => rfl) (fun _ => rfl) (by kernel_rfl) rfl, trivial⟩ (fun a w s vs hm hs h e => by
      obtain rfl : s = 1 := by omega
      obtain ⟨e99, _⟩ := e
      replace e99 : a.tmps[99]? = some (.bool false) := e99
      go_simp)) (steps_cons (gv_op 1 1 [(11, fun vs => .pointer (some ⟨g, 0, none⟩))] 15 15 (fv := fun vs => .pointer (some ⟨g, 0, none⟩)) rfl rfl (wt_on (g := 14) (t := 100) rfl rfl rfl (rd_on (p := 100) 14 14 (fun _ => rfl) (fun _ => rfl) (by kernel_rfl) rfl)) (fun _ => rfl) (fun _ => rfl) rfl rfl (by kernel_rfl) (by kernel_rfl) ⟨rd_off (p := 11) (fun _ => rfl) rfl, trivial⟩ (fun a w s vs hm hs h e => by
      obtain rfl : s = 1 := by omega
      obtain ⟨e11, _⟩ := e
      replace e11 : a.tmps[11]? = some (.pointer (some ⟨g, 0, none⟩)) := e11
      go_simp)) (steps_cons (gv_call (vals := fun vs => [.pointer (some ⟨g, 0, none⟩)]) 16 16 1 rfl rfl (wt_on (g := 14) (t := 100) rfl rfl rfl (rd_on (p := 100) 14 14 (fun _ => rfl) (fun _ => rfl) (by kernel_rfl) rfl)) rfl (fun _ => rfl) (fun _ _ => rfl) (fun _ => rfl) rfl (by kernel_rfl) Tryz.func30 (by kernel_rfl) rfl rfl (arv_t (rd_on (p := 101) 15 15 (fun _ => rfl) (fun _ => rfl) (by kernel_rfl) rfl) (arv_n)) (fun vs w h => (HPE.out w h.2).mono fun e w' ⟨he, hb⟩ => ⟨_, he, h.1, rfl, h.2.trans (hb.mono h.2.size)⟩)) (steps_cons (gv_op 1 2 [(17, fun vs => .pointer (some ⟨gq, 0, none⟩))] 17 17 (fv := fun vs => .agg (PV p)) rfl rfl (wt_on (g := 14) (t := 100) rfl rfl rfl (rd_on (p := 100) 14 14 (fun _ => rfl) (fun _ => rfl) (by kernel_rfl) rfl)) (fun _ => rfl) (fun _ => rfl) rfl rfl (by kernel_rfl) (by kernel_rfl) ⟨rd_off (p := 17) (fun _ => rfl) rfl, trivial⟩ (fun a w s vs hm hs h e => by
      obtain ⟨e17, _⟩ := e
      replace e17 : a.tmps[17]? = some (.pointer (some ⟨gq, 0, none⟩)) := e17
      exact exec_load_row 71 (.tmp 17) rfl (eval_of e17) (blk_below HPB.out (ns_b h)) Tryz.underlying71 rfl (by kernel_rfl))) (steps_cons (gv_op 2 2 [(102, fun vs => vs 2), (103, fun vs => .agg (PV p))] 18 18 (fv := fun vs => .bool false) rfl rfl (wt_on (g := 14) (t := 100) rfl rfl rfl (rd_on (p := 100) 14 14 (fun _ => rfl) (fun _ => rfl) (by kernel_rfl) rfl)) (fun _ => rfl) (fun _ => rfl) rfl rfl (by kernel_rfl) (by kernel_rfl) ⟨rd_on (p := 102) 16 16 (fun _ => rfl) (fun _ => rfl) (by kernel_rfl) rfl, rd_on (p := 103) 17 17 (fun _ => rfl) (fun _ => rfl) (by kernel_rfl) rfl, trivial⟩ (fun a w s vs hm hs h e => by
      obtain rfl : s = 2 := by omega
      obtain ⟨e102, e103, _⟩ := e
      replace e102 : a.tmps[102]? = some (vs 2) := e102
      replace e103 : a.tmps[103]? = some (.agg (PV p)) := e103
      have h1 := h.2.1
      rw [h1] at e102
      clear h1 h
      unfold PV at e102 e103
      go_simp; first | done | rfl)) (steps_cons (gv_op 2 2 [(100, fun vs => .bool false), (104, fun vs => .bool false)] 19 19 (fv := fun vs => .bool false) rfl rfl (wt_none rfl) (fun _ => rfl) (fun _ => rfl) rfl rfl (by kernel_rfl) (by kernel_rfl) ⟨rd_on (p := 100) 14 14 (fun _ => rfl) (fun _ => rfl) (by kernel_rfl) rfl, rd_on (p := 104) 18 18 (fun _ => rfl) (fun _ => rfl) (by kernel_rfl) rfl, trivial⟩ (fun a w s vs hm hs h e => by
      obtain rfl : s = 2 := by omega
      obtain ⟨e100, e104, _⟩ := e
      replace e100 : a.tmps[100]? = some (.bool false) := e100
      replace e104 : a.tmps[104]? = some (.bool false) := e104
      go_simp; first | done | rfl)) (steps_cons (gv_op 2 2 [(105, fun vs => .bool false)] 20 20 (fv := fun vs => .bool false) rfl rfl (wt_none rfl) (fun _ => rfl) (fun _ => rfl) rfl rfl (by kernel_rfl) (by kernel_rfl) ⟨rd_on (p := 105) 19 19 (fun _ => rfl) (fun _ => rfl) (by kernel_rfl) rfl, trivial⟩ (fun a w s vs hm hs h e => by
      obtain rfl : s = 2 := by omega
      obtain ⟨e105, _⟩ := e
      replace e105 : a.tmps[105]? = some (.bool false) := e105
      go_simp)) (steps_cons (gv_op 2 2 [(19, fun vs => .int .i64 c)] 21 21 (fv := fun vs => .int .i64 c) rfl rfl (wt_on (g := 20) (t := 106) rfl rfl rfl (rd_on (p := 106) 20 20 (fun _ => rfl) (fun _ => rfl) (by kernel_rfl) rfl)) (fun _ => rfl) (fun _ => rfl) rfl rfl (by kernel_rfl) (by kernel_rfl) ⟨rd_off (p := 19) (fun _ => rfl) rfl, trivial⟩ (fun a w s vs hm hs h e => by
      obtain rfl : s = 2 := by omega
      obtain ⟨e19, _⟩ := e
      replace e19 : a.tmps[19]? = some (.int .i64 c) := e19
      go_simp)) (steps_cons (gv_op 2 2 [(107, fun vs => .int .i64 c)] 22 22 (fv := fun vs => .bool true) rfl rfl (wt_on (g := 20) (t := 106) rfl rfl rfl (rd_on (p := 106) 20 20 (fun _ => rfl) (fun _ => rfl) (by kernel_rfl) rfl)) (fun _ => rfl) (fun _ => rfl) rfl rfl (by kernel_rfl) (by kernel_rfl) ⟨rd_on (p := 107) 21 21 (fun _ => rfl) (fun _ => rfl) (by kernel_rfl) rfl, trivial⟩ (fun a w s vs hm hs h e => by
      obtain rfl : s = 2 := by omega
      obtain ⟨e107, _⟩ := e
      replace e107 : a.tmps[107]? = some (.int .i64 c) := e107
      have h1 := HCN.out
      go_simp; first | done | rfl | simp [h1])) (steps_cons (gv_op 2 2 [(108, fun vs => .bool true)] 23 23 (fv := fun vs => .bool true) rfl rfl (wt_on (g := 20) (t := 106) rfl rfl rfl (rd_on (p := 106) 20 20 (fun _ => rfl) (fun _ => rfl) (by kernel_rfl) rfl)) (fun _ => rfl) (fun _ => rfl) rfl rfl (by kernel_rfl) (by kernel_rfl) ⟨rd_on (p := 108) 22 22 (fun _ => rfl) (fun _ => rfl) (by kernel_rfl) rfl, trivial⟩ (fun a w s vs hm hs h e => by
      obtain rfl : s = 2 := by omega
      obtain ⟨e108, _⟩ := e
      replace e108 : a.tmps[108]? = some (.bool true) := e108
      go_simp)) (steps_cons (gv_op 2 2 [(18, fun vs => .slice none 0 0)] 24 24 (fv := fun vs => .slice none 0 0) rfl rfl (wt_on (g := 23) (t := 109) rfl rfl rfl (rd_on (p := 109) 23 23 (fun _ => rfl) (fun _ => rfl) (by kernel_rfl) rfl)) (fun _ => rfl) (fun _ => rfl) rfl rfl (by kernel_rfl) (by kernel_rfl) ⟨rd_off (p := 18) (fun _ => rfl) rfl, trivial⟩ (fun a w s vs hm hs h e => by
      obtain rfl : s = 2 := by omega
      obtain ⟨e18, _⟩ := e
      replace e18 : a.tmps[18]? = some (.slice none 0 0) := e18
      go_simp)) (steps_cons (gv_op 2 2 [(110, fun vs => .slice none 0 0)] 25 25 (fv := fun vs => .int .i64 0) rfl rfl (wt_on (g := 23) (t := 109) rfl rfl rfl (rd_on (p := 109) 23 23 (fun _ => rfl) (fun _ => rfl) (by kernel_rfl) rfl)) (fun _ => rfl) (fun _ => rfl) rfl rfl (by kernel_rfl) (by kernel_rfl) ⟨rd_on (p := 110) 24 24 (fun _ => rfl) (fun _ => rfl) (by kernel_rfl) rfl, trivial⟩ (fun a w s vs hm hs h e => by
      obtain rfl : s = 2 := by omega
      obtain ⟨e110, _⟩ := e
      replace e110 : a.tmps[110]? = some (.slice none 0 0) := e110
      go_simp; first | done | rfl)) (steps_cons (gv_op 2 2 [(111, fun vs => .int .i64 0)] 26 26 (fv := fun vs => .bool false) rfl rfl (wt_on (g := 23) (t := 109) rfl rfl rfl (rd_on (p := 109) 23 23 (fun _ => rfl) (fun _ => rfl) (by kernel_rfl) rfl)) (fun _ => rfl) (fun _ => rfl) rfl rfl (by kernel_rfl) (by kernel_rfl) ⟨rd_on (p := 111) 25 25 (fun _ => rfl) (fun _ => rfl) (by kernel_rfl) rfl, trivial⟩ (fun a w s vs hm hs h e => by
      obtain rfl : s = 2 := by omega
      obtain ⟨e111, _⟩ := e
      replace e111 : a.tmps[111]? = some (.int .i64 0) := e111
      go_simp; first | done | rfl)) (steps_cons (gv_op 2 2 [(109, fun vs => .bool true), (112, fun vs => .bool false)] 27 27 (fv := fun vs => .bool false) rfl rfl (wt_on (g := 20) (t := 106) rfl rfl rfl (rd_on (p := 106) 20 20 (fun _ => rfl) (fun _ => rfl) (by kernel_rfl) rfl)) (fun _ => rfl) (fun _ => rfl) rfl rfl (by kernel_rfl) (by kernel_rfl) ⟨rd_on (p := 109) 23 23 (fun _ => rfl) (fun _ => rfl) (by kernel_rfl) rfl, rd_on (p := 112) 26 26 (fun _ => rfl) (fun _ => rfl) (by kernel_rfl) rfl, trivial⟩ (fun a w s vs hm hs h e => by
      obtain rfl : s = 2 := by omega
      obtain ⟨e109, e112, _⟩ := e
      replace e109 : a.tmps[109]? = some (.bool true) := e109
      replace e112 : a.tmps[112]? = some (.bool false) := e112
      go_simp; first | done | rfl)) (steps_cons (gv_op 2 2 [(106, fun vs => .bool false), (113, fun vs => .bool false)] 28 28 (fv := fun vs => .bool false) rfl rfl (wt_none rfl) (fun _ => rfl) (fun _ => rfl) rfl rfl (by kernel_rfl) (by kernel_rfl) ⟨rd_on (p := 106) 20 20 (fun _ => rfl) (fun _ => rfl) (by kernel_rfl) rfl, rd_on (p := 113) 27 27 (fun _ => rfl) (fun _ => rfl) (by kernel_rfl) rfl, trivial⟩ (fun a w s vs hm hs h e => by
      obtain rfl : s = 2 := by omega
      obtain ⟨e106, e113, _⟩ := e
      replace e106 : a.tmps[106]? = some (.bool false) := e106
      replace e113 : a.tmps[113]? = some (.bool false) := e113
      go_simp; first | done | rfl)) (steps_cons (gv_op 2 2 [(114, fun vs => .bool false)] 29 29 (fv := fun vs => .bool false) rfl rfl (wt_none rfl) (fun _ => rfl) (fun _ => rfl) rfl rfl (by kernel_rfl) (by kernel_rfl) ⟨rd_on (p := 114) 28 28 (fun _ => rfl) (fun _ => rfl) (by kernel_rfl) rfl, trivial⟩ (fun a w s vs hm hs h e => by
      obtain rfl : s = 2 := by omega
      obtain ⟨e114, _⟩ := e
      replace e114 : a.tmps[114]? = some (.bool false) := e114
      go_simp)) (steps_cons (gv_op 2 2 [(18, fun vs => .slice none 0 0)] 30 30 (fv := fun vs => .slice none 0 0) rfl rfl (wt_on (g := 29) (t := 115) rfl rfl rfl (rd_on (p := 115) 29 29 (fun _ => rfl) (fun _ => rfl) (by kernel_rfl) rfl)) (fun _ => rfl) (fun _ => rfl) rfl rfl (by kernel_rfl) (by kernel_rfl) ⟨rd_off (p := 18) (fun _ => rfl) rfl, trivial⟩ (fun a w s vs hm hs h e => by
      obtain rfl : s = 2 := by omega
      obtain ⟨e18, _⟩ := e
      replace e18 : a.tmps[18]? = some (.slice none 0 0) := e18
      go_simp)) (steps_cons (gv_op 2 2 [(116, fun vs => .slice none 0 0)] 31 31 (fv := fun vs => .int .i64 0) rfl rfl (wt_on (g := 29) (t := 115) rfl rfl rfl (rd_on (p := 115) 29 29 (fun _ => rfl) (fun _ => rfl) (by kernel_rfl) rfl)) (fun _ => rfl) (fun _ => rfl) rfl rfl (by kernel_rfl) (by kernel_rfl) ⟨rd_on (p := 116) 30 30 (fun _ => rfl) (fun _ => rfl) (by kernel_rfl) rfl, trivial⟩ (fun a w s vs hm hs h e => by
      obtain rfl : s = 2 := by omega
      obtain ⟨e116, _⟩ := e
      replace e116 : a.tmps[116]? = some (.slice none 0 0) := e116
      go_simp; first | done | rfl)) (steps_cons (gv_op 2 2 [(117, fun vs => .int .i64 0)] 32 32 (fv := fun vs => .bool false) rfl rfl (wt_on (g := 29) (t := 115) rfl rfl rfl (rd_on (p := 115) 29 29 (fun _ => rfl) (fun _ => rfl) (by kernel_rfl) rfl)) (fun _ => rfl) (fun _ => rfl) rfl rfl (by kernel_rfl) (by kernel_rfl) ⟨rd_on (p := 117) 31 31 (fun _ => rfl) (fun _ => rfl) (by kernel_rfl) rfl, trivial⟩ (fun a w s vs hm hs h e => by
      obtain rfl : s = 2 := by omega
      obtain ⟨e117, _⟩ := e
      replace e117 : a.tmps[117]? = some (.int .i64 0) := e117
      go_simp; first | done | rfl)) (steps_cons (gv_op 2 2 [(115, fun vs => .bool false), (118, fun vs => .bool false)] 33 33 (fv := fun vs => .bool false) rfl rfl (wt_none rfl) (fun _ => rfl) (fun _ => rfl) rfl rfl (by kernel_rfl) (by kernel_rfl) ⟨rd_on (p := 115) 29 29 (fun _ => rfl) (fun _ => rfl) (by kernel_rfl) rfl, rd_on (p := 118) 32 32 (fun _ => rfl) (fun _ => rfl) (by kernel_rfl) rfl, trivial⟩ (fun a w s vs hm hs h e => by
      obtain rfl : s = 2 := by omega
      obtain ⟨e115, e118, _⟩ := e
      replace e115 : a.tmps[115]? = some (.bool false) := e115
      replace e118 : a.tmps[118]? = some (.bool false) := e118
      go_simp; first | done | rfl)) steps_nil)))))))))))))))))))))))))))))))))
    intro vs W9 hI9
    have HB9 := Lh (show Below Wb.heap.size Wb W9 from hI9.2.2)
    clear hI9 HST HPE HPB
    simp only [putSel, if_true, Act.put, List.setIfInBounds_toArray, List.set_cons_zero, List.set_cons_succ]
    go_wp2
    go_ret
    exact ⟨rfl, HL8.out.l.bl.trans (HB9.out.mono HL8.out.l.bl.size)⟩
   ·obtain ⟨xs, h, hxs⟩ : ∃ xs, takeP K m t x now = .ok (m, xs) ∧ (xs = [] ∨ ∃ y, xs = [actSend y t] ∧ y.f1 = 1) := by
     rcases hok with h | ⟨y, h, hy⟩
     ·exact ⟨_, h, Or.inl rfl⟩
     ·exact ⟨_, h, Or.inr ⟨y, rfl, hy⟩⟩
    have HL7 := Lh (HL6.out.step hP (by rw [h]; exact HMI.out))
    rw [h] at hP HL7
    obtain ⟨_, ⟨v, rfl, hRes⟩, _⟩ := hP
    obtain ⟨A18, c18, rfl, hle18, hC18⟩ := hRes.C
    have HXS := Lh hxs
    have HC18 := Lh hC18
    have HN := Lh (show xs.length ≤ 1 by rcases hxs with rfl | ⟨y, rfl, _⟩ <;> simp)
    obtain ⟨n18, hn18⟩ : ∃ n, xs.length = n := ⟨_, rfl⟩
    have HN18 := Lh (show n18 ≤ 1 by rw [← hn18]; exact HN.out)
    have HNX := Lh hn18
    rw [hn18]
    have HPX7 := Lh hPX7
    clear hPX7 h HTK HL6 HPX hRes hC18 hxs hok hle18 hn18 HN
    replace HL7 := Lh (show L2 w x L g K m W7 from HL7.out)
    go_wp2_with fail
    refine (own_mr HL7.out.l.mr).mono ?_
    rintro e Wb ⟨rfl, hB8⟩
    have HL8 := Lh (HL7.out.below hB8)
    have HCB := Lh (Kd.C_below HC18.out hB8)
    have HPB := Lh (blk_below HPX7.out hB8)
    rw [HMT.out, HMN.out]
    have HST := Lh (fun (W : World) (h : Below Wb.heap.size Wb W) => (show Calls Tryz.prog 17 #[.pointer (some ⟨g, 0, none⟩)] W fun e w' => e = .returned (.int .i64 s0) ∧ W = w' by rw [← HMS.out]; exact state_mr (HL8.out.below h).l.mr))
    have HPE := Lh (fun (W : World) (h : Below Wb.heap.size Wb W) => (show Calls Tryz.prog 30 #[.pointer (some ⟨g, 0, none⟩)] W fun e w' => e = .returned (.agg (PV p)) ∧ Below W.heap.size W w' by rw [← HMP.out]; exact peer_mr (HL8.out.below h).l.mr))
    clear hB8 HL7 HPX7
    go_upto_region 16 with (fail)
    refine grow_v (B := staB16) [0, 1, 2, 3, 4, 5, 6, 7, 8, 9, 10, 11, 12, 13, 14, 15, 16, 17, 18, 19, 20, 21, 22, 23, 24, 25, 26, 27, 28, 29, 30, 31, 32, 33] [1, 16] (StrI Wb s0 p) (fun vs => [(0, 86, .pointer (some ⟨g, 0, none⟩)), (1, 87, vs 1), (2, 88, .int .i64 s0), (3, 89, .bool false), (4, 90, .bool false), (5, 91, .int .u32 tg), (6, 92, .int .u32 tg), (7, 93, .bool false), (8, 94, .bool false), (9, 95, .bool false), (10, 96, .int .u32 tn), (11, 97, .int .u32 tn), (12, 98, .bool false), (13, 99, .bool false), (14, 100, .bool false), (15, 101, .pointer (some ⟨g, 0, none⟩)), (16, 102, vs 2), (17, 103, .agg (PV p)), (18, 104, .bool false), (19, 105, .bool false), (20, 106, .bool false), (21, 107, .int .i64 0), (22, 108, .bool false), (23, 109, .bool false), (24, 110, undef), (25, 111, undef), (26, 112, undef), (27, 113, .bool false), (28, 114, .bool false), (29, 115, .bool false), (30, 116, .slice A18 n18 c18), (31, 117, .int .i64 (n18 : Int)), (32, 118, .bool false), (33, 119, .bool false)]) (by kernel_rfl) rfl (l := #[false, false, false, false, false, false, false, false, false, false, false, false, false, false, false, false, false, false, false, false, false, false, false, false, false, false, false, false, false, false, false, false, false, false]) rfl statab16 stabits16 (by kernel_rfl) (by kernel_rfl) (fun _ => rfl) rfl (fun _ => undef) ?_ ?_ ?_
    ·exact pw_below_drewN (Below.refl _ _) 1
    ·exact steps_cons (gv_op 0 0 [(11, fun vs => .pointer (some ⟨g, 0, none⟩))] 0 0 (fv := fun vs => .pointer (some ⟨g, 0, none⟩)) rfl rfl (wt_none rfl) (fun _ => rfl) (fun _ => rfl) rfl rfl (by kernel_rfl) (by kernel_rfl) ⟨rd_off (p := 11) (fun _ => rfl) rfl, trivial⟩ (fun a w s vs hm hs h e => by
      obtain rfl : s = 0 := by omega
      obtain ⟨e11, _⟩ := e
      replace e11 : a.tmps[11]? = some (.pointer (some ⟨g, 0, none⟩)) := e11
      go_simp)) (steps_cons (gv_call (vals := fun vs => [.pointer (some ⟨g, 0, none⟩)]) 1 1 0 rfl rfl (wt_none rfl) rfl (fun _ => rfl) (fun _ _ => rfl) (fun _ => rfl) rfl (by kernel_rfl) Tryz.func17 (by kernel_rfl) rfl rfl (arv_t (rd_on (p := 86) 0 0 (fun _ => rfl) (fun _ => rfl) (by kernel_rfl) rfl) (arv_n)) (fun vs w h => (HST.out w (ns_b h)).mono fun e w' ⟨he, hw⟩ => ⟨_, he, rfl, by rw [← hw]; exact ns_b h⟩)) (steps_cons (gv_op 0 1 [(16, fun vs => .int .i64 s0)] 2 2 (fv := fun vs => .int .i64 s0) rfl rfl (wt_none rfl) (fun _ => rfl) (fun _ => rfl) rfl rfl (by kernel_rfl) (by kernel_rfl) ⟨rd_off (p := 16) (fun _ => rfl) rfl, trivial⟩ (fun a w s vs hm hs h e => by
      obtain ⟨e16, _⟩ := e
      replace e16 : a.tmps[16]? = some (.int .i64 s0) := e16
      go_simp)) (steps_cons (gv_op 1 1 [(87, fun vs => vs 1), (88, fun vs => .int .i64 s0)] 3 3 (fv := fun vs => .bool false) rfl rfl (wt_none rfl) (fun _ => rfl) (fun _ => rfl) rfl rfl (by kernel_rfl) (by kernel_rfl) ⟨rd_on (p := 87) 1 1 (fun _ => rfl) (fun _ => rfl) (by kernel_rfl) rfl, rd_on (p := 88) 2 2 (fun _ => rfl) (fun _ => rfl) (by kernel_rfl) rfl, trivial⟩ (fun a w s vs hm hs h e => by
      obtain rfl : s = 1 := by omega
      obtain ⟨e87, e88, _⟩ := e
      replace e87 : a.tmps[87]? = some (vs 1) := e87
      replace e88 : a.tmps[88]? = some (.int .i64 s0) := e88
      have h1 := h.1
      rw [h1] at e87
      clear h1 h
      go_simp; first | done | rfl)) (steps_cons (gv_op 1 1 [(89, fun vs => .bool false)] 4 4 (fv := fun vs => .bool false) rfl rfl (wt_none rfl) (fun _ => rfl) (fun _ => rfl) rfl rfl (by kernel_rfl) (by kernel_rfl) ⟨rd_on (p := 89) 3 3 (fun _ => rfl) (fun _ => rfl) (by kernel_rfl) rfl, trivial⟩ (fun a w s vs hm hs h e => by
      obtain rfl : s = 1 := by omega
      obtain ⟨e89, _⟩ := e
      replace e89 : a.tmps[89]? = some (.bool false) := e89
      go_simp)) (steps_cons (gv_op 1 1 [(20, fun vs => .int .u32 tg)] 5 5 (fv := fun vs => .int .u32 tg) rfl rfl (wt_on (g := 4) (t := 90) rfl rfl rfl (rd_on (p := 90) 4 4 (fun _ => rfl) (fun _ => rfl) (by kernel_rfl) rfl)) (fun _ => rfl) (fun _ => rfl) rfl rfl (by kernel_rfl) (by kernel_rfl) ⟨rd_off (p := 20) (fun _ => rfl) rfl, trivial⟩ (fun a w s vs hm hs h e => by
      obtain rfl : s = 1 := by omega
      obtain ⟨e20, _⟩ := e
      replace e20 : a.tmps[20]? = some (.int .u32 tg) := e20
      go_simp)) (steps_cons (gv_op 1 1 [(14, fun vs => .int .u32 tg)] 6 6 (fv := fun vs => .int .u32 tg) rfl rfl (wt_on (g := 4) (t := 90) rfl rfl rfl (rd_on (p := 90) 4 4 (fun _ => rfl) (fun _ => rfl) (by kernel_rfl) rfl)) (fun _ => rfl) (fun _ => rfl) rfl rfl (by kernel_rfl) (by kernel_rfl) ⟨rd_off (p := 14) (fun _ => rfl) rfl, trivial⟩ (fun a w s vs hm hs h e => by
      obtain rfl : s = 1 := by omega
      obtain ⟨e14, _⟩ := e
      replace e14 : a.tmps[14]? = some (.int .u32 tg) := e14
      go_simp)) (steps_cons (gv_op 1 1 [(91, fun vs => .int .u32 tg), (92, fun vs => .int .u32 tg)] 7 7 (fv := fun vs => .bool false) rfl rfl (wt_on (g := 4) (t := 90) rfl rfl rfl (rd_on (p := 90) 4 4 (fun _ => rfl) (fun _ => rfl) (by kernel_rfl) rfl)) (fun _ => rfl) (fun _ => rfl) rfl rfl (by kernel_rfl) (by kernel_rfl) ⟨rd_on (p := 91) 5 5 (fun _ => rfl) (fun _ => rfl) (by kernel_rfl) rfl, rd_on (p := 92) 6 6 (fun _ => rfl) (fun _ => rfl) (by kernel_rfl) rfl, trivial⟩ (fun a w s vs hm hs h e => by
      obtain rfl : s = 1 := by omega
      obtain ⟨e91, e92, _⟩ := e
      replace e91 : a.tmps[91]? = some (.int .u32 tg) := e91
      replace e92 : a.tmps[92]? = some (.int .u32 tg) := e92
      go_simp; first | done | rfl)) (steps_cons (gv_op 1 1 [(90, fun vs => .bool false), (93, fun vs => .bool false)] 8 8 (fv := fun vs => .bool false) rfl rfl (wt_none rfl) (fun _ => rfl) (fun _ => rfl) rfl rfl (by kernel_rfl) (by kernel_rfl) ⟨rd_on (p := 90) 4 4 (fun _ => rfl) (fun _ => rfl) (by kernel_rfl) rfl, rd_on (p := 93) 7 7 (fun _ => rfl) (fun _ => rfl) (by kernel_rfl) rfl, trivial⟩ (fun a w s vs hm hs h e => by
      obtain rfl : s = 1 := by omega
      obtain ⟨e90, e93, _⟩ := e
      replace e90 : a.tmps[90]? = some (.bool false) := e90
      replace e93 : a.tmps[93]? = some (.bool false) := e93
      go_simp; first | done | rfl)) (steps_cons (gv_op 1 1 [(94, fun vs => .bool false)] 9 9 (fv := fun vs => .bool false) rfl rfl (wt_none rfl) (fun _ => rfl) (fun _ => rfl) rfl rfl (by kernel_rfl) (by kernel_rfl) ⟨rd_on (p := 94) 8 8 (fun _ => rfl) (fun _ => rfl) (by kernel_rfl) rfl, trivial⟩ (fun a w s vs hm hs h e => by
      obtain rfl : s = 1 := by omega
      obtain ⟨e94, _⟩ := e
      replace e94 : a.tmps[94]? = some (.bool false) := e94
      go_simp)) (steps_cons (gv_op 1 1 [(21, fun vs => .int .u32 tn)] 10 10 (fv := fun vs => .int .u32 tn) rfl rfl (wt_on (g := 9) (t := 95) rfl rfl rfl (rd_on (p := 95) 9 9 (fun _ => rfl) (fun _ => rfl) (by kernel_rfl) rfl)) (fun _ => rfl) (fun _ => rfl) rfl rfl (by kernel_rfl) (by kernel_rfl) ⟨rd_off (p := 21) (fun _ => rfl) rfl, trivial⟩ (fun a w s vs hm hs h e => by
      obtain rfl : s = 1 := by omega
      obtain ⟨e21, _⟩ := e
      replace e21 : a.tmps[21]? = some (.int .u32 tn) := e21
      go_simp)) (steps_cons (gv_op 1 1 [(15, fun vs => .int .u32 tn)] 11 11 (fv := fun vs => .int .u32 tn) rfl rfl (wt_on (g := 9) (t := 95) rfl rfl rfl (rd_on (p := 95) 9 9 (fun _ => rfl) (fun _ => rfl) (by kernel_rfl) rfl)) (fun _ => rfl) (fun _ => rfl) rfl rfl (by kernel_rfl) (by kernel_rfl) ⟨rd_off (p := 15) (fun _ => rfl) rfl, trivial⟩ (fun a w s vs hm hs h e => by
      obtain rfl : s = 1 := by omega
      obtain ⟨e15, _⟩ := e
      replace e15 : a.tmps[15]? = some (.int .u32 tn) := e15
      go_simp)) (steps_cons (gv_op 1 1 [(96, fun vs => .int .u32 tn), (97, fun vs => .int .u32 tn)] 12 12 (fv := fun vs => .bool false) rfl rfl (wt_on (g := 9) (t := 95) rfl rfl rfl (rd_on (p := 95) 9 9 (fun _ => rfl) (fun _ => rfl) (by kernel_rfl) rfl)) (fun _ => rfl) (fun _ => rfl) rfl rfl (by kernel_rfl) (by kernel_rfl) ⟨rd_on (p := 96) 10 10 (fun _ => rfl) (fun _ => rfl) (by kernel_rfl) rfl, rd_on (p := 97) 11 11 (fun _ => rfl) (fun _ => rfl) (by kernel_rfl) rfl, trivial⟩ (fun a w s vs hm hs h e => by
      obtain rfl : s = 1 := by omega
      obtain ⟨e96, e97, _⟩ := e
      replace e96 : a.tmps[96]? = some (.int .u32 tn) := e96
      replace e97 : a.tmps[97]? = some (.int .u32 tn) := e97
      go_simp; first | done | rfl)) (steps_cons (gv_op 1 1 [(95, fun vs => .bool false), (98, fun vs => .bool false)] 13 13 (fv := fun vs => .bool false) rfl rfl (wt_none rfl) (fun _ => rfl) (fun _ => rfl) rfl rfl (by kernel_rfl) (by kernel_rfl) ⟨rd_on (p := 95) 9 9 (fun _ => rfl) (fun _ => rfl) (by kernel_rfl) rfl, rd_on (p := 98) 12 12 (fun _ => rfl) (fun _ => rfl) (by kernel_rfl) rfl, trivial⟩ (fun a w s vs hm hs h e => by
      obtain rfl : s = 1 := by omega
      obtain ⟨e95, e98, _⟩ := e
      replace e95 : a.tmps[95]? = some (.bool false) := e95
      replace e98 : a.tmps[98]? = some (.bool false) := e98
      go_simp; first | done | rfl)) (steps_cons (gv_op 1 1 [(99, fun vs => .bool false)] 14 14 (fv := fun vs => .bool false) rfl rfl (wt_none rfl) (fun _ => rfl) (fun _ => rfl) rfl rfl (by kernel_rfl) (by kernel_rfl) ⟨rd_on (p := 99) 13 13 (fun _ => rfl) (fun _ => rfl) (by kernel_rfl) rfl, trivial⟩ (fun a w s vs hm hs h e => by
      obtain rfl : s = 1 := by omega
      obtain ⟨e99, _⟩ := e
      replace e99 : a.tmps[99]? = some (.bool false) := e99
      go_simp)) (steps_cons (gv_op 1 1 [(11, fun vs => .pointer (some ⟨g, 0, none⟩))] 15 15 (fv := fun vs => .pointer (some ⟨g, 0, none⟩)) rfl rfl (wt_on (g := 14) (t := 100) rfl rfl rfl (rd_on (p := 100) 14 14 (fun _ => rfl) (fun _ => rfl) (by kernel_rfl) rfl)) (fun _ => rfl) (fun _ => rfl) rfl rfl (by kernel_rfl) (by kernel_rfl) ⟨rd_off (p := 11) (fun _ => rfl) rfl, trivial⟩ (fun a w s vs hm hs h e => by
      obtain rfl : s = 1 := by omega
      obtain ⟨e11, _⟩ := e
      replace e11 : a.tmps[11]? = some (.pointer (some ⟨g, 0, none⟩)) := e11
      go_simp)) (steps_cons (gv_call (vals := fun vs => [.pointer (some ⟨g, 0, none⟩)]) 16 16 1 rfl rfl (wt_on (g := 14) (t := 100) rfl rfl rfl (rd_on (p := 100) 14 14 (fun _ => rfl) (fun _ => rfl) (by kernel_rfl) rfl)) rfl (fun _ => rfl) (fun _ _ => rfl) (fun _ => rfl) rfl (by kernel_rfl) Tryz.func30 (by kernel_rfl) rfl rfl (arv_t (rd_on (p := 101) 15 15 (fun _ => rfl) (fun _ => rfl) (by kernel_rfl) rfl) (arv_n)) (fun vs w h => (HPE.out w h.2).mono fun e w' ⟨he, hb⟩ => ⟨_, he, h.1, rfl, h.2.trans (hb.mono h.2.size)⟩)) (steps_cons (gv_op 1 2 [(17, fun vs => .pointer (some ⟨gq, 0, none⟩))] 17 17 (fv := fun vs => .agg (PV p)) rfl rfl (wt_on (g := 14) (t := 100) rfl rfl rfl (rd_on (p := 100) 14 14 (fun _ => rfl) (fun _ => rfl) (by kernel_rfl) rfl)) (fun _ => rfl) (fun _ => rfl) rfl rfl (by kernel_rfl) (by kernel_rfl) ⟨rd_off (p := 17) (fun _ => rfl) rfl, trivial⟩ (fun a w s vs hm hs h e => by
      obtain ⟨e17, _⟩ := e
      replace e17 : a.tmps[17]? = some (.pointer (some ⟨gq, 0, none⟩)) := e17
      exact exec_load_row 71 (.tmp 17) rfl (eval_of e17) (blk_below HPB.out (ns_b h)) Tryz.underlying71 rfl (by kernel_rfl))) (steps_cons (gv_op 2 2 [(102, fun vs => vs 2), (103, fun vs => .agg (PV p))] 18 18 (fv := fun vs => .bool false) rfl rfl (wt_on (g := 14) (t := 100) rfl rfl rfl (rd_on (p := 100) 14 14 (fun _ => rfl) (fun _ => rfl) (by kernel_rfl) rfl)) (fun _ => rfl) (fun _ => rfl) rfl rfl (by kernel_rfl) (by kernel_rfl) ⟨rd_on (p := 102) 16 16 (fun _ => rfl) (fun _ => rfl) (by kernel_rfl) rfl, rd_on (p := 103) 17 17 (fun _ => rfl) (fun _ => rfl) (by kernel_rfl) rfl, trivial⟩ (fun a w s vs hm hs h e => by
      obtain rfl : s = 2 := by omega
      obtain ⟨e102, e103, _⟩ := e
      replace e102 : a.tmps[102]? = some (vs 2) := e102
      replace e103 : a.tmps[103]? = some (.agg (PV p)) := e103
      have h1 := h.2.1
      rw [h1] at e102
      clear h1 h
      unfold PV at e102 e103
      go_simp; first | done | rfl)) (steps_cons (gv_op 2 2 [(100, fun vs => .bool false), (104, fun vs => .bool false)] 19 19 (fv := fun vs => .bool false) rfl rfl (wt_none rfl) (fun _ => rfl) (fun _ => rfl) rfl rfl (by kernel_rfl) (by kernel_rfl) ⟨rd_on (p := 100) 14 14 (fun _ => rfl) (fun _ => rfl) (by kernel_rfl) rfl, rd_on (p := 104) 18 18 (fun _ => rfl) (fun _ => rfl) (by kernel_rfl) rfl, trivial⟩ (fun a w s vs hm hs h e => by
      obtain rfl : s = 2 := by omega
      obtain ⟨e100, e104, _⟩ := e
      replace e100 : a.tmps[100]? = some (.bool false) := e100
      replace e104 : a.tmps[104]? = some (.bool false) := e104
      go_simp; first | done | rfl)) (steps_cons (gv_op 2 2 [(105, fun vs => .bool false)] 20 20 (fv := fun vs => .bool false) rfl rfl (wt_none rfl) (fun _ => rfl) (fun _ => rfl) rfl rfl (by kernel_rfl) (by kernel_rfl) ⟨rd_on (p := 105) 19 19 (fun _ => rfl) (fun _ => rfl) (by kernel_rfl) rfl, trivial⟩ (fun a w s vs hm hs h e => by
      obtain rfl : s = 2 := by omega
      obtain ⟨e105, _⟩ := e
      replace e105 : a.tmps[105]? = some (.bool false) := e105
      go_simp)) (steps_cons (gv_op 2 2 [(19, fun vs => .int .i64 0)] 21 21 (fv := fun vs => .int .i64 0) rfl rfl (wt_on (g := 20) (t := 106) rfl rfl rfl (rd_on (p := 106) 20 20 (fun _ => rfl) (fun _ => rfl) (by kernel_rfl) rfl)) (fun _ => rfl) (fun _ => rfl) rfl rfl (by kernel_rfl) (by kernel_rfl) ⟨rd_off (p := 19) (fun _ => rfl) rfl, trivial⟩ (fun a w s vs hm hs h e => by
      obtain rfl : s = 2 := by omega
      obtain ⟨e19, _⟩ := e
      replace e19 : a.tmps[19]? = some (.int .i64 0) := e19
      go_simp)) (steps_cons (gv_op 2 2 [(107, fun vs => .int .i64 0)] 22 22 (fv := fun vs => .bool false) rfl rfl (wt_on (g := 20) (t := 106) rfl rfl rfl (rd_on (p := 106) 20 20 (fun _ => rfl) (fun _ => rfl) (by kernel_rfl) rfl)) (fun _ => rfl) (fun _ => rfl) rfl rfl (by kernel_rfl) (by kernel_rfl) ⟨rd_on (p := 107) 21 21 (fun _ => rfl) (fun _ => rfl) (by kernel_rfl) rfl, trivial⟩ (fun a w s vs hm hs h e => by
      obtain rfl : s = 2 := by omega
      obtain ⟨e107, _⟩ := e
      replace e107 : a.tmps[107]? = some (.int .i64 0) := e107
      go_simp; first | done | rfl)) (steps_cons (gv_op 2 2 [(108, fun vs => .bool false)] 23 23 (fv := fun vs => .bool false) rfl rfl (wt_on (g := 20) (t := 106) rfl rfl rfl (rd_on (p := 106) 20 20 (fun _ => rfl) (fun _ => rfl) (by kernel_rfl) rfl)) (fun _ => rfl) (fun _ => rfl) rfl rfl (by kernel_rfl) (by kernel_rfl) ⟨rd_on (p := 108) 22 22 (fun _ => rfl) (fun _ => rfl) (by kernel_rfl) rfl, trivial⟩ (fun a w s vs hm hs h e => by
      obtain rfl : s = 2 := by omega
      obtain ⟨e108, _⟩ := e
      replace e108 : a.tmps[108]? = some (.bool false) := e108
      go_simp)) (steps_cons (gv_off 24 24 rfl rfl (wt_off (g := 23) (t := 109) rfl rfl rfl (rd_on (p := 109) 23 23 (fun _ => rfl) (fun _ => rfl) (by kernel_rfl) rfl)) (fun _ => rfl) (fun _ => rfl) rfl) (steps_cons (gv_off 25 25 rfl rfl (wt_off (g := 23) (t := 109) rfl rfl rfl (rd_on (p := 109) 23 23 (fun _ => rfl) (fun _ => rfl) (by kernel_rfl) rfl)) (fun _ => rfl) (fun _ => rfl) rfl) (steps_cons (gv_off 26 26 rfl rfl (wt_off (g := 23) (t := 109) rfl rfl rfl (rd_on (p := 109) 23 23 (fun _ => rfl) (fun _ => rfl) (by kernel_rfl) rfl)) (fun _ => rfl) (fun _ => rfl) rfl) (steps_cons (gv_op 2 2 [(109, fun vs => .bool false), (112, fun vs => undef)] 27 27 (fv := fun vs => .bool false) rfl rfl (wt_on (g := 20) (t := 106) rfl rfl rfl (rd_on (p := 106) 20 20 (fun _ => rfl) (fun _ => rfl) (by kernel_rfl) rfl)) (fun _ => rfl) (fun _ => rfl) rfl rfl (by kernel_rfl) (by kernel_rfl) ⟨rd_on (p := 109) 23 23 (fun _ => rfl) (fun _ => rfl) (by kernel_rfl) rfl, rd_on (p := 112) 26 26 (fun _ => rfl) (fun _ => rfl) (by kernel_rfl) rfl, trivial⟩ (fun a w s vs hm hs h e => by
      obtain rfl : s = 2 := by omega
      obtain ⟨e109, e112, _⟩ := e
      replace e109 : a.tmps[109]? = some (.bool false) := e109
      replace e112 : a.tmps[112]? = some (undef) := e112
      go_simp; first | done | rfl)) (steps_cons (gv_op 2 2 [(106, fun vs => .bool false), (113, fun vs => .bool false)] 28 28 (fv := fun vs => .bool false) rfl rfl (wt_none rfl) (fun _ => rfl) (fun _ => rfl) rfl rfl (by kernel_rfl) (by kernel_rfl) ⟨rd_on (p := 106) 20 20 (fun _ => rfl) (fun _ => rfl) (by kernel_rfl) rfl, rd_on (p := 113) 27 27 (fun _ => rfl) (fun _ => rfl) (by kernel_rfl) rfl, trivial⟩ (fun a w s vs hm hs h e => by
      obtain rfl : s = 2 := by omega
      obtain ⟨e106, e113, _⟩ := e
      replace e106 : a.tmps[106]? = some (.bool false) := e106
      replace e113 : a.tmps[113]? = some (.bool false) := e113
      go_simp; first | done | rfl)) (steps_cons (gv_op 2 2 [(114, fun vs => .bool false)] 29 29 (fv := fun vs => .bool false) rfl rfl (wt_none rfl) (fun _ => rfl) (fun _ => rfl) rfl rfl (by kernel_rfl) (by kernel_rfl) ⟨rd_on (p := 114) 28 28 (fun _ => rfl) (fun _ => rfl) (by kernel_rfl) rfl, trivial⟩ (fun a w s vs hm hs h e => by
      obtain rfl : s = 2 := by omega
      obtain ⟨e114, _⟩ := e
      replace e114 : a.tmps[114]? = some (.bool false) := e114
      go_simp)) (steps_cons (gv_op 2 2 [(18, fun vs => .slice A18 n18 c18)] 30 30 (fv := fun vs => .slice A18 n18 c18) rfl rfl (wt_on (g := 29) (t := 115) rfl rfl rfl (rd_on (p := 115) 29 29 (fun _ => rfl) (fun _ => rfl) (by kernel_rfl) rfl)) (fun _ => rfl) (fun _ => rfl) rfl rfl (by kernel_rfl) (by kernel_rfl) ⟨rd_off (p := 18) (fun _ => rfl) rfl, trivial⟩ (fun a w s vs hm hs h e => by
      obtain rfl : s = 2 := by omega
      obtain ⟨e18, _⟩ := e
      replace e18 : a.tmps[18]? = some (.slice A18 n18 c18) := e18
      go_simp)) (steps_cons (gv_op 2 2 [(116, fun vs => .slice A18 n18 c18)] 31 31 (fv := fun vs => .int .i64 (n18 : Int)) rfl rfl (wt_on (g := 29) (t := 115) rfl rfl rfl (rd_on (p := 115) 29 29 (fun _ => rfl) (fun _ => rfl) (by kernel_rfl) rfl)) (fun _ => rfl) (fun _ => rfl) rfl rfl (by kernel_rfl) (by kernel_rfl) ⟨rd_on (p := 116) 30 30 (fun _ => rfl) (fun _ => rfl) (by kernel_rfl) rfl, trivial⟩ (fun a w s vs hm hs h e => by
      obtain rfl : s = 2 := by omega
      obtain ⟨e116, _⟩ := e
      replace e116 : a.tmps[116]? = some (.slice A18 n18 c18) := e116
      go_simp; first | done | rfl)) (steps_cons (gv_op 2 2 [(117, fun vs => .int .i64 (n18 : Int))] 32 32 (fv := fun vs => .bool false) rfl rfl (wt_on (g := 29) (t := 115) rfl rfl rfl (rd_on (p := 115) 29 29 (fun _ => rfl) (fun _ => rfl) (by kernel_rfl) rfl)) (fun _ => rfl) (fun _ => rfl) rfl rfl (by kernel_rfl) (by kernel_rfl) ⟨rd_on (p := 117) 31 31 (fun _ => rfl) (fun _ => rfl) (by kernel_rfl) rfl, trivial⟩ (fun a w s vs hm hs h e => by
      obtain rfl : s = 2 := by omega
      obtain ⟨e117, _⟩ := e
      replace e117 : a.tmps[117]? = some (.int .i64 (n18 : Int)) := e117
      have h1 := HN18.out
      have h2 : decide ((1 : Int) < (n18 : Int)) = false := decide_eq_false (by omega)
      go_simp; first | done | rfl)) (steps_cons (gv_op 2 2 [(115, fun vs => .bool false), (118, fun vs => .bool false)] 33 33 (fv := fun vs => .bool false) rfl rfl (wt_none rfl) (fun _ => rfl) (fun _ => rfl) rfl rfl (by kernel_rfl) (by kernel_rfl) ⟨rd_on (p := 115) 29 29 (fun _ => rfl) (fun _ => rfl) (by kernel_rfl) rfl, rd_on (p := 118) 32 32 (fun _ => rfl) (fun _ => rfl) (by kernel_rfl) rfl, trivial⟩ (fun a w s vs hm hs h e => by
      obtain rfl : s = 2 := by omega
      obtain ⟨e115, e118, _⟩ := e
      replace e115 : a.tmps[115]? = some (.bool false) := e115
      replace e118 : a.tmps[118]? = some (.bool false) := e118
      go_simp; first | done | rfl)) steps_nil)))))))))))))))))))))))))))))))))
    intro vs W9 hI9
    have HB9 := Lh (show Below Wb.heap.size Wb W9 from hI9.2.2)
    clear hI9 HST HPE HPB
    simp only [putSel, if_true, Act.put, List.setIfInBounds_toArray, List.set_cons_zero, List.set_cons_succ]
    rcases HXS.out with rfl | ⟨y, rfl, hy1⟩
    ·obtain rfl : 0 = n18 := HNX.out
     go_wp2
     go_ret
     exact ⟨rfl, HL8.out.l.bl.trans (HB9.out.mono HL8.out.l.bl.size)⟩
    ·obtain rfl : 1 = n18 := HNX.out
     have hC9 := Kd.C_below HCB.out HB9.out
     obtain ⟨ad5, A6, c6, rfl, x0, x1, x2, x3, _, _, _, _, _, _, l2, g2⟩ := at_T73 hC9 (0 : Int) (by decide) (by simp)
     have g2' : k65.C W9 A6 [y].length [y] := g2
     obtain ⟨adc, B10, d10, B11, d11, B12, d12, B13, d13, B14, d14, rfl, z0, z1, _⟩ := at_T65 g2' (0 : Int) (by decide) (by simp)
     have x0' : W9.cell? ad5 = some (.int .i64 1) := by have h := x0; rw [show (rd_T73 [actSend y t] 0).f0 = 1 from rfl] at h; simpa [Addr.add] using h
     have x1' : W9.cell? ⟨ad5.block, ad5.off + 1, none⟩ = some (.int .u32 t) := by have h := x1; rw [show (rd_T73 [actSend y t] 0).f1 = t from rfl] at h; simpa [Addr.add] using h
     have x2' : W9.cell? ⟨ad5.block, ad5.off + 2, none⟩ = some (.slice (some adc) 1 c6) := by have h := x2; rw [show (rd_T73 [actSend y t] 0).f2.length = 1 from rfl] at h; simpa [Addr.add] using h
     have z1' : W9.cell? ⟨adc.block, adc.off + 1, none⟩ = some (.int .u8 1) := by have h := z1; rw [show (rd_T65 [y] 0).f1 = 1 from hy1] at h; simpa [Addr.add] using h
     clear hC9 x0 x1 x2 x3 l2 g2 g2' z0 z1
     go_wp2
     go_ret
     exact ⟨rfl, HL8.out.l.bl.trans (HB9.out.mono HL8.out.l.bl.size)⟩
end Go.Proofs.YthiaakjbapgibaaGreat.As
end
section
namespace Go.Proofs.YthiaakjbapgibaaGreat.As
open Go.ChangeShapes Go.WideShapes Go.ChangeAt Go.RowKit YthiaakjbapgibaaGreatW.PrintWords Base PCh
section
variable {H : Type} {enc : TypeId × Value → H} {W : World}
theorem open_chk {v : Value} {d : DataW H} {p : List MemPlace} (h : DataW.Trod enc Tryz.prog W 0 (fun _ => true) true 65 v d p) (hs : Short 65 d) :
  ∃ (x : Chk) (L : Lay), v = .agg (Go.Proofs.YthiaakjbapgibaaGreat.Ch.CV x L) ∧ Go.Proofs.YthiaakjbapgibaaGreat.Ch.CR W x L ∧ OkX x := by
 obtain ⟨fuel, hf⟩ := h
 obtain ⟨wt, ho⟩ := opens_chk
 obtain ⟨x, hK, _, hp⟩ := ho enc W fuel _ d p hf hs
 obtain ⟨L, hcs, hx⟩ := cr_of_K hK
 obtain ⟨cs, rfl⟩ : ∃ cs, v = .agg cs := by
  cases v with
  | agg cs => exact ⟨cs, rfl⟩
  | _ =>
   have := congrArg List.length hcs
   simp [Value.cells, Go.Proofs.YthiaakjbapgibaaGreat.Ch.CV] at this
 have hcs' : cs.toList = (Go.Proofs.YthiaakjbapgibaaGreat.Ch.CV x L).toList := hcs
 exact ⟨x, L, by rw [Array.toList_inj.1 hcs'], hx, hp⟩
end
end Go.Proofs.YthiaakjbapgibaaGreat.As
end
section
namespace Go.Proofs.YthiaakjbapgibaaGreat.assocStrangers
open Go.ChangeShapes Go.WideShapes Go.ChangeAt Go.RowKit Base
open Go.ChangeMaps (open_string shut_string)
set_option maxRecDepth 100000 in
theorem contract (H : Type) (enc : TypeId × Value → H) (W : World) (base : Nat) (args : Array Value) (ds gs : List (DataW H)) (before : List MemPlace)
  (hval : ∀ (j : Nat) t v, Tryz.f8.params[j]? = some t → args[j]? = some v → Value.okWide Tryz.prog W .any base t v)
  (hW : DataW.Whole enc Tryz.prog Tryz.f8.params.toList Rows.assocStrangersSpec.vars false W args.toList ds gs before)
  (hsz0 : (DataW.weightsEach Tryz.prog (Tryz.f8.params.toList ++ (OpenSpec.ofChange Rows.assocStrangersSpec).bare.plain.varTypes Tryz.prog) (ds ++ gs)).all (· ≤ reachBytes) = true)
  (hL : laidMetH Tryz.prog Rows.assocStrangersRow.laid W) :
  Calls Tryz.prog 8 args W fun e W' => ∃ v, e = .returned v ∧ Rows.assocStrangersSpec.post enc Tryz.prog Tryz.f8 false true false false W args v W' := by
 have hW' := hW
 obtain ⟨p, q, hA0, hV, rfl, hfz, hnd⟩ := hW
 have hA : DataW.TrodAll enc Tryz.prog W 0 (fun _ => true) true Tryz.f8.params.toList args.toList ds p := hA0
 rw [Tryz.params8] at hA hval
 obtain ⟨v0, vs0, d0, ds0, p0, q0, hargs, rfl, rfl, h0, r0⟩ := trodAll_cons hA
 obtain ⟨v1, vs1, d1, ds1, p1, q1, rfl, rfl, rfl, h1, r1⟩ := trodAll_cons r0
 obtain ⟨v2, vs2, d2, ds2, p2, q2, rfl, rfl, rfl, h2, r2⟩ := trodAll_cons r1
 obtain ⟨v3, vs3, d3, ds3, p3, q3, rfl, rfl, rfl, h3, r3⟩ := trodAll_cons r2
 obtain ⟨v4, vs4, d4, ds4, p4, q4, rfl, rfl, rfl, h4, r4⟩ := trodAll_cons r3
 obtain ⟨rfl, rfl, rfl⟩ := trodAll_nil r4
 obtain rfl : args = #[v0, v1, v2, v3, v4] := by cases args; simp_all
 obtain ⟨rfl, rfl⟩ := trodVars_none hV
 have hsz := hsz0
 rw [Tryz.params8] at hsz
 have k0 := h0
 have lt0 : ∀ x ∈ p0, x.block < W.heap.size := by obtain ⟨m, hm⟩ := k0; exact DataW.trod_lt m _ _ _ hm
 obtain ⟨K0, rfl, xo0⟩ := As.open_conf h0 (short_part hsz (j := 0) rfl rfl)
 obtain ⟨a1, len1, cap1, rfl⟩ := okWide_slice Tryz.underlying53 (hval 1 53 v1 rfl rfl)
 have k1 := h1
 have lt1 : ∀ x ∈ p1, x.block < W.heap.size := by obtain ⟨m, hm⟩ := k1; exact DataW.trod_lt m _ _ _ hm
 obtain ⟨l1, rfl, hc1, hb1, hw1, hp1⟩ := OpensP.arg (Classical.choose_spec As.opens_ops) h1 (short_part hsz (j := 1) rfl rfl)
 obtain ⟨a2, rfl, rfl, rfl, w2⟩ := open_int Tryz.underlying41 (hval 2 41 v2 rfl rfl) h2
 have k3 := h3
 have lt3 : ∀ x ∈ p3, x.block < W.heap.size := by obtain ⟨m, hm⟩ := k3; exact DataW.trod_lt m _ _ _ hm
 obtain ⟨x3, L3, rfl, xr3, xo3⟩ := As.open_chk h3 (short_part hsz (j := 3) rfl rfl)
 obtain ⟨a4, rfl, rfl, rfl, w4⟩ := open_int Tryz.underlying3 (hval 4 3 v4 rfl rfl) h4
 clear hA0 hsz hsz0
 refine (As.strangers_row K0 xo0 a1 cap1 l1 hb1 hc1 hp1 a2 w2 x3 L3 xr3 xo3 a4 w4).mono fun e W' ⟨he, bel⟩ => ?_
 subst he
 exact ⟨_, rfl, _, _, _, [], _, [], hW', trodAll_mk1 (shut_bool Tryz.underlying4 _), (trodAll_cons_mk (Below.trod laidOut (by kernel_rfl) (of_decide_eq_true (by kernel_rfl)) k0 bel lt0) (trodAll_cons_mk (Below.trod laidOut (by kernel_rfl) (of_decide_eq_true (by kernel_rfl)) k1 bel lt1) (trodAll_cons_mk (shut_int Tryz.underlying41 w2) (trodAll_cons_mk (Below.trod laidOut (by kernel_rfl) (of_decide_eq_true (by kernel_rfl)) k3 bel lt3) (trodAll_cons_mk (shut_int Tryz.underlying3 w4) trodAll_mk0))))), rfl, bel.frame _, fun h => by cases h⟩
noncomputable def laidWorld (os : Os) : World := World.holding Tryz.prog os ⟨#[], #[], []⟩
theorem laid_met (os : Os) : laidMet Tryz.prog Rows.assocStrangersRow.laid ((laidWorld os).forCall (fun _ _ => 0) ⟨#[], #[.agg #[.int .u8 0, .int .u8 0, .int .u8 0, .int .u8 0, .int .u8 0, .int .u8 0, .int .u8 0, .int .u8 0, .int .u8 0, .int .u8 0, .int .u8 0, .int .u8 0, .int .u8 0, .int .u8 0, .int .u8 0, .int .u8 0, .int .u64 0, .int .i64 0, .int .u32 0, .int .u16 0, .int .u16 0, .int .i64 0, .int .i64 0, .int .u16 0, .int .u16 0], .slice none 0 0, .int .u32 0, .agg #[.int .u8 0, .int .u8 0, .int .u32 0, .int .u16 0, .int .u16 0, .int .u32 0, .int .u32 0, .int .u32 0, .int .u16 0, .int .u16 0, .slice none 0 0, .slice none 0 0, .slice none 0 0, .slice none 0 0, .slice none 0 0], .int .i64 0], []⟩).memory :=
 laidMet_of_run' 8 (by kernel_rfl) (by kernel_rfl)
theorem reads (os : Os) {H : Type} (enc : TypeId × Value → H) : ∃ places, DataW.whole enc Tryz.prog ((laidWorld os).forCall (fun _ _ => 0) ⟨#[], #[.agg #[.int .u8 0, .int .u8 0, .int .u8 0, .int .u8 0, .int .u8 0, .int .u8 0, .int .u8 0, .int .u8 0, .int .u8 0, .int .u8 0, .int .u8 0, .int .u8 0, .int .u8 0, .int .u8 0, .int .u8 0, .int .u8 0, .int .u64 0, .int .i64 0, .int .u32 0, .int .u16 0, .int .u16 0, .int .i64 0, .int .i64 0, .int .u16 0, .int .u16 0], .slice none 0 0, .int .u32 0, .agg #[.int .u8 0, .int .u8 0, .int .u32 0, .int .u16 0, .int .u16 0, .int .u32 0, .int .u32 0, .int .u32 0, .int .u16 0, .int .u16 0, .slice none 0 0, .slice none 0 0, .slice none 0 0, .slice none 0 0, .slice none 0 0], .int .i64 0], []⟩).memory Tryz.f8.params.toList Rows.assocStrangersSpec.vars false (#[.agg #[.int .u8 0, .int .u8 0, .int .u8 0, .int .u8 0, .int .u8 0, .int .u8 0, .int .u8 0, .int .u8 0, .int .u8 0, .int .u8 0, .int .u8 0, .int .u8 0, .int .u8 0, .int .u8 0, .int .u8 0, .int .u8 0, .int .u64 0, .int .i64 0, .int .u32 0, .int .u16 0, .int .u16 0, .int .i64 0, .int .i64 0, .int .u16 0, .int .u16 0], .slice none 0 0, .int .u32 0, .agg #[.int .u8 0, .int .u8 0, .int .u32 0, .int .u16 0, .int .u16 0, .int .u32 0, .int .u32 0, .int .u32 0, .int .u16 0, .int .u16 0, .slice none 0 0, .slice none 0 0, .slice none 0 0, .slice none 0 0, .slice none 0 0], .int .i64 0] : Array Value).toList 8 = some ([.agg [.agg [.lit (.int .u8 0), .lit (.int .u8 0), .lit (.int .u8 0), .lit (.int .u8 0), .lit (.int .u8 0), .lit (.int .u8 0), .lit (.int .u8 0), .lit (.int .u8 0), .lit (.int .u8 0), .lit (.int .u8 0), .lit (.int .u8 0), .lit (.int .u8 0), .lit (.int .u8 0), .lit (.int .u8 0), .lit (.int .u8 0), .lit (.int .u8 0)], .lit (.int .u64 0), .lit (.int .i64 0), .lit (.int .u32 0), .lit (.int .u16 0), .lit (.int .u16 0), .lit (.int .i64 0), .lit (.int .i64 0), .lit (.int .u16 0), .lit (.int .u16 0)], .nil, .lit (.int .u32 0), .agg [.lit (.int .u8 0), .lit (.int .u8 0), .lit (.int .u32 0), .lit (.int .u16 0), .lit (.int .u16 0), .lit (.int .u32 0), .lit (.int .u32 0), .lit (.int .u32 0), .lit (.int .u16 0), .lit (.int .u16 0), .nil, .nil, .nil, .nil, .nil], .lit (.int .i64 0)], [], places) :=
 ⟨[], by kernel_rfl⟩
set_option maxRecDepth 100000 in
theorem lifted (os : Os) (started : os.Started) (H : Type) (enc : TypeId × Value → H) (F : Stop.Interp) :
  ReturnsInHanded {} Tryz.checked os 8 .any ((OpenSpec.ofChange Rows.assocStrangersSpec).preRow enc Tryz.prog Tryz.f8 Rows.assocStrangersRow.domain false Rows.assocStrangersRow.laid) (((OpenSpec.ofChange Rows.assocStrangersSpec).at F).post enc Tryz.prog Tryz.f8 false true false false) := by
 obtain ⟨places, hx⟩ := reads os enc
 refine returnsInHanded_of_row (C := Tryz.checked) (s := (OpenSpec.ofChange Rows.assocStrangersSpec)) own started (by kernel_rfl) Tryz.func8
  (witness_row_at (enc := enc) (C := Tryz.checked) false (laidWorld os) #[.agg #[.int .u8 0, .int .u8 0, .int .u8 0, .int .u8 0, .int .u8 0, .int .u8 0, .int .u8 0, .int .u8 0, .int .u8 0, .int .u8 0, .int .u8 0, .int .u8 0, .int .u8 0, .int .u8 0, .int .u8 0, .int .u8 0, .int .u64 0, .int .i64 0, .int .u32 0, .int .u16 0, .int .u16 0, .int .i64 0, .int .i64 0, .int .u16 0, .int .u16 0], .slice none 0 0, .int .u32 0, .agg #[.int .u8 0, .int .u8 0, .int .u32 0, .int .u16 0, .int .u16 0, .int .u32 0, .int .u32 0, .int .u32 0, .int .u16 0, .int .u16 0, .slice none 0 0, .slice none 0 0, .slice none 0 0, .slice none 0 0, .slice none 0 0], .int .i64 0] rfl (by kernel_rfl) (by kernel_rfl) (by kernel_rfl)
   (OpenSpec.preRow_of_cond 8 hx (by kernel_rfl) (fun k hk => by cases hk) (by kernel_rfl) (laid_met os))) ?_
 intro W base args ds gs before hval hW _ hcond hsz hL _ _
 exact contract H enc W base args ds gs before hval hW hsz hL
theorem said : Rows.AssocStrangersSaid :=
 OpenClaim.holds_of_cond 8 Tryz.f8 rfl rfl rfl rfl rfl rfl rfl ⟨rfl, rfl, rfl, rfl, rfl⟩ rfl rfl rfl rfl rfl (by kernel_rfl) Tryz.func8 (by kernel_rfl)
  (of_decide_eq_true (by kernel_rfl)) (by unfold Func.isWrapper; first | (rw [if_pos (by decide +kernel)]; kernel_rfl) | (rw [if_neg (by decide +kernel)]; exact ⟨rfl, rfl⟩))
  (fun os started H enc _ F => by rw [OpenClaim.pre_eq_preRow]; exact lifted os started H enc F)
theorem assocStrangers_holds : Rows.AssocStrangersSaid := said
#print axioms assocStrangers_holds
end Go.Proofs.YthiaakjbapgibaaGreat.assocStrangers
end
