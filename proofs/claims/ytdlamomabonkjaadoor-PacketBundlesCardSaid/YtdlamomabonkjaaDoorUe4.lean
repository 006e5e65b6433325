/- The texts of one proof, merged: part 4. -/
import Derived.Test.YtdlamomabonkjaaDoorUe3
import Derived.Deep.WholeRow
set_option maxRecDepth 100000
set_option linter.unusedVariables false
set_option linter.unusedSimpArgs false
section
namespace Go.Proofs.YtdlamomabonkjaaDoor.Ch
open Go.RowKit YtdlamomabonkjaaDoorW.PrintWords YtdlamomabonkjaaDoorW.PrintLast Base PCh ParDec
theorem below_cell {B : Nat} {w W : World} {a : Addr} {v : Value} (h : Below B w W) (hlt : a.block < B) (hc : w.cell? a = some v) : W.cell? a = some v := by
 have := h.block a.block hlt
 simpa [World.cell?, this] using hc
theorem WS.alloc {w : World} {gw : Nat} {xs : List Int} (h : WS w gw xs) (x : Obj) : WS (w.alloc x) gw xs := by
 obtain ⟨u, hg, hR⟩ := h
 exact ⟨u, blk_alloc hg _, Kd.R_alloc hR _⟩
theorem gapL_length (l : List GapS) : (gapL l).length = 2 * l.length := by
 induction l with
 | nil => rfl
 | cons g r ih => simp only [gapL, List.length_append, List.length_cons, List.length_nil, ih]; omega
theorem twoL_app (a b : List Int) : twoL (a ++ b) = twoL a ++ twoL b := by
 induction a with
 | nil => rfl
 | cons n r ih => simp only [List.cons_append, twoL, ih, List.append_assoc]
set_option maxHeartbeats 2000000 in
theorem wgaps_calls (w : World) (gw : Nat) (xs : List Int) (A : Option Addr) (c : Nat) (gs : List GapS) (hs : WS w gw xs) (hA : ∀ W, Fr gw w W → Kd.C k117 W A gs.length gs) (hx : xs.length + 4 * gs.length ≤ 140737488355328) :
  Calls Tryd.prog 77 #[.pointer (some ⟨gw, 0, none⟩), .slice A gs.length c] w fun e w' => e = .returned (.tuple #[]) ∧ WS w' gw (xs ++ twoL (gapL gs)) ∧ Fr gw w w' := by
 have HS := Lh hs
 have HA := Lh hA
 have hm := (hA w (Fr.refl _ _)).2.1
 have HGW := Lh (show gw < w.heap.size by obtain ⟨u, hg, _⟩ := hs; exact blk_lt hg)
 have HX := Lh hx
 clear hs hA hx
 go_enter Tryd.func77, Tryd.ntmps77
 go_wp2
 go_loopw [8] (fun v8 wr => ∃ (i : Nat) (ys : List Int), i ≤ gs.length ∧ v8 = .int .i64 (i : Int) ∧ Hid (ys.length = xs.length + 4 * i) ∧ Hid (ys ++ twoL (gapL (gs.drop i)) = xs ++ twoL (gapL gs)) ∧ Hid (WS wr gw ys) ∧ Hid (Fr gw w wr)) (fun v8 _ => gs.length - (intOf v8).toNat)
 case atStart => exact ⟨0, xs, Nat.zero_le _, rfl, (by show _ = _; omega), rfl, HS.out, Fr.refl _ _⟩
 case round =>
  obtain ⟨i, ys, hi, rfl, HL, HE, HW, HF⟩ := hrel
  by_cases hlt : i < gs.length
  ·obtain ⟨ad, rfl, x0, x1⟩ := at_T117 (HA.out _ HF.out) (i : Int) (by omega) (by omega)
   rw [Int.toNat_natCast] at x0 x1
   have hE := HE.out
   rw [gap_drop gs i hlt, gapL, twoL_app, ← List.append_assoc] at hE
   generalize rd_T117 gs (i : Int) = g at *
   have HE2 := Lh hE
   have HXL := Lh (show ys.length + 2 * [g.f0, g.f1].length ≤ 140737488355328 by have := HX.out; have := HL.out; simp; omega)
   have HL2 := Lh (show (ys ++ twoL [g.f0, g.f1]).length = xs.length + 4 * (i + 1) by rw [List.length_append, twoL_length]; have := HL.out; simp; omega)
   have HT := Lh (wtwo_lit (wr.alloc (.cells #[.int .u16 g.f0, .int .u16 g.f1] 117)) gw ys [g.f0, g.f1] [.int .u16 g.f0, .int .u16 g.f1] 2 rfl rfl (HW.out.alloc _) HXL.out)
   rw [World.size_alloc] at HT
   have HGS := Lh (show gw ≤ wr.heap.size by have := HGW.out; have := HF.out.below.size; omega)
   clear hE HE HXL
   go_wp2_with fail
   refine HT.out.mono ?_
   rintro e w1 ⟨rfl, hS, hF⟩
   have HF2 := Lh ((HF.out.alloc HGS.out _).trans hF)
   have HS2 := Lh hS
   clear hS hF HT HW HF x0 x1
   go_wp2
   go_roundw
   case rel => exact ⟨i + 1, _, by omega, by go_num, HL2, HE2, HS2, HF2⟩
   case measure => simp [intOf]; omega
  ·obtain rfl : i = gs.length := by omega
   have hE := HE.out
   rw [List.drop_length, show twoL (gapL []) = [] from rfl, List.append_nil] at hE
   subst hE
   clear HE
   go_wp2
   go_end0
   exact ⟨rfl, HW.out, HF.out⟩
structure VX (w : World) (x : Chk) (L : Lay) (xs : List Int) (W : World) : Prop where
 x0 : W.heap[w.heap.size]? = some (.cells (CV x L) 41 (0, 0))
 ws : WS W (w.heap.size + 1) xs
 bl : Below w.heap.size w W
theorem VX.cell {w W : World} {x : Chk} {L : Lay} {xs : List Int} (h : VX w x L xs W) (i : Nat) : W.cell? ⟨w.heap.size, i, none⟩ = (CV x L)[i]? := blk_cell h.x0 i
theorem VX.fr {w W W' : World} {x : Chk} {L : Lay} {xs ys : List Int} (h : VX w x L xs W) (hs : WS W' (w.heap.size + 1) ys) (hf : Fr (w.heap.size + 1) W W') : VX w x L ys W' :=
 ⟨(hf.below.block _ (by omega)).trans h.x0, hs, h.bl.trans (hf.below.mono (by omega))⟩
theorem VX.below {w W W' : World} {x : Chk} {L : Lay} {xs : List Int} (h : VX w x L xs W) (hb : Below W.heap.size W W') : VX w x L xs W' := by
 obtain ⟨u, hg, hR⟩ := h.ws
 exact ⟨blk_below h.x0 hb, ⟨u, blk_below hg hb, R_only hR (Only.of_below (S := fun _ => False) hb) (fun _ _ _ h => h)⟩, below_then h.bl h.bl.size hb⟩
theorem VX.new (w : World) (x : Chk) (L : Lay) : VX w x L [] ((w.alloc (.cells (CV x L) 41)).alloc (.cells #[.slice none 0 0] 87)) := by
 refine ⟨blk_alloc (blk_new _ _) _, ⟨_, ?_, Kd.R_nil _ _ _ _ _⟩, below_alloc (below_alloc (Below.refl _ _) _) _⟩
 have h := blk_new (w.alloc (.cells (CV x L) 41)) (.cells #[.slice none 0 0] 87)
 rw [World.size_alloc] at h
 exact h
theorem VX.four {w W : World} {x : Chk} {L : Lay} {xs : List Int} (h : VX w x L xs W) (ns : List Int) (vs : List Value) (n : Nat) (hv : vs = ns.map (Value.int .u32)) (hn : ns.length = n) (hx : xs.length ≤ 140737488355300) (hn4 : n ≤ 4) :
  Calls Tryd.prog 76 #[.pointer (some ⟨w.heap.size + 1, 0, none⟩), .slice (some ⟨W.heap.size, 0, none⟩) n n] (W.alloc (.cells vs.toArray 23)) fun e w' => e = .returned (.tuple #[]) ∧ VX w x L (xs ++ fourL ns) w' :=
 (wfour_lit W _ xs ns vs n hv hn h.ws (by omega)).mono fun _ _ ⟨h1, h2, h3⟩ => ⟨h1, h.fr h2 h3⟩
theorem VX.two {w W : World} {x : Chk} {L : Lay} {xs : List Int} (h : VX w x L xs W) (ns : List Int) (vs : List Value) (n : Nat) (hv : vs = ns.map (Value.int .u16)) (hn : ns.length = n) (hx : xs.length ≤ 140737488355300) (hn4 : n ≤ 4) :
  Calls Tryd.prog 53 #[.pointer (some ⟨w.heap.size + 1, 0, none⟩), .slice (some ⟨W.heap.size, 0, none⟩) n n] (W.alloc (.cells vs.toArray 22)) fun e w' => e = .returned (.tuple #[]) ∧ VX w x L (xs ++ twoL ns) w' :=
 (wtwo_lit W _ xs ns vs n hv hn h.ws (by omega)).mono fun _ _ ⟨h1, h2, h3⟩ => ⟨h1, h.fr h2 h3⟩
theorem VX.gaps {w W : World} {x : Chk} {L : Lay} {xs : List Int} (h : VX w x L xs W) (A : Option Addr) (c : Nat) (gs : List GapS) (hC : Kd.C k117 w A gs.length gs) (hx : xs.length ≤ 140737488300000) (hg : gs.length ≤ 4096) :
  Calls Tryd.prog 77 #[.pointer (some ⟨w.heap.size + 1, 0, none⟩), .slice A gs.length c] W fun e w' => e = .returned (.tuple #[]) ∧ VX w x L (xs ++ twoL (gapL gs)) w' :=
 (wgaps_calls W _ xs A c gs h.ws (fun W' hf => Kd.C_below hC (h.bl.trans (hf.below.mono (by omega)))) (by omega)).mono fun _ _ ⟨h1, h2, h3⟩ => ⟨h1, h.fr h2 h3⟩
theorem VX.dups {w W : World} {x : Chk} {L : Lay} {xs : List Int} (h : VX w x L xs W) (A : Option Addr) (c : Nat) (ns : List Int) (hC : (Kd.int .u32).C w A ns.length ns) (hx : xs.length ≤ 140737488300000) (hg : ns.length ≤ 4096) :
  Calls Tryd.prog 76 #[.pointer (some ⟨w.heap.size + 1, 0, none⟩), .slice A ns.length c] W fun e w' => e = .returned (.tuple #[]) ∧ VX w x L (xs ++ fourL ns) w' :=
 (wfour_calls W _ xs A c ns h.ws (fun W' hf => Kd.C_below hC (h.bl.trans (hf.below.mono (by omega)))) (by omega)).mono fun _ _ ⟨h1, h2, h3⟩ => ⟨h1, h.fr h2 h3⟩
theorem encP_len (ps : List PrmS) : (encP ps).1.length ≤ 16777728 := by
 unfold encP
 by_cases h : ps.length > 256
 ·rw [if_pos h]; simp
 rw [if_neg h]
 have hr : ∀ (qs : List PrmS) (b : List Int), (ParEnc.runB b qs).1.length ≤ b.length + 65538 * qs.length := by
  intro qs
  induction qs with
  | nil => intro b; simp [ParEnc.runB]
  | cons p r ih =>
   intro b
   unfold ParEnc.runB
   split
   ·simp
   ·rename_i hp
    have h1 := ParEnc.stepB_le b p (by omega)
    have h2 := ih (ParEnc.stepB b p)
    simp only [List.length_cons]
    omega
 have := hr ps []
 simp only [List.length_nil] at this
 omega
theorem u16_len {n : Nat} (h : n ≤ 4096) : IntKind.u16.wrap (n : Int) = (n : Int) := by
 simp [IntKind.wrap, IntKind.bits, IntKind.signed]
 omega
set_option maxHeartbeats 8000000 in
theorem value_calls (b0 : Nat) (w : World) (x : Chk) (L : Lay) (hb0 : b0 ≤ w.heap.size) (hx : ∀ W', Below b0 w W' → CR W' x L) (l10 : x.f10.length ≤ 4096) (l11 : x.f11.length ≤ 4096) (l12 : x.f12.length ≤ 4096) (l13 : x.f13.length ≤ 140737488355232) :
  Calls Tryd.prog 52 #[.agg (CV x L)] w (ValQ b0 (valueD x) w) := by
 have hxw := hx w (Below.refl _ _)
 have HCR := Lh (fun (W' : World) (h : Below w.heap.size w W') => hxw.below h)
 have HXX := Lh hx
 have H14 := Lh (fun (W' : World) (h : Below w.heap.size w W') => encP_calls W' L.A14 L.c14 x.f14 (Kd.C_below hxw.h14 h) hxw.l14)
 have X := VX.new w x L
 have HXW := Lh hxw
 have HEL := Lh (encP_len x.f14)
 clear hx hxw
 go_enter Tryd.func52, Tryd.ntmps52
 go_upto_region 2 with (fail)
 refine wp_gen (VX w x L []) X ?_
 clear X
 intro W X
 have k0 : W.cell? ⟨w.heap.size, 0, none⟩ = some (.int .u8 x.f0) := X.cell 0
 by_cases hk : x.f0 = 0
 ·have HV := Lh (show valueD x = [] ++ fourL [x.f2] ++ twoL [x.f3, x.f4] ++ fourL [x.f5] ++ x.f13 from by unfold valueD; rw [if_pos (by omega)]; try rfl)
  have q0 : (x.f0 == 0) = true := by simp [hk]
  clear hk
  have k2 : W.cell? ⟨w.heap.size, 2, none⟩ = some (.int .u32 x.f2) := X.cell 2
  go_wp2_with fail
  refine (X.four [x.f2] [.int .u32 (x.f2)] 1 rfl rfl (by simp [twoL_length, fourL_length, gapL_length]; try omega) (by decide)).mono ?_
  rintro e W1 ⟨rfl, X1⟩
  replace X := X1
  clear X1 k2
  have k3 : W1.cell? ⟨w.heap.size, 3, none⟩ = some (.int .u16 x.f3) := X.cell 3
  have k4 : W1.cell? ⟨w.heap.size, 4, none⟩ = some (.int .u16 x.f4) := X.cell 4
  go_wp2_with fail
  refine (X.two [x.f3, x.f4] [.int .u16 (x.f3), .int .u16 (x.f4)] 2 rfl rfl (by simp [twoL_length, fourL_length, gapL_length]; try omega) (by decide)).mono ?_
  rintro e W2 ⟨rfl, X1⟩
  replace X := X1
  clear X1 k3 k4
  have k5 : W2.cell? ⟨w.heap.size, 5, none⟩ = some (.int .u32 x.f5) := X.cell 5
  go_wp2_with fail
  refine (X.four [x.f5] [.int .u32 (x.f5)] 1 rfl rfl (by simp [twoL_length, fourL_length, gapL_length]; try omega) (by decide)).mono ?_
  rintro e W3 ⟨rfl, X1⟩
  replace X := X1
  clear X1 k5
  go_upto_region 8 with (fail)
  have HXL := Lh (show ([] ++ fourL [x.f2] ++ twoL [x.f3, x.f4] ++ fourL [x.f5]).length + x.f13.length ≤ 140737488355328 by simp [twoL_length, fourL_length]; omega)
  obtain ⟨xs, hxs⟩ : ∃ xs, [] ++ fourL [x.f2] ++ twoL [x.f3, x.f4] ++ fourL [x.f5] = xs := ⟨_, rfl⟩
  obtain ⟨l13', hl13⟩ : ∃ l, x.f13 = l := ⟨_, rfl⟩
  rw [hxs] at X HXL HV
  rw [hl13] at HXL HV
  have k13 : W3.cell? ⟨w.heap.size, 13, none⟩ = some (.slice L.A13 x.f13.length L.c13) := X.cell 13
  have hbd := HXW.out.h13
  rw [hl13] at k13 hbd
  obtain ⟨u, hg, hR⟩ := X.ws
  obtain ⟨Au, cu, rfl⟩ := Kd.R_slice hR
  have HC := Lh hg
  have HR := Lh hR
  have HBW := Lh X.bl
  obtain ⟨gb, hgb⟩ : ∃ gb, w.heap.size = gb := ⟨_, rfl⟩
  obtain ⟨gw, hgw⟩ : ∃ gw, w.heap.size + 1 = gw := ⟨_, rfl⟩
  have HU := Lh (fun (w' : World) (h : Below gw W3 w') => below_cell h (show w.heap.size < gw by omega) k13)
  have HBD := Lh (fun (w' : World) (h : Below gw W3 w') => Kd.C_below hbd (HBW.out.trans (h.mono (by omega))))
  rw [hgw] at HC HR ⊢
  rw [hgb] at HU ⊢
  have HGL := Lh (show gw = w.heap.size + 1 from hgw.symm)
  clear hg hR X k13 hbd hxs hl13 hgb hgw H14 HCR HXX HXW HEL l10 l11 l12 l13 hb0
  generalize l13' = l13 at *
  generalize W3 = W at *
  have B := True.intro
  have C := True.intro
  have R := True.intro
  refine start_ (n := 11) (S := fun w' => True) (ds := []) #[false, false, false, false, false, false, false, false, false, false, false] (by kernel_rfl) rfl rfl trivial (fun hHeld => ?_)
  refine with_tabW valAtab8 valAbits8 (fun HT_ HW_ => ?_)
  refine pu 0 34 ?_ rfl rfl (any_of HT_.out (by kernel_rfl)) (fun _ _ _ h => h) (by rfl) ?_ ?_ ?_ ?_
  rotate_left
  ·intro w'
   go_simp
   with_reducible rfl
  rotate_left
  ·simp only [sL]
   rfl
  refine pu 1 35 ?_ rfl rfl (any_of HT_.out (by kernel_rfl)) (fun _ _ _ h => h) (by rfl) ?_ ?_ ?_ ?_
  rotate_left
  ·intro w'
   go_simp
   with_reducible rfl
  rotate_left
  ·simp only [sL]
   rfl
  refine inv_at [2, 3, 4, 5, 6, 7, 8, 9, 10] (fun a0_ b a w' => ∃ (v9 : Value), a = putSel a0_ b [(2, 36, .pointer (some ⟨gw, 0, none⟩)), (3, 37, .pointer (some ⟨gw, 0, none⟩)), (4, 38, .slice Au xs.length cu), (5, 39, .pointer (some ⟨gb, 13, none⟩)), (6, 40, .slice L.A13 l13.length L.c13), (7, 41, v9), (8, 42, .pointer (some ⟨gw, 0, none⟩)), (9, 43, .pointer (some ⟨gw, 0, none⟩))] ∧ (b 7 = false → Fr gw W w') ∧ (b 7 = false → w'.heap[gw]? = some (.cells #[.slice Au xs.length cu] 87 (0, 0))) ∧ (b 7 = false → (Kd.int .u8).R 5 w' (gw + 1) (fun k => k ≠ gw) (.slice Au xs.length cu) xs) ∧ (b 7 = true → b 10 = false → (Kd.int .u8).R 5 w' (gw + 1) (fun k => k ≠ gw) v9 (xs ++ l13) ∧ w'.heap[gw]? = some (.cells #[.slice Au xs.length cu] 87 (0, 0)) ∧ Fr gw W w') ∧ (b 10 = true → ∃ u, w'.heap[gw]? = some (.cells #[u] 87 (0, 0)) ∧ (Kd.int .u8).R 5 w' (gw + 1) (fun k => k ≠ gw) u (xs ++ l13) ∧ Fr gw W w')) HT_.out HW_.out (by kernel_rfl) (by kernel_rfl) ?_ ?_ ?_
  ·exact ⟨.bool false, by simp only [putSel, Bool.false_eq_true, if_false], fun _ => (Fr.refl _ _).drewN 1, fun _ => HC.out, fun _ => HR.out, fun h_ => absurd h_ (by decide), fun h_ => absurd h_ (by decide)⟩
  ·skip
   clear B C R
   refine sc rfl ?_ ?_
   ·rintro b a w' ⟨v9, ha, Q_B, Q_C, Q_R, Q_S1, Q_S2⟩ hb_ hon hoff K hK
    have e35 : a.tmps[35]? = some (.pointer (some ⟨gw, 0, none⟩)) := by rw [ha]; exact (putSel_off rfl).trans rfl
    replace ha := Am ha
    refine value_ (w1 := w') (v := .pointer (some ⟨gw, 0, none⟩)) (by rfl) rfl ?_ ?_
    ·go_simp
     (try simp only [i64_w])
     try rfl
    refine hK.out _ _ ⟨v9, (puk ha 0 hb_ rfl rfl rfl), Q_B, Q_C, Q_R, fun h0_ _ => hof (hoff 7 (by kernel_rfl)) h0_, fun h0_ => hof (hoff 10 (by kernel_rfl)) h0_⟩
   refine sc rfl ?_ ?_
   ·rintro b a w' ⟨v9, ha, Q_B, Q_C, Q_R, Q_S1, Q_S2⟩ hb_ hon hoff K hK
    have e36 := psn ha 0 rfl rfl (hon 2 (by kernel_rfl)) rfl
    replace ha := Am ha
    refine value_ (w1 := w') (v := .pointer (some ⟨gw, 0, none⟩)) (by rfl) rfl ?_ ?_
    ·go_simp
     (try simp only [i64_w])
     try rfl
    refine hK.out _ _ ⟨v9, (puk ha 1 hb_ rfl rfl rfl), Q_B, Q_C, Q_R, fun h0_ _ => hof (hoff 7 (by kernel_rfl)) h0_, fun h0_ => hof (hoff 10 (by kernel_rfl)) h0_⟩
   refine sc rfl ?_ ?_
   ·rintro b a w' ⟨v9, ha, Q_B, Q_C, Q_R, Q_S1, Q_S2⟩ hb_ hon hoff K hK
    have e37 := psn ha 1 rfl rfl (hon 3 (by kernel_rfl)) rfl
    replace ha := Am ha
    have C := Am (Q_C (hoff 7 (by kernel_rfl)))
    have hs := blk_cell C.out 0
    refine value_ (w1 := w') (v := .slice Au xs.length cu) (by rfl) rfl ?_ ?_
    ·go_simp
     (try simp only [i64_w])
     try rfl
    refine hK.out _ _ ⟨v9, (puk ha 2 hb_ rfl rfl rfl), Q_B, Q_C, Q_R, fun h0_ _ => hof (hoff 7 (by kernel_rfl)) h0_, fun h0_ => hof (hoff 10 (by kernel_rfl)) h0_⟩
   refine sc rfl ?_ ?_
   ·rintro b a w' ⟨v9, ha, Q_B, Q_C, Q_R, Q_S1, Q_S2⟩ hb_ hon hoff K hK
    have e1 : a.tmps[1]? = some (.pointer (some ⟨gb, 0, none⟩)) := by rw [ha]; exact (putSel_off rfl).trans rfl
    replace ha := Am ha
    refine value_ (w1 := w') (v := .pointer (some ⟨gb, 13, none⟩)) (by rfl) rfl ?_ ?_
    ·go_simp
     (try simp only [i64_w])
     try rfl
    refine hK.out _ _ ⟨v9, (puk ha 3 hb_ rfl rfl rfl), Q_B, Q_C, Q_R, fun h0_ _ => hof (hoff 7 (by kernel_rfl)) h0_, fun h0_ => hof (hoff 10 (by kernel_rfl)) h0_⟩
   refine sc rfl ?_ ?_
   ·rintro b a w' ⟨v9, ha, Q_B, Q_C, Q_R, Q_S1, Q_S2⟩ hb_ hon hoff K hK
    have e39 := psn ha 3 rfl rfl (hon 5 (by kernel_rfl)) rfl
    replace ha := Am ha
    have B := Am (Q_B (hoff 7 (by kernel_rfl)))
    have hs : w'.cell? ⟨gb, 13, none⟩ = some (.slice L.A13 l13.length L.c13) := HU.out w' B.out.below
    refine value_ (w1 := w') (v := .slice L.A13 l13.length L.c13) (by rfl) rfl ?_ ?_
    ·go_simp
     (try simp only [i64_w])
     try rfl
    refine hK.out _ _ ⟨v9, (puk ha 4 hb_ rfl rfl rfl), Q_B, Q_C, Q_R, fun h0_ _ => hof (hoff 7 (by kernel_rfl)) h0_, fun h0_ => hof (hoff 10 (by kernel_rfl)) h0_⟩
   refine sc rfl ?_ ?_
   ·rintro b a w' ⟨v9, ha, Q_B, Q_C, Q_R, Q_S1, Q_S2⟩ hb_ hon hoff K hK
    have e38 := psn ha 2 rfl rfl (hon 4 (by kernel_rfl)) rfl
    have e40 := psn ha 4 rfl rfl (hon 6 (by kernel_rfl)) rfl
    replace ha := Am ha
    have B := Am (Q_B hb_)
    have C := Am (Q_C hb_)
    have R := Am (Q_R hb_)
    refine Kd.R_append_rows_step (Kd.int .u8) (Rr := (Kd.int .u8).K w') (w0 := w') (W := w') (gw + 1) (by rfl) _ _ 27 5 _ 1 rfl Tryd.underlying27 info_u8 rfl (by decide) (by decide) (.slice Au xs.length cu) xs l13 L.A13 l13.length L.c13 (fun k => k ≠ gw) (fun _ => False) (by simp [Act.eval, Array.getD_eq_getD_getElem?, e38]) (by simp [Act.eval, Array.getD_eq_getD_getElem?, e40]) R.out (HBD.out w' B.out.below) (fun _ _ h => h) (fun _ h => h.elim) (fun k hk => by have := blk_lt C.out; omega) (Below.refl _ _) (by have := blk_lt C.out; omega) (by have := HXL.out; omega) ?_
    intro v1 w1 hR1 hB1 hG1 _
    refine hK.out _ _ ⟨v1, (puk ha 5 hb_ rfl rfl rfl), fun h0_ => absurd ((up_self b 7).symm.trans h0_) (by decide), fun h0_ => absurd ((up_self b 7).symm.trans h0_) (by decide), fun h0_ => absurd ((up_self b 7).symm.trans h0_) (by decide), fun _ _ => ⟨hR1, blk_grown C.out hG1 (fun e => R.out.1 _ e.symm rfl), B.out.grown R.out (hB1.mono (Nat.le_succ _)) hG1⟩, fun h0_ => hof (hoff 10 (by kernel_rfl)) h0_⟩
   refine sc rfl ?_ ?_
   ·rintro b a w' ⟨v9, ha, Q_B, Q_C, Q_R, Q_S1, Q_S2⟩ hb_ hon hoff K hK
    have e34 : a.tmps[34]? = some (.pointer (some ⟨gw, 0, none⟩)) := by rw [ha]; exact (putSel_off rfl).trans rfl
    replace ha := Am ha
    refine value_ (w1 := w') (v := .pointer (some ⟨gw, 0, none⟩)) (by rfl) rfl ?_ ?_
    ·go_simp
     (try simp only [i64_w])
     try rfl
    refine hK.out _ _ ⟨v9, (puk ha 6 hb_ rfl rfl rfl), fun h0_ => absurd ((hon 7 (by kernel_rfl)).symm.trans h0_) (by decide), fun h0_ => absurd ((hon 7 (by kernel_rfl)).symm.trans h0_) (by decide), fun h0_ => absurd ((hon 7 (by kernel_rfl)).symm.trans h0_) (by decide), Q_S1, fun h0_ => hof (hoff 10 (by kernel_rfl)) h0_⟩
   refine sc rfl ?_ ?_
   ·rintro b a w' ⟨v9, ha, Q_B, Q_C, Q_R, Q_S1, Q_S2⟩ hb_ hon hoff K hK
    have e42 := psn ha 6 rfl rfl (hon 8 (by kernel_rfl)) rfl
    replace ha := Am ha
    refine value_ (w1 := w') (v := .pointer (some ⟨gw, 0, none⟩)) (by rfl) rfl ?_ ?_
    ·go_simp
     (try simp only [i64_w])
     try rfl
    refine hK.out _ _ ⟨v9, (puk ha 7 hb_ rfl rfl rfl), fun h0_ => absurd ((hon 7 (by kernel_rfl)).symm.trans h0_) (by decide), fun h0_ => absurd ((hon 7 (by kernel_rfl)).symm.trans h0_) (by decide), fun h0_ => absurd ((hon 7 (by kernel_rfl)).symm.trans h0_) (by decide), Q_S1, fun h0_ => hof (hoff 10 (by kernel_rfl)) h0_⟩
   refine sc rfl ?_ ?_
   ·rintro b a w' ⟨v9, ha, Q_B, Q_C, Q_R, Q_S1, Q_S2⟩ hb_ hon hoff K hK
    have e43 := psn ha 7 rfl rfl (hon 9 (by kernel_rfl)) rfl
    have e41 := psn ha 5 rfl rfl (hon 7 (by kernel_rfl)) rfl
    replace ha := Am ha
    have S1 := Am (Q_S1 (hon 7 (by kernel_rfl)) hb_)
    obtain ⟨hR1, hC1, hF1⟩ := S1.out
    obtain ⟨A7, c7, hv9⟩ := Kd.R_slice hR1
    have hs := blk_cell hC1 0
    have hf := blk_frozen hC1 0
    refine skip_ (w1 := w'.setCell ⟨gw, 0, none⟩ v9) (by rfl) rfl (by generalize (xs ++ l13).length = zl at hv9; rw [hv9] at e41 ⊢; go_simp; try rfl) ?_
    refine hK.out _ _ ⟨v9, (by rw [ha.out]; exact putSel_none (v := undef) rfl), fun h0_ => absurd ((hon 7 (by kernel_rfl)).symm.trans h0_) (by decide), fun h0_ => absurd ((hon 7 (by kernel_rfl)).symm.trans h0_) (by decide), fun h0_ => absurd ((hon 7 (by kernel_rfl)).symm.trans h0_) (by decide), fun _ h1_ => absurd ((up_self b 10).symm.trans h1_) (by decide), fun _ => ⟨v9, blk_put hC1 0 v9 rfl, Kd.R_far hR1 (p := ⟨gw, 0, none⟩) (fun k hk => hk) v9, hF1.set hC1 0 v9⟩⟩
   exact steps_nil
  rintro b a w' hall ⟨v9, ha, Q_B, Q_C, Q_R, Q_S1, Q_S2⟩
  clear B C R
  have hb2_ := hall 2 (by kernel_rfl)
  have hb3_ := hall 3 (by kernel_rfl)
  have hb4_ := hall 4 (by kernel_rfl)
  have hb5_ := hall 5 (by kernel_rfl)
  have hb6_ := hall 6 (by kernel_rfl)
  have hb7_ := hall 7 (by kernel_rfl)
  have hb8_ := hall 8 (by kernel_rfl)
  have hb9_ := hall 9 (by kernel_rfl)
  have hb10_ := hall 10 (by kernel_rfl)
  subst ha
  simp only [putSel, hb2_, hb3_, hb4_, hb5_, hb6_, hb7_, hb8_, hb9_, hb10_, if_true, Act.put, List.setIfInBounds_toArray, List.set_cons_zero, List.set_cons_succ]
  clear Q_B
  clear Q_C
  clear Q_R
  clear Q_S1
  have S2 := Am (Q_S2 hb10_)
  clear Q_S2
  clear hall hb2_ hb3_ hb4_ hb5_ hb6_ hb7_ hb8_ hb9_ hb10_
  obtain ⟨u, hg, hR, hF⟩ := S2.out
  obtain ⟨A7, c7, rfl⟩ := Kd.R_slice hR
  have k9 : w'.cell? ⟨gw, 0, none⟩ = some (.slice A7 (xs ++ l13).length c7) := blk_cell hg 0
  have HR7 := Lh hR
  have HB7 := Lh (HBW.out.trans (hF.below.mono (by have := HGL.out; omega)))
  clear hg hR hF S2
  generalize hn : (xs ++ l13).length = nl at *
  go_wp2
  go_ret
  rw [HV.out]
  exact ValQ.of_R HR7.out (by have := HGL.out; omega) HB7.out
 by_cases hk0 : x.f0 = 1 ∨ x.f0 = 2
 ·have HV := Lh (show valueD x = [] ++ fourL [x.f6, x.f7] ++ twoL [x.f8, x.f9] ++ fourL [x.f2] ++ (encP x.f14).1 from by unfold valueD; rw [if_neg (by omega), if_pos (by omega)]; try rfl)
  have hq : ((x.f0 == 1) = true) ∨ ((x.f0 == 1) = false ∧ (x.f0 == 2) = true) := by rcases hk0 with h | h <;> simp [h]
  have q0 : (x.f0 == 0) = false := by simp; omega
  clear hk0
  rcases hq with q1 | ⟨q1, q2⟩
  all_goals
   have k6 : W.cell? ⟨w.heap.size, 6, none⟩ = some (.int .u32 x.f6) := X.cell 6
   have k7 : W.cell? ⟨w.heap.size, 7, none⟩ = some (.int .u32 x.f7) := X.cell 7
   go_wp2_with fail
   refine (X.four [x.f6, x.f7] [.int .u32 (x.f6), .int .u32 (x.f7)] 2 rfl rfl (by simp [twoL_length, fourL_length, gapL_length]; try omega) (by decide)).mono ?_
   rintro e W1 ⟨rfl, X1⟩
   replace X := X1
   clear X1 k6 k7
   have k8 : W1.cell? ⟨w.heap.size, 8, none⟩ = some (.int .u16 x.f8) := X.cell 8
   have k9 : W1.cell? ⟨w.heap.size, 9, none⟩ = some (.int .u16 x.f9) := X.cell 9
   go_wp2_with fail
   refine (X.two [x.f8, x.f9] [.int .u16 (x.f8), .int .u16 (x.f9)] 2 rfl rfl (by simp [twoL_length, fourL_length, gapL_length]; try omega) (by decide)).mono ?_
   rintro e W2 ⟨rfl, X1⟩
   replace X := X1
   clear X1 k8 k9
   have k2 : W2.cell? ⟨w.heap.size, 2, none⟩ = some (.int .u32 x.f2) := X.cell 2
   go_wp2_with fail
   refine (X.four [x.f2] [.int .u32 (x.f2)] 1 rfl rfl (by simp [twoL_length, fourL_length, gapL_length]; try omega) (by decide)).mono ?_
   rintro e W3 ⟨rfl, X1⟩
   replace X := X1
   clear X1 k2
   have k14 : W3.cell? ⟨w.heap.size, 14, none⟩ = some (.slice L.A14 x.f14.length L.c14) := X.cell 14
   go_wp2_with fail
   refine (H14.out W3 X.bl).mono ?_
   rintro e W9 ⟨v0, rfl, hR0, hB0⟩
   obtain ⟨A0, c0, rfl, hle0, hC0⟩ := Kd.R_reads hR0
   have HR0 := Lh hR0
   have HBASE := Lh X.bl.size
   have HW1 := Lh (show w.heap.size + 1 < W3.heap.size by obtain ⟨u, hg, _⟩ := X.ws; exact blk_lt hg)
   replace X := X.below hB0
   clear k14 hB0 hR0
   obtain ⟨xs, hxs⟩ : ∃ xs, [] ++ fourL [x.f6, x.f7] ++ twoL [x.f8, x.f9] ++ fourL [x.f2] = xs := ⟨_, rfl⟩
   rw [hxs] at X HV
   have HXL := Lh (show xs.length ≤ 100 by rw [← hxs]; simp [twoL_length, fourL_length])
   obtain ⟨u, hg, hR⟩ := X.ws
   obtain ⟨Au, cu, rfl⟩ := Kd.R_slice hR
   have HC0 := Lh hC0
   have HRW := Lh hR
   have HGW := Lh hg
   have HBW := Lh X.bl
   have HS9 := Lh (show w.heap.size + 1 < W9.heap.size from blk_lt hg)
   have k9 : W9.cell? ⟨w.heap.size + 1, 0, none⟩ = some (.slice Au xs.length cu) := blk_cell hg 0
   clear hg hR X hxs hC0 HR0 HBASE HW1
   generalize hpl : (encP x.f14).1.length = pl at *
   go_wp2_with (at_builtin; go_must (refine Kd.R_append_row (Value.int .u8) (0 : Int) (w0 := W9) (W := W9) (w.heap.size + 1 + 1) rfl _ _ 27 5 _ 1 rfl Tryd.underlying27 info_u8 rfl (by decide) (.slice Au xs.length cu) xs (encP x.f14).1 A0 _ c0 (fun k => k ≠ w.heap.size + 1) rfl rfl (fun k hk => by have := HS9.out; omega) HRW.out HC0.out (Below.refl _ _) (by have := HS9.out; omega) (by have := HXL.out; have := HEL.out; omega) ?_); (intro v1 w1 hR1 hB1 hG1 _; have HR1 := Lh hR1; have HB1 := Lh hB1; have HG1 := Lh hG1; clear hR1 hB1 hG1; refine RowKit.Hid.out ?_))
   refine Lh ?_
   obtain ⟨A7, c7, e7⟩ := Kd.R_slice HR1.out
   have hg1 := blk_grown HGW.out HG1.out (fun e => HRW.out.1 _ e.symm rfl)
   have h9 := blk_cell hg1 0
   have f9 := blk_frozen hg1 0
   subst e7
   have HR2 := Lh (Kd.R_far HR1.out (p := ⟨w.heap.size + 1, 0, none⟩) (fun k hk => hk) (.slice A7 (xs ++ (encP x.f14).1).length c7))
   have HB2 := Lh ((HBW.out.trans (HB1.out.mono (by omega))).setCell (p := ⟨w.heap.size + 1, 0, none⟩) (Nat.le_succ _) (.slice A7 (xs ++ (encP x.f14).1).length c7))
   clear HR1 HB1 HG1 hg1 HRW HGW HBW HC0 k9
   generalize (xs ++ (encP x.f14).1).length = nl at *
   go_wp2
   go_ret
   rw [HV.out]
   exact ValQ.of_R HR2.out (by omega) HB2.out
 by_cases hk : x.f0 = 3
 ·have HV := Lh (show valueD x = [] ++ fourL [x.f2, x.f7] ++ twoL [(x.f10.length : Int), (x.f12.length : Int)] ++ twoL (gapL x.f10) ++ fourL x.f12 from by unfold valueD; rw [if_neg (by omega), if_neg (by omega), if_pos (by omega)]; rw [u16_len l10, u16_len l12]; try rfl)
  have q0 : (x.f0 == 0) = false := by simp; omega
  have q1 : (x.f0 == 1) = false := by simp; omega
  have q2 : (x.f0 == 2) = false := by simp; omega
  have q3 : (x.f0 == 3) = true := by simp [hk]
  clear hk
  have k2 : W.cell? ⟨w.heap.size, 2, none⟩ = some (.int .u32 x.f2) := X.cell 2
  have k7 : W.cell? ⟨w.heap.size, 7, none⟩ = some (.int .u32 x.f7) := X.cell 7
  go_wp2_with fail
  refine (X.four [x.f2, x.f7] [.int .u32 (x.f2), .int .u32 (x.f7)] 2 rfl rfl (by simp [twoL_length, fourL_length, gapL_length]; try omega) (by decide)).mono ?_
  rintro e W1 ⟨rfl, X1⟩
  replace X := X1
  clear X1 k2 k7
  have k10 : W1.cell? ⟨w.heap.size, 10, none⟩ = some (.slice L.A10 x.f10.length L.c10) := X.cell 10
  have k12 : W1.cell? ⟨w.heap.size, 12, none⟩ = some (.slice L.A12 x.f12.length L.c12) := X.cell 12
  go_wp2_with fail
  refine (X.two [(x.f10.length : Int), (x.f12.length : Int)] [.int .u16 ((x.f10.length : Int)), .int .u16 ((x.f12.length : Int))] 2 rfl rfl (by simp [twoL_length, fourL_length, gapL_length]; try omega) (by decide)).mono ?_
  rintro e W2 ⟨rfl, X1⟩
  replace X := X1
  clear X1 k10 k12
  have k10 : W2.cell? ⟨w.heap.size, 10, none⟩ = some (.slice L.A10 x.f10.length L.c10) := X.cell 10
  go_wp2_with fail
  refine (X.gaps L.A10 L.c10 x.f10 HXW.out.h10 (by simp [twoL_length, fourL_length, gapL_length]; try omega) l10).mono ?_
  rintro e W3 ⟨rfl, X1⟩
  replace X := X1
  clear X1 k10
  have k12 : W3.cell? ⟨w.heap.size, 12, none⟩ = some (.slice L.A12 x.f12.length L.c12) := X.cell 12
  go_wp2_with fail
  refine (X.dups L.A12 L.c12 x.f12 HXW.out.h12 (by simp [twoL_length, fourL_length, gapL_length]; try omega) l12).mono ?_
  rintro e W4 ⟨rfl, X1⟩
  replace X := X1
  clear X1 k12
  obtain ⟨u, hg, hR⟩ := X.ws
  obtain ⟨Au, cu, rfl⟩ := Kd.R_slice hR
  have k9 : W4.cell? ⟨w.heap.size + 1, 0, none⟩ = some (.slice Au ([] ++ fourL [x.f2, x.f7] ++ twoL [(x.f10.length : Int), (x.f12.length : Int)] ++ twoL (gapL x.f10) ++ fourL x.f12).length cu) := blk_cell hg 0
  have HRR := Lh hR
  have HXB := Lh X.bl
  clear hg hR X
  generalize ([] ++ fourL [x.f2, x.f7] ++ twoL [(x.f10.length : Int), (x.f12.length : Int)] ++ twoL (gapL x.f10) ++ fourL x.f12).length = nl at *
  go_wp2
  go_ret
  rw [HV.out]
  exact ValQ.of_R HRR.out (by omega) HXB.out
 by_cases hk : x.f0 = 16
 ·have HV := Lh (show valueD x = [] ++ fourL [x.f2, x.f7] ++ twoL [(x.f10.length : Int), (x.f11.length : Int), (x.f12.length : Int), 0] ++ twoL (gapL x.f10) ++ twoL (gapL x.f11) ++ fourL x.f12 from by unfold valueD; rw [if_neg (by omega), if_neg (by omega), if_neg (by omega), if_pos (by omega)]; rw [u16_len l10, u16_len l11, u16_len l12]; try rfl)
  have q0 : (x.f0 == 0) = false := by simp; omega
  have q1 : (x.f0 == 1) = false := by simp; omega
  have q2 : (x.f0 == 2) = false := by simp; omega
  have q3 : (x.f0 == 3) = false := by simp; omega
  have q16 : (x.f0 == 16) = true := by simp [hk]
  clear hk
  have k2 : W.cell? ⟨w.heap.size, 2, none⟩ = some (.int .u32 x.f2) := X.cell 2
  have k7 : W.cell? ⟨w.heap.size, 7, none⟩ = some (.int .u32 x.f7) := X.cell 7
  go_wp2_with fail
  refine (X.four [x.f2, x.f7] [.int .u32 (x.f2), .int .u32 (x.f7)] 2 rfl rfl (by simp [twoL_length, fourL_length, gapL_length]; try omega) (by decide)).mono ?_
  rintro e W1 ⟨rfl, X1⟩
  replace X := X1
  clear X1 k2 k7
  have k10 : W1.cell? ⟨w.heap.size, 10, none⟩ = some (.slice L.A10 x.f10.length L.c10) := X.cell 10
  have k11 : W1.cell? ⟨w.heap.size, 11, none⟩ = some (.slice L.A11 x.f11.length L.c11) := X.cell 11
  have k12 : W1.cell? ⟨w.heap.size, 12, none⟩ = some (.slice L.A12 x.f12.length L.c12) := X.cell 12
  go_wp2_with fail
  refine (X.two [(x.f10.length : Int), (x.f11.length : Int), (x.f12.length : Int), 0] [.int .u16 ((x.f10.length : Int)), .int .u16 ((x.f11.length : Int)), .int .u16 ((x.f12.length : Int)), .int .u16 (0)] 4 rfl rfl (by simp [twoL_length, fourL_length, gapL_length]; try omega) (by decide)).mono ?_
  rintro e W2 ⟨rfl, X1⟩
  replace X := X1
  clear X1 k10 k11 k12
  have k10 : W2.cell? ⟨w.heap.size, 10, none⟩ = some (.slice L.A10 x.f10.length L.c10) := X.cell 10
  go_wp2_with fail
  refine (X.gaps L.A10 L.c10 x.f10 HXW.out.h10 (by simp [twoL_length, fourL_length, gapL_length]; try omega) l10).mono ?_
  rintro e W3 ⟨rfl, X1⟩
  replace X := X1
  clear X1 k10
  have k11 : W3.cell? ⟨w.heap.size, 11, none⟩ = some (.slice L.A11 x.f11.length L.c11) := X.cell 11
  go_wp2_with fail
  refine (X.gaps L.A11 L.c11 x.f11 HXW.out.h11 (by simp [twoL_length, fourL_length, gapL_length]; try omega) l11).mono ?_
  rintro e W4 ⟨rfl, X1⟩
  replace X := X1
  clear X1 k11
  have k12 : W4.cell? ⟨w.heap.size, 12, none⟩ = some (.slice L.A12 x.f12.length L.c12) := X.cell 12
  go_wp2_with fail
  refine (X.dups L.A12 L.c12 x.f12 HXW.out.h12 (by simp [twoL_length, fourL_length, gapL_length]; try omega) l12).mono ?_
  rintro e W5 ⟨rfl, X1⟩
  replace X := X1
  clear X1 k12
  obtain ⟨u, hg, hR⟩ := X.ws
  obtain ⟨Au, cu, rfl⟩ := Kd.R_slice hR
  have k9 : W5.cell? ⟨w.heap.size + 1, 0, none⟩ = some (.slice Au ([] ++ fourL [x.f2, x.f7] ++ twoL [(x.f10.length : Int), (x.f11.length : Int), (x.f12.length : Int), 0] ++ twoL (gapL x.f10) ++ twoL (gapL x.f11) ++ fourL x.f12).length cu) := blk_cell hg 0
  have HRR := Lh hR
  have HXB := Lh X.bl
  clear hg hR X
  generalize ([] ++ fourL [x.f2, x.f7] ++ twoL [(x.f10.length : Int), (x.f11.length : Int), (x.f12.length : Int), 0] ++ twoL (gapL x.f10) ++ twoL (gapL x.f11) ++ fourL x.f12).length = nl at *
  go_wp2
  go_ret
  rw [HV.out]
  exact ValQ.of_R HRR.out (by omega) HXB.out
 by_cases hk0 : x.f0 = 4 ∨ x.f0 = 5 ∨ x.f0 = 6 ∨ x.f0 = 9
 ·have HV := Lh (show valueD x = (encP x.f14).1 from by unfold valueD; rw [if_neg (by omega), if_neg (by omega), if_neg (by omega), if_neg (by omega), if_pos (by omega)]; try rfl)
  have hq : ((x.f0 == 4) = true) ∨ ((x.f0 == 4) = false ∧ (x.f0 == 5) = true) ∨ ((x.f0 == 4) = false ∧ (x.f0 == 5) = false ∧ (x.f0 == 6) = true) ∨ ((x.f0 == 4) = false ∧ (x.f0 == 5) = false ∧ (x.f0 == 6) = false ∧ (x.f0 == 9) = true) := by rcases hk0 with h | h | h | h <;> simp [h]
  have q0 : (x.f0 == 0) = false := by simp; omega
  have q1 : (x.f0 == 1) = false := by simp; omega
  have q2 : (x.f0 == 2) = false := by simp; omega
  have q3 : (x.f0 == 3) = false := by simp; omega
  have q16 : (x.f0 == 16) = false := by simp; omega
  clear hk0
  rcases hq with q4 | ⟨q4, q5⟩ | ⟨q4, q5, q6⟩ | ⟨q4, q5, q6, q9⟩
  all_goals
   have k14 : W.cell? ⟨w.heap.size, 14, none⟩ = some (.slice L.A14 x.f14.length L.c14) := X.cell 14
   go_wp2_with fail
   refine (H14.out W X.bl).mono ?_
   rintro e W9 ⟨v0, rfl, hR0, hB0⟩
   obtain ⟨A0, c0, rfl, hle0, hC0⟩ := Kd.R_reads hR0
   have HR0 := Lh hR0
   have HBASE := Lh X.bl.size
   have HW1 := Lh (show w.heap.size + 1 < W.heap.size by obtain ⟨u, hg, _⟩ := X.ws; exact blk_lt hg)
   replace X := X.below hB0
   clear k14 hB0 hR0
   obtain ⟨u, hg, hR⟩ := X.ws
   obtain ⟨Au, cu, rfl⟩ := Kd.R_slice hR
   have k9 : W9.cell? ⟨w.heap.size + 1, 0, none⟩ = some (.slice Au [].length cu) := blk_cell hg 0
   have f9 := blk_frozen hg 0
   have HR2 := Lh (R_only HR0.out ((Only.refl (· = w.heap.size + 1) W9).setCell (p := ⟨w.heap.size + 1, 0, none⟩) (fun _ => rfl) (.slice A0 (encP x.f14).1.length c0)) (fun k hk _ h => by have := HW1.out; omega))
   have HB2 := Lh (X.bl.setCell (p := ⟨w.heap.size + 1, 0, none⟩) (Nat.le_succ _) (.slice A0 (encP x.f14).1.length c0))
   clear hg hR X hC0 HR0
   generalize (encP x.f14).1.length = nl at *
   go_wp2
   go_ret
   rw [HV.out]
   exact ValQ.of_R HR2.out HBASE.out HB2.out
 by_cases hk : x.f0 = 7
 ·have HV := Lh (show valueD x = [] ++ fourL [x.f2] from by unfold valueD; rw [if_neg (by omega), if_neg (by omega), if_neg (by omega), if_neg (by omega), if_neg (by omega), if_pos (by omega)]; try rfl)
  have q0 : (x.f0 == 0) = false := by simp; omega
  have q1 : (x.f0 == 1) = false := by simp; omega
  have q2 : (x.f0 == 2) = false := by simp; omega
  have q3 : (x.f0 == 3) = false := by simp; omega
  have q16 : (x.f0 == 16) = false := by simp; omega
  have q4 : (x.f0 == 4) = false := by simp; omega
  have q5 : (x.f0 == 5) = false := by simp; omega
  have q6 : (x.f0 == 6) = false := by simp; omega
  have q9 : (x.f0 == 9) = false := by simp; omega
  have q7 : (x.f0 == 7) = true := by simp [hk]
  clear hk
  have k2 : W.cell? ⟨w.heap.size, 2, none⟩ = some (.int .u32 x.f2) := X.cell 2
  go_wp2_with fail
  refine (X.four [x.f2] [.int .u32 (x.f2)] 1 rfl rfl (by simp [twoL_length, fourL_length, gapL_length]; try omega) (by decide)).mono ?_
  rintro e W1 ⟨rfl, X1⟩
  replace X := X1
  clear X1 k2
  obtain ⟨u, hg, hR⟩ := X.ws
  obtain ⟨Au, cu, rfl⟩ := Kd.R_slice hR
  have k9 : W1.cell? ⟨w.heap.size + 1, 0, none⟩ = some (.slice Au ([] ++ fourL [x.f2]).length cu) := blk_cell hg 0
  have HRR := Lh hR
  have HXB := Lh X.bl
  clear hg hR X
  generalize ([] ++ fourL [x.f2]).length = nl at *
  go_wp2
  go_ret
  rw [HV.out]
  exact ValQ.of_R HRR.out (by omega) HXB.out
 by_cases hk0 : x.f0 = 8 ∨ x.f0 = 11 ∨ x.f0 = 14
 ·have HV := Lh (show valueD x = [] from by unfold valueD; rw [if_neg (by omega), if_neg (by omega), if_neg (by omega), if_neg (by omega), if_neg (by omega), if_neg (by omega), if_pos (by omega)]; try rfl)
  have hq : ((x.f0 == 8) = true) ∨ ((x.f0 == 8) = false ∧ (x.f0 == 11) = true) ∨ ((x.f0 == 8) = false ∧ (x.f0 == 11) = false ∧ (x.f0 == 14) = true) := by rcases hk0 with h | h | h <;> simp [h]
  have q0 : (x.f0 == 0) = false := by simp; omega
  have q1 : (x.f0 == 1) = false := by simp; omega
  have q2 : (x.f0 == 2) = false := by simp; omega
  have q3 : (x.f0 == 3) = false := by simp; omega
  have q16 : (x.f0 == 16) = false := by simp; omega
  have q4 : (x.f0 == 4) = false := by simp; omega
  have q5 : (x.f0 == 5) = false := by simp; omega
  have q6 : (x.f0 == 6) = false := by simp; omega
  have q9 : (x.f0 == 9) = false := by simp; omega
  have q7 : (x.f0 == 7) = false := by simp; omega
  clear hk0
  rcases hq with q8 | ⟨q8, q11⟩ | ⟨q8, q11, q14⟩
  all_goals
   obtain ⟨u, hg, hR⟩ := X.ws
   obtain ⟨Au, cu, rfl⟩ := Kd.R_slice hR
   have k9 : W.cell? ⟨w.heap.size + 1, 0, none⟩ = some (.slice Au ([]).length cu) := blk_cell hg 0
   have HRR := Lh hR
   have HXB := Lh X.bl
   clear hg hR X
   generalize ([]).length = nl at *
   go_wp2
   go_ret
   rw [HV.out]
   exact ValQ.of_R HRR.out (by omega) HXB.out
 have HV := Lh (show valueD x = x.f13 from by unfold valueD; rw [if_neg (by omega), if_neg (by omega), if_neg (by omega), if_neg (by omega), if_neg (by omega), if_neg (by omega), if_neg (by omega)]; try rfl)
 have q0 : (x.f0 == 0) = false := by simp; omega
 have q1 : (x.f0 == 1) = false := by simp; omega
 have q2 : (x.f0 == 2) = false := by simp; omega
 have q3 : (x.f0 == 3) = false := by simp; omega
 have q16 : (x.f0 == 16) = false := by simp; omega
 have q4 : (x.f0 == 4) = false := by simp; omega
 have q5 : (x.f0 == 5) = false := by simp; omega
 have q6 : (x.f0 == 6) = false := by simp; omega
 have q9 : (x.f0 == 9) = false := by simp; omega
 have q7 : (x.f0 == 7) = false := by simp; omega
 have q8 : (x.f0 == 8) = false := by simp; omega
 have q11 : (x.f0 == 11) = false := by simp; omega
 have q14 : (x.f0 == 14) = false := by simp; omega
 clear hk hk0
 have k13 : W.cell? ⟨w.heap.size, 13, none⟩ = some (.slice L.A13 x.f13.length L.c13) := X.cell 13
 obtain ⟨u, hg, hR⟩ := X.ws
 obtain ⟨Au, cu, rfl⟩ := Kd.R_slice hR
 have k9 : W.cell? ⟨w.heap.size + 1, 0, none⟩ = some (.slice Au [].length cu) := blk_cell hg 0
 have f9 := blk_frozen hg 0
 have HB2 := Lh (X.bl.setCell (p := ⟨w.heap.size + 1, 0, none⟩) (Nat.le_succ _) (.slice L.A13 x.f13.length L.c13))
 clear hg hR X
 generalize hnl : x.f13.length = nl at *
 go_wp2
 go_ret
 rw [HV.out]
 subst hnl
 exact ⟨L.A13, L.c13, rfl, HXW.out.l13, fun W' hO => (HXX.out W' ((HB2.out.mono hb0).trans (hO.below (by have := HB2.out.size; omega) (fun k hk => hk.1)))).h13, HB2.out⟩
end Go.Proofs.YtdlamomabonkjaaDoor.Ch
end
section
namespace Go.Proofs.YtdlamomabonkjaaDoor.Ch
open Go.RowKit YtdlamomabonkjaaDoorW.PrintWords YtdlamomabonkjaaDoorW.PrintLast Base PCh ParDec ParEnc
structure RX (w1 : World) (ys : List Int) (v : Value) (W : World) : Prop where
 bl : Below w1.heap.size w1 W
 r : (Kd.int .u8).R 5 W w1.heap.size (fun _ => True) v ys
theorem RX.new (w1 : World) : RX w1 [] (.slice none 0 0) w1 := ⟨Below.refl _ _, Kd.R_nil _ _ _ _ _⟩
theorem RX.drewN {w1 W : World} {ys : List Int} {v : Value} (h : RX w1 ys v W) (n : Nat) : RX w1 ys v (W.drewN n) := ⟨pw_below_drewN h.bl n, Kd.R_drewN h.r n⟩
theorem u32_mod (n : Int) : IntKind.u32.wrap n = n % 4294967296 := by simp [IntKind.wrap, IntKind.bits, IntKind.signed]
theorem two32 (n : Int) : twoL [IntKind.u32.wrap n] = twoL [n] := by
 rw [u32_mod]
 simp only [twoL, List.append_nil, List.cons.injEq, and_true]
 omega
theorem two16 (n : Int) : twoL [IntKind.u16.wrap n] = twoL [n] := by
 rw [u16n]
 simp only [twoL, List.append_nil, List.cons.injEq, and_true]
 omega
theorem sh_nonneg (n : Int) : 0 ≤ IntKind.u64.wrap n := by simp [IntKind.wrap, IntKind.bits, IntKind.signed]; omega
theorem put_two (l : List Int) (n : Int) (hl : l.length ≤ 140737488355000) : ropewalkref06_put.f 3 l n 2 = some (l ++ twoL [n]) := by
 have e1 : shr .u32 n (IntKind.u64.wrap (wrap64 (8 * 1))) % 256 = n / 256 % 256 := by simp [shr, wrap64, IntKind.wrap, IntKind.bits, IntKind.signed]
 have e0 : shr .u32 n (IntKind.u64.wrap (wrap64 (8 * 0))) % 256 = n % 256 := by simp [shr, wrap64, IntKind.wrap, IntKind.bits, IntKind.signed]
 unfold ropewalkref06_put.f
 rw [show wrap64 (2 - 1) = 1 by unfold wrap64; omega, ropewalkref06_put.l0, if_pos (by decide), if_pos (sh_nonneg _), if_pos (by omega), e1, show wrap64 (1 - 1) = 0 by unfold wrap64; omega, ropewalkref06_put.l0, if_pos (by decide), if_pos (sh_nonneg _), if_pos (by rw [List.length_append]; simp; omega), e0, show wrap64 (0 - 1) = -1 by unfold wrap64; omega, ropewalkref06_put.l0, if_neg (by decide)]
 simp [twoL]
theorem put_four (l : List Int) (n : Int) (hl : l.length ≤ 140737488355000) : ropewalkref06_put.f 5 l n 4 = some (l ++ fourL [n]) := by
 have e3 : shr .u32 n (IntKind.u64.wrap (wrap64 (8 * 3))) % 256 = n / 16777216 % 256 := by simp [shr, wrap64, IntKind.wrap, IntKind.bits, IntKind.signed]
 have e2 : shr .u32 n (IntKind.u64.wrap (wrap64 (8 * 2))) % 256 = n / 65536 % 256 := by simp [shr, wrap64, IntKind.wrap, IntKind.bits, IntKind.signed]
 have e1 : shr .u32 n (IntKind.u64.wrap (wrap64 (8 * 1))) % 256 = n / 256 % 256 := by simp [shr, wrap64, IntKind.wrap, IntKind.bits, IntKind.signed]
 have e0 : shr .u32 n (IntKind.u64.wrap (wrap64 (8 * 0))) % 256 = n % 256 := by simp [shr, wrap64, IntKind.wrap, IntKind.bits, IntKind.signed]
 unfold ropewalkref06_put.f
 rw [show wrap64 (4 - 1) = 3 by unfold wrap64; omega, ropewalkref06_put.l0, if_pos (by decide), if_pos (sh_nonneg _), if_pos (by omega), e3, show wrap64 (3 - 1) = 2 by unfold wrap64; omega, ropewalkref06_put.l0, if_pos (by decide), if_pos (sh_nonneg _), if_pos (by rw [List.length_append]; simp; omega), e2, show wrap64 (2 - 1) = 1 by unfold wrap64; omega, ropewalkref06_put.l0, if_pos (by decide), if_pos (sh_nonneg _), if_pos (by simp only [List.length_append, List.length_cons, List.length_nil]; omega), e1, show wrap64 (1 - 1) = 0 by unfold wrap64; omega, ropewalkref06_put.l0, if_pos (by decide), if_pos (sh_nonneg _), if_pos (by simp only [List.length_append, List.length_cons, List.length_nil]; omega), e0, show wrap64 (0 - 1) = -1 by unfold wrap64; omega, ropewalkref06_put.l0, if_neg (by decide)]
 simp [fourL]
theorem RX.put {w1 W : World} {ys zs : List Int} {v : Value} (h : RX w1 ys v W) (k : Nat) (n m : Int) (hf : ropewalkref06_put.f k ys n m = some zs) :
  Calls Tryd.prog 63 #[v, .int .u32 n, .int .i64 m] W fun e w' => ∃ v', e = .returned v' ∧ RX w1 zs v' w' :=
 (ropewalkref06_put.calls k (fun _ => True) v ys n m zs w1 W h.bl h.r hf).mono fun e w' ⟨v', h1, h2, h3, _⟩ => ⟨v', h1, h3, Kd.R_mono h2 (fun _ _ => trivial)⟩
theorem RX.two {w1 W : World} {ys : List Int} {v : Value} (h : RX w1 ys v W) (n : Int) (t : List Int) (ht : twoL [n] = t) (hl : ys.length ≤ 140737488355000) :
  Calls Tryd.prog 63 #[v, .int .u32 n, .int .i64 2] W fun e w' => ∃ v', e = .returned v' ∧ RX w1 (ys ++ t) v' w' := by
 subst ht
 exact h.put 3 n 2 (put_two ys n hl)
theorem RX.four {w1 W : World} {ys : List Int} {v : Value} (h : RX w1 ys v W) (n : Int) (hl : ys.length ≤ 140737488355000) :
  Calls Tryd.prog 63 #[v, .int .u32 n, .int .i64 4] W fun e w' => ∃ v', e = .returned v' ∧ RX w1 (ys ++ fourL [n]) v' w' := h.put 5 n 4 (put_four ys n hl)
def rgapsT4 : Bool × List (List Nat × List Nat) := (true, [([], []), ([], []), ([], []), ([1, 2], [1, 2]), ([3], [3]), ([4], [4]), ([5], [5]), ([0, 6], [0, 6]), ([], []), ([], []), ([8, 9], [8, 9]), ([10], [10]), ([11], [11]), ([12], [12]), ([7, 13, 7], [7, 13]), ([14, 14, 0, 1, 2, 3, 4, 5, 6, 7, 8, 9, 10, 11, 12, 13, 14], [0, 14])])
def rgapsB4 : List Nat := [0, 0, 0, 6, 14, 30, 62, 127, 0, 0, 768, 1792, 3840, 7936, 16383, 32767]
theorem rgapstab4 : Go.Proofs.YtdlamomabonkjaaDoorW.PrintLast.rtab .any (Go.Proofs.YtdlamomabonkjaaDoorW.PrintLast.opsOf Tryd.f64 4) = rgapsT4 := by kernel_rfl
theorem rgapsbits4 : Go.Proofs.YtdlamomabonkjaaDoorW.PrintLast.waitsOk rgapsT4.2 rgapsB4 = true := by kernel_rfl
set_option maxHeartbeats 4000000 in
theorem rwgaps_calls (w1 W : World) (v : Value) (xs : List Int) (A : Option Addr) (c : Nat) (gs : List GapS) (hx : RX w1 xs v W) (hA : Kd.C k117 w1 A gs.length gs) (hl : xs.length + 4 * gs.length ≤ 140737488300000) :
  Calls Tryd.prog 64 #[v, .slice A gs.length c] W fun e w' => ∃ v', e = .returned v' ∧ RX w1 (xs ++ twoL (gapL gs)) v' w' := by
 have HX := Lh hx
 have HA := Lh (fun (W : World) (h : Below w1.heap.size w1 W) => Kd.C_below hA h)
 have hm := hA.2.1
 have HL := Lh hl
 clear hx hA hl
 go_enter Tryd.func64, Tryd.ntmps64
 go_wp2
 go_loopw [0, 5] (fun v0 v5 wr => ∃ (i : Nat) (ys : List Int), i ≤ gs.length ∧ v5 = .int .i64 (i : Int) ∧ Hid (ys.length = xs.length + 4 * i) ∧ Hid (ys ++ twoL (gapL (gs.drop i)) = xs ++ twoL (gapL gs)) ∧ Hid (RX w1 ys v0 wr)) (fun _ v5 _ => gs.length - (intOf v5).toNat)
 case atStart => exact ⟨0, xs, Nat.zero_le _, rfl, (by show _ = _; omega), rfl, HX.out⟩
 case round =>
  clear HX
  obtain ⟨i, ys, hi, rfl, HYL0, HE, HW⟩ := hrel
  by_cases hlt : i < gs.length
  ·obtain ⟨ad, rfl, x0, x1⟩ := at_T117 (HA.out _ HW.out.bl) (i : Int) (by omega) (by omega)
   clear x0 x1
   have hE := HE.out
   rw [gap_drop gs i hlt, gapL, twoL_app, ← List.append_assoc] at hE
   have HX0 := Lh (fun (w' : World) (h : Below w1.heap.size w1 w') => (show w'.cell? (ad.add (i * 2)) = some (.int .u16 (rd_T117 gs (i : Int)).f0) by
    obtain ⟨ad', e', x0, x1⟩ := at_T117 (HA.out _ h) (i : Int) (by omega) (by omega)
    injection e' with e'
    subst e'
    rw [Int.toNat_natCast] at x0
    exact x0))
   have HX1 := Lh (fun (w' : World) (h : Below w1.heap.size w1 w') => (show w'.cell? ⟨(ad.add (i * 2)).block, (ad.add (i * 2)).off + 1, none⟩ = some (.int .u16 (rd_T117 gs (i : Int)).f1) by
    obtain ⟨ad', e', x0, x1⟩ := at_T117 (HA.out _ h) (i : Int) (by omega) (by omega)
    injection e' with e'
    subst e'
    rw [Int.toNat_natCast] at x1
    exact x1))
   generalize rd_T117 gs (i : Int) = g at *
   have HE2 := Lh hE
   have HYL := Lh (show ys.length ≤ 140737488300000 by have := HYL0.out; have := HL.out; omega)
   have HL2 := Lh (show (ys ++ twoL [g.f0] ++ twoL [g.f1]).length = xs.length + 4 * (i + 1) by rw [List.length_append, List.length_append, twoL_length, twoL_length]; have := HYL0.out; simp; omega)
   have HE3 := Lh (show (ys ++ twoL [g.f0] ++ twoL [g.f1]) ++ twoL (gapL (gs.drop (i + 1))) = xs ++ twoL (gapL gs) by rw [← hE]; simp [twoL])
   clear hE HE HA HE2
   go_upto_region 4 with (fail)
   have B := True.intro
   have R0 := True.intro
   have R1 := True.intro
   have R2 := True.intro
   refine start_ (n := 16) (S := fun w' => True) (ds := []) #[false, false, false, false, false, false, false, false, false, false, false, false, false, false, false, false] (by kernel_rfl) rfl rfl trivial (fun hHeld => ?_)
   refine with_tabW rgapstab4 rgapsbits4 (fun HT_ HW_ => ?_)
   refine pu 1 13 ?_ rfl rfl (any_of HT_.out (by kernel_rfl)) (fun _ _ _ h => h) (by rfl) ?_ ?_ ?_ ?_
   rotate_left
   ·intro w'
    go_simp
    with_reducible rfl
   rotate_left
   ·simp only [sL]
    rfl
   refine pu 2 14 ?_ rfl rfl (any_of HT_.out (by kernel_rfl)) (fun _ _ _ h => h) (by rfl) ?_ ?_ ?_ ?_
   rotate_left
   ·intro w'
    go_simp
    with_reducible rfl
   rotate_left
   ·simp only [sL]
    rfl
   refine pu 8 20 ?_ rfl rfl (any_of HT_.out (by kernel_rfl)) (fun _ _ _ h => h) (by rfl) ?_ ?_ ?_ ?_
   rotate_left
   ·intro w'
    go_simp
    with_reducible rfl
   rotate_left
   ·simp only [sL]
    rfl
   refine pu 9 21 ?_ rfl rfl (any_of HT_.out (by kernel_rfl)) (fun _ _ _ h => h) (by rfl) ?_ ?_ ?_ ?_
   rotate_left
   ·intro w'
    go_simp
    with_reducible rfl
   rotate_left
   ·simp only [sL]
    rfl
   refine inv_at [0, 3, 4, 5, 6, 7, 10, 11, 12, 13, 14, 15] (fun a0_ b a w' => ∃ (v19 : Value) (v26 : Value) (m15_ : Value), a = putSel a0_ b [(0, 12, u0), (3, 15, .pointer (some (ad.add (i * 2)))), (4, 16, .pointer (some (ad.add (i * 2)))), (5, 17, .int .u16 g.f0), (6, 18, .int .u32 (IntKind.u32.wrap g.f0)), (7, 19, v19), (10, 22, .pointer (some (ad.add (i * 2)))), (11, 23, .pointer (some ⟨(ad.add (i * 2)).block, (ad.add (i * 2)).off + 1, none⟩)), (12, 24, .int .u16 g.f1), (13, 25, .int .u32 (IntKind.u32.wrap g.f1)), (14, 26, v26), (15, 0, m15_)] ∧ (Below w1.heap.size w1 w') ∧ (b 7 = false → (Kd.int .u8).R 5 w' w1.heap.size (fun _ => True) u0 ys) ∧ (b 7 = true → b 14 = false → (Kd.int .u8).R 5 w' w1.heap.size (fun _ => True) v19 (ys ++ twoL [g.f0])) ∧ (b 14 = true → (Kd.int .u8).R 5 w' w1.heap.size (fun _ => True) v26 (ys ++ twoL [g.f0] ++ twoL [g.f1])) ∧ (b 15 = true → (m15_ : Value) = v26)) HT_.out HW_.out (by kernel_rfl) (by kernel_rfl) ?_ ?_ ?_
   ·exact ⟨undef, undef, .bool false, by simp only [putSel, Bool.false_eq_true, if_false], pw_below_drewN HW.out.bl 1, fun _ => Kd.R_drewN HW.out.r 1, fun h_ => absurd h_ (by decide), fun h_ => absurd h_ (by decide), fun h_ => absurd h_ (by decide)⟩
   ·skip
    clear B R0
    refine sc rfl ?_ ?_
    ·rintro b a w' ⟨v19, v26, m15_, ha, Q_B, Q_R0, Q_R1, Q_R2, Q_X15_⟩ hb_ hon hoff K hK
     have e0 : a.tmps[0]? = some (u0) := by rw [ha]; exact (putSel_not (hoff 15 (by kernel_rfl)) rfl).trans rfl
     replace ha := Am ha
     refine value_ (w1 := w') (v := u0) (by rfl) rfl ?_ ?_
     ·go_simp
      (try simp only [i64_w])
      try rfl
     refine hK.out _ _ ⟨v19, v26, m15_, (puk ha 0 hb_ rfl rfl rfl), Q_B, Q_R0, fun h0_ _ => hof (hoff 7 (by kernel_rfl)) h0_, fun h0_ => hof (hoff 14 (by kernel_rfl)) h0_, fun h0_ => hof (hoff 15 (by kernel_rfl)) h0_⟩
    refine sc rfl ?_ ?_
    ·rintro b a w' ⟨v19, v26, m15_, ha, Q_B, Q_R0, Q_R1, Q_R2, Q_X15_⟩ hb_ hon hoff K hK
     have e13 : a.tmps[13]? = some (.slice (some ad) gs.length c) := by rw [ha]; exact (putSel_off rfl).trans rfl
     have e14 : a.tmps[14]? = some (.int .i64 (i : Int)) := by rw [ha]; exact (putSel_off rfl).trans rfl
     replace ha := Am ha
     refine value_ (w1 := w') (v := .pointer (some (ad.add (i * 2)))) (by rfl) rfl ?_ ?_
     ·go_simp
      (try simp only [i64_w])
      try rfl
     refine hK.out _ _ ⟨v19, v26, m15_, (puk ha 1 hb_ rfl rfl rfl), Q_B, Q_R0, fun h0_ _ => hof (hoff 7 (by kernel_rfl)) h0_, fun h0_ => hof (hoff 14 (by kernel_rfl)) h0_, fun h0_ => hof (hoff 15 (by kernel_rfl)) h0_⟩
    refine sc rfl ?_ ?_
    ·rintro b a w' ⟨v19, v26, m15_, ha, Q_B, Q_R0, Q_R1, Q_R2, Q_X15_⟩ hb_ hon hoff K hK
     have e15 := psn ha 1 rfl rfl (hon 3 (by kernel_rfl)) rfl
     replace ha := Am ha
     refine value_ (w1 := w') (v := .pointer (some (ad.add (i * 2)))) (by rfl) rfl ?_ ?_
     ·go_simp
      (try simp only [i64_w])
      try rfl
     refine hK.out _ _ ⟨v19, v26, m15_, (puk ha 2 hb_ rfl rfl rfl), Q_B, Q_R0, fun h0_ _ => hof (hoff 7 (by kernel_rfl)) h0_, fun h0_ => hof (hoff 14 (by kernel_rfl)) h0_, fun h0_ => hof (hoff 15 (by kernel_rfl)) h0_⟩
    refine sc rfl ?_ ?_
    ·rintro b a w' ⟨v19, v26, m15_, ha, Q_B, Q_R0, Q_R1, Q_R2, Q_X15_⟩ hb_ hon hoff K hK
     have e16 := psn ha 2 rfl rfl (hon 4 (by kernel_rfl)) rfl
     replace ha := Am ha
     have B := Am Q_B
     have hs := HX0.out w' B.out
     refine value_ (w1 := w') (v := .int .u16 g.f0) (by rfl) rfl ?_ ?_
     ·go_simp
      (try simp only [i64_w])
      try rfl
     refine hK.out _ _ ⟨v19, v26, m15_, (puk ha 3 hb_ rfl rfl rfl), Q_B, Q_R0, fun h0_ _ => hof (hoff 7 (by kernel_rfl)) h0_, fun h0_ => hof (hoff 14 (by kernel_rfl)) h0_, fun h0_ => hof (hoff 15 (by kernel_rfl)) h0_⟩
    refine sc rfl ?_ ?_
    ·rintro b a w' ⟨v19, v26, m15_, ha, Q_B, Q_R0, Q_R1, Q_R2, Q_X15_⟩ hb_ hon hoff K hK
     have e17 := psn ha 3 rfl rfl (hon 5 (by kernel_rfl)) rfl
     replace ha := Am ha
     refine value_ (w1 := w') (v := .int .u32 (IntKind.u32.wrap g.f0)) (by rfl) rfl ?_ ?_
     ·go_simp
      (try simp only [i64_w])
      try rfl
     refine hK.out _ _ ⟨v19, v26, m15_, (puk ha 4 hb_ rfl rfl rfl), Q_B, Q_R0, fun h0_ _ => hof (hoff 7 (by kernel_rfl)) h0_, fun h0_ => hof (hoff 14 (by kernel_rfl)) h0_, fun h0_ => hof (hoff 15 (by kernel_rfl)) h0_⟩
    refine sc rfl ?_ ?_
    ·rintro b a w' ⟨v19, v26, m15_, ha, Q_B, Q_R0, Q_R1, Q_R2, Q_X15_⟩ hb_ hon hoff K hK
     have e12 := psn ha 0 rfl rfl (hon 0 (by kernel_rfl)) rfl
     have e18 := psn ha 4 rfl rfl (hon 6 (by kernel_rfl)) rfl
     replace ha := Am ha
     have B := Am Q_B
     have R0 := Am (Q_R0 hb_)
     refine goes_ Tryd.func63 (by kernel_rfl) rfl #[u0, .int .u32 (IntKind.u32.wrap g.f0), .int .i64 2] (by rfl) rfl rfl (by first | (simp only [List.map_toArray, List.map_cons, List.map_nil, Act.eval, Array.getD_eq_getD_getElem?, Option.getD_some, e12, e18]; done) | (simp only [List.map_toArray, List.map_cons, List.map_nil, Act.eval, Array.getD_eq_getD_getElem?, Option.getD_some, e12, e18]; rfl)) ?_
     refine (RX.two ⟨B.out, R0.out⟩ _ _ (two32 g.f0) (by have := HYL.out; simp [twoL_length, fourL_length, gapL_length]; omega)).mono ?_
     rintro e w1 ⟨v1, rfl, hX1⟩
     refine ⟨_, rfl, ?_⟩
     refine hK.out _ _ ⟨v1, v26, m15_, (puk ha 5 hb_ rfl rfl rfl), hX1.bl, fun h0_ => absurd ((up_self b 7).symm.trans h0_) (by decide), fun _ _ => hX1.r, fun h0_ => hof (hoff 14 (by kernel_rfl)) h0_, fun h0_ => hof (hoff 15 (by kernel_rfl)) h0_⟩
    refine sc rfl ?_ ?_
    ·rintro b a w' ⟨v19, v26, m15_, ha, Q_B, Q_R0, Q_R1, Q_R2, Q_X15_⟩ hb_ hon hoff K hK
     have e20 : a.tmps[20]? = some (.slice (some ad) gs.length c) := by rw [ha]; exact (putSel_off rfl).trans rfl
     have e21 : a.tmps[21]? = some (.int .i64 (i : Int)) := by rw [ha]; exact (putSel_off rfl).trans rfl
     replace ha := Am ha
     refine value_ (w1 := w') (v := .pointer (some (ad.add (i * 2)))) (by rfl) rfl ?_ ?_
     ·go_simp
      (try simp only [i64_w])
      try rfl
     refine hK.out _ _ ⟨v19, v26, m15_, (puk ha 6 hb_ rfl rfl rfl), Q_B, Q_R0, Q_R1, fun h0_ => hof (hoff 14 (by kernel_rfl)) h0_, fun h0_ => hof (hoff 15 (by kernel_rfl)) h0_⟩
    refine sc rfl ?_ ?_
    ·rintro b a w' ⟨v19, v26, m15_, ha, Q_B, Q_R0, Q_R1, Q_R2, Q_X15_⟩ hb_ hon hoff K hK
     have e22 := psn ha 6 rfl rfl (hon 10 (by kernel_rfl)) rfl
     replace ha := Am ha
     refine value_ (w1 := w') (v := .pointer (some ⟨(ad.add (i * 2)).block, (ad.add (i * 2)).off + 1, none⟩)) (by rfl) rfl ?_ ?_
     ·go_simp
      (try simp only [i64_w])
      try rfl
     refine hK.out _ _ ⟨v19, v26, m15_, (puk ha 7 hb_ rfl rfl rfl), Q_B, Q_R0, Q_R1, fun h0_ => hof (hoff 14 (by kernel_rfl)) h0_, fun h0_ => hof (hoff 15 (by kernel_rfl)) h0_⟩
    refine sc rfl ?_ ?_
    ·rintro b a w' ⟨v19, v26, m15_, ha, Q_B, Q_R0, Q_R1, Q_R2, Q_X15_⟩ hb_ hon hoff K hK
     have e23 := psn ha 7 rfl rfl (hon 11 (by kernel_rfl)) rfl
     replace ha := Am ha
     have B := Am Q_B
     have hs := HX1.out w' B.out
     refine value_ (w1 := w') (v := .int .u16 g.f1) (by rfl) rfl ?_ ?_
     ·go_simp
      (try simp only [i64_w])
      try rfl
     refine hK.out _ _ ⟨v19, v26, m15_, (puk ha 8 hb_ rfl rfl rfl), Q_B, Q_R0, Q_R1, fun h0_ => hof (hoff 14 (by kernel_rfl)) h0_, fun h0_ => hof (hoff 15 (by kernel_rfl)) h0_⟩
    refine sc rfl ?_ ?_
    ·rintro b a w' ⟨v19, v26, m15_, ha, Q_B, Q_R0, Q_R1, Q_R2, Q_X15_⟩ hb_ hon hoff K hK
     have e24 := psn ha 8 rfl rfl (hon 12 (by kernel_rfl)) rfl
     replace ha := Am ha
     refine value_ (w1 := w') (v := .int .u32 (IntKind.u32.wrap g.f1)) (by rfl) rfl ?_ ?_
     ·go_simp
      (try simp only [i64_w])
      try rfl
     refine hK.out _ _ ⟨v19, v26, m15_, (puk ha 9 hb_ rfl rfl rfl), Q_B, Q_R0, Q_R1, fun h0_ => hof (hoff 14 (by kernel_rfl)) h0_, fun h0_ => hof (hoff 15 (by kernel_rfl)) h0_⟩
    refine sc rfl ?_ ?_
    ·rintro b a w' ⟨v19, v26, m15_, ha, Q_B, Q_R0, Q_R1, Q_R2, Q_X15_⟩ hb_ hon hoff K hK
     have e19 := psn ha 5 rfl rfl (hon 7 (by kernel_rfl)) rfl
     have e25 := psn ha 9 rfl rfl (hon 13 (by kernel_rfl)) rfl
     replace ha := Am ha
     have B := Am Q_B
     have R1 := Am (Q_R1 (hon 7 (by kernel_rfl)) hb_)
     refine goes_ Tryd.func63 (by kernel_rfl) rfl #[v19, .int .u32 (IntKind.u32.wrap g.f1), .int .i64 2] (by rfl) rfl rfl (by first | (simp only [List.map_toArray, List.map_cons, List.map_nil, Act.eval, Array.getD_eq_getD_getElem?, Option.getD_some, e19, e25]; done) | (simp only [List.map_toArray, List.map_cons, List.map_nil, Act.eval, Array.getD_eq_getD_getElem?, Option.getD_some, e19, e25]; rfl)) ?_
     refine (RX.two ⟨B.out, R1.out⟩ _ _ (two32 g.f1) (by have := HYL.out; simp [twoL_length, fourL_length, gapL_length]; omega)).mono ?_
     rintro e w1 ⟨v1, rfl, hX1⟩
     refine ⟨_, rfl, ?_⟩
     refine hK.out _ _ ⟨v19, v1, m15_, (puk ha 10 hb_ rfl rfl rfl), hX1.bl, fun h0_ => absurd ((hon 7 (by kernel_rfl)).symm.trans h0_) (by decide), fun _ h1_ => absurd ((up_self b 14).symm.trans h1_) (by decide), fun _ => hX1.r, fun h0_ => hof (hoff 15 (by kernel_rfl)) h0_⟩
    refine sc rfl ?_ ?_
    ·rintro b a w' ⟨v19, v26, m15_, ha, Q_B, Q_R0, Q_R1, Q_R2, Q_X15_⟩ hb_ hon hoff K hK
     have e26 := psn ha 10 rfl rfl (hon 14 (by kernel_rfl)) rfl
     replace ha := Am ha
     refine value_ (w1 := w') (v := v26) (by rfl) rfl ?_ ?_
     ·go_simp
      (try simp only [i64_w])
      try rfl
     refine hK.out _ _ ⟨v19, v26, (v26), (puk ha 11 hb_ rfl rfl rfl), Q_B, fun h0_ => absurd ((hon 7 (by kernel_rfl)).symm.trans h0_) (by decide), fun _ h1_ => absurd ((hon 14 (by kernel_rfl)).symm.trans h1_) (by decide), Q_R2, fun _ => rfl⟩
    exact steps_nil
   rintro b a w' hall ⟨v19, v26, m15_, ha, Q_B, Q_R0, Q_R1, Q_R2, Q_X15_⟩
   clear B R0
   have hb0_ := hall 0 (by kernel_rfl)
   have hb3_ := hall 3 (by kernel_rfl)
   have hb4_ := hall 4 (by kernel_rfl)
   have hb5_ := hall 5 (by kernel_rfl)
   have hb6_ := hall 6 (by kernel_rfl)
   have hb7_ := hall 7 (by kernel_rfl)
   have hb10_ := hall 10 (by kernel_rfl)
   have hb11_ := hall 11 (by kernel_rfl)
   have hb12_ := hall 12 (by kernel_rfl)
   have hb13_ := hall 13 (by kernel_rfl)
   have hb14_ := hall 14 (by kernel_rfl)
   have hb15_ := hall 15 (by kernel_rfl)
   subst ha
   obtain rfl := Q_X15_ hb15_
   simp only [putSel, hb0_, hb3_, hb4_, hb5_, hb6_, hb7_, hb10_, hb11_, hb12_, hb13_, hb14_, hb15_, if_true, Act.put, List.setIfInBounds_toArray, List.set_cons_zero, List.set_cons_succ]
   have B := Am Q_B
   clear Q_B
   clear Q_R0
   clear Q_R1
   have R2 := Am (Q_R2 hb14_)
   clear Q_R2
   clear hall hb0_ hb3_ hb4_ hb5_ hb6_ hb7_ hb10_ hb11_ hb12_ hb13_ hb14_ hb15_
   have HR := Lh (RX.mk B.out R2.out)
   clear B R2 HX0 HX1 HW
   go_wp2
   go_roundw
   case rel => exact ⟨i + 1, _, by omega, by go_num, HL2, HE3, HR⟩
   case measure => simp [intOf]; omega
  ·obtain rfl : i = gs.length := by omega
   have hE := HE.out
   rw [List.drop_length, show twoL (gapL []) = [] from rfl, List.append_nil] at hE
   subst hE
   clear HE
   go_wp2
   go_ret
   exact ⟨_, rfl, HW.out⟩
end Go.Proofs.YtdlamomabonkjaaDoor.Ch
end
section
namespace Go.Proofs.YtdlamomabonkjaaDoor.Ch
open Go.RowKit YtdlamomabonkjaaDoorW.PrintWords YtdlamomabonkjaaDoorW.PrintLast Base PCh ParDec ParEnc
def padL (n : Nat) : List Int := List.replicate ((n + 3) / 4 * 4 - n) 0
noncomputable def chunkL (x : Chk) : List Int := [x.f0, x.f1] ++ twoL [IntKind.u16.wrap (4 + ((valueD x).length : Int))] ++ valueD x ++ padL (valueD x).length
noncomputable def runE : List Int → List Chk → List Int × Int
 | acc, [] => (acc, 0)
 | acc, x :: r => if 65536 < (acc ++ chunkL x).length then ([], 2) else runE (acc ++ chunkL x) r
noncomputable def chkAll : List Chk → Int
 | [] => 0
 | x :: r => if checkD x = 0 then chkAll r else checkD x
noncomputable def encD (xs : List Chk) : List Int × Int := if chkAll xs = 0 then runE [] xs else ([], chkAll xs)
theorem checkD_len {x : Chk} (h : checkD x = 0) : (valueD x).length ≤ 65531 := by
 unfold checkD at h
 split at h
 ·cases h
 ·split at h
  ·cases h
  ·split at h
   ·cases h
   ·split at h
    ·cases h
    ·split at h
     ·contradiction
     ·split at h
      ·cases h
      ·omega
theorem chkAll_mem {xs : List Chk} (h : chkAll xs = 0) {x : Chk} (hx : x ∈ xs) : checkD x = 0 := by
 induction xs with
 | nil => cases hx
 | cons y r ih =>
  unfold chkAll at h
  split at h
  ·rcases List.mem_cons.1 hx with rfl | hx
   ·assumption
   ·exact ih h hx
  ·contradiction
theorem _root_.Go.Proofs.YtdlamomabonkjaaDoor.Base.Only.grown {S : Nat → Prop} {a b c : World} {own : Option Nat} (h : Only S a b) (hG : b.grownBy c own) (hS : ∀ k, k < a.heap.size → own = some k → S k) : Only S a c :=
 ⟨hG.os.trans h.os, hG.tape.trans h.tape, hG.output.trans h.output, Nat.le_trans h.size hG.size, fun k hk hn => (hG.block k (Nat.lt_of_lt_of_le hk h.size) (fun e => hn (hS k hk e.symm))).trans (h.block k hk hn)⟩
theorem chk_at {w : World} {A : Option Addr} {xs : List Chk} (h : Kd.C k41 w A xs.length xs) (i : Nat) (hi : i < xs.length) :
  ∃ ad x L, A = some ad ∧ xs.drop i = x :: xs.drop (i + 1) ∧ x ∈ xs ∧ (∀ j v, (CV x L).toList[j]? = some v → w.cell? ((ad.add (i * 15)).add j) = some v) ∧ CR w x L := by
 obtain ⟨ad, c, e, _, hK, hc0⟩ := Kd.C_get h xs[i] (i : Int) (by omega) (by omega)
 rw [Int.toNat_natCast] at hK hc0
 have e2 : xs.getD i xs[i] = xs[i] := getD_lt _ _ _ hi
 rw [e2] at hK
 obtain ⟨L, rfl, hx⟩ := CR.of_K hK
 refine ⟨ad, xs[i], L, e, List.drop_eq_getElem_cons hi, List.getElem_mem hi, fun j v hv => ?_, hx⟩
 rw [Addr.add_add]
 exact hc0 j v hv
theorem wpList_load_cells {P : Program} {ops : Array Oper} {rest : List Oper} {op : Oper} {a : Act} {w : World} {Q : Exit → Act → World → Prop} (hgd : op.guard = none) (ty : TypeId) (x : Operand) (ho : op.op = .load ty x)
  {ad : Addr} (hx : a.eval x = .pointer (some ad)) (cs : Array Value) (d : TypeDesc) (hc : ∀ j v, cs.toList[j]? = some v → w.cell? (ad.add j) = some v)
  (hu : P.underlying ty = some d) (hd : d.isRow = true) (hi : (P.info? ty).map (·.size) = some cs.size)
  (h : wpList P ops Q rest (a.put op.dst (.agg cs)) w) : wpList P ops Q (op :: rest) a w := by
 have hl : (loadCells ad cs.size).run P w = .ok cs w := run_loadCells_list (P := P) w ad cs.toList hc
 have hv : (loadVar ty ad).run P w = .ok (.agg cs) w := by
  cases hq : P.info? ty with
  | none => simp [hq] at hi
  | some i =>
   have hs : i.size = cs.size := by simpa [hq] using hi
   have hagg : (isAgg ty).run P w = .ok true w := by
    unfold isAgg
    rw [Sem.run_bind, run_underlying hu w]
    cases d <;> simp_all [TypeDesc.isRow]
   simp [loadVar, Sem.run_bind, hagg, sizeOf, typeInfo, hq, hs, hl]
 refine wpList_plain hgd fun _ hK => ?_
 have hK' := hK _ _ h
 unfold Oper.wp execOp
 simp only [ho, hx, Instr.loadAt, Instr.sureAddr, Sem.run_bind, Sem.run_pure, Result.andThen_ok, hv]
 exact hK'
theorem exec_load_cells {P : Program} {o : Oper} {a : Act} {w : World} (ty : TypeId) (x : Operand) (ho : o.op = .load ty x) {ad : Addr} (hx : a.eval x = .pointer (some ad)) (cs : Array Value) (d : TypeDesc) (hc : ∀ j v, cs.toList[j]? = some v → w.cell? (ad.add j) = some v)
  (hu : P.underlying ty = some d) (hd : d.isRow = true) (hi : (P.info? ty).map (·.size) = some cs.size) : (execOp a.eval o).run P w = .ok (.value (.agg cs)) w := by
 have hl : (loadCells ad cs.size).run P w = .ok cs w := run_loadCells_list (P := P) w ad cs.toList hc
 have hv : (loadVar ty ad).run P w = .ok (.agg cs) w := by
  cases hq : P.info? ty with
  | none => simp [hq] at hi
  | some i =>
   have hs : i.size = cs.size := by simpa [hq] using hi
   have hagg : (isAgg ty).run P w = .ok true w := by
    unfold isAgg
    rw [Sem.run_bind, run_underlying hu w]
    cases d <;> simp_all [TypeDesc.isRow]
   simp [loadVar, Sem.run_bind, hagg, sizeOf, typeInfo, hq, hs, hl]
 unfold execOp
 simp only [ho, hx, Instr.loadAt, Instr.sureAddr, Sem.run_bind, Sem.run_pure, Result.andThen_ok, hv]
theorem cells_of_blk {w : World} {g : Nat} {cs : Array Value} {t : TypeId} {fr : Nat × Nat} (h : w.heap[g]? = some (.cells cs t fr)) : ∀ (j : Nat) (v : Value), cs.toList[j]? = some v → w.cell? ((⟨g, 0, none⟩ : Addr).add j) = some v := fun j v hv => by
 rw [Addr.add_lit, Nat.zero_add]
 unfold World.cell?
 simp only [h]
 simpa using hv
theorem CV_one (x : Chk) (L : Lay) : (CV x L).all (·.oneCell') = true := by simp [CV, Value.oneCell']
theorem alloc_chunk {o : Oper} {a : Act} {w : World} (ho : o.op = .alloc 41) : (execOp a.eval o).run Tryd.prog w = .ok (.value (.pointer (some ⟨w.heap.size, 0, none⟩))) (w.alloc (.cells #[.int .u8 0, .int .u8 0, .int .u32 0, .int .u16 0, .int .u16 0, .int .u32 0, .int .u32 0, .int .u32 0, .int .u16 0, .int .u16 0, .slice none 0 0, .slice none 0 0, .slice none 0 0, .slice none 0 0, .slice none 0 0] 41)) := by
 unfold execOp
 simp only [ho]
 go_simp
theorem wpList_box {ops : Array Oper} {rest : List Oper} {o1 o2 : Oper} {a : Act} {w : World} {Q : Exit → Act → World → Prop} (h1 : o1.guard = none) (h2 : o2.guard = none) (n : Tmp) (hd : o1.dst = some n) (ho1 : o1.op = .alloc 41)
  (y : Operand) (ho2 : o2.op = .store 41 (.tmp n) y) (cs : Array Value) (hx : (a.put (some n) (.pointer (some ⟨w.heap.size, 0, none⟩))).eval (.tmp n) = .pointer (some ⟨w.heap.size, 0, none⟩))
  (hy : (a.put (some n) (.pointer (some ⟨w.heap.size, 0, none⟩))).eval y = .agg cs) (hsz : (#[.int .u8 0, .int .u8 0, .int .u32 0, .int .u16 0, .int .u16 0, .int .u32 0, .int .u32 0, .int .u32 0, .int .u16 0, .int .u16 0, .slice none 0 0, .slice none 0 0, .slice none 0 0, .slice none 0 0, .slice none 0 0] : Array Value).size = cs.size) (hi : (Tryd.prog.info? 41).map (·.size) = some cs.size) (hone : cs.all (·.oneCell') = true)
  (h : wpList Tryd.prog ops Q rest ((a.put (some n) (.pointer (some ⟨w.heap.size, 0, none⟩))).put o2.dst undef) (w.alloc (.cells cs 41))) : wpList Tryd.prog ops Q (o1 :: o2 :: rest) a w := by
 have h3 : wpList Tryd.prog ops Q (o2 :: rest) (a.put (some n) (.pointer (some ⟨w.heap.size, 0, none⟩))) (w.alloc (.cells #[.int .u8 0, .int .u8 0, .int .u32 0, .int .u16 0, .int .u16 0, .int .u32 0, .int .u32 0, .int .u32 0, .int .u16 0, .int .u16 0, .slice none 0 0, .slice none 0 0, .slice none 0 0, .slice none 0 0, .slice none 0 0] 41)) := by
  refine wpList_store_row h2 41 (.tmp n) y ho2 w.heap.size cs hx hy 41 #[.int .u8 0, .int .u8 0, .int .u32 0, .int .u16 0, .int .u16 0, .int .u32 0, .int .u32 0, .int .u32 0, .int .u16 0, .int .u16 0, .slice none 0 0, .slice none 0 0, .slice none 0 0, .slice none 0 0, .slice none 0 0] (blk_new _ _) hi hsz hone ?_
  rw [World.setRow_alloc_new]
  exact h
 refine wpList_plain h1 fun _ hK => ?_
 have hK' := hK _ _ h3
 rw [← hd] at hK'
 unfold Oper.wp
 rw [alloc_chunk ho1]
 exact hK'
def WSo (ok : Nat → Prop) (w : World) (gw : Nat) (xs : List Int) : Prop := ∃ u, w.heap[gw]? = some (.cells #[u] 87 (0, 0)) ∧ (Kd.int .u8).R 5 w (gw + 1) ok u xs
theorem C_blk {g n : Nat} {w W : World} {kk : IntKind} {ns : List Int} (hg : W.heap[g]? = w.heap[g]?) (hC : (Kd.int kk).C w (some ⟨g, 0, none⟩) n ns) : (Kd.int kk).C W (some ⟨g, 0, none⟩) n ns := by
 obtain ⟨e1, e2, e3⟩ := hC
 refine ⟨e1, e2, fun hn => ?_⟩
 obtain ⟨ad, e, hc⟩ := e3 hn
 injection e with e
 subst e
 refine ⟨_, rfl, fun j p hj => ?_⟩
 obtain ⟨cs, c1, c2, c3⟩ := hc j p hj
 refine ⟨cs, c1, c2, fun i u hu => ?_⟩
 have := c3 i u hu
 have hb : (Addr.add ⟨g, 0, none⟩ (j * (Kd.int kk).sz + i)).block = g := add_block _ _
 unfold World.cell? at this ⊢
 rw [hb, hg]
 rw [hb] at this
 exact this
set_option maxHeartbeats 2000000 in
theorem wtwo_o (w : World) (gw : Nat) (ok : Nat → Prop) (hok : ∀ k, w.heap.size ≤ k → ok k) (hgo : ¬ ok gw) (xs : List Int) (A : Option Addr) (c : Nat) (ns : List Int) (hs : WSo ok w gw xs) (hA : ∀ W, Only (fun k => k = gw ∨ ok k) w W → (Kd.int .u16).C W A ns.length ns) (hx : xs.length + 2 * ns.length ≤ 140737488355328) :
  Calls Tryd.prog 53 #[.pointer (some ⟨gw, 0, none⟩), .slice A ns.length c] w fun e w' => e = .returned (.tuple #[]) ∧ WSo ok w' gw (xs ++ twoL ns) ∧ Only (fun k => k = gw ∨ ok k) w w' := by
 have HS := Lh hs
 have HA := Lh hA
 have hm := (hA w (Only.refl _ _)).2.1
 have HOK := Lh hok
 have HGO := Lh hgo
 clear hs hA hok hgo
 go_enter Tryd.func53, Tryd.ntmps53
 go_wp2
 go_loopw [5, 8] (fun v5 v8 wr => ∃ (i : Nat) (ys : List Int), i ≤ ns.length ∧ v8 = .int .i64 (i : Int) ∧ Hid (ys.length = xs.length + 2 * i) ∧ Hid (ys ++ twoL (ns.drop i) = xs ++ twoL ns) ∧ Hid (WSo ok wr gw ys) ∧ Hid (Only (fun k => k = gw ∨ ok k) w wr)) (fun _ v8 _ => ns.length - (intOf v8).toNat)
 case atStart => exact ⟨0, xs, Nat.zero_le _, rfl, (by show _ = _; omega), rfl, HS.out, Only.refl _ _⟩
 case round =>
  clear HS
  obtain ⟨i, ys, hi, rfl, HYL, HE, HW, HF⟩ := hrel
  by_cases hlt : i < ns.length
  ·obtain ⟨ad, rfl, x0⟩ := int_at (HA.out wr HF.out) i hlt
   obtain ⟨u, hg, hR⟩ := HW.out
   obtain ⟨Au, cu, rfl⟩ := Kd.R_slice hR
   have hE := HE.out
   have hd : ns.drop i = ns.getD i 0 :: ns.drop (i + 1) := by
    rw [List.drop_eq_getElem_cons hlt]
    congr 1
    simp [List.getD_eq_getElem?_getD, hlt]
   rw [hd, twoL] at hE
   generalize ns.getD i 0 = q at *
   have hE2 : (ys ++ [q / 256 % 256, q % 256]) ++ twoL (ns.drop (i + 1)) = xs ++ twoL ns := by rw [List.append_assoc]; exact hE
   have HE2 := Lh hE2
   have HG := Lh hg
   have HR := Lh hR
   have k0 : wr.cell? ⟨gw, 0, none⟩ = some (.slice Au ys.length cu) := blk_cell hg 0
   have HLT := Lh (blk_lt hg)
   clear hE hE2 hd HE HW hg hR
   go_wp2_with (at_builtin; go_must (refine Kd.R_append_row (Value.int .u8) (0 : Int) (w0 := wr.alloc (.cells #[.int .u8 (q / 256 % 256), .int .u8 (q % 256)] 5)) (W := wr.alloc (.cells #[.int .u8 (q / 256 % 256), .int .u8 (q % 256)] 5)) (gw + 1) rfl _ _ 27 5 _ 1 rfl Tryd.underlying27 info_u8 rfl (by decide) (.slice Au ys.length cu) ys [q / 256 % 256, q % 256] (some ⟨wr.heap.size, 0, none⟩) 2 2 ok rfl rfl (fun k hk => HOK.out k (by have := HF.out.size; simp at hk; omega)) (Kd.R_alloc HR.out _) (row_lit (Kd.int .u8) rfl wr 5 [.int .u8 (q / 256 % 256), .int .u8 (q % 256)] [q / 256 % 256, q % 256] rfl (by simp) (fun j v p hv hp => by rcases j with _ | _ | j <;> simp at hv hp <;> (subst hv; subst hp; rfl))) (Below.refl _ _) (by have := HLT.out; simp; omega) (by have := HYL.out; omega) ?_); (intro v1 w1 hR1 hB1 hG1 _; have HR1 := Lh hR1; have HB1 := Lh hB1; have HGR := Lh hG1; clear hR1 hB1 hG1; refine RowKit.Hid.out ?_))
   refine Lh ?_
   obtain ⟨A7, c7, hv1⟩ := Kd.R_slice HR1.out
   subst hv1
   have hown : (Value.slice Au ys.length cu).ownBlock ≠ some gw := fun e => HGO.out ((Kd.R_alloc HR.out (.cells #[.int .u8 (q / 256 % 256), .int .u8 (q % 256)] 5)).1 _ e)
   have hg1 := blk_grown (blk_alloc HG.out (.cells #[.int .u8 (q / 256 % 256), .int .u8 (q % 256)] 5)) HGR.out (fun e => hown e.symm)
   have hs := blk_cell hg1 0
   have hf := blk_frozen hg1 0
   have HG1 := Lh hg1
   have HF1 := Lh ((HF.out.alloc (.cells #[.int .u8 (q / 256 % 256), .int .u8 (q % 256)] 5)).grown HGR.out (fun k _ e => Or.inr ((Kd.R_alloc HR.out (.cells #[.int .u8 (q / 256 % 256), .int .u8 (q % 256)] 5)).1 _ e)))
   have HR2 := Lh (Kd.R_far HR1.out (p := ⟨gw, 0, none⟩) (fun k hk (e : k = gw) => HGO.out (e ▸ hk)) (.slice A7 (ys ++ [q / 256 % 256, q % 256]).length c7))
   rw [show (ys ++ [q / 256 % 256, q % 256]).length = ys.length + 2 by simp] at HR2
   clear hg1 HGR HB1 HF HR HG k0
   go_wp2
   go_roundw
   case rel => exact ⟨i + 1, ys ++ [q / 256 % 256, q % 256], by omega, by go_num, (by have := HYL.out; show _ = _; simp only [List.length_append, List.length_cons, List.length_nil]; omega), HE2, ⟨_, blk_put HG1.out 0 _ rfl, HR2.out⟩, HF1.out.setCell (fun _ => Or.inl rfl) _⟩
   case measure => simp [intOf]; omega
  ·obtain rfl : i = ns.length := by omega
   have hE := HE.out
   rw [List.drop_length, twoL, List.append_nil] at hE
   have HE2 := Lh hE
   clear hE HE HA
   go_wp2
   go_end0
   exact ⟨rfl, by rw [← HE2.out]; exact HW.out, HF.out⟩
theorem WSo.only {ok : Nat → Prop} {S : Nat → Prop} {w w' : World} {gw : Nat} {xs : List Int} (h : WSo ok w gw xs) (o : Only S w w') (hs : ∀ k, gw ≤ k → k < w.heap.size → ¬ S k) : WSo ok w' gw xs := by
 obtain ⟨u, h1, h2⟩ := h
 exact ⟨u, o.blk h1 (hs gw (Nat.le_refl _) (blk_lt h1)), R_only h2 o (fun k hk => hs k (by omega))⟩
theorem wtwo_lit_o (w : World) (gw : Nat) (ok : Nat → Prop) (hok : ∀ k, w.heap.size ≤ k → ok k) (hgo : ¬ ok gw) (xs ns : List Int) (vs : List Value) (n : Nat) (hv : vs = ns.map (Value.int .u16)) (hn : ns.length = n) (hs : WSo ok w gw xs) (hx : xs.length + 2 * ns.length ≤ 140737488355328) :
  Calls Tryd.prog 53 #[.pointer (some ⟨gw, 0, none⟩), .slice (some ⟨w.heap.size, 0, none⟩) n n] (w.alloc (.cells vs.toArray 22)) fun e w' => e = .returned (.tuple #[]) ∧ WSo ok w' gw (xs ++ twoL ns) ∧ Only (fun k => k = gw ∨ ok k) w w' := by
 subst hn
 obtain ⟨u, hg, hR⟩ := hs
 have hlt := blk_lt hg
 have hC : (Kd.int .u16).C (w.alloc (.cells vs.toArray 22)) (some ⟨w.heap.size, 0, none⟩) ns.length ns := row_lit (Kd.int .u16) rfl w _ vs ns (by rw [hv, List.length_map]) (by omega) (fun j v p h1 h2 => by
  rw [hv, List.getElem?_map, h2] at h1
  injection h1 with h1
  subst h1
  rfl)
 have hR' : (Kd.int .u8).R 5 (w.alloc (.cells vs.toArray 22)) (gw + 1) (fun k => ok k ∧ k ≠ w.heap.size) u xs := Kd.R_alloc (Kd.R_mono (Kd.R_bound hR) (fun k hk => ⟨hk.1, by have := hk.2.2.1; omega⟩)) _
 have hsz : (w.alloc (.cells vs.toArray 22)).heap.size = w.heap.size + 1 := by simp
 refine (wtwo_o (w.alloc (.cells vs.toArray 22)) gw (fun k => ok k ∧ k ≠ w.heap.size) (fun k hk => ⟨hok k (by omega), by omega⟩) (fun h => hgo h.1) xs (some ⟨w.heap.size, 0, none⟩) ns.length ns ⟨u, blk_alloc hg _, hR'⟩ (fun W hO => ?_) hx).mono ?_
 ·exact C_blk (hO.block _ (by omega) (fun h => h.elim (fun h => absurd h (by omega)) (fun h => h.2 rfl))) hC
 ·rintro e w' ⟨h1, ⟨u', h2, h3⟩, h4⟩
  exact ⟨h1, ⟨u', h2, Kd.R_mono h3 (fun k hk => hk.1)⟩, ((Only.refl _ w).alloc _).trans h4 (fun k _ h => h.elim Or.inl (fun h => Or.inr h.1))⟩
end Go.Proofs.YtdlamomabonkjaaDoor.Ch
end
section
namespace Go.Proofs.YtdlamomabonkjaaDoor.Base
open Go.ChangeShapes Go.WideShapes Go.ChangeAt Go.RowKit YtdlamomabonkjaaDoorW.PrintWords
theorem bulk_one {H : Type} (d : DataW H) : 1 ≤ Rows.uptoBulk d := by
 cases d with
 | lit l => cases l <;> simp [Rows.uptoBulk]
 | nil => simp [Rows.uptoBulk]
 | ptr d => simp [Rows.uptoBulk]
 | slice elems spare => simp [Rows.uptoBulk]
 | agg parts => simp [Rows.uptoBulk]
 | iface t d => simp [Rows.uptoBulk]
 | map entries => simp [Rows.uptoBulk]
 | held h => simp [Rows.uptoBulk]
theorem bulk_sum {H : Type} {α : Type} (l : List (DataW H)) (xs : List α) (wt : α → Nat) (hl : xs.length = l.length) (h : ∀ (i : Nat) (x : α) (d : DataW H), xs[i]? = some x → l[i]? = some d → wt x ≤ Rows.uptoBulk d) : (xs.map wt).sum ≤ Rows.uptoBulkAll l := by
 induction l generalizing xs with
 | nil =>
  cases xs with
  | nil => simp
  | cons x xs => simp at hl
 | cons d l ih =>
  cases xs with
  | nil => simp at hl
  | cons x xs =>
   have h1 := h 0 x d rfl rfl
   have h2 := ih xs (by simpa using hl) (fun i x d hx hd => h (i + 1) x d (by simpa using hx) (by simpa using hd))
   simp only [List.map_cons, List.sum_cons, Rows.uptoBulkAll]
   omega
def Opens {α : Type} (t : TypeId) (d : Kd α) (wt : α → Nat) : Prop :=
 ∀ {H : Type} (enc : TypeId × Value → H) (W : World) (fuel : Nat) (cs : List Value) (D : DataW H) (p : List MemPlace), DataW.trod enc Tryd.prog W 0 (fun _ => true) true fuel t cs = some (D, p) → ∃ x, d.K W x cs ∧ wt x ≤ Rows.uptoBulk D
theorem Opens.int {α : Type} {t : TypeId} {k : IntKind} {enc : α → Value} {h1 : ∀ x : α, (enc x).oneCell' = true} (dec : Int → α) (ht : Tryd.prog.underlying t = some (.int k)) (hd : ∀ n, (Lit.int k n).wf = true → enc (dec n) = .int k n) : Opens t (Kd.scalar enc h1) (fun _ => 1) := by
 intro H enc W fuel cs D p h
 obtain ⟨n, rfl, hx, hw⟩ := DataW.trod_int ht h
 exact ⟨dec n, by show _ = _; rw [hd n hw], bulk_one D⟩
theorem Opens.bool {t : TypeId} (ht : Tryd.prog.underlying t = some .bool) : Opens t Kd.bool (fun _ => 1) := by
 intro H enc W fuel cs D p h
 obtain ⟨b, rfl, hx⟩ := DataW.trod_bool ht h
 exact ⟨b, rfl, bulk_one D⟩
theorem Opens.byte : Opens 5 Base.byte (fun _ => 1) := Opens.int (fun n => UInt8.ofNat n.toNat) Tryd.underlying5 (fun n hw => by rw [u8_of_wf hw])
theorem Opens.slice {α : Type} {t e : TypeId} {d : Kd α} {wt : α → Nat} (ho : Opens e d wt) (ht : Tryd.prog.underlying t = some (.slice e)) (hc : Tryd.prog.cellsOf e = d.sz) : Opens t (Kd.slice e d) (fun xs => (xs.map wt).sum + 1) := by
 intro H enc W fuel cs D p h
 rcases Go.Deep.open_slice ht h with ⟨rfl, hx⟩ | ⟨a, len, cap, m, n, Ds, Pl, rfl, hb, hl, hm, hmm, hxx, hel⟩
 ·exact ⟨[], ⟨none, 0, rfl, Nat.le_refl _, Kd.C_nil d W⟩, bulk_one D⟩
 ·have hmc : m = cap := by simpa using hmm
  subst hmc
  simp only [Prod.mk.injEq] at hxx
  obtain ⟨rfl, rfl⟩ := hxx
  have hone : ∀ i, i < len → ∃ x cs', W.cells? 0 (a.add (i * d.sz)) d.sz = some cs' ∧ d.K W x cs' ∧ wt x ≤ Rows.uptoBulk (Ds i) := by
   intro i hi
   obtain ⟨cs', h1, h2⟩ := hel i (by omega)
   obtain ⟨x, hk, hw⟩ := ho enc W n cs' (Ds i) (Pl i) h2
   rw [hc] at h1
   exact ⟨x, cs', h1, hk, hw⟩
  cases hlen : len with
  | zero =>
   refine ⟨[], ⟨some a, m, rfl, Nat.zero_le _, ⟨rfl, by simp, fun h0 => by simp at h0⟩⟩, ?_⟩
   exact bulk_one _
  | succ len' =>
   obtain ⟨x0, _⟩ := hone 0 (by omega)
   have hx : ∀ i, ∃ x, i < len → ∃ cs', W.cells? 0 (a.add (i * d.sz)) d.sz = some cs' ∧ d.K W x cs' ∧ wt x ≤ Rows.uptoBulk (Ds i) := by
    intro i
    by_cases hi : i < len
    ·obtain ⟨x, hx⟩ := hone i hi
     exact ⟨x, fun _ => hx⟩
    ·exact ⟨x0, fun h0 => absurd h0 hi⟩
   rw [← hlen]
   have hll : ((List.range len).map fun i => (hx i).choose).length = len := by simp
   have hget : ∀ j x, ((List.range len).map fun i => (hx i).choose)[j]? = some x → j < len ∧ x = (hx j).choose := by
    intro j x hj
    have hjl : j < len := by have := (List.getElem?_eq_some_iff.1 hj).1; simpa using this
    rw [List.getElem?_map, List.getElem?_range hjl] at hj
    exact ⟨hjl, (Option.some.inj hj).symm⟩
   refine ⟨(List.range len).map fun i => (hx i).choose, ⟨some a, m, by rw [hll], by rw [hll]; exact hl, ⟨rfl, by rw [hll]; simp only [maxLen] at hm; omega, fun _ => ⟨a, rfl, fun j x hj => ?_⟩⟩⟩, ?_⟩
   ·obtain ⟨hjl, rfl⟩ := hget j x hj
    obtain ⟨cs', h1, h2, _⟩ := (hx j).choose_spec hjl
    obtain ⟨_, hlen2, hcell⟩ := World.cells?_some h1
    refine ⟨cs', hlen2, h2, fun i u hu => ?_⟩
    have hi : i < d.sz := by have := (List.getElem?_eq_some_iff.1 hu).1; omega
    have := hcell i hi
    rw [hu] at this
    rw [← this, Go.Deep.add_add]
   ·have hs := bulk_sum ((List.range len).map Ds) ((List.range len).map fun i => (hx i).choose) wt (by simp) (fun i x D hxi hD => by
     obtain ⟨hjl, rfl⟩ := hget i x hxi
     rw [List.getElem?_map, List.getElem?_range hjl] at hD
     obtain rfl := Option.some.inj hD
     obtain ⟨_, _, _, h3⟩ := (hx i).choose_spec hjl
     exact h3)
    simp only [Rows.uptoBulk]
    omega
theorem Opens.bytes : Opens 27 (Kd.slice 5 Base.byte) (fun xs => (xs.map (fun _ => 1)).sum + 1) := Opens.slice Opens.byte Tryd.underlying27 cells_u8
end Go.Proofs.YtdlamomabonkjaaDoor.Base
end
section
namespace Go.Proofs.YtdlamomabonkjaaDoor.Base
open Go.ChangeShapes Go.WideShapes Go.ChangeAt Go.RowKit YtdlamomabonkjaaDoorW.PrintWords
def Short {H : Type} (t : TypeId) (D : DataW H) : Prop := ∀ n ∈ D.weights Tryd.prog t, n ≤ reachBytes
def OpensP {α : Type} (t : TypeId) (d : Kd α) (wt : α → Nat) (Pr : α → Prop) : Prop :=
 ∀ {H : Type} (enc : TypeId × Value → H) (W : World) (fuel : Nat) (cs : List Value) (D : DataW H) (p : List MemPlace), DataW.trod enc Tryd.prog W 0 (fun _ => true) true fuel t cs = some (D, p) → Short t D → ∃ x, d.K W x cs ∧ wt x ≤ Rows.uptoBulk D ∧ Pr x
theorem OpensP.of {α : Type} {t : TypeId} {d : Kd α} {wt : α → Nat} (h : Opens t d wt) : OpensP t d wt (fun _ => True) := by
 intro H enc W fuel cs D p hx _
 obtain ⟨x, h1, h2⟩ := h enc W fuel cs D p hx
 exact ⟨x, h1, h2, trivial⟩
theorem OpensP.mono {α : Type} {t : TypeId} {d : Kd α} {wt : α → Nat} {Pr Pr' : α → Prop} (h : OpensP t d wt Pr) (hp : ∀ x, Pr x → Pr' x) : OpensP t d wt Pr' := by
 intro H enc W fuel cs D p hx hs
 obtain ⟨x, h1, h2, h3⟩ := h enc W fuel cs D p hx hs
 exact ⟨x, h1, h2, hp x h3⟩
theorem weights_all {H : Type} {e : TypeId} {l : List (DataW H)} {D : DataW H} (h : D ∈ l) {n : Nat} (hn : n ∈ D.weights Tryd.prog e) : n ∈ DataW.weightsAll Tryd.prog e l := by
 induction l with
 | nil => cases h
 | cons x r ih =>
  simp only [DataW.weightsAll, List.mem_append]
  rcases List.mem_cons.1 h with rfl | h
  ·exact Or.inl hn
  ·exact Or.inr (ih h)
theorem OpensP.slice {α : Type} {t e : TypeId} {d : Kd α} {wt : α → Nat} {Pr : α → Prop} (ho : OpensP e d wt Pr) (ht : Tryd.prog.underlying t = some (.slice e)) (hc : Tryd.prog.cellsOf e = d.sz) (by_ : Nat) (hby : Tryd.prog.bytesOf e = by_) : OpensP t (Kd.slice e d) (fun xs => (xs.map wt).sum + 1) (fun xs => xs.length * by_ ≤ 140737488351232 ∧ ∀ x ∈ xs, Pr x) := by
 intro H enc W fuel cs D p h hs
 rcases Go.Deep.open_slice ht h with ⟨rfl, hx⟩ | ⟨a, len, cap, m, n, Ds, Pl, rfl, hb, hl, hm, hmm, hxx, hel⟩
 ·exact ⟨[], ⟨none, 0, rfl, Nat.le_refl _, Kd.C_nil d W⟩, bulk_one D, by simp, fun x hx => by cases hx⟩
 ·have hmc : m = cap := by simpa using hmm
  subst hmc
  simp only [Prod.mk.injEq] at hxx
  obtain ⟨rfl, rfl⟩ := hxx
  have hlen : len * by_ ≤ 140737488351232 := by
   have := hs ((((List.range len).map Ds).length + ((List.range (m - len)).map fun j => Ds (len + j)).length) * Tryd.prog.bytesOf e) (by simp only [DataW.weights, ht]; exact List.mem_cons_self ..)
   rw [hby] at this
   simp only [List.length_map, List.length_range] at this
   have h2 : len * by_ ≤ (len + (m - len)) * by_ := Nat.mul_le_mul_right _ (by omega)
   exact Nat.le_trans h2 this
  have hone : ∀ i, i < len → ∃ x cs', W.cells? 0 (a.add (i * d.sz)) d.sz = some cs' ∧ d.K W x cs' ∧ wt x ≤ Rows.uptoBulk (Ds i) ∧ Pr x := by
   intro i hi
   obtain ⟨cs', h1, h2⟩ := hel i (by omega)
   obtain ⟨x, hk, hw, hp⟩ := ho enc W n cs' (Ds i) (Pl i) h2 (fun q hq => hs q (by
    simp only [DataW.weights, ht]
    refine List.mem_cons_of_mem _ (List.mem_append_left _ (weights_all (D := Ds i) ?_ hq))
    exact List.mem_map.2 ⟨i, List.mem_range.2 hi, rfl⟩))
   rw [hc] at h1
   exact ⟨x, cs', h1, hk, hw, hp⟩
  cases hlen' : len with
  | zero =>
   refine ⟨[], ⟨some a, m, rfl, Nat.zero_le _, ⟨rfl, by simp, fun h0 => by simp at h0⟩⟩, ?_, by simp, fun x hx => by cases hx⟩
   exact bulk_one _
  | succ len' =>
   obtain ⟨x0, _⟩ := hone 0 (by omega)
   have hx : ∀ i, ∃ x, i < len → ∃ cs', W.cells? 0 (a.add (i * d.sz)) d.sz = some cs' ∧ d.K W x cs' ∧ wt x ≤ Rows.uptoBulk (Ds i) ∧ Pr x := by
    intro i
    by_cases hi : i < len
    ·obtain ⟨x, hx⟩ := hone i hi
     exact ⟨x, fun _ => hx⟩
    ·exact ⟨x0, fun h0 => absurd h0 hi⟩
   rw [← hlen']
   have hll : ((List.range len).map fun i => (hx i).choose).length = len := by simp
   have hget : ∀ j x, ((List.range len).map fun i => (hx i).choose)[j]? = some x → j < len ∧ x = (hx j).choose := by
    intro j x hj
    have hjl : j < len := by have := (List.getElem?_eq_some_iff.1 hj).1; simpa using this
    rw [List.getElem?_map, List.getElem?_range hjl] at hj
    exact ⟨hjl, (Option.some.inj hj).symm⟩
   refine ⟨(List.range len).map fun i => (hx i).choose, ⟨some a, m, by rw [hll], by rw [hll]; exact hl, ⟨rfl, by rw [hll]; simp only [maxLen] at hm; omega, fun _ => ⟨a, rfl, fun j x hj => ?_⟩⟩⟩, ?_, by rw [hll]; exact hlen, fun x hmem => ?_⟩
   ·obtain ⟨hjl, rfl⟩ := hget j x hj
    obtain ⟨cs', h1, h2, _⟩ := (hx j).choose_spec hjl
    obtain ⟨_, hlen2, hcell⟩ := World.cells?_some h1
    refine ⟨cs', hlen2, h2, fun i u hu => ?_⟩
    have hi : i < d.sz := by have := (List.getElem?_eq_some_iff.1 hu).1; omega
    have := hcell i hi
    rw [hu] at this
    rw [← this, Go.Deep.add_add]
   ·have hsm := bulk_sum ((List.range len).map Ds) ((List.range len).map fun i => (hx i).choose) wt (by simp) (fun i x D hxi hD => by
     obtain ⟨hjl, rfl⟩ := hget i x hxi
     rw [List.getElem?_map, List.getElem?_range hjl] at hD
     obtain rfl := Option.some.inj hD
     obtain ⟨_, _, _, h3, _⟩ := (hx i).choose_spec hjl
     exact h3)
    simp only [Rows.uptoBulk]
    omega
   ·obtain ⟨j, hj, rfl⟩ := List.mem_iff_getElem.1 hmem
    obtain ⟨hjl, he⟩ := hget j _ (List.getElem?_eq_getElem hj)
    rw [he]
    obtain ⟨_, _, _, _, h4⟩ := (hx j).choose_spec hjl
    exact h4
def Seg {α : Type} (fs : List Field) (off : Nat) (d : Kd α) (wt : α → Nat) (Pr : α → Prop) : Prop :=
 ∀ {H : Type} (enc : TypeId × Value → H) (W : World) (n : Nat) (cs : List Value) (xs : List (DataW H × List MemPlace)), xs.length = fs.length →
  (∀ (j : Nat) (f : Field), fs[j]? = some f → DataW.trod enc Tryd.prog W 0 (fun _ => true) true n f.type ((cs.drop f.offset).take (Tryd.prog.cellsOf f.type)) = xs[j]?) →
  (∀ q ∈ DataW.weightsEach Tryd.prog (fs.map (·.type)) (xs.map (·.1)), q ≤ reachBytes) → ∃ x, d.K W x ((cs.drop off).take d.sz) ∧ wt x ≤ Rows.uptoBulkAll (xs.map (·.1)) ∧ Pr x
theorem Seg.one {α : Type} {f : Field} {off : Nat} {d : Kd α} {wt : α → Nat} {Pr : α → Prop} (o : OpensP f.type d wt Pr) (ho : f.offset = off) (hc : Tryd.prog.cellsOf f.type = d.sz) : Seg [f] off d wt Pr := by
 intro H enc W n cs xs hl hx hs
 match xs, hl with
 | [x], _ =>
  have e := hx 0 f rfl
  rw [ho, hc] at e
  obtain ⟨v, h1, h2, h3⟩ := o enc W n _ x.1 x.2 e (fun q hq => hs q (by simp only [List.map_cons, List.map_nil, DataW.weightsEach, List.mem_append]; exact Or.inl hq))
  exact ⟨v, h1, by simp only [List.map_cons, List.map_nil, Rows.uptoBulkAll]; omega, h3⟩
theorem Seg.cons {α β : Type} {f : Field} {fs : List Field} {off : Nat} {a : Kd α} {b : Kd β} {wa : α → Nat} {wb : β → Nat} {Pa : α → Prop} {Pb : β → Prop} (o : OpensP f.type a wa Pa) (ho : f.offset = off) (hc : Tryd.prog.cellsOf f.type = a.sz) (s : Seg fs (off + a.sz) b wb Pb) :
  Seg (f :: fs) off (Kd.pair a b) (fun x => wa x.1 + wb x.2) (fun x => Pa x.1 ∧ Pb x.2) := by
 intro H enc W n cs xs hl hx hs
 match xs, hl with
 | x :: r, hl =>
  have e := hx 0 f rfl
  rw [ho, hc] at e
  obtain ⟨v, h1, h2, h3⟩ := o enc W n _ x.1 x.2 e (fun q hq => hs q (by simp only [List.map_cons, DataW.weightsEach, List.mem_append]; exact Or.inl hq))
  obtain ⟨u, g1, g2, g3⟩ := s enc W n cs r (by simpa using hl) (fun j f' hf => hx (j + 1) f' hf) (fun q hq => hs q (by simp only [List.map_cons, DataW.weightsEach, List.mem_append]; exact Or.inr hq))
  refine ⟨(v, u), ⟨_, _, ?_, h1, g1⟩, by simp only [List.map_cons, Rows.uptoBulkAll]; omega, h3, g3⟩
  show (cs.drop off).take (a.sz + b.sz) = _
  rw [List.take_add, List.drop_drop]
theorem OpensP.struct {α : Type} {t : TypeId} {fs : Array Field} {d : Kd α} {wt : α → Nat} {Pr : α → Prop} (ht : Tryd.prog.underlying t = some (.struct fs)) (hc : Tryd.prog.cellsOf t = d.sz) (s : Seg fs.toList 0 d wt Pr) : OpensP t d (fun x => wt x + 1) Pr := by
 intro H enc W fuel cs D p h hs
 obtain ⟨xs, n, _, hx, hlen, hl, hel⟩ := DataW.trod_struct ht h
 simp only [Prod.mk.injEq] at hx
 obtain ⟨v, h1, h2, h3⟩ := s enc W n cs xs (by simpa using hl) (fun j f hf => hel j f (by simpa using hf)) (fun q hq => hs q (by
  rw [hx.1]
  simp only [DataW.weights, ht]
  exact hq))
 rw [List.drop_zero, List.take_of_length_le (by omega)] at h1
 exact ⟨v, h1, by rw [hx.1]; simp only [Rows.uptoBulk]; omega, h3⟩
theorem OpensP.iso {α β : Type} {t : TypeId} {d : Kd α} {wt : α → Nat} {Pr : α → Prop} (o : OpensP t d wt Pr) (f : β → α) (g : α → β) (hfg : ∀ x, f (g x) = x) : OpensP t (Kd.iso d f) (fun x => wt (f x)) (fun x => Pr (f x)) := by
 intro H enc W fuel cs D p h hs
 obtain ⟨x, hk, hw, hp⟩ := o enc W fuel cs D p h hs
 exact ⟨g x, by show d.K W (f (g x)) cs; rw [hfg]; exact hk, by show wt (f (g x)) ≤ _; rw [hfg]; exact hw, by show Pr (f (g x)); rw [hfg]; exact hp⟩
theorem short_part {H : Type} {ts : List TypeId} {ds : List (DataW H)} (hsz : (DataW.weightsEach Tryd.prog ts ds).all (· ≤ reachBytes) = true) {j : Nat} {t : TypeId} {d : DataW H} (ht : ts[j]? = some t) (hd : ds[j]? = some d) : Short t d := fun n hn => by
 have := List.all_eq_true.1 hsz n (DataW.weights_mem_each ht hd n hn)
 simpa using this
theorem OpensP.arg {α : Type} {t e : TypeId} {d : Kd α} {wt : List α → Nat} {Pr : List α → Prop} (ho : OpensP t (Kd.slice e d) wt Pr) {H : Type} {enc : TypeId × Value → H} {W : World} {a : Option Addr} {len cap : Nat} {D : DataW H} {p : List MemPlace} (h : DataW.Trod enc Tryd.prog W 0 (fun _ => true) true t (.slice a len cap) D p) (hs : Short t D) :
  ∃ xs : List α, len = xs.length ∧ xs.length ≤ cap ∧ d.C W a xs.length xs ∧ wt xs ≤ Rows.uptoBulk D ∧ Pr xs := by
 obtain ⟨fuel, hf⟩ := h
 obtain ⟨xs, ⟨A, c, he, hl, hC⟩, hw, hp⟩ := ho enc W fuel _ D p hf hs
 simp [Value.cells] at he
 obtain ⟨rfl, rfl, rfl⟩ := he
 exact ⟨xs, rfl, hl, hC, hw, hp⟩
theorem OpensP.bytes : OpensP 27 (Kd.slice 5 Base.byte) (fun xs => (xs.map (fun _ => 1)).sum + 1) (fun xs => xs.length * 1 ≤ 140737488351232 ∧ ∀ x ∈ xs, True) := OpensP.slice (OpensP.of Opens.byte) Tryd.underlying27 cells_u8 1 bytes_u8
end Go.Proofs.YtdlamomabonkjaaDoor.Base
end
section
namespace Go.Proofs.YtdlamomabonkjaaDoor.Ch
open Go.ChangeShapes Go.WideShapes Go.ChangeAt Go.RowKit YtdlamomabonkjaaDoorW.PrintWords Base PCh ParDec
def in16 (x : Int) : Prop := 0 ≤ x ∧ x < 65536
def in32 (x : Int) : Prop := 0 ≤ x ∧ x < 4294967296
theorem OpensP.u8 {t : TypeId} (ht : Tryd.prog.underlying t = some (.int .u8)) : OpensP t (Kd.int .u8) (fun _ => 1) inB := by
 intro H enc W fuel cs D p h _
 obtain ⟨z, rfl, _, hw⟩ := DataW.trod_int ht h
 have := bounds_u8 hw
 exact ⟨z, rfl, bulk_one D, by unfold inB; omega⟩
theorem OpensP.u16 {t : TypeId} (ht : Tryd.prog.underlying t = some (.int .u16)) : OpensP t (Kd.int .u16) (fun _ => 1) in16 := by
 intro H enc W fuel cs D p h _
 obtain ⟨z, rfl, _, hw⟩ := DataW.trod_int ht h
 have := bounds_u16 hw
 exact ⟨z, rfl, bulk_one D, by unfold in16; omega⟩
theorem OpensP.u32 {t : TypeId} (ht : Tryd.prog.underlying t = some (.int .u32)) : OpensP t (Kd.int .u32) (fun _ => 1) in32 := by
 intro H enc W fuel cs D p h _
 obtain ⟨z, rfl, _, hw⟩ := DataW.trod_int ht h
 have := bounds_u32 hw
 exact ⟨z, rfl, bulk_one D, by unfold in32; omega⟩
def okG (g : GapS) : Prop := in16 g.f0 ∧ in16 g.f1
def okQ (p : PrmS) : Prop := in16 p.f0 ∧ ∀ b ∈ p.f1, inB b
structure OkC (x : Chk) : Prop where
 r0 : inB x.f0
 r1 : inB x.f1
 r2 : in32 x.f2
 r3 : in16 x.f3
 r4 : in16 x.f4
 r5 : in32 x.f5
 r6 : in32 x.f6
 r7 : in32 x.f7
 r8 : in16 x.f8
 r9 : in16 x.f9
 r10 : ∀ g ∈ x.f10, okG g
 r11 : ∀ g ∈ x.f11, okG g
 r12 : ∀ d ∈ x.f12, in32 d
 r13 : ∀ b ∈ x.f13, inB b
 r14 : ∀ p ∈ x.f14, okQ p
 l13 : x.f13.length ≤ 140737488351232
theorem OkC.okB {x : Chk} (h : OkC x) : OkB x := ⟨h.r13, fun p hp => (h.r14 p hp).2⟩
theorem bytes_u8' : Tryd.prog.bytesOf 5 = 1 := by kernel_rfl
theorem opens_gap : OpensP 117 k117 (fun x => 1 + 1 + 1) okG :=
 OpensP.iso (OpensP.struct Tryd.underlying117 (by kernel_rfl) (Seg.cons (OpensP.u16 Tryd.underlying22) rfl (by kernel_rfl) (Seg.one (OpensP.u16 Tryd.underlying22) rfl (by kernel_rfl)))) _ (fun p => ⟨p.1, p.2⟩) (fun _ => rfl)
theorem opens_body : OpensP 27 (Kd.slice 5 (Kd.int .u8)) (fun xs => (xs.map (fun _ => 1)).sum + 1) (fun xs => xs.length * 1 ≤ 140737488351232 ∧ ∀ x ∈ xs, inB x) :=
 OpensP.slice (OpensP.u8 Tryd.underlying5) Tryd.underlying27 (by kernel_rfl) 1 bytes_u8'
theorem opens_prm : OpensP 72 k72 (fun x => 1 + ((x.f1.map (fun _ => 1)).sum + 1) + 1) okQ :=
 OpensP.mono (OpensP.iso (OpensP.struct Tryd.underlying72 (by kernel_rfl) (Seg.cons (OpensP.u16 Tryd.underlying22) rfl (by kernel_rfl) (Seg.one opens_body rfl (by kernel_rfl)))) _ (fun p => ⟨p.1, p.2⟩) (fun _ => rfl)) (fun x h => ⟨h.1, h.2.2⟩)
theorem opens_chk : ∃ wt, OpensP 41 k41 wt OkC := by
 refine ⟨_, OpensP.mono (OpensP.iso (OpensP.struct Tryd.underlying41 (by kernel_rfl)
  (Seg.cons (OpensP.u8 Tryd.underlying36) rfl (by kernel_rfl)
  (Seg.cons (OpensP.u8 Tryd.underlying5) rfl (by kernel_rfl)
  (Seg.cons (OpensP.u32 Tryd.underlying23) rfl (by kernel_rfl)
  (Seg.cons (OpensP.u16 Tryd.underlying22) rfl (by kernel_rfl)
  (Seg.cons (OpensP.u16 Tryd.underlying22) rfl (by kernel_rfl)
  (Seg.cons (OpensP.u32 Tryd.underlying23) rfl (by kernel_rfl)
  (Seg.cons (OpensP.u32 Tryd.underlying23) rfl (by kernel_rfl)
  (Seg.cons (OpensP.u32 Tryd.underlying23) rfl (by kernel_rfl)
  (Seg.cons (OpensP.u16 Tryd.underlying22) rfl (by kernel_rfl)
  (Seg.cons (OpensP.u16 Tryd.underlying22) rfl (by kernel_rfl)
  (Seg.cons (OpensP.slice opens_gap Tryd.underlying37 (by kernel_rfl) 4 (by kernel_rfl)) rfl (by kernel_rfl)
  (Seg.cons (OpensP.slice opens_gap Tryd.underlying37 (by kernel_rfl) 4 (by kernel_rfl)) rfl (by kernel_rfl)
  (Seg.cons (OpensP.slice (OpensP.u32 Tryd.underlying23) Tryd.underlying38 (by kernel_rfl) 4 (by kernel_rfl)) rfl (by kernel_rfl)
  (Seg.cons opens_body rfl (by kernel_rfl)
  (Seg.one (OpensP.slice opens_prm Tryd.underlying39 (by kernel_rfl) 32 (by kernel_rfl)) rfl (by kernel_rfl)))))))))))))))))
  _ (fun p => ⟨p.1, p.2.1, p.2.2.1, p.2.2.2.1, p.2.2.2.2.1, p.2.2.2.2.2.1, p.2.2.2.2.2.2.1, p.2.2.2.2.2.2.2.1, p.2.2.2.2.2.2.2.2.1, p.2.2.2.2.2.2.2.2.2.1, p.2.2.2.2.2.2.2.2.2.2.1, p.2.2.2.2.2.2.2.2.2.2.2.1, p.2.2.2.2.2.2.2.2.2.2.2.2.1, p.2.2.2.2.2.2.2.2.2.2.2.2.2.1, p.2.2.2.2.2.2.2.2.2.2.2.2.2.2⟩) (fun _ => rfl)) ?_⟩
 rintro x ⟨h0, h1, h2, h3, h4, h5, h6, h7, h8, h9, h10, h11, h12, h13, h14⟩
 exact ⟨h0, h1, h2, h3, h4, h5, h6, h7, h8, h9, h10.2, h11.2, h12.2, h13.2, h14.2, by have := h13.1; simpa using this⟩
theorem opens_chks : ∃ wt, OpensP 24 (Kd.slice 41 k41) wt (fun xs => xs.length * 152 ≤ 140737488351232 ∧ ∀ x ∈ xs, OkC x) := by
 obtain ⟨wt, h⟩ := opens_chk
 exact ⟨_, OpensP.slice h Tryd.underlying24 (by kernel_rfl) 152 (by kernel_rfl)⟩
end Go.Proofs.YtdlamomabonkjaaDoor.Ch
end
section
namespace Go.Proofs.YtdlamomabonkjaaDoor.Ch
open Go.RowKit YtdlamomabonkjaaDoorW.PrintWords YtdlamomabonkjaaDoorW.PrintLast Base PCh ParDec
def ParR (b0 : Nat) (r : Except Int Chk) (cs : Array Value) (code : Int) (W1 : World) : Prop :=
 cs.size = 15 ∧ cs.all (·.oneCell') = true ∧ (match r with
  | .error c => code = c
  | .ok d => code = 0 ∧ k41.M W1 b0 (fun _ => True) d cs.toList)
end Go.Proofs.YtdlamomabonkjaaDoor.Ch
end
section
namespace Go.Proofs.YtdlamomabonkjaaDoor.Ch
open Go.RowKit YtdlamomabonkjaaDoorW.PrintWords YtdlamomabonkjaaDoorW.PrintLast Base PCh ParDec
def rbareT5 : Bool × List (List Nat × List Nat) := (true, [([], []), ([0], [0]), ([1], [1]), ([], []), ([3], [3]), ([], []), ([5], [5]), ([], []), ([7], [7]), ([], []), ([9], [9]), ([], []), ([11], [11]), ([0, 1, 2], []), ([13, 2, 0, 1, 2], [2, 13]), ([0, 1, 2, 3, 4, 13, 14], []), ([15, 4, 14, 0, 1, 2, 3, 4, 13, 14], [4, 15]), ([0, 1, 2, 3, 4, 5, 6, 13, 14, 15, 16], []), ([17, 6, 16, 0, 1, 2, 3, 4, 5, 6, 13, 14, 15, 16], [6, 17]), ([0, 1, 2, 3, 4, 5, 6, 7, 8, 13, 14, 15, 16, 17, 18], []), ([19, 8, 18, 0, 1, 2, 3, 4, 5, 6, 7, 8, 13, 14, 15, 16, 17, 18], [8, 19]), ([0, 1, 2, 3, 4, 5, 6, 7, 8, 9, 10, 13, 14, 15, 16, 17, 18, 19, 20], []), ([21, 10, 20, 0, 1, 2, 3, 4, 5, 6, 7, 8, 9, 10, 13, 14, 15, 16, 17, 18, 19, 20], [10, 21]), ([0, 1, 2, 3, 4, 5, 6, 7, 8, 9, 10, 11, 12, 13, 14, 15, 16, 17, 18, 19, 20, 21, 22], []), ([23, 12, 22, 0, 1, 2, 3, 4, 5, 6, 7, 8, 9, 10, 11, 12, 13, 14, 15, 16, 17, 18, 19, 20, 21, 22], [12, 23])])
def rbareB5 : List Nat := [0, 1, 3, 0, 8, 0, 32, 0, 128, 0, 512, 0, 2048, 7, 8199, 24607, 57375, 123007, 254079, 516607, 1040895, 2091007, 4188159, 8388607, 16777215]
theorem rbaretab5 : Go.Proofs.YtdlamomabonkjaaDoorW.PrintLast.rtab .any (Go.Proofs.YtdlamomabonkjaaDoorW.PrintLast.opsOf Tryd.f33 5) = rbareT5 := by kernel_rfl
theorem rbarebits5 : Go.Proofs.YtdlamomabonkjaaDoorW.PrintLast.waitsOk rbareT5.2 rbareB5 = true := by kernel_rfl
def rbareT8 : Bool × List (List Nat × List Nat) := (true, [([], []), ([0], [0]), ([], []), ([2], [2]), ([], []), ([4], [4]), ([], []), ([6], [6]), ([], []), ([8], [8]), ([], []), ([10], [10]), ([0, 1], []), ([12, 1, 0, 1], [1, 12]), ([0, 1, 2, 3, 12, 13], []), ([14, 3, 13, 0, 1, 2, 3, 12, 13], [3, 14]), ([0, 1, 2, 3, 4, 5, 12, 13, 14, 15], []), ([16, 5, 15, 0, 1, 2, 3, 4, 5, 12, 13, 14, 15], [5, 16]), ([0, 1, 2, 3, 4, 5, 6, 7, 12, 13, 14, 15, 16, 17], []), ([18, 7, 17, 0, 1, 2, 3, 4, 5, 6, 7, 12, 13, 14, 15, 16, 17], [7, 18]), ([0, 1, 2, 3, 4, 5, 6, 7, 8, 9, 12, 13, 14, 15, 16, 17, 18, 19], []), ([20, 9, 19, 0, 1, 2, 3, 4, 5, 6, 7, 8, 9, 12, 13, 14, 15, 16, 17, 18, 19], [9, 20]), ([0, 1, 2, 3, 4, 5, 6, 7, 8, 9, 10, 11, 12, 13, 14, 15, 16, 17, 18, 19, 20, 21], []), ([22, 11, 21, 0, 1, 2, 3, 4, 5, 6, 7, 8, 9, 10, 11, 12, 13, 14, 15, 16, 17, 18, 19, 20, 21], [11, 22])])
def rbareB8 : List Nat := [0, 1, 0, 4, 0, 16, 0, 64, 0, 256, 0, 1024, 3, 4099, 12303, 28687, 61503, 127039, 258303, 520447, 1045503, 2094079, 4194303, 8388607]
theorem rbaretab8 : Go.Proofs.YtdlamomabonkjaaDoorW.PrintLast.rtab .any (Go.Proofs.YtdlamomabonkjaaDoorW.PrintLast.opsOf Tryd.f33 8) = rbareT8 := by kernel_rfl
theorem rbarebits8 : Go.Proofs.YtdlamomabonkjaaDoorW.PrintLast.waitsOk rbareT8.2 rbareB8 = true := by kernel_rfl
def rbareT10 : Bool × List (List Nat × List Nat) := (true, [([], []), ([0], [0]), ([], []), ([2], [2]), ([], []), ([4], [4]), ([], []), ([6], [6]), ([0, 1], []), ([8, 1, 0, 1], [1, 8]), ([0, 1, 2, 3, 8, 9], []), ([10, 3, 9, 0, 1, 2, 3, 8, 9], [3, 10]), ([0, 1, 2, 3, 4, 5, 8, 9, 10, 11], []), ([12, 5, 11, 0, 1, 2, 3, 4, 5, 8, 9, 10, 11], [5, 12]), ([0, 1, 2, 3, 4, 5, 6, 7, 8, 9, 10, 11, 12, 13], []), ([14, 7, 13, 0, 1, 2, 3, 4, 5, 6, 7, 8, 9, 10, 11, 12, 13], [7, 14])])
def rbareB10 : List Nat := [0, 1, 0, 4, 0, 16, 0, 64, 3, 259, 783, 1807, 3903, 7999, 16383, 32767]
theorem rbaretab10 : Go.Proofs.YtdlamomabonkjaaDoorW.PrintLast.rtab .any (Go.Proofs.YtdlamomabonkjaaDoorW.PrintLast.opsOf Tryd.f33 10) = rbareT10 := by kernel_rfl
theorem rbarebits10 : Go.Proofs.YtdlamomabonkjaaDoorW.PrintLast.waitsOk rbareT10.2 rbareB10 = true := by kernel_rfl
def rbareT12 : Bool × List (List Nat × List Nat) := (true, [([], []), ([0], [0]), ([], []), ([2], [2]), ([], []), ([4], [4]), ([], []), ([6], [6]), ([], []), ([8], [8]), ([0, 1], []), ([10, 1, 0, 1], [1, 10]), ([0, 1, 2, 3, 10, 11], []), ([12, 3, 11, 0, 1, 2, 3, 10, 11], [3, 12]), ([0, 1, 2, 3, 4, 5, 10, 11, 12, 13], []), ([14, 5, 13, 0, 1, 2, 3, 4, 5, 10, 11, 12, 13], [5, 14]), ([0, 1, 2, 3, 4, 5, 6, 7, 10, 11, 12, 13, 14, 15], []), ([16, 7, 15, 0, 1, 2, 3, 4, 5, 6, 7, 10, 11, 12, 13, 14, 15], [7, 16]), ([0, 1, 2, 3, 4, 5, 6, 7, 8, 9, 10, 11, 12, 13, 14, 15, 16, 17], []), ([18, 9, 17, 0, 1, 2, 3, 4, 5, 6, 7, 8, 9, 10, 11, 12, 13, 14, 15, 16, 17], [9, 18])])
def rbareB12 : List Nat := [0, 1, 0, 4, 0, 16, 0, 64, 0, 256, 3, 1027, 3087, 7183, 15423, 31807, 64767, 130303, 262143, 524287]
theorem rbaretab12 : Go.Proofs.YtdlamomabonkjaaDoorW.PrintLast.rtab .any (Go.Proofs.YtdlamomabonkjaaDoorW.PrintLast.opsOf Tryd.f33 12) = rbareT12 := by kernel_rfl
theorem rbarebits12 : Go.Proofs.YtdlamomabonkjaaDoorW.PrintLast.waitsOk rbareT12.2 rbareB12 = true := by kernel_rfl
def rbareT18 : Bool × List (List Nat × List Nat) := (true, [([], []), ([0], [0]), ([1], [1]), ([], []), ([3], [3]), ([0, 1, 2], []), ([5, 2, 0, 1, 2], [2, 5]), ([0, 1, 2, 3, 4, 5, 6], []), ([7, 4, 6, 0, 1, 2, 3, 4, 5, 6], [4, 7])])
def rbareB18 : List Nat := [0, 1, 3, 0, 8, 7, 39, 127, 255]
theorem rbaretab18 : Go.Proofs.YtdlamomabonkjaaDoorW.PrintLast.rtab .any (Go.Proofs.YtdlamomabonkjaaDoorW.PrintLast.opsOf Tryd.f33 18) = rbareT18 := by kernel_rfl
theorem rbarebits18 : Go.Proofs.YtdlamomabonkjaaDoorW.PrintLast.waitsOk rbareT18.2 rbareB18 = true := by kernel_rfl
def rbareT3 : Bool × List (List Nat × List Nat) := (true, [([], []), ([0], [0]), ([], []), ([2], [2]), ([0, 1], []), ([4, 1, 0, 1], [1, 4]), ([0, 1, 2, 3, 4, 5], []), ([6, 3, 5, 0, 1, 2, 3, 4, 5], [3, 6])])
def rbareB3 : List Nat := [0, 1, 0, 4, 3, 19, 63, 127]
theorem rbaretab3 : Go.Proofs.YtdlamomabonkjaaDoorW.PrintLast.rtab .any (Go.Proofs.YtdlamomabonkjaaDoorW.PrintLast.opsOf Tryd.f33 3) = rbareT3 := by kernel_rfl
theorem rbarebits3 : Go.Proofs.YtdlamomabonkjaaDoorW.PrintLast.waitsOk rbareT3.2 rbareB3 = true := by kernel_rfl
theorem and_mod (b : Int) (k : Nat) (h0 : 0 ≤ b) (h1 : b < 256) (hk : 2 ^ k < 257) : bits .and .u8 b ((2 ^ k - 1 : Nat) : Int) = b % ((2 ^ k : Nat) : Int) := by
 obtain ⟨n, rfl⟩ := Int.eq_ofNat_of_zero_le h0
 have h := (bits_nat .u8 8 (by decide) (fun n h0 h1 => by simp [IntKind.wrap, IntKind.bits, IntKind.signed]; omega) n (2 ^ k - 1) (by omega) (by omega)).1
 rw [h, Nat.and_two_pow_sub_one_eq_mod]
 exact Int.natCast_emod n (2 ^ k)
theorem flD_zero (kd f1 : Int) (h0 : 0 ≤ f1) (h1 : f1 < 256) (h : maskD kd = 0) : flD kd f1 = 0 := by
 unfold flD
 rw [h]
 have := and_mod f1 0 h0 h1 (by decide)
 rw [show ((2 ^ 0 - 1 : Nat) : Int) = 0 from rfl] at this
 rw [this]
 exact Int.emod_one f1
theorem flD_all (kd f1 : Int) (h0 : 0 ≤ f1) (h1 : f1 < 256) (h : maskD kd = 255) : flD kd f1 = f1 := by
 unfold flD
 rw [h]
 have := and_mod f1 8 h0 h1 (by decide)
 rw [show ((2 ^ 8 - 1 : Nat) : Int) = 255 from rfl] at this
 rw [this]
 exact Int.emod_eq_of_lt h0 h1
theorem flD_two (kd f1 : Int) (h0 : 0 ≤ f1) (h1 : f1 < 256) (h : maskD kd = 1) : flD kd f1 = f1 % 2 := by
 unfold flD
 rw [h]
 exact and_mod f1 1 h0 h1 (by decide)
theorem flD_eight (kd f1 : Int) (h0 : 0 ≤ f1) (h1 : f1 < 256) (h : maskD kd = 7) : flD kd f1 = f1 % 8 := by
 unfold flD
 rw [h]
 exact and_mod f1 3 h0 h1 (by decide)
set_option maxHeartbeats 8000000 in
theorem rbare_calls (w : World) (x : Chk) (L : Lay) (hk : 0 ≤ x.f0) (h1 : 0 ≤ x.f1) (h2 : x.f1 < 256) :
  Calls Tryd.prog 33 #[.agg (CV x L)] w fun e w' => e = .returned (.agg (CV (bareD x) (keepL (hasF x.f0) L))) ∧ Below w.heap.size w w' := by
 obtain ⟨f0, f1, f2, f3, f4, f5, f6, f7, f8, f9, f10, f11, f12, f13, f14⟩ := x
 obtain ⟨A10, c10, A11, c11, A12, c12, A13, c13, A14, c14⟩ := L
 dsimp only at h1 h2 hk
 have X := Bx.new w (CV ⟨f0, f1, f2, f3, f4, f5, f6, f7, f8, f9, f10, f11, f12, f13, f14⟩ ⟨A10, c10, A11, c11, A12, c12, A13, c13, A14, c14⟩)
 go_enter Tryd.func33, Tryd.ntmps33
 go_upto_region 1 with (fail)
 refine wp_gen (Bx w (CV ⟨f0, f1, f2, f3, f4, f5, f6, f7, f8, f9, f10, f11, f12, f13, f14⟩ ⟨A10, c10, A11, c11, A12, c12, A13, c13, A14, c14⟩)) X ?_
 clear X
 intro W X
 have U0 := Lh (show W.cell? ⟨w.heap.size, 0, none⟩ = some (.int .u8 f0) from X.cell 0)
 have U1 := Lh (show W.cell? ⟨w.heap.size, 1, none⟩ = some (.int .u8 f1) from X.cell 1)
 have U2 := Lh (show W.cell? ⟨w.heap.size, 2, none⟩ = some (.int .u32 f2) from X.cell 2)
 have U3 := Lh (show W.cell? ⟨w.heap.size, 3, none⟩ = some (.int .u16 f3) from X.cell 3)
 have U4 := Lh (show W.cell? ⟨w.heap.size, 4, none⟩ = some (.int .u16 f4) from X.cell 4)
 have U5 := Lh (show W.cell? ⟨w.heap.size, 5, none⟩ = some (.int .u32 f5) from X.cell 5)
 have U6 := Lh (show W.cell? ⟨w.heap.size, 6, none⟩ = some (.int .u32 f6) from X.cell 6)
 have U7 := Lh (show W.cell? ⟨w.heap.size, 7, none⟩ = some (.int .u32 f7) from X.cell 7)
 have U8 := Lh (show W.cell? ⟨w.heap.size, 8, none⟩ = some (.int .u16 f8) from X.cell 8)
 have U9 := Lh (show W.cell? ⟨w.heap.size, 9, none⟩ = some (.int .u16 f9) from X.cell 9)
 have U10 := Lh (show W.cell? ⟨w.heap.size, 10, none⟩ = some (.slice A10 f10.length c10) from X.cell 10)
 have U11 := Lh (show W.cell? ⟨w.heap.size, 11, none⟩ = some (.slice A11 f11.length c11) from X.cell 11)
 have U12 := Lh (show W.cell? ⟨w.heap.size, 12, none⟩ = some (.slice A12 f12.length c12) from X.cell 12)
 have U13 := Lh (show W.cell? ⟨w.heap.size, 13, none⟩ = some (.slice A13 f13.length c13) from X.cell 13)
 have U14 := Lh (show W.cell? ⟨w.heap.size, 14, none⟩ = some (.slice A14 f14.length c14) from X.cell 14)
 have k0 := U0.out
 go_upto_region 2 with (fail)
 refine wp_gen (fun W' => By w (CV ⟨f0, f1, f2, f3, f4, f5, f6, f7, f8, f9, f10, f11, f12, f13, f14⟩ ⟨A10, c10, A11, c11, A12, c12, A13, c13, A14, c14⟩) (#[.int .u8 (f0), .int .u8 0, .int .u32 0, .int .u16 0, .int .u16 0, .int .u32 0, .int .u32 0, .int .u32 0, .int .u16 0, .int .u16 0, .slice none 0 0, .slice none 0 0, .slice none 0 0, .slice none 0 0, .slice none 0 0]) W.heap.size W' ∧ Below W.heap.size W W') ?_ ?_
 ·exact ⟨⟨X.below (below_alloc (Below.refl _ _) _), blk_new _ _, X.x3⟩, below_alloc (Below.refl _ _) _⟩
 clear X k0
 rintro W1 ⟨X, hB⟩
 replace U0 := Lh (pw_cell_below hB U0.out)
 replace U1 := Lh (pw_cell_below hB U1.out)
 replace U2 := Lh (pw_cell_below hB U2.out)
 replace U3 := Lh (pw_cell_below hB U3.out)
 replace U4 := Lh (pw_cell_below hB U4.out)
 replace U5 := Lh (pw_cell_below hB U5.out)
 replace U6 := Lh (pw_cell_below hB U6.out)
 replace U7 := Lh (pw_cell_below hB U7.out)
 replace U8 := Lh (pw_cell_below hB U8.out)
 replace U9 := Lh (pw_cell_below hB U9.out)
 replace U10 := Lh (pw_cell_below hB U10.out)
 replace U11 := Lh (pw_cell_below hB U11.out)
 replace U12 := Lh (pw_cell_below hB U12.out)
 replace U13 := Lh (pw_cell_below hB U13.out)
 replace U14 := Lh (pw_cell_below hB U14.out)
 clear hB
 have HN := Lh (show ¬ w.heap.size = W.heap.size by have := X.hg; omega)
 generalize W.heap.size = g3 at *
 generalize W1 = W at *
 by_cases h : f0 = 0
 ·subst h
  have k0 := U0.out
  go_upto_region 5 with (fail)
  refine copy_region (B := rbareB5) (T := 41) (gd := g3) [0, 1, 2, 3, 4, 5, 6, 7, 8, 9, 10, 11, 12, 13, 14, 15, 16, 17, 18, 19, 20, 21, 22, 23, 24] [(0, 17, .pointer (some ⟨w.heap.size, 1, none⟩)), (1, 18, .int .u8 f1), (2, 19, .int .u8 (f1 % 8)), (3, 20, .pointer (some ⟨w.heap.size, 2, none⟩)), (4, 21, .int .u32 f2), (5, 22, .pointer (some ⟨w.heap.size, 3, none⟩)), (6, 23, .int .u16 f3), (7, 24, .pointer (some ⟨w.heap.size, 4, none⟩)), (8, 25, .int .u16 f4), (9, 26, .pointer (some ⟨w.heap.size, 5, none⟩)), (10, 27, .int .u32 f5), (11, 28, .pointer (some ⟨w.heap.size, 13, none⟩)), (12, 29, .slice A13 f13.length c13), (13, 30, .pointer (some ⟨g3, 1, none⟩)), (15, 31, .pointer (some ⟨g3, 2, none⟩)), (17, 32, .pointer (some ⟨g3, 3, none⟩)), (19, 33, .pointer (some ⟨g3, 4, none⟩)), (21, 34, .pointer (some ⟨g3, 5, none⟩)), (23, 35, .pointer (some ⟨g3, 13, none⟩))] [(14, 1, .int .u8 (f1 % 8)), (16, 2, .int .u32 f2), (18, 3, .int .u16 f3), (20, 4, .int .u16 f4), (22, 5, .int .u32 f5), (24, 13, .slice A13 f13.length c13)] (by kernel_rfl) rfl (l := #[false, false, false, false, false, false, false, false, false, false, false, false, false, false, false, false, false, false, false, false, false, false, false, false, false]) rfl rbaretab5 rbarebits5 (by kernel_rfl) (by kernel_rfl) rfl rfl X.x3 ?_ ?_
  ·exact steps_cons (cp_addr 0 0 1 rfl rfl rfl rfl rfl rfl rfl rfl (fun a w e => by go_simp)) (steps_cons (cp_op 1 1 0 0 rfl rfl rfl rfl rfl rfl rfl rfl rfl (by kernel_rfl) rfl (fun a w hO e => by have hs := hO.cell U1.out HN.out; go_simp)) (steps_cons (cp_op 2 2 1 1 rfl rfl rfl rfl rfl rfl rfl rfl rfl (by kernel_rfl) rfl (fun a w hO e => by go_simp; exact Int.tmod_eq_emod_of_nonneg h1)) (steps_cons (cp_addr 3 3 1 rfl rfl rfl rfl rfl rfl rfl rfl (fun a w e => by go_simp)) (steps_cons (cp_op 4 4 3 3 rfl rfl rfl rfl rfl rfl rfl rfl rfl (by kernel_rfl) rfl (fun a w hO e => by have hs := hO.cell U2.out HN.out; go_simp)) (steps_cons (cp_addr 5 5 1 rfl rfl rfl rfl rfl rfl rfl rfl (fun a w e => by go_simp)) (steps_cons (cp_op 6 6 5 5 rfl rfl rfl rfl rfl rfl rfl rfl rfl (by kernel_rfl) rfl (fun a w hO e => by have hs := hO.cell U3.out HN.out; go_simp)) (steps_cons (cp_addr 7 7 1 rfl rfl rfl rfl rfl rfl rfl rfl (fun a w e => by go_simp)) (steps_cons (cp_op 8 8 7 7 rfl rfl rfl rfl rfl rfl rfl rfl rfl (by kernel_rfl) rfl (fun a w hO e => by have hs := hO.cell U4.out HN.out; go_simp)) (steps_cons (cp_addr 9 9 1 rfl rfl rfl rfl rfl rfl rfl rfl (fun a w e => by go_simp)) (steps_cons (cp_op 10 10 9 9 rfl rfl rfl rfl rfl rfl rfl rfl rfl (by kernel_rfl) rfl (fun a w hO e => by have hs := hO.cell U5.out HN.out; go_simp)) (steps_cons (cp_addr 11 11 1 rfl rfl rfl rfl rfl rfl rfl rfl (fun a w e => by go_simp)) (steps_cons (cp_op 12 12 11 11 rfl rfl rfl rfl rfl rfl rfl rfl rfl (by kernel_rfl) rfl (fun a w hO e => by have hs := hO.cell U13.out HN.out; go_simp)) (steps_cons (cp_addr 13 13 3 rfl rfl rfl rfl rfl rfl rfl rfl (fun a w e => by go_simp)) (steps_cons (cp_store 14 0 13 2 13 2 rfl rfl rfl rfl rfl rfl (show _ < 15 by decide) rfl rfl rfl (by kernel_rfl) rfl rfl rfl rfl (by kernel_rfl) rfl (fun a w old e e2 h h2 => by go_simp)) (steps_cons (cp_addr 15 14 3 rfl rfl rfl rfl rfl rfl rfl rfl (fun a w e => by go_simp)) (steps_cons (cp_store 16 1 14 4 15 4 rfl rfl rfl rfl rfl rfl (show _ < 15 by decide) rfl rfl rfl (by kernel_rfl) rfl rfl rfl rfl (by kernel_rfl) rfl (fun a w old e e2 h h2 => by go_simp)) (steps_cons (cp_addr 17 15 3 rfl rfl rfl rfl rfl rfl rfl rfl (fun a w e => by go_simp)) (steps_cons (cp_store 18 2 15 6 17 6 rfl rfl rfl rfl rfl rfl (show _ < 15 by decide) rfl rfl rfl (by kernel_rfl) rfl rfl rfl rfl (by kernel_rfl) rfl (fun a w old e e2 h h2 => by go_simp)) (steps_cons (cp_addr 19 16 3 rfl rfl rfl rfl rfl rfl rfl rfl (fun a w e => by go_simp)) (steps_cons (cp_store 20 3 16 8 19 8 rfl rfl rfl rfl rfl rfl (show _ < 15 by decide) rfl rfl rfl (by kernel_rfl) rfl rfl rfl rfl (by kernel_rfl) rfl (fun a w old e e2 h h2 => by go_simp)) (steps_cons (cp_addr 21 17 3 rfl rfl rfl rfl rfl rfl rfl rfl (fun a w e => by go_simp)) (steps_cons (cp_store 22 4 17 10 21 10 rfl rfl rfl rfl rfl rfl (show _ < 15 by decide) rfl rfl rfl (by kernel_rfl) rfl rfl rfl rfl (by kernel_rfl) rfl (fun a w old e e2 h h2 => by go_simp)) (steps_cons (cp_addr 23 18 3 rfl rfl rfl rfl rfl rfl rfl rfl (fun a w e => by go_simp)) (steps_cons (cp_store 24 5 18 12 23 12 rfl rfl rfl rfl rfl rfl (show _ < 15 by decide) rfl rfl rfl (by kernel_rfl) rfl rfl rfl rfl (by kernel_rfl) rfl (fun a w old e e2 h h2 => by go_simp)) steps_nil))))))))))))))))))))))))
  intro W9 hO9 hC9
  replace X := (show By w _ (#[.int .u8 _, .int .u8 ((f1 % 8)), .int .u32 f2, .int .u16 f3, .int .u16 f4, .int .u32 f5, .int .u32 0, .int .u32 0, .int .u16 0, .int .u16 0, .slice none 0 0, .slice none 0 0, .slice none 0 0, .slice A13 f13.length c13, .slice none 0 0]) g3 W9 from X.only hO9 hC9)
  clear hO9 hC9
  simp only [putSel, if_true, Act.put, List.setIfInBounds_toArray, List.set_cons_zero, List.set_cons_succ]
  go_wp2_with (with_reducible refine gate_dst (N := 123) rfl ?_; go_must (refine wpList_ret_row 123 rfl rfl rfl (.tmp 3) (.tmp 2) rfl rfl rfl _ _ _ _ rfl rfl rfl X.x3 X.bx.x1 rfl rfl (by simp [Value.oneCell']) ?_))
  refine row_end rfl rfl rfl X.bx.x1 rfl X.bx.x2 (Nat.le_succ _) ?_
  unfold bareD
  dsimp only
  rw [flD_eight _ f1 h1 h2 (by rfl)]
  rfl
 have q0 : (f0 == 0) = false := by simpa using h
 clear h
 by_cases h : f0 = 1 ∨ f0 = 2
 ·rcases h with rfl | rfl
  all_goals
   have k0 := U0.out
   go_upto_region 8 with (fail)
   refine copy_region (B := rbareB8) (T := 41) (gd := g3) [0, 1, 2, 3, 4, 5, 6, 7, 8, 9, 10, 11, 12, 13, 14, 15, 16, 17, 18, 19, 20, 21, 22, 23] [(0, 39, .pointer (some ⟨w.heap.size, 6, none⟩)), (1, 40, .int .u32 f6), (2, 41, .pointer (some ⟨w.heap.size, 7, none⟩)), (3, 42, .int .u32 f7), (4, 43, .pointer (some ⟨w.heap.size, 8, none⟩)), (5, 44, .int .u16 f8), (6, 45, .pointer (some ⟨w.heap.size, 9, none⟩)), (7, 46, .int .u16 f9), (8, 47, .pointer (some ⟨w.heap.size, 2, none⟩)), (9, 48, .int .u32 f2), (10, 49, .pointer (some ⟨w.heap.size, 14, none⟩)), (11, 50, .slice A14 f14.length c14), (12, 51, .pointer (some ⟨g3, 6, none⟩)), (14, 52, .pointer (some ⟨g3, 7, none⟩)), (16, 53, .pointer (some ⟨g3, 8, none⟩)), (18, 54, .pointer (some ⟨g3, 9, none⟩)), (20, 55, .pointer (some ⟨g3, 2, none⟩)), (22, 56, .pointer (some ⟨g3, 14, none⟩))] [(13, 6, .int .u32 f6), (15, 7, .int .u32 f7), (17, 8, .int .u16 f8), (19, 9, .int .u16 f9), (21, 2, .int .u32 f2), (23, 14, .slice A14 f14.length c14)] (by kernel_rfl) rfl (l := #[false, false, false, false, false, false, false, false, false, false, false, false, false, false, false, false, false, false, false, false, false, false, false, false]) rfl rbaretab8 rbarebits8 (by kernel_rfl) (by kernel_rfl) rfl rfl X.x3 ?_ ?_
   ·exact steps_cons (cp_addr 0 0 1 rfl rfl rfl rfl rfl rfl rfl rfl (fun a w e => by go_simp)) (steps_cons (cp_op 1 1 0 0 rfl rfl rfl rfl rfl rfl rfl rfl rfl (by kernel_rfl) rfl (fun a w hO e => by have hs := hO.cell U6.out HN.out; go_simp)) (steps_cons (cp_addr 2 2 1 rfl rfl rfl rfl rfl rfl rfl rfl (fun a w e => by go_simp)) (steps_cons (cp_op 3 3 2 2 rfl rfl rfl rfl rfl rfl rfl rfl rfl (by kernel_rfl) rfl (fun a w hO e => by have hs := hO.cell U7.out HN.out; go_simp)) (steps_cons (cp_addr 4 4 1 rfl rfl rfl rfl rfl rfl rfl rfl (fun a w e => by go_simp)) (steps_cons (cp_op 5 5 4 4 rfl rfl rfl rfl rfl rfl rfl rfl rfl (by kernel_rfl) rfl (fun a w hO e => by have hs := hO.cell U8.out HN.out; go_simp)) (steps_cons (cp_addr 6 6 1 rfl rfl rfl rfl rfl rfl rfl rfl (fun a w e => by go_simp)) (steps_cons (cp_op 7 7 6 6 rfl rfl rfl rfl rfl rfl rfl rfl rfl (by kernel_rfl) rfl (fun a w hO e => by have hs := hO.cell U9.out HN.out; go_simp)) (steps_cons (cp_addr 8 8 1 rfl rfl rfl rfl rfl rfl rfl rfl (fun a w e => by go_simp)) (steps_cons (cp_op 9 9 8 8 rfl rfl rfl rfl rfl rfl rfl rfl rfl (by kernel_rfl) rfl (fun a w hO e => by have hs := hO.cell U2.out HN.out; go_simp)) (steps_cons (cp_addr 10 10 1 rfl rfl rfl rfl rfl rfl rfl rfl (fun a w e => by go_simp)) (steps_cons (cp_op 11 11 10 10 rfl rfl rfl rfl rfl rfl rfl rfl rfl (by kernel_rfl) rfl (fun a w hO e => by have hs := hO.cell U14.out HN.out; go_simp)) (steps_cons (cp_addr 12 12 3 rfl rfl rfl rfl rfl rfl rfl rfl (fun a w e => by go_simp)) (steps_cons (cp_store 13 0 12 1 12 1 rfl rfl rfl rfl rfl rfl (show _ < 15 by decide) rfl rfl rfl (by kernel_rfl) rfl rfl rfl rfl (by kernel_rfl) rfl (fun a w old e e2 h h2 => by go_simp)) (steps_cons (cp_addr 14 13 3 rfl rfl rfl rfl rfl rfl rfl rfl (fun a w e => by go_simp)) (steps_cons (cp_store 15 1 13 3 14 3 rfl rfl rfl rfl rfl rfl (show _ < 15 by decide) rfl rfl rfl (by kernel_rfl) rfl rfl rfl rfl (by kernel_rfl) rfl (fun a w old e e2 h h2 => by go_simp)) (steps_cons (cp_addr 16 14 3 rfl rfl rfl rfl rfl rfl rfl rfl (fun a w e => by go_simp)) (steps_cons (cp_store 17 2 14 5 16 5 rfl rfl rfl rfl rfl rfl (show _ < 15 by decide) rfl rfl rfl (by kernel_rfl) rfl rfl rfl rfl (by kernel_rfl) rfl (fun a w old e e2 h h2 => by go_simp)) (steps_cons (cp_addr 18 15 3 rfl rfl rfl rfl rfl rfl rfl rfl (fun a w e => by go_simp)) (steps_cons (cp_store 19 3 15 7 18 7 rfl rfl rfl rfl rfl rfl (show _ < 15 by decide) rfl rfl rfl (by kernel_rfl) rfl rfl rfl rfl (by kernel_rfl) rfl (fun a w old e e2 h h2 => by go_simp)) (steps_cons (cp_addr 20 16 3 rfl rfl rfl rfl rfl rfl rfl rfl (fun a w e => by go_simp)) (steps_cons (cp_store 21 4 16 9 20 9 rfl rfl rfl rfl rfl rfl (show _ < 15 by decide) rfl rfl rfl (by kernel_rfl) rfl rfl rfl rfl (by kernel_rfl) rfl (fun a w old e e2 h h2 => by go_simp)) (steps_cons (cp_addr 22 17 3 rfl rfl rfl rfl rfl rfl rfl rfl (fun a w e => by go_simp)) (steps_cons (cp_store 23 5 17 11 22 11 rfl rfl rfl rfl rfl rfl (show _ < 15 by decide) rfl rfl rfl (by kernel_rfl) rfl rfl rfl rfl (by kernel_rfl) rfl (fun a w old e e2 h h2 => by go_simp)) steps_nil)))))))))))))))))))))))
   intro W9 hO9 hC9
   replace X := (show By w _ (#[.int .u8 _, .int .u8 (0), .int .u32 f2, .int .u16 0, .int .u16 0, .int .u32 0, .int .u32 f6, .int .u32 f7, .int .u16 f8, .int .u16 f9, .slice none 0 0, .slice none 0 0, .slice none 0 0, .slice none 0 0, .slice A14 f14.length c14]) g3 W9 from X.only hO9 hC9)
   clear hO9 hC9
   simp only [putSel, if_true, Act.put, List.setIfInBounds_toArray, List.set_cons_zero, List.set_cons_succ]
   go_wp2_with (with_reducible refine gate_dst (N := 123) rfl ?_; go_must (refine wpList_ret_row 123 rfl rfl rfl (.tmp 3) (.tmp 2) rfl rfl rfl _ _ _ _ rfl rfl rfl X.x3 X.bx.x1 rfl rfl (by simp [Value.oneCell']) ?_))
   refine row_end rfl rfl rfl X.bx.x1 rfl X.bx.x2 (Nat.le_succ _) ?_
   unfold bareD
   dsimp only
   rw [flD_zero _ f1 h1 h2 (by rfl)]
   rfl
 have q1 : (f0 == 1) = false := by simp; omega
 have q2 : (f0 == 2) = false := by simp; omega
 clear h
 by_cases h : f0 = 3
 ·subst h
  have k0 := U0.out
  go_upto_region 10 with (fail)
  refine copy_region (B := rbareB10) (T := 41) (gd := g3) [0, 1, 2, 3, 4, 5, 6, 7, 8, 9, 10, 11, 12, 13, 14, 15] [(0, 59, .pointer (some ⟨w.heap.size, 2, none⟩)), (1, 60, .int .u32 f2), (2, 61, .pointer (some ⟨w.heap.size, 7, none⟩)), (3, 62, .int .u32 f7), (4, 63, .pointer (some ⟨w.heap.size, 10, none⟩)), (5, 64, .slice A10 f10.length c10), (6, 65, .pointer (some ⟨w.heap.size, 12, none⟩)), (7, 66, .slice A12 f12.length c12), (8, 67, .pointer (some ⟨g3, 2, none⟩)), (10, 68, .pointer (some ⟨g3, 7, none⟩)), (12, 69, .pointer (some ⟨g3, 10, none⟩)), (14, 70, .pointer (some ⟨g3, 12, none⟩))] [(9, 2, .int .u32 f2), (11, 7, .int .u32 f7), (13, 10, .slice A10 f10.length c10), (15, 12, .slice A12 f12.length c12)] (by kernel_rfl) rfl (l := #[false, false, false, false, false, false, false, false, false, false, false, false, false, false, false, false]) rfl rbaretab10 rbarebits10 (by kernel_rfl) (by kernel_rfl) rfl rfl X.x3 ?_ ?_
  ·exact steps_cons (cp_addr 0 0 1 rfl rfl rfl rfl rfl rfl rfl rfl (fun a w e => by go_simp)) (steps_cons (cp_op 1 1 0 0 rfl rfl rfl rfl rfl rfl rfl rfl rfl (by kernel_rfl) rfl (fun a w hO e => by have hs := hO.cell U2.out HN.out; go_simp)) (steps_cons (cp_addr 2 2 1 rfl rfl rfl rfl rfl rfl rfl rfl (fun a w e => by go_simp)) (steps_cons (cp_op 3 3 2 2 rfl rfl rfl rfl rfl rfl rfl rfl rfl (by kernel_rfl) rfl (fun a w hO e => by have hs := hO.cell U7.out HN.out; go_simp)) (steps_cons (cp_addr 4 4 1 rfl rfl rfl rfl rfl rfl rfl rfl (fun a w e => by go_simp)) (steps_cons (cp_op 5 5 4 4 rfl rfl rfl rfl rfl rfl rfl rfl rfl (by kernel_rfl) rfl (fun a w hO e => by have hs := hO.cell U10.out HN.out; go_simp)) (steps_cons (cp_addr 6 6 1 rfl rfl rfl rfl rfl rfl rfl rfl (fun a w e => by go_simp)) (steps_cons (cp_op 7 7 6 6 rfl rfl rfl rfl rfl rfl rfl rfl rfl (by kernel_rfl) rfl (fun a w hO e => by have hs := hO.cell U12.out HN.out; go_simp)) (steps_cons (cp_addr 8 8 3 rfl rfl rfl rfl rfl rfl rfl rfl (fun a w e => by go_simp)) (steps_cons (cp_store 9 0 8 1 8 1 rfl rfl rfl rfl rfl rfl (show _ < 15 by decide) rfl rfl rfl (by kernel_rfl) rfl rfl rfl rfl (by kernel_rfl) rfl (fun a w old e e2 h h2 => by go_simp)) (steps_cons (cp_addr 10 9 3 rfl rfl rfl rfl rfl rfl rfl rfl (fun a w e => by go_simp)) (steps_cons (cp_store 11 1 9 3 10 3 rfl rfl rfl rfl rfl rfl (show _ < 15 by decide) rfl rfl rfl (by kernel_rfl) rfl rfl rfl rfl (by kernel_rfl) rfl (fun a w old e e2 h h2 => by go_simp)) (steps_cons (cp_addr 12 10 3 rfl rfl rfl rfl rfl rfl rfl rfl (fun a w e => by go_simp)) (steps_cons (cp_store 13 2 10 5 12 5 rfl rfl rfl rfl rfl rfl (show _ < 15 by decide) rfl rfl rfl (by kernel_rfl) rfl rfl rfl rfl (by kernel_rfl) rfl (fun a w old e e2 h h2 => by go_simp)) (steps_cons (cp_addr 14 11 3 rfl rfl rfl rfl rfl rfl rfl rfl (fun a w e => by go_simp)) (steps_cons (cp_store 15 3 11 7 14 7 rfl rfl rfl rfl rfl rfl (show _ < 15 by decide) rfl rfl rfl (by kernel_rfl) rfl rfl rfl rfl (by kernel_rfl) rfl (fun a w old e e2 h h2 => by go_simp)) steps_nil)))))))))))))))
  intro W9 hO9 hC9
  replace X := (show By w _ (#[.int .u8 _, .int .u8 (0), .int .u32 f2, .int .u16 0, .int .u16 0, .int .u32 0, .int .u32 0, .int .u32 f7, .int .u16 0, .int .u16 0, .slice A10 f10.length c10, .slice none 0 0, .slice A12 f12.length c12, .slice none 0 0, .slice none 0 0]) g3 W9 from X.only hO9 hC9)
  clear hO9 hC9
  simp only [putSel, if_true, Act.put, List.setIfInBounds_toArray, List.set_cons_zero, List.set_cons_succ]
  go_wp2_with (with_reducible refine gate_dst (N := 123) rfl ?_; go_must (refine wpList_ret_row 123 rfl rfl rfl (.tmp 3) (.tmp 2) rfl rfl rfl _ _ _ _ rfl rfl rfl X.x3 X.bx.x1 rfl rfl (by simp [Value.oneCell']) ?_))
  refine row_end rfl rfl rfl X.bx.x1 rfl X.bx.x2 (Nat.le_succ _) ?_
  unfold bareD
  dsimp only
  rw [flD_zero _ f1 h1 h2 (by rfl)]
  rfl
 have q3 : (f0 == 3) = false := by simpa using h
 clear h
 by_cases h : f0 = 16
 ·subst h
  have k0 := U0.out
  go_upto_region 12 with (fail)
  refine copy_region (B := rbareB12) (T := 41) (gd := g3) [0, 1, 2, 3, 4, 5, 6, 7, 8, 9, 10, 11, 12, 13, 14, 15, 16, 17, 18, 19] [(0, 73, .pointer (some ⟨w.heap.size, 2, none⟩)), (1, 74, .int .u32 f2), (2, 75, .pointer (some ⟨w.heap.size, 7, none⟩)), (3, 76, .int .u32 f7), (4, 77, .pointer (some ⟨w.heap.size, 10, none⟩)), (5, 78, .slice A10 f10.length c10), (6, 79, .pointer (some ⟨w.heap.size, 11, none⟩)), (7, 80, .slice A11 f11.length c11), (8, 81, .pointer (some ⟨w.heap.size, 12, none⟩)), (9, 82, .slice A12 f12.length c12), (10, 83, .pointer (some ⟨g3, 2, none⟩)), (12, 84, .pointer (some ⟨g3, 7, none⟩)), (14, 85, .pointer (some ⟨g3, 10, none⟩)), (16, 86, .pointer (some ⟨g3, 11, none⟩)), (18, 87, .pointer (some ⟨g3, 12, none⟩))] [(11, 2, .int .u32 f2), (13, 7, .int .u32 f7), (15, 10, .slice A10 f10.length c10), (17, 11, .slice A11 f11.length c11), (19, 12, .slice A12 f12.length c12)] (by kernel_rfl) rfl (l := #[false, false, false, false, false, false, false, false, false, false, false, false, false, false, false, false, false, false, false, false]) rfl rbaretab12 rbarebits12 (by kernel_rfl) (by kernel_rfl) rfl rfl X.x3 ?_ ?_
  ·exact steps_cons (cp_addr 0 0 1 rfl rfl rfl rfl rfl rfl rfl rfl (fun a w e => by go_simp)) (steps_cons (cp_op 1 1 0 0 rfl rfl rfl rfl rfl rfl rfl rfl rfl (by kernel_rfl) rfl (fun a w hO e => by have hs := hO.cell U2.out HN.out; go_simp)) (steps_cons (cp_addr 2 2 1 rfl rfl rfl rfl rfl rfl rfl rfl (fun a w e => by go_simp)) (steps_cons (cp_op 3 3 2 2 rfl rfl rfl rfl rfl rfl rfl rfl rfl (by kernel_rfl) rfl (fun a w hO e => by have hs := hO.cell U7.out HN.out; go_simp)) (steps_cons (cp_addr 4 4 1 rfl rfl rfl rfl rfl rfl rfl rfl (fun a w e => by go_simp)) (steps_cons (cp_op 5 5 4 4 rfl rfl rfl rfl rfl rfl rfl rfl rfl (by kernel_rfl) rfl (fun a w hO e => by have hs := hO.cell U10.out HN.out; go_simp)) (steps_cons (cp_addr 6 6 1 rfl rfl rfl rfl rfl rfl rfl rfl (fun a w e => by go_simp)) (steps_cons (cp_op 7 7 6 6 rfl rfl rfl rfl rfl rfl rfl rfl rfl (by kernel_rfl) rfl (fun a w hO e => by have hs := hO.cell U11.out HN.out; go_simp)) (steps_cons (cp_addr 8 8 1 rfl rfl rfl rfl rfl rfl rfl rfl (fun a w e => by go_simp)) (steps_cons (cp_op 9 9 8 8 rfl rfl rfl rfl rfl rfl rfl rfl rfl (by kernel_rfl) rfl (fun a w hO e => by have hs := hO.cell U12.out HN.out; go_simp)) (steps_cons (cp_addr 10 10 3 rfl rfl rfl rfl rfl rfl rfl rfl (fun a w e => by go_simp)) (steps_cons (cp_store 11 0 10 1 10 1 rfl rfl rfl rfl rfl rfl (show _ < 15 by decide) rfl rfl rfl (by kernel_rfl) rfl rfl rfl rfl (by kernel_rfl) rfl (fun a w old e e2 h h2 => by go_simp)) (steps_cons (cp_addr 12 11 3 rfl rfl rfl rfl rfl rfl rfl rfl (fun a w e => by go_simp)) (steps_cons (cp_store 13 1 11 3 12 3 rfl rfl rfl rfl rfl rfl (show _ < 15 by decide) rfl rfl rfl (by kernel_rfl) rfl rfl rfl rfl (by kernel_rfl) rfl (fun a w old e e2 h h2 => by go_simp)) (steps_cons (cp_addr 14 12 3 rfl rfl rfl rfl rfl rfl rfl rfl (fun a w e => by go_simp)) (steps_cons (cp_store 15 2 12 5 14 5 rfl rfl rfl rfl rfl rfl (show _ < 15 by decide) rfl rfl rfl (by kernel_rfl) rfl rfl rfl rfl (by kernel_rfl) rfl (fun a w old e e2 h h2 => by go_simp)) (steps_cons (cp_addr 16 13 3 rfl rfl rfl rfl rfl rfl rfl rfl (fun a w e => by go_simp)) (steps_cons (cp_store 17 3 13 7 16 7 rfl rfl rfl rfl rfl rfl (show _ < 15 by decide) rfl rfl rfl (by kernel_rfl) rfl rfl rfl rfl (by kernel_rfl) rfl (fun a w old e e2 h h2 => by go_simp)) (steps_cons (cp_addr 18 14 3 rfl rfl rfl rfl rfl rfl rfl rfl (fun a w e => by go_simp)) (steps_cons (cp_store 19 4 14 9 18 9 rfl rfl rfl rfl rfl rfl (show _ < 15 by decide) rfl rfl rfl (by kernel_rfl) rfl rfl rfl rfl (by kernel_rfl) rfl (fun a w old e e2 h h2 => by go_simp)) steps_nil)))))))))))))))))))
  intro W9 hO9 hC9
  replace X := (show By w _ (#[.int .u8 _, .int .u8 (0), .int .u32 f2, .int .u16 0, .int .u16 0, .int .u32 0, .int .u32 0, .int .u32 f7, .int .u16 0, .int .u16 0, .slice A10 f10.length c10, .slice A11 f11.length c11, .slice A12 f12.length c12, .slice none 0 0, .slice none 0 0]) g3 W9 from X.only hO9 hC9)
  clear hO9 hC9
  simp only [putSel, if_true, Act.put, List.setIfInBounds_toArray, List.set_cons_zero, List.set_cons_succ]
  go_wp2_with (with_reducible refine gate_dst (N := 123) rfl ?_; go_must (refine wpList_ret_row 123 rfl rfl rfl (.tmp 3) (.tmp 2) rfl rfl rfl _ _ _ _ rfl rfl rfl X.x3 X.bx.x1 rfl rfl (by simp [Value.oneCell']) ?_))
  refine row_end rfl rfl rfl X.bx.x1 rfl X.bx.x2 (Nat.le_succ _) ?_
  unfold bareD
  dsimp only
  rw [flD_zero _ f1 h1 h2 (by rfl)]
  rfl
 have q16 : (f0 == 16) = false := by simpa using h
 clear h
 by_cases h : f0 = 4 ∨ f0 = 5 ∨ f0 = 9
 ·rcases h with rfl | rfl | rfl
  all_goals
   have k0 := U0.out
   have k14 : W.cell? ⟨w.heap.size, 14, none⟩ = some (.slice A14 f14.length c14) := U14.out
   have d14 : W.cell? ⟨g3, 14, none⟩ = some (.slice none 0 0) := blk_cell X.x3 14
   have f_14 := blk_frozen X.x3 14
   go_upto_region 27 with (fail)
   refine wp_gen (By w _ (#[.int .u8 _, .int .u8 (0), .int .u32 0, .int .u16 0, .int .u16 0, .int .u32 0, .int .u32 0, .int .u32 0, .int .u16 0, .int .u16 0, .slice none 0 0, .slice none 0 0, .slice none 0 0, .slice none 0 0, .slice A14 f14.length c14]) g3) (X.set 14 _) ?_
   clear X k14 d14 f_14
   intro W9 X
   go_wp2_with (with_reducible refine gate_dst (N := 123) rfl ?_; go_must (refine wpList_ret_row 123 rfl rfl rfl (.tmp 3) (.tmp 2) rfl rfl rfl _ _ _ _ rfl rfl rfl X.x3 X.bx.x1 rfl rfl (by simp [Value.oneCell']) ?_))
   refine row_end rfl rfl rfl X.bx.x1 rfl X.bx.x2 (Nat.le_succ _) ?_
   unfold bareD
   dsimp only
   rw [flD_zero _ f1 h1 h2 (by rfl)]
   rfl
 have q4 : (f0 == 4) = false := by simp; omega
 have q5 : (f0 == 5) = false := by simp; omega
 have q9 : (f0 == 9) = false := by simp; omega
 clear h
 by_cases h : f0 = 6
 ·subst h
  have k0 := U0.out
  go_upto_region 18 with (fail)
  refine copy_region (B := rbareB18) (T := 41) (gd := g3) [0, 1, 2, 3, 4, 5, 6, 7, 8] [(0, 97, .pointer (some ⟨w.heap.size, 1, none⟩)), (1, 98, .int .u8 f1), (2, 99, .int .u8 (f1 % 2)), (3, 100, .pointer (some ⟨w.heap.size, 14, none⟩)), (4, 101, .slice A14 f14.length c14), (5, 102, .pointer (some ⟨g3, 1, none⟩)), (7, 103, .pointer (some ⟨g3, 14, none⟩))] [(6, 1, .int .u8 (f1 % 2)), (8, 14, .slice A14 f14.length c14)] (by kernel_rfl) rfl (l := #[false, false, false, false, false, false, false, false, false]) rfl rbaretab18 rbarebits18 (by kernel_rfl) (by kernel_rfl) rfl rfl X.x3 ?_ ?_
  ·exact steps_cons (cp_addr 0 0 1 rfl rfl rfl rfl rfl rfl rfl rfl (fun a w e => by go_simp)) (steps_cons (cp_op 1 1 0 0 rfl rfl rfl rfl rfl rfl rfl rfl rfl (by kernel_rfl) rfl (fun a w hO e => by have hs := hO.cell U1.out HN.out; go_simp)) (steps_cons (cp_op 2 2 1 1 rfl rfl rfl rfl rfl rfl rfl rfl rfl (by kernel_rfl) rfl (fun a w hO e => by go_simp; exact Int.tmod_eq_emod_of_nonneg h1)) (steps_cons (cp_addr 3 3 1 rfl rfl rfl rfl rfl rfl rfl rfl (fun a w e => by go_simp)) (steps_cons (cp_op 4 4 3 3 rfl rfl rfl rfl rfl rfl rfl rfl rfl (by kernel_rfl) rfl (fun a w hO e => by have hs := hO.cell U14.out HN.out; go_simp)) (steps_cons (cp_addr 5 5 3 rfl rfl rfl rfl rfl rfl rfl rfl (fun a w e => by go_simp)) (steps_cons (cp_store 6 0 5 2 5 2 rfl rfl rfl rfl rfl rfl (show _ < 15 by decide) rfl rfl rfl (by kernel_rfl) rfl rfl rfl rfl (by kernel_rfl) rfl (fun a w old e e2 h h2 => by go_simp)) (steps_cons (cp_addr 7 6 3 rfl rfl rfl rfl rfl rfl rfl rfl (fun a w e => by go_simp)) (steps_cons (cp_store 8 1 6 4 7 4 rfl rfl rfl rfl rfl rfl (show _ < 15 by decide) rfl rfl rfl (by kernel_rfl) rfl rfl rfl rfl (by kernel_rfl) rfl (fun a w old e e2 h h2 => by go_simp)) steps_nil))))))))
  intro W9 hO9 hC9
  replace X := (show By w _ (#[.int .u8 _, .int .u8 ((f1 % 2)), .int .u32 0, .int .u16 0, .int .u16 0, .int .u32 0, .int .u32 0, .int .u32 0, .int .u16 0, .int .u16 0, .slice none 0 0, .slice none 0 0, .slice none 0 0, .slice none 0 0, .slice A14 f14.length c14]) g3 W9 from X.only hO9 hC9)
  clear hO9 hC9
  simp only [putSel, if_true, Act.put, List.setIfInBounds_toArray, List.set_cons_zero, List.set_cons_succ]
  go_wp2_with (with_reducible refine gate_dst (N := 123) rfl ?_; go_must (refine wpList_ret_row 123 rfl rfl rfl (.tmp 3) (.tmp 2) rfl rfl rfl _ _ _ _ rfl rfl rfl X.x3 X.bx.x1 rfl rfl (by simp [Value.oneCell']) ?_))
  refine row_end rfl rfl rfl X.bx.x1 rfl X.bx.x2 (Nat.le_succ _) ?_
  unfold bareD
  dsimp only
  rw [flD_two _ f1 h1 h2 (by rfl)]
  rfl
 have q6 : (f0 == 6) = false := by simpa using h
 clear h
 by_cases h : f0 = 7
 ·subst h
  have k0 := U0.out
  have k2 : W.cell? ⟨w.heap.size, 2, none⟩ = some (.int .u32 f2) := U2.out
  have d2 : W.cell? ⟨g3, 2, none⟩ = some (.int .u32 0) := blk_cell X.x3 2
  have f_2 := blk_frozen X.x3 2
  go_upto_region 27 with (fail)
  refine wp_gen (By w _ (#[.int .u8 _, .int .u8 (0), .int .u32 f2, .int .u16 0, .int .u16 0, .int .u32 0, .int .u32 0, .int .u32 0, .int .u16 0, .int .u16 0, .slice none 0 0, .slice none 0 0, .slice none 0 0, .slice none 0 0, .slice none 0 0]) g3) (X.set 2 _) ?_
  clear X k2 d2 f_2
  intro W9 X
  go_wp2_with (with_reducible refine gate_dst (N := 123) rfl ?_; go_must (refine wpList_ret_row 123 rfl rfl rfl (.tmp 3) (.tmp 2) rfl rfl rfl _ _ _ _ rfl rfl rfl X.x3 X.bx.x1 rfl rfl (by simp [Value.oneCell']) ?_))
  refine row_end rfl rfl rfl X.bx.x1 rfl X.bx.x2 (Nat.le_succ _) ?_
  unfold bareD
  dsimp only
  rw [flD_zero _ f1 h1 h2 (by rfl)]
  rfl
 have q7 : (f0 == 7) = false := by simpa using h
 clear h
 by_cases h : f0 = 8 ∨ f0 = 11
 ·rcases h with rfl | rfl
  all_goals
   have k0 := U0.out
   go_wp2_with (with_reducible refine gate_dst (N := 123) rfl ?_; go_must (refine wpList_ret_row 123 rfl rfl rfl (.tmp 3) (.tmp 2) rfl rfl rfl _ _ _ _ rfl rfl rfl X.x3 X.bx.x1 rfl rfl (by simp [Value.oneCell']) ?_))
   refine row_end rfl rfl rfl X.bx.x1 rfl X.bx.x2 (Nat.le_succ _) ?_
   unfold bareD
   dsimp only
   rw [flD_zero _ f1 h1 h2 (by rfl)]
   rfl
 have q8 : (f0 == 8) = false := by simp; omega
 have q11 : (f0 == 11) = false := by simp; omega
 clear h
 by_cases h : f0 = 14
 ·subst h
  have k0 := U0.out
  have k1 := U1.out
  have d1 : W.cell? ⟨g3, 1, none⟩ = some (.int .u8 0) := blk_cell X.x3 1
  have f_1 := blk_frozen X.x3 1
  go_upto_region 27 with (fail)
  refine wp_gen (By w _ (#[.int .u8 _, .int .u8 (f1 % 2), .int .u32 0, .int .u16 0, .int .u16 0, .int .u32 0, .int .u32 0, .int .u32 0, .int .u16 0, .int .u16 0, .slice none 0 0, .slice none 0 0, .slice none 0 0, .slice none 0 0, .slice none 0 0]) g3) (X.set 1 _) ?_
  clear X k1 d1 f_1
  intro W9 X
  go_wp2_with (with_reducible refine gate_dst (N := 123) rfl ?_; go_must (refine wpList_ret_row 123 rfl rfl rfl (.tmp 3) (.tmp 2) rfl rfl rfl _ _ _ _ rfl rfl rfl X.x3 X.bx.x1 rfl rfl (by simp [Value.oneCell']) ?_))
  refine row_end rfl rfl rfl X.bx.x1 rfl X.bx.x2 (Nat.le_succ _) ?_
  unfold bareD
  dsimp only
  rw [flD_two _ f1 h1 h2 (by rfl)]
  rfl
 have q14 : (f0 == 14) = false := by simpa using h
 clear h
 by_cases h : f0 = 10
 ·subst h
  have k0 := U0.out
  have k13 : W.cell? ⟨w.heap.size, 13, none⟩ = some (.slice A13 f13.length c13) := U13.out
  have d13 : W.cell? ⟨g3, 13, none⟩ = some (.slice none 0 0) := blk_cell X.x3 13
  have f_13 := blk_frozen X.x3 13
  go_upto_region 27 with (fail)
  refine wp_gen (By w _ (#[.int .u8 _, .int .u8 (0), .int .u32 0, .int .u16 0, .int .u16 0, .int .u32 0, .int .u32 0, .int .u32 0, .int .u16 0, .int .u16 0, .slice none 0 0, .slice none 0 0, .slice none 0 0, .slice A13 f13.length c13, .slice none 0 0]) g3) (X.set 13 _) ?_
  clear X k13 d13 f_13
  intro W9 X
  go_wp2_with (with_reducible refine gate_dst (N := 123) rfl ?_; go_must (refine wpList_ret_row 123 rfl rfl rfl (.tmp 3) (.tmp 2) rfl rfl rfl _ _ _ _ rfl rfl rfl X.x3 X.bx.x1 rfl rfl (by simp [Value.oneCell']) ?_))
  refine row_end rfl rfl rfl X.bx.x1 rfl X.bx.x2 (Nat.le_succ _) ?_
  unfold bareD
  dsimp only
  rw [flD_zero _ f1 h1 h2 (by rfl)]
  rfl
 have q10 : (f0 == 10) = false := by simpa using h
 clear h
 have k0 := U0.out
 go_upto_region 3 with (fail)
 refine copy_region (B := rbareB3) (T := 41) (gd := g3) [0, 1, 2, 3, 4, 5, 6, 7] [(0, 9, .pointer (some ⟨w.heap.size, 1, none⟩)), (1, 10, .int .u8 f1), (2, 11, .pointer (some ⟨w.heap.size, 13, none⟩)), (3, 12, .slice A13 f13.length c13), (4, 13, .pointer (some ⟨g3, 1, none⟩)), (6, 14, .pointer (some ⟨g3, 13, none⟩))] [(5, 1, .int .u8 f1), (7, 13, .slice A13 f13.length c13)] (by kernel_rfl) rfl (l := #[false, false, false, false, false, false, false, false]) rfl rbaretab3 rbarebits3 (by kernel_rfl) (by kernel_rfl) rfl rfl X.x3 ?_ ?_
 ·exact steps_cons (cp_addr 0 0 1 rfl rfl rfl rfl rfl rfl rfl rfl (fun a w e => by go_simp)) (steps_cons (cp_op 1 1 0 0 rfl rfl rfl rfl rfl rfl rfl rfl rfl (by kernel_rfl) rfl (fun a w hO e => by have hs := hO.cell U1.out HN.out; go_simp)) (steps_cons (cp_addr 2 2 1 rfl rfl rfl rfl rfl rfl rfl rfl (fun a w e => by go_simp)) (steps_cons (cp_op 3 3 2 2 rfl rfl rfl rfl rfl rfl rfl rfl rfl (by kernel_rfl) rfl (fun a w hO e => by have hs := hO.cell U13.out HN.out; go_simp)) (steps_cons (cp_addr 4 4 3 rfl rfl rfl rfl rfl rfl rfl rfl (fun a w e => by go_simp)) (steps_cons (cp_store 5 0 4 1 4 1 rfl rfl rfl rfl rfl rfl (show _ < 15 by decide) rfl rfl rfl (by kernel_rfl) rfl rfl rfl rfl (by kernel_rfl) rfl (fun a w old e e2 h h2 => by go_simp)) (steps_cons (cp_addr 6 5 3 rfl rfl rfl rfl rfl rfl rfl rfl (fun a w e => by go_simp)) (steps_cons (cp_store 7 1 5 3 6 3 rfl rfl rfl rfl rfl rfl (show _ < 15 by decide) rfl rfl rfl (by kernel_rfl) rfl rfl rfl rfl (by kernel_rfl) rfl (fun a w old e e2 h h2 => by go_simp)) steps_nil)))))))
 intro W9 hO9 hC9
 replace X := (show By w _ (#[.int .u8 _, .int .u8 (f1), .int .u32 0, .int .u16 0, .int .u16 0, .int .u32 0, .int .u32 0, .int .u32 0, .int .u16 0, .int .u16 0, .slice none 0 0, .slice none 0 0, .slice none 0 0, .slice A13 f13.length c13, .slice none 0 0]) g3 W9 from X.only hO9 hC9)
 clear hO9 hC9
 simp only [putSel, if_true, Act.put, List.setIfInBounds_toArray, List.set_cons_zero, List.set_cons_succ]
 go_wp2_with (with_reducible refine gate_dst (N := 123) rfl ?_; go_must (refine wpList_ret_row 123 rfl rfl rfl (.tmp 3) (.tmp 2) rfl rfl rfl _ _ _ _ rfl rfl rfl X.x3 X.bx.x1 rfl rfl (by simp [Value.oneCell']) ?_))
 have hf : hasF f0 = fun i => i == 13 := by
  funext i
  simp only [beq_eq_false_iff_ne] at q0 q1 q2 q16 q3 q4 q5 q6 q9 q7 q8 q11 q14
  unfold hasF
  rw [if_neg q0, if_neg (fun e => e.elim q1 q2), if_neg q16, if_neg q3, if_neg (fun e => e.elim q4 (fun e => e.elim q5 (fun e => e.elim q6 q9))), if_neg q7, if_neg (fun e => e.elim q8 (fun e => e.elim q11 q14))]
 have hm : maskD f0 = 255 := by
  simp only [beq_eq_false_iff_ne] at q0 q1 q2 q16 q3 q4 q5 q6 q9 q7 q8 q11 q14 q10
  unfold maskD
  rw [if_neg q0, if_neg (fun e => e.elim q6 q14), if_neg (by omega)]
 refine row_end rfl rfl rfl X.bx.x1 rfl X.bx.x2 (Nat.le_succ _) ?_
 unfold bareD
 dsimp only
 rw [flD_all _ f1 h1 h2 hm, hf]
 rfl
end Go.Proofs.YtdlamomabonkjaaDoor.Ch
end
section
namespace Go.Proofs.YtdlamomabonkjaaDoor.Ch
open Go.RowKit YtdlamomabonkjaaDoorW.PrintWords YtdlamomabonkjaaDoorW.PrintLast Base PCh ParDec
theorem prmsD_err {v : List UInt8} {c : Int} (h : prmsD v = .error c) : c ≠ 0 := by
 unfold prmsD at h
 by_cases e : (decD v).2.2 = 0
 ·rw [if_pos e] at h
  cases h
 ·rw [if_neg e] at h
  injection h with h
  rw [← h]
  exact e
theorem listsD_err {nr : Bool} {v : List UInt8} {c : Int} (h : listsD nr v = .error c) : c ≠ 0 := by
 unfold listsD at h
 repeat' split at h
 all_goals first | cases h; done | (injection h with h; omega)
theorem readD_err {kd fl : Int} {v : List UInt8} {c : Int} (h : readD kd fl v = .error c) : c ≠ 0 := by
 unfold readD readData readInit readLists readPrms readShut readNone readBody at h
 repeat' split at h
 all_goals first | (cases h; done) | (injection h with h; omega) | (rename_i e; injection h with h; subst h; first | exact prmsD_err e | exact listsD_err e)
theorem chkE : ∀ q ∈ k41.E, q ≠ 41 := by decide
theorem M_setRow {w : World} {b0 g : Nat} {d : Chk} {cs : List Value} {old cs' : Array Value} (h : k41.M w b0 (fun _ => True) d cs) (hg : w.heap[g]? = some (.cells old 41 (0, 0))) : k41.M (w.setRow g cs') b0 (fun _ => True) d cs :=
 k41.M_mono (fun _ hk => hk.1) (k41.M_move (fun k hk => setRow_other _ _ _ _ (fun e => by
  obtain ⟨_, _, _, q, hq, cells, hc⟩ := hk
  rw [e, hg] at hc
  injection hc with hc
  injection hc with _ hc
  exact chkE q hq hc.symm)) (k41.M_bound h))
theorem ParR.alloc {b0 : Nat} {r : Except Int Chk} {cs : Array Value} {code : Int} {w : World} (h : ParR b0 r cs code w) (x : Obj) : ParR b0 r cs code (w.alloc x) := by
 obtain ⟨h1, h2, h3⟩ := h
 refine ⟨h1, h2, ?_⟩
 cases r with
 | error c => exact h3
 | ok d => exact ⟨h3.1, M_only h3.2 (Only.of_below (S := fun _ => False) (below_alloc (Below.refl _ _) x)) (fun _ _ _ h => h)⟩
theorem ParR.setRow {b0 g : Nat} {r : Except Int Chk} {cs old cs' : Array Value} {code : Int} {w : World} (h : ParR b0 r cs code w) (hg : w.heap[g]? = some (.cells old 41 (0, 0))) : ParR b0 r cs code (w.setRow g cs') := by
 obtain ⟨h1, h2, h3⟩ := h
 refine ⟨h1, h2, ?_⟩
 cases r with
 | error c => exact h3
 | ok d => exact ⟨h3.1, M_setRow h3.2 hg⟩
end Go.Proofs.YtdlamomabonkjaaDoor.Ch
end
section
namespace Go.Proofs.YtdlamomabonkjaaDoor.Ch
open Go.RowKit YtdlamomabonkjaaDoorW.PrintWords YtdlamomabonkjaaDoorW.PrintLast Base PCh ParDec
theorem info_chk : (Tryd.prog.info? 41).map (fun i => (i.zero, i.size, i.bytes)) = some (some (.agg zerV), k41.sz, 152) := by kernel_rfl
def allD : Nat → List UInt8 → Nat → List Chk → List Chk × Int × Int
 | 0, _, _, acc => (acc, 0, 0)
 | n + 1, b, at_, acc => if at_ < b.length then (if (decC (b.drop at_)).2.2 ≠ 0 then ([], (at_ : Int), (decC (b.drop at_)).2.2) else allD n b (at_ + (decC (b.drop at_)).2.1.toNat) (acc ++ [(decC (b.drop at_)).1])) else (acc, 0, 0)
def allL (b : List UInt8) : List Chk × Int × Int := allD (b.length + 1) b 0 []
theorem decC_len {b : List UInt8} (h : (decC b).2.2 = 0) : ∃ n : Nat, (decC b).2.1 = (n : Int) ∧ 4 ≤ n ∧ n ≤ b.length := by
 unfold decC at h ⊢
 by_cases h4 : b.length < 4
 ·rw [if_pos h4] at h
  cases h
 rw [if_neg h4] at h ⊢
 by_cases h5 : be ((b.drop 2).take 2) < 4 ∨ b.length < be ((b.drop 2).take 2)
 ·rw [if_pos h5] at h
  cases h
 rw [if_neg h5] at h ⊢
 cases hr : readD ((b.getD 0 0).toNat : Int) (flD ((b.getD 0 0).toNat : Int) ((b.getD 1 0).toNat : Int)) ((b.take (be ((b.drop 2).take 2))).drop 4) with
 | error c =>
  rw [hr] at h
  exact absurd h (readD_err hr)
 | ok d => exact ⟨_, rfl, by omega, Nat.min_le_right _ _⟩
set_option maxHeartbeats 4000000 in
theorem all_with (w : World) (A : Option Addr) (b : List UInt8) (c : Nat) (hb : byte.C w A b.length b) (hc : b.length ≤ c) (hv : b.length ≤ 1048576)
  (HDC : ∀ (at_ : Nat) (W : World) (B : Option Addr) (d : Nat), at_ < b.length → byte.C W B (b.drop at_).length (b.drop at_) → (b.drop at_).length ≤ d → Calls Tryd.prog 81 #[.slice B (b.drop at_).length d] W (DecCP (b.drop at_) W)) :
  Calls Tryd.prog 60 #[.slice A b.length c] w fun e w' => ∃ v, e = .returned (.tuple #[v, .int .i64 (allL b).2.1, .int .i64 (allL b).2.2]) ∧ Kd.R k41 41 w' w.heap.size (fun _ => True) v (allL b).1 ∧ Below w.heap.size w w' := by
 have HDX := Lh HDC
 clear HDC
 have HBC := Lh (fun (W : World) (h : Below w.heap.size w W) => Kd.C_below hb h)
 obtain ⟨E, hE⟩ : ∃ E, allL b = E := ⟨_, rfl⟩
 rw [hE]
 have HE := Lh (show allD (b.length + 1) b 0 [] = E from hE)
 clear hE hb
 go_enter Tryd.func60, Tryd.ntmps60
 go_wp2
 go_loopw [5, 6] (fun v5 v6 wr => ∃ (at_ n : Nat) (xs : List Chk), at_ ≤ b.length ∧ v6 = .int .i64 (at_ : Int) ∧ Hid (b.length < n + at_ ∧ xs.length ≤ at_) ∧ Hid (allD n b at_ xs = E) ∧ Hid (Kd.R k41 41 wr w.heap.size (fun _ => True) v5 xs) ∧ Hid (Below w.heap.size w wr)) (fun _ v6 _ => b.length - (intOf v6).toNat)
 case atStart => exact ⟨0, b.length + 1, [], Nat.zero_le _, rfl, ⟨by omega, Nat.le_refl _⟩, HE.out, Kd.R_nil _ _ _ _ _, Below.refl _ _⟩
 case round =>
  obtain ⟨at_, n, xs, hat, rfl, HN, HA, HR, HB⟩ := hrel
  by_cases hlt : at_ < b.length
  ·obtain ⟨n, rfl⟩ : ∃ m, n = m + 1 := ⟨n - 1, by have := HN.out.1; omega⟩
   have hA := HA.out
   rw [allD, if_pos hlt] at hA
   obtain ⟨A', hdr, hdC, hdl⟩ := drop_bytes (HBC.out _ HB.out) hc at_ (at_ : Int) rfl (Nat.le_of_lt hlt)
   have hzl : (b.drop at_).length ≤ 140737488355232 := by rw [List.length_drop]; omega
   have HD := Lh (HDX.out at_ wr A' (c - at_) hlt hdC hdl)
   have hdn : (decC (b.drop at_)).2.2 = 0 → ∃ k : Nat, (decC (b.drop at_)).2.1 = (k : Int) ∧ 4 ≤ k ∧ k ≤ b.length - at_ := fun h => by
    obtain ⟨k, h1, h2, h3⟩ := decC_len h
    exact ⟨k, h1, h2, by rw [List.length_drop] at h3; exact h3⟩
   unfold DecCP at HD
   have HDN := Lh hdn
   have HA2 := Lh hA
   clear hA hdC hdl hzl hdn HA
   generalize decC (b.drop at_) = D at *
   obtain ⟨d, k, er⟩ := D
   dsimp only at HD HDN HA2
   generalize (b.drop at_).length = zl at *
   go_wp2_with fail
   refine HD.out.mono ?_
   rintro e w1 ⟨cs, rfl, hM, hB⟩
   obtain ⟨cl, rfl⟩ : ∃ cl : List Value, cs = cl.toArray := ⟨cs.toList, by simp⟩
   rw [List.toList_toArray] at hM
   obtain ⟨v10, v11, v12, v13, v14, hcs, h10, h11, h12, h13, h14⟩ := k41_openM hM
   obtain ⟨A10, c10, rfl⟩ := Kd.R_slice h10
   obtain ⟨A11, c11, rfl⟩ := Kd.R_slice h11
   obtain ⟨A12, c12, rfl⟩ := Kd.R_slice h12
   obtain ⟨A13, c13, rfl⟩ := Kd.R_slice h13
   obtain ⟨A14, c14, rfl⟩ := Kd.R_slice h14
   have HB2 := Lh (below_then HB.out HB.out.size hB)
   have HR2 := Lh (R_only HR.out (Only.of_below (S := fun _ => False) hB) (fun _ _ _ h => h))
   have HS := Lh hB.size
   subst hcs
   have HM := Lh hM
   clear h10 h11 h12 h13 h14 hM hB HD
   have HBO := Lh (fun k h => Kd.R_lt HR.out k h)
   by_cases her : er = 0
   ·subst her
    obtain ⟨k', hk', hk4, hkl⟩ := HDN.out rfl
    subst hk'
    have hA := HA2.out
    rw [if_neg (by simp), Int.toNat_natCast] at hA
    have HA3 := Lh hA
    clear hA HA2 HDN
    have hwr : wrap64 ((at_ : Int) + (k' : Int)) = ((at_ + k' : Nat) : Int) := by unfold wrap64; omega
    go_upto_region 7 with (fail)
    refine wp_gen (fun W' => W'.heap[w1.heap.size]? = some (.cells ([.int .u8 d.f0, .int .u8 d.f1, .int .u32 d.f2, .int .u16 d.f3, .int .u16 d.f4, .int .u32 d.f5, .int .u32 d.f6, .int .u32 d.f7, .int .u16 d.f8, .int .u16 d.f9, .slice A10 d.f10.length c10, .slice A11 d.f11.length c11, .slice A12 d.f12.length c12, .slice A13 d.f13.length c13, .slice A14 d.f14.length c14] : List Value).toArray 41 (0, 0)) ∧ Kd.R k41 41 W' w.heap.size (fun _ => True) u5 xs ∧ k41.M W' w.heap.size (fun k => wr.heap.size ≤ k) d ([.int .u8 d.f0, .int .u8 d.f1, .int .u32 d.f2, .int .u16 d.f3, .int .u16 d.f4, .int .u32 d.f5, .int .u32 d.f6, .int .u32 d.f7, .int .u16 d.f8, .int .u16 d.f9, .slice A10 d.f10.length c10, .slice A11 d.f11.length c11, .slice A12 d.f12.length c12, .slice A13 d.f13.length c13, .slice A14 d.f14.length c14]) ∧ Below w.heap.size w W') ⟨blk_new _ _, Kd.R_alloc HR2.out _, k41.M_mono (fun k hk => hk.2.1) (k41.M_bound (M_only HM.out (Only.of_below (S := fun _ => False) (below_alloc (Below.refl _ _) _)) (fun _ _ _ h => h))) |> k41.M_lower HB.out.size, below_alloc HB2.out _⟩ ?_
    clear HR2 HM HB2 HB HR
    rintro W2 ⟨hblk, hR2, hM2, hB2⟩
    have HM2 := Lh hM2
    have HR3 := Lh hR2
    have HB3 := Lh hB2
    have HBL := Lh hblk
    clear hR2 hM2 hB2 hblk
    go_wp2_with (first | (with_reducible refine gate_dst (N := 27) rfl ?_; go_must (refine wpList_load_row rfl 41 (.tmp 7) rfl _ rfl 41 _ (0, 0) _ HBL.out Tryd.underlying41 rfl (by kernel_rfl) ?_)) | (at_builtin; go_must (refine Kd.R_append k41 (w0 := w) (W := W2) w.heap.size rfl _ _ 24 41 (.agg zerV) 152 rfl Tryd.underlying24 info_chk rfl (by decide) (by decide) u5 xs d ([.int .u8 d.f0, .int .u8 d.f1, .int .u32 d.f2, .int .u16 d.f3, .int .u16 d.f4, .int .u32 d.f5, .int .u32 d.f6, .int .u32 d.f7, .int .u16 d.f8, .int .u16 d.f9, .slice A10 d.f10.length c10, .slice A11 d.f11.length c11, .slice A12 d.f12.length c12, .slice A13 d.f13.length c13, .slice A14 d.f14.length c14]) (fun _ => True) (fun k => wr.heap.size ≤ k) rfl rfl HM2.out (fun k hk => ⟨trivial, fun he => by have := HBO.out k he.symm; omega⟩) (fun _ _ => trivial) HR3.out HB3.out HB3.out.size (by have := HN.out.2; omega) ?_); (intro v1 w2 hR1 hB1 hG1 _; have HR1 := Lh hR1; have HB1 := Lh hB1; clear hR1 hB1 hG1)))
    go_roundw
    case rel => exact ⟨at_ + k', n, xs ++ [d], by omega, by rw [← hwr]; first | rfl | go_num, ⟨by have := HN.out.1; show _ < _; omega, by have := HN.out.2; show _ ≤ _; rw [List.length_append]; simp; omega⟩, HA3, HR1, HB1⟩
    case measure => simp [intOf]; omega
   ·have hA := HA2.out
    rw [if_pos her] at hA
    subst hA
    have q : (er != 0) = true := by simp [her]
    clear HA2 HDN her
    go_wp2
    go_ret3
    exact ⟨_, rfl, Kd.R_nil _ _ _ _ _, below_alloc HB2.out _⟩
  ·obtain rfl : at_ = b.length := by omega
   have hA := HA.out
   have hn : ∃ m, n = m + 1 := ⟨n - 1, by have := HN.out.1; omega⟩
   obtain ⟨n, rfl⟩ := hn
   rw [allD, if_neg (Nat.lt_irrefl _)] at hA
   subst hA
   clear HA HE
   go_wp2
   go_ret3
   exact ⟨_, rfl, HR.out, HB.out⟩
end Go.Proofs.YtdlamomabonkjaaDoor.Ch
end
section
namespace Go.Proofs.YtdlamomabonkjaaDoor.Ch
open Go.RowKit YtdlamomabonkjaaDoorW.PrintWords YtdlamomabonkjaaDoorW.PrintLast Base PCh ParDec ParEnc
theorem ints_cons {v : List UInt8} {a : Int} {t : List Int} (h : ints v = a :: t) : ∃ b r, v = b :: r ∧ (b.toNat : Int) = a ∧ ints r = t := by
 cases v with
 | nil => cases h
 | cons b r => injection h with h1 h2; exact ⟨b, r, rfl, h1, h2⟩
theorem be2 {v : List UInt8} {n : Int} {t : List Int} (h : ints v = twoL [n] ++ t) (hn : in16 n) : (be (v.take 2) : Int) = n ∧ ints (v.drop 2) = t := by
 obtain ⟨a, r, rfl, ha, h1⟩ := ints_cons h
 obtain ⟨b, r, rfl, hb, h2⟩ := ints_cons h1
 refine ⟨?_, h2⟩
 unfold in16 at hn
 simp only [be, List.take, List.foldl]
 omega
theorem be4 {v : List UInt8} {n : Int} {t : List Int} (h : ints v = fourL [n] ++ t) (hn : in32 n) : (be (v.take 4) : Int) = n ∧ ints (v.drop 4) = t := by
 obtain ⟨a, r, rfl, ha, h1⟩ := ints_cons h
 obtain ⟨b, r, rfl, hb, h2⟩ := ints_cons h1
 obtain ⟨c, r, rfl, hc, h3⟩ := ints_cons h2
 obtain ⟨d, r, rfl, hd, h4⟩ := ints_cons h3
 refine ⟨?_, h4⟩
 unfold in32 at hn
 simp only [be, List.take, List.foldl]
 omega
theorem twoL_cons (a : Int) (l : List Int) : twoL (a :: l) = twoL [a] ++ twoL l := rfl
theorem fourL_cons (a : Int) (l : List Int) : fourL (a :: l) = fourL [a] ++ fourL l := rfl
theorem drop2 (v : List UInt8) (k m : Nat) {t : List Int} (h : ints ((v.drop k).drop 2) = t) (hm : k + 2 = m) : ints (v.drop m) = t := by rw [← hm, ← List.drop_drop]; exact h
theorem drop4 (v : List UInt8) (k m : Nat) {t : List Int} (h : ints ((v.drop k).drop 4) = t) (hm : k + 4 = m) : ints (v.drop m) = t := by rw [← hm, ← List.drop_drop]; exact h
theorem gaps_back (G : List GapS) : ∀ (v : List UInt8) (t : List Int), ints v = twoL (gapL G) ++ t → (∀ g ∈ G, okG g) → gapsD G.length v = G ∧ ints (v.drop (4 * G.length)) = t := by
 induction G with
 | nil => intro v t h _; exact ⟨rfl, h⟩
 | cons g r ih =>
  intro v t h ho
  obtain ⟨h1, h2⟩ := ho g (List.mem_cons_self ..)
  have e : twoL (gapL (g :: r)) ++ t = twoL [g.f0] ++ (twoL [g.f1] ++ (twoL (gapL r) ++ t)) := by simp [gapL, twoL]
  rw [e] at h
  obtain ⟨a1, a2⟩ := be2 h h1
  obtain ⟨b1, b2⟩ := be2 a2 h2
  rw [List.drop_drop] at b2
  obtain ⟨c1, c2⟩ := ih _ t b2 (fun q hq => ho q (List.mem_cons_of_mem _ hq))
  refine ⟨?_, ?_⟩
  ·rw [List.length_cons, gapsD, a1, b1, c1]
  ·rw [List.drop_drop] at c2
   rw [List.length_cons, show 4 * (r.length + 1) = 2 + 2 + 4 * r.length by omega]
   exact c2
theorem dups_back (G : List Int) : ∀ (v : List UInt8) (t : List Int), ints v = fourL G ++ t → (∀ g ∈ G, in32 g) → dupsD G.length v = G ∧ ints (v.drop (4 * G.length)) = t := by
 induction G with
 | nil => intro v t h _; exact ⟨rfl, h⟩
 | cons g r ih =>
  intro v t h ho
  rw [fourL_cons, List.append_assoc] at h
  obtain ⟨a1, a2⟩ := be4 h (ho g (List.mem_cons_self ..))
  obtain ⟨c1, c2⟩ := ih _ t a2 (fun q hq => ho q (List.mem_cons_of_mem _ hq))
  refine ⟨?_, ?_⟩
  ·rw [List.length_cons, dupsD, a1, c1]
  ·rw [List.drop_drop] at c2
   rw [List.length_cons, show 4 * (r.length + 1) = 4 + 4 * r.length by omega]
   exact c2
theorem ints_inj {a b : List UInt8} (h : ints a = ints b) : a = b := by
 unfold ints at h
 exact (List.map_inj_right (fun x y (e : (x.toNat : Int) = (y.toNat : Int)) => UInt8.toNat_inj.1 (by omega))).1 h
theorem prms_back {ps : List PrmS} {v : List UInt8} (h : ints v = (encP ps).1) (h0 : (encP ps).2 = 0) (ho : ∀ p ∈ ps, okQ p) : prmsD v = .ok ps := by
 unfold encP at h h0
 by_cases hl : ps.length > 256
 ·rw [if_pos hl] at h0; cases h0
 rw [if_neg hl] at h h0
 by_cases hs : allShort ps
 ·rw [runB_short ps hs] at h
  have ok : ∀ q ∈ ps, okP q := fun q hq => ⟨(ho q hq).1.1, (ho q hq).1.2, by have := hs q hq; omega, fun x hx => (ho q hq).2 x hx⟩
  have e : v = bytesOf (foldB [] ps) := ints_inj (h.trans (ints_bytesOf _ (fold_in ps [] (fun x hx => by cases hx) ok)).symm)
  unfold prmsD
  rw [e, back_dec ps (by omega) ok]
  rfl
 ·rw [runB_long ps hs] at h0; cases h0
theorem len_ints {v : List UInt8} {l : List Int} (h : ints v = l) : v.length = l.length := by rw [← h, ints_length]
theorem u16_count {n : Nat} (h : n ≤ 4096) : IntKind.u16.wrap (n : Int) = (n : Int) ∧ in16 (n : Int) := by
 refine ⟨?_, by unfold in16; omega⟩
 simp [IntKind.wrap, IntKind.bits, IntKind.signed]
 omega
structure ChkOk (x : Chk) : Prop where
 bare : x = bareD x
 data : x.f0 = 0 → x.f13 ≠ []
 beat : x.f0 = 4 ∨ x.f0 = 5 → beatB x.f14 = true
 l10 : x.f10.length ≤ 4096
 l11 : x.f11.length ≤ 4096
 l12 : x.f12.length ≤ 4096
 enc : (encP x.f14).2 = 0
 len : (valueD x).length ≤ 65531
theorem check_ok {x : Chk} : checkD x = 0 ↔ ChkOk x := by
 constructor
 ·intro h
  unfold checkD at h
  by_cases h1 : decide (x = bareD x) = false
  ·rw [if_pos h1] at h; cases h
  rw [if_neg h1] at h
  by_cases h2 : x.f0 = 0 ∧ x.f13.length = 0
  ·rw [if_pos h2] at h; cases h
  rw [if_neg h2] at h
  by_cases h3 : (x.f0 = 4 ∨ x.f0 = 5) ∧ beatB x.f14 = false
  ·rw [if_pos h3] at h; cases h
  rw [if_neg h3] at h
  by_cases h4 : 4096 < x.f10.length ∨ 4096 < x.f11.length ∨ 4096 < x.f12.length
  ·rw [if_pos h4] at h; cases h
  rw [if_neg h4] at h
  by_cases h5 : (encP x.f14).2 ≠ 0
  ·rw [if_pos h5] at h; exact absurd h h5
  rw [if_neg h5] at h
  by_cases h6 : 65531 < (valueD x).length
  ·rw [if_pos h6] at h; cases h
  exact ⟨by simpa using h1, fun e hb => h2 ⟨e, by rw [hb]; rfl⟩, fun e => (by cases hb : beatB x.f14 <;> first | rfl | exact absurd ⟨e, hb⟩ h3), by omega, by omega, by omega, by omega, by omega⟩
 ·intro h
  unfold checkD
  rw [if_neg (by rw [decide_eq_true h.bare]; decide), if_neg (fun e => h.data e.1 (List.length_eq_zero_iff.1 e.2)), if_neg (fun e => by rw [h.beat e.1] at e; exact absurd e.2 (by decide)), if_neg (by have := h.l10; have := h.l11; have := h.l12; omega), if_neg (by have := h.enc; omega), if_neg (by have := h.len; omega)]
theorem bare_f {x : Chk} (h : x = bareD x) (p : Nat → Bool) (hp : hasF x.f0 = p) : x = ⟨x.f0, flD x.f0 x.f1, if p 2 then x.f2 else 0, if p 3 then x.f3 else 0, if p 4 then x.f4 else 0, if p 5 then x.f5 else 0, if p 6 then x.f6 else 0, if p 7 then x.f7 else 0, if p 8 then x.f8 else 0, if p 9 then x.f9 else 0, if p 10 then x.f10 else [], if p 11 then x.f11 else [], if p 12 then x.f12 else [], if p 13 then x.f13 else [], if p 14 then x.f14 else []⟩ := by
 conv => lhs; rw [h]
 unfold bareD keepF
 rw [hp]
theorem fl_of {x : Chk} (h : x = bareD x) : flD x.f0 x.f1 = x.f1 := by
 have := congrArg (fun c : Chk => c.f1) h
 exact this.symm
theorem read_back {x : Chk} (ok : OkC x) (h : ChkOk x) {v : List UInt8} (hv : ints v = valueD x) : readD x.f0 x.f1 v = .ok x := by
 have hb := h.bare
 have hf := fl_of hb
 have hl := len_ints hv
 unfold readD
 unfold valueD at hv hl
 by_cases k0 : x.f0 = 0
 ·rw [if_pos k0] at hv hl ⊢
  have e := bare_f hb (fun i => i == 2 || i == 3 || i == 4 || i == 5 || i == 13) (by funext i; unfold hasF; rw [if_pos k0])
  simp at e
  have hd := h.data k0
  have h13 : x.f13.length ≠ 0 := fun e => hd (List.length_eq_zero_iff.1 e)
  unfold valData at hv hl
  simp only [List.length_append, fourL_length, twoL_length, List.length_cons, List.length_nil] at hl
  unfold readData
  rw [if_neg (by omega), if_neg (by omega)]
  rw [List.append_assoc, List.append_assoc] at hv
  obtain ⟨a1, a2⟩ := be4 hv ok.r2
  rw [twoL_cons, List.append_assoc] at a2
  obtain ⟨b1, b2⟩ := be2 a2 ok.r3
  have b2 := drop2 v 4 6 b2 rfl
  obtain ⟨c1, c2⟩ := be2 b2 ok.r4
  have c2 := drop2 v 6 8 c2 rfl
  obtain ⟨d1, d2⟩ := be4 c2 ok.r5
  have d2 := drop4 v 8 12 d2 rfl
  rw [a1, b1, c1, d1, show intsL (v.drop 12) = x.f13 from d2]
  conv => rhs; rw [e, hf]
 rw [if_neg k0] at hv hl ⊢
 by_cases k1 : x.f0 = 1 ∨ x.f0 = 2
 ·rw [if_pos k1] at hv hl ⊢
  have e := bare_f hb (fun i => i == 2 || i == 6 || i == 7 || i == 8 || i == 9 || i == 14) (by funext i; unfold hasF; rw [if_neg k0, if_pos k1])
  simp at e
  simp only [List.length_append, fourL_length, twoL_length, List.length_cons, List.length_nil] at hl
  unfold readInit
  rw [if_neg (by omega)]
  rw [List.append_assoc, List.append_assoc, fourL_cons, List.append_assoc] at hv
  obtain ⟨a1, a2⟩ := be4 hv ok.r6
  obtain ⟨b1, b2⟩ := be4 a2 ok.r7
  have b2 := drop4 v 4 8 b2 rfl
  rw [twoL_cons, List.append_assoc] at b2
  obtain ⟨c1, c2⟩ := be2 b2 ok.r8
  have c2 := drop2 v 8 10 c2 rfl
  obtain ⟨d1, d2⟩ := be2 c2 ok.r9
  have d2 := drop2 v 10 12 d2 rfl
  obtain ⟨e1, e2⟩ := be4 d2 ok.r2
  have e2 := drop4 v 12 16 e2 rfl
  rw [prms_back e2 h.enc ok.r14]
  dsimp only
  rw [a1, b1, c1, d1, e1]
  conv => rhs; rw [e, hf]
 rw [if_neg k1] at hv hl ⊢
 by_cases k3 : x.f0 = 3
 ·rw [if_pos k3] at hv hl ⊢
  have e := bare_f hb (fun i => i == 2 || i == 7 || i == 10 || i == 12) (by funext i; unfold hasF; rw [if_neg k0, if_neg k1, if_neg (by omega), if_pos k3])
  simp at e
  obtain ⟨u1, u2⟩ := u16_count h.l10
  obtain ⟨w1, w2⟩ := u16_count h.l12
  rw [u1, w1] at hv hl
  simp only [List.length_append, fourL_length, twoL_length, List.length_cons, List.length_nil, gapL_length] at hl
  unfold readLists listsD
  rw [List.append_assoc, List.append_assoc, fourL_cons, List.append_assoc] at hv
  obtain ⟨a1, a2⟩ := be4 hv ok.r2
  obtain ⟨b1, b2⟩ := be4 a2 ok.r7
  have b2 := drop4 v 4 8 b2 rfl
  rw [twoL_cons, List.append_assoc] at b2
  obtain ⟨c1, c2⟩ := be2 b2 u2
  have c2 := drop2 v 8 10 c2 rfl
  obtain ⟨d1, d2⟩ := be2 c2 w2
  have d2 := drop2 v 10 12 d2 rfl
  have c1' : be ((v.drop 8).take 2) = x.f10.length := by omega
  have d1' : be ((v.drop 10).take 2) = x.f12.length := by omega
  obtain ⟨g1, g2⟩ := gaps_back x.f10 _ _ d2 ok.r10
  rw [List.drop_drop] at g2
  obtain ⟨h1, h2⟩ := dups_back x.f12 _ [] (by rw [List.append_nil]; exact g2) ok.r12
  have := h.l10
  have := h.l12
  simp only [Bool.false_eq_true, if_false, c1', d1', Nat.add_zero]
  rw [if_neg (by omega), if_neg (by omega), if_neg (by omega)]
  dsimp only
  rw [a1, b1, g1, h1]
  conv => rhs; rw [e, hf]
  simp [gapsD]
 rw [if_neg k3] at hv hl ⊢
 by_cases k16 : x.f0 = 16
 ·rw [if_pos k16] at hv hl ⊢
  have e := bare_f hb (fun i => i == 2 || i == 7 || i == 10 || i == 11 || i == 12) (by funext i; unfold hasF; rw [if_neg k0, if_neg k1, if_pos k16])
  simp at e
  obtain ⟨u1, u2⟩ := u16_count h.l10
  obtain ⟨y1, y2⟩ := u16_count h.l11
  obtain ⟨w1, w2⟩ := u16_count h.l12
  rw [u1, w1, y1] at hv hl
  simp only [List.length_append, fourL_length, twoL_length, List.length_cons, List.length_nil, gapL_length] at hl
  unfold readLists listsD
  rw [List.append_assoc, List.append_assoc, List.append_assoc, fourL_cons, List.append_assoc] at hv
  obtain ⟨a1, a2⟩ := be4 hv ok.r2
  obtain ⟨b1, b2⟩ := be4 a2 ok.r7
  have b2 := drop4 v 4 8 b2 rfl
  rw [twoL_cons, List.append_assoc] at b2
  obtain ⟨c1, c2⟩ := be2 b2 u2
  have c2 := drop2 v 8 10 c2 rfl
  rw [twoL_cons, List.append_assoc] at c2
  obtain ⟨i1, i2⟩ := be2 c2 y2
  have i2 := drop2 v 10 12 i2 rfl
  rw [twoL_cons, List.append_assoc] at i2
  obtain ⟨d1, d2⟩ := be2 i2 w2
  have d2 := drop2 v 12 14 d2 rfl
  obtain ⟨j1, j2⟩ := be2 d2 (by unfold in16; omega)
  have j2 := drop2 v 14 16 j2 rfl
  have c1' : be ((v.drop 8).take 2) = x.f10.length := by omega
  have i1' : be ((v.drop 10).take 2) = x.f11.length := by omega
  have d1' : be ((v.drop 12).take 2) = x.f12.length := by omega
  obtain ⟨g1, g2⟩ := gaps_back x.f10 _ _ j2 ok.r10
  rw [List.drop_drop] at g2
  obtain ⟨n1, n2⟩ := gaps_back x.f11 _ _ g2 ok.r11
  rw [List.drop_drop] at n2
  obtain ⟨h1, h2⟩ := dups_back x.f12 _ [] (by rw [List.append_nil]; exact n2) ok.r12
  have := h.l10
  have := h.l11
  have := h.l12
  simp only [if_true, c1', d1', i1']
  rw [if_neg (by omega), if_neg (by omega), if_neg (by omega)]
  dsimp only
  rw [show 16 + 4 * (x.f10.length + x.f11.length) = 16 + 4 * x.f10.length + 4 * x.f11.length by omega, a1, b1, g1, n1, h1]
  conv => rhs; rw [e, hf]
 rw [if_neg k16] at hv hl ⊢
 by_cases k4 : x.f0 = 4 ∨ x.f0 = 5 ∨ x.f0 = 6 ∨ x.f0 = 9
 ·rw [if_pos k4] at hv hl
  have e := bare_f hb (fun i => i == 14) (by funext i; unfold hasF; rw [if_neg k0, if_neg k1, if_neg k16, if_neg k3, if_pos k4])
  simp at e
  have hp := prms_back hv h.enc ok.r14
  by_cases k45 : x.f0 = 4 ∨ x.f0 = 5
  ·rw [if_pos k45]
   unfold readPrms
   rw [hp]
   dsimp only
   rw [h.beat k45]
   conv => rhs; rw [e, hf]
   rfl
  ·rw [if_neg k45, if_pos (by omega)]
   unfold readPrms
   rw [hp]
   dsimp only
   conv => rhs; rw [e, hf]
   rfl
 rw [if_neg k4] at hv hl
 rw [if_neg (by omega), if_neg (by omega)]
 by_cases k7 : x.f0 = 7
 ·rw [if_pos k7] at hv hl ⊢
  have e := bare_f hb (fun i => i == 2) (by funext i; unfold hasF; rw [if_neg k0, if_neg k1, if_neg k16, if_neg k3, if_neg k4, if_pos k7])
  simp at e
  rw [fourL_length] at hl
  unfold readShut
  have hl : v.length = 4 := hl
  rw [if_pos hl]
  obtain ⟨a1, a2⟩ := be4 (t := []) (by rw [List.append_nil]; exact hv) ok.r2
  rw [show v.take 4 = v from List.take_of_length_le (by rw [hl]; exact Nat.le_refl _)] at a1
  rw [a1]
  conv => rhs; rw [e, hf]
 rw [if_neg k7] at hv hl ⊢
 by_cases k8 : x.f0 = 8 ∨ x.f0 = 11 ∨ x.f0 = 14
 ·rw [if_pos k8] at hv hl ⊢
  have e := bare_f hb (fun i => false) (by funext i; unfold hasF; rw [if_neg k0, if_neg k1, if_neg k16, if_neg k3, if_neg k4, if_neg k7, if_pos k8])
  simp at e
  have hl : v.length = 0 := hl
  unfold readNone chk0
  rw [if_pos hl]
  conv => rhs; rw [e, hf]
 rw [if_neg k8] at hv hl ⊢
 have e := bare_f hb (fun i => i == 13) (by funext i; unfold hasF; rw [if_neg k0, if_neg k1, if_neg k16, if_neg k3, if_neg k4, if_neg k7, if_neg k8])
 simp at e
 unfold readBody
 rw [show intsL v = x.f13 from hv]
 conv => rhs; rw [e, hf]
end Go.Proofs.YtdlamomabonkjaaDoor.Ch
end
section
namespace Go.Proofs.YtdlamomabonkjaaDoor.Base
open Go.RowKit YtdlamomabonkjaaDoorW.PrintWords YtdlamomabonkjaaDoorW.PrintLast
abbrev Sel := List (Nat × Tmp × Value)
def GrI (C : List Nat) (I : Nat → Value → World → Prop) (u0 : Value) (L : (Nat → Value) → Sel) (a0 : Act) (b : Nat → Bool) (a : Act) (w : World) : Prop :=
 ∃ (s : Nat) (vs : Nat → Value), s ≤ C.length ∧ vs 0 = u0 ∧ (∀ j c, C[j]? = some c → (j < s → b c = true) ∧ (s ≤ j → b c = false)) ∧ a = putSel a0 b (L vs) ∧ I s (vs s) w
def Rd (O B : List Nat) (i : Nat) (L : (Nat → Value) → Sel) (a0 : Act) (p : Tmp) (f : (Nat → Value) → Value) : Prop :=
 ∀ (b : Nat → Bool) (vs : Nat → Value), (∀ j, (O.contains j && (B.getD i 0).testBit j) = true → b j = true) → (∀ d, (O.contains d && (B.getD d 0).testBit i) = true → b d = false) → (putSel a0 b (L vs)).tmps[p]? = some (f vs)
def Ar (O B : List Nat) (i : Nat) (L : (Nat → Value) → Sel) (a0 : Act) (os : List Operand) (vals : List Value) : Prop :=
 ∀ (b : Nat → Bool) (vs : Nat → Value), (∀ j, (O.contains j && (B.getD i 0).testBit j) = true → b j = true) → (∀ d, (O.contains d && (B.getD d 0).testBit i) = true → b d = false) → os.map (putSel a0 b (L vs)).eval = vals
section
variable {P : Program} {ops : Array Oper} {Q : Exit → Act → World → Prop} {B O C : List Nat} {W : World} {I : Nat → Value → World → Prop} {u0 : Value} {L : (Nat → Value) → Sel} {a0 : Act} {i : Nat} {p : Tmp}
theorem rd_on {f : (Nat → Value) → Value} (kp qp : Nat) (hP : ∀ vs, (L vs)[kp]? = some (qp, p, f vs)) (hPd : ∀ vs, ((L vs).drop (kp + 1)).all (fun x => !(x.2.1 == p)) = true) (hon : (O.contains qp && (B.getD i 0).testBit qp) = true) (hsz : Nat.ble (p + 1) a0.tmps.size = true) : Rd O B i L a0 p f :=
 fun b vs h1 h2 => putSel_on kp (hP vs) (hPd vs) (h1 qp hon) hsz
theorem rd_off {v : Value} (h : ∀ vs, (L vs).all (fun e => !(e.2.1 == p)) = true) (hp : a0.tmps[p]? = some v) : Rd O B i L a0 p (fun _ => v) := fun b vs _ _ => (putSel_off (h vs)).trans hp
theorem rd_not {v : Value} (j : Nat) (hj : (O.contains j && (B.getD j 0).testBit i) = true) (h : ∀ vs, (L vs).all (fun e => !(e.2.1 == p) || e.1 == j) = true) (hp : a0.tmps[p]? = some v) : Rd O B i L a0 p (fun _ => v) := fun b vs _ h2 => (putSel_not (h2 j hj) (h vs)).trans hp
theorem ar_n : Ar O B i L a0 [] [] := fun _ _ _ _ => rfl
theorem ar_c (c : Value) {os : List Operand} {vals : List Value} (h : Ar O B i L a0 os vals) : Ar O B i L a0 (.const c :: os) (c :: vals) := fun b vs h1 h2 => by rw [List.map_cons, h b vs h1 h2]; rfl
theorem ar_t {v : Value} {os : List Operand} {vals : List Value} (h0 : Rd O B i L a0 p (fun _ => v)) (h : Ar O B i L a0 os vals) : Ar O B i L a0 (.tmp p :: os) (v :: vals) := fun b vs h1 h2 => by rw [List.map_cons, h b vs h1 h2, eval_of (h0 b vs h1 h2)]
theorem gr_op (J : World → Prop) (i k : Nat) {t : Tmp} {u v : Value} {oi : Oper} (ho : ops[i]? = some oi) (hg : oi.guard = none) (hd : oi.dst = some t) (hL : ∀ vs, (L vs)[k]? = some (i, t, v))
  (hdist : ∀ vs, ((L vs).take k ++ (L vs).drop (k + 1)).all (fun e => !(e.1 == i) && !(e.2.1 == t)) = true) (hC : C.contains i = false) (hr : Rd O B i L a0 p (fun _ => u)) (hJ : ∀ s x w, I s x w → J w)
  (hrun : ∀ (a : Act) (w : World), J w → a.tmps[p]? = some u → (execOp a.eval oi).run P w = .ok (.value v) w) : StepAt P ops Q B O (GrI C I u0 L a0) i := by
 rintro b a w ⟨s, vs, h0, hu, h1, ha, hI⟩ hb hon hoff
 refine ⟨oi, ho, fun K hK => ?_⟩
 rw [hd]
 refine value_ (w1 := w) (v := v) (wanted_none0 hg) hd (hrun a w (hJ _ _ _ hI) (by rw [ha]; exact hr b vs hon hoff)) (hK.out _ _ ⟨s, vs, h0, hu, fun j c hc => ?_, ?_, hI⟩)
 ·have hne : c ≠ i := fun e => by
   rw [e] at hc
   have := List.mem_of_getElem? hc
   rw [List.contains_iff_mem.2 this] at hC
   cases hC
  rw [up_ne hne]
  exact h1 j c hc
 ·rw [ha]
  exact putSel_upk k hb (hL vs) (set_same (hL vs)) (hdist vs)
theorem gr_step (i k m : Nat) {t : Tmp} (hm : C[m]? = some i) (hL : ∀ vs, (L vs)[k]? = some (i, t, vs (m + 1))) (hset : ∀ vs v', (L vs).set k (i, t, v') = L (fun j => if j = m + 1 then v' else vs j))
  (hdist : ∀ vs, ((L vs).take k ++ (L vs).drop (k + 1)).all (fun e => !(e.1 == i) && !(e.2.1 == t)) = true) (hnd : (C.take m ++ C.drop (m + 1)).contains i = false) (hprev : (C.take m).all (fun q => O.contains q && (B.getD i 0).testBit q) = true)
  {b : Nat → Bool} {a : Act} {w : World} (hI : GrI C I u0 L a0 b a w) (hb : b i = false) (hon : ∀ j, (O.contains j && (B.getD i 0).testBit j) = true → b j = true) :
  ∃ vs, vs 0 = u0 ∧ a = putSel a0 b (L vs) ∧ I m (vs m) w ∧ ∀ v' w', I (m + 1) v' w' → GrI C I u0 L a0 (up b i) (a.put (some t) v') w' := by
 obtain ⟨s, vs, h0, hu, h1, ha, hI⟩ := hI
 have hs : s = m := by
  have e1 := h1 m i hm
  rcases Nat.lt_trichotomy s m with h | h | h
  ·have hlt : s < C.length := by
    have := (List.getElem?_eq_some_iff.1 hm).1
    omega
   have hc := List.getElem?_eq_getElem hlt
   have e2 := (h1 s _ hc).2 (Nat.le_refl _)
   have e3 := List.all_eq_true.1 hprev C[s] (List.mem_take_iff_getElem.2 ⟨s, by omega, rfl⟩)
   rw [hon _ e3] at e2
   cases e2
  ·exact h
  ·rw [e1.1 h] at hb
   cases hb
 subst hs
 refine ⟨vs, hu, ha, hI, fun v' w' hI' => ⟨s + 1, fun j => if j = s + 1 then v' else vs j, ?_, ?_, fun j c hc => ?_, ?_, ?_⟩⟩
 ·have := (List.getElem?_eq_some_iff.1 hm).1
  omega
 ·show (if 0 = s + 1 then v' else vs 0) = u0
  rw [if_neg (by omega)]
  exact hu
 ·by_cases hj : j = s
  ·subst hj
   rw [hm] at hc
   injection hc with hc
   subst hc
   exact ⟨fun _ => up_self _ _, fun h => absurd h (by omega)⟩
  ·have hne : c ≠ i := fun e => by
    subst e
    have hmem : c ∈ C.take s ++ C.drop (s + 1) := by
     rw [List.mem_append]
     have hl := (List.getElem?_eq_some_iff.1 hc)
     obtain ⟨hl1, hl2⟩ := hl
     by_cases h : j < s
     ·exact Or.inl (List.mem_take_iff_getElem.2 ⟨j, by omega, hl2⟩)
     ·refine Or.inr (List.mem_drop_iff_getElem.2 ⟨j - (s + 1), by omega, ?_⟩)
      rw [← hl2]
      congr 1
      omega
    rw [List.contains_iff_mem.2 hmem] at hnd
    cases hnd
   rw [up_ne hne]
   have := h1 j c hc
   exact ⟨fun h => this.1 (by omega), fun h => this.2 (by omega)⟩
 ·rw [ha]
  exact putSel_upk k hb (hL vs) (hset vs v') (hdist vs)
 ·show I (s + 1) (if s + 1 = s + 1 then v' else vs (s + 1)) w'
  rw [if_pos rfl]
  exact hI'
theorem gr_call (i k m : Nat) {t : Tmp} {fv : (Nat → Value) → Value} {os : List Operand} {vals : List Value} {oi : Oper} {f : FuncId} {fn : Func} {ax : Array Operand} {ts : Array TypeId} (ho : ops[i]? = some oi) (hg : oi.guard = none) (hd : oi.dst = some t) (hm : C[m]? = some i) (hL : ∀ vs, (L vs)[k]? = some (i, t, vs (m + 1)))
  (hset : ∀ vs v', (L vs).set k (i, t, v') = L (fun j => if j = m + 1 then v' else vs j)) (hdist : ∀ vs, ((L vs).take k ++ (L vs).drop (k + 1)).all (fun e => !(e.1 == i) && !(e.2.1 == t)) = true) (hnd : (C.take m ++ C.drop (m + 1)).contains i = false) (hprev : (C.take m).all (fun q => O.contains q && (B.getD i 0).testBit q) = true)
  (hf : P.funcs[f]? = some fn) (hname : (fn.name == "runtime.NumGoroutine") = false) (hbd : fn.body.isSome = true) (hop : oi.op = .call { callee := .value (.func f), args := ax, argTypes := ts }) (has : ax.toList = .tmp p :: os)
  (hr : Rd O B i L a0 p fv) (hfv : ∀ vs, vs 0 = u0 → fv vs = vs m) (har : Ar O B i L a0 os vals) (hcall : ∀ u w, I m u w → Calls P f (u :: vals).toArray w fun e w' => ∃ v', e = .returned v' ∧ I (m + 1) v' w') : StepAt P ops Q B O (GrI C I u0 L a0) i := by
 rintro b a w hG hb hon hoff
 obtain ⟨vs, hu, ha, hI, hK2⟩ := gr_step i k m hm hL hset hdist hnd hprev hG hb hon
 refine ⟨oi, ho, fun K hK => ?_⟩
 rw [hd]
 have e1 := hr b vs hon hoff
 have e2 := har b vs hon hoff
 refine goes_ hf hname hbd (vs m :: vals).toArray (wanted_none0 hg) hd hop ?_ ?_
 ·apply Array.toList_inj.1
  rw [Array.toList_map, has, List.map_cons, ha, eval_of e1, e2, hfv vs hu]
 ·refine (hcall (vs m) w hI).mono ?_
  rintro e w' ⟨v', rfl, hI'⟩
  exact ⟨v', rfl, hK.out _ _ (hK2 v' w' hI')⟩
theorem gr_gen (i k m : Nat) {t : Tmp} {fv : (Nat → Value) → Value} {os : List Operand} {vals : List Value} {oi : Oper} (ho : ops[i]? = some oi) (hg : oi.guard = none) (hd : oi.dst = some t) (hm : C[m]? = some i) (hL : ∀ vs, (L vs)[k]? = some (i, t, vs (m + 1)))
  (hset : ∀ vs v', (L vs).set k (i, t, v') = L (fun j => if j = m + 1 then v' else vs j)) (hdist : ∀ vs, ((L vs).take k ++ (L vs).drop (k + 1)).all (fun e => !(e.1 == i) && !(e.2.1 == t)) = true) (hnd : (C.take m ++ C.drop (m + 1)).contains i = false) (hprev : (C.take m).all (fun q => O.contains q && (B.getD i 0).testBit q) = true)
  (hr : Rd O B i L a0 p fv) (hfv : ∀ vs, vs 0 = u0 → fv vs = vs m) (har : Ar O B i L a0 os vals)
  (hstep : ∀ (a : Act) (w : World) (K : Act → World → Prop) (u : Value), I m u w → a.tmps[p]? = some u → os.map a.eval = vals → (∀ v' w', I (m + 1) v' w' → K (a.put (some t) v') w') → if Region.wanted oi (yielded ops a.tmps) = true then Oper.wp P oi a w K Q else K (a.put (some t) undef) w) : StepAt P ops Q B O (GrI C I u0 L a0) i := by
 rintro b a w hG hb hon hoff
 obtain ⟨vs, hu, ha, hI, hK2⟩ := gr_step i k m hm hL hset hdist hnd hprev hG hb hon
 refine ⟨oi, ho, fun K hK => ?_⟩
 rw [hd]
 have e1 := hr b vs hon hoff
 rw [hfv vs hu] at e1
 exact hstep a w K (vs m) hI (by rw [ha]; exact e1) (by rw [ha]; exact har b vs hon hoff) (fun v' w' h => hK.out _ _ (hK2 v' w' h))
theorem gr_last (i k m : Nat) {t : Tmp} {fv : (Nat → Value) → Value} {oi : Oper} (ho : ops[i]? = some oi) (hg : oi.guard = none) (hd : oi.dst = some t) (hm : C[m]? = some i) (hL : ∀ vs, (L vs)[k]? = some (i, t, vs (m + 1)))
  (hset : ∀ vs v', (L vs).set k (i, t, v') = L (fun j => if j = m + 1 then v' else vs j)) (hdist : ∀ vs, ((L vs).take k ++ (L vs).drop (k + 1)).all (fun e => !(e.1 == i) && !(e.2.1 == t)) = true) (hnd : (C.take m ++ C.drop (m + 1)).contains i = false) (hprev : (C.take m).all (fun q => O.contains q && (B.getD i 0).testBit q) = true)
  (hr : Rd O B i L a0 p fv) (hfv : ∀ vs, vs 0 = u0 → fv vs = vs m) (hrun : ∀ (a : Act) (w : World) (u : Value), a.tmps[p]? = some u → (execOp a.eval oi).run P w = .ok (.value u) w) (hI2 : ∀ u w, I m u w → I (m + 1) u w) : StepAt P ops Q B O (GrI C I u0 L a0) i := by
 rintro b a w hG hb hon hoff
 obtain ⟨vs, hu, ha, hI, hK2⟩ := gr_step i k m hm hL hset hdist hnd hprev hG hb hon
 refine ⟨oi, ho, fun K hK => ?_⟩
 rw [hd]
 have e1 := hr b vs hon hoff
 rw [hfv vs hu] at e1
 exact value_ (w1 := w) (v := vs m) (wanted_none0 hg) hd (hrun a w (vs m) (by rw [ha]; exact e1)) (hK.out _ _ (hK2 _ _ (hI2 _ _ hI)))
theorem grow_region {id : Nat} (O C : List Nat) (I : Nat → Value → World → Prop) (u0 : Value) (L : (Nat → Value) → Sel) {n : Nat} {l : Array Bool} {Tb : Bool × List (List Nat × List Nat)} (hm : P.follows .mixedOrders = true) (hn : ops.size = n) (hl : Array.replicate n false = l) (hT : rtab .any ops = Tb) (hw : waitsOk Tb.2 B = true) (hk : baseOk Tb.2 O = true) (hl2 : (lof Tb.2.length O (fun _ => false) == l.toList && O.length == n) = true)
  (hLO : ∀ vs, (L vs).all (fun e => O.contains e.1) = true) (hCO : (C.all fun e => O.contains e) = true) (h0 : I 0 u0 W.drew) (hs : ∀ i ∈ O, StepAt P ops Q B O (GrI C I u0 L a0) i)
  (hend : ∀ (vs : Nat → Value) (w : World), I C.length (vs C.length) w → Q .normal (putSel a0 (fun _ => true) (L vs)) w) : Code.wp P (Code.region id ops true) Q a0 W := by
 refine start_ (S := fun _ => True) (ds := []) l hm hn hl trivial (fun _ => ?_)
 refine inv_at O (fun a0 => GrI C I u0 L a0) hT hw hk hl2 ⟨0, fun _ => u0, Nat.zero_le _, rfl, fun j c _ => ⟨fun h => absurd h (Nat.not_lt_zero _), fun _ => rfl⟩, ?_, h0⟩ hs ?_
 ·generalize L (fun _ => u0) = LL
  clear hLO hs hend
  induction LL with
  | nil => rfl
  | cons e r ih => unfold putSel; exact ih
 ·rintro b a w hall ⟨s, vs, hs1, hu, h1, ha, hI⟩
  have e1 : putSel a0 b (L vs) = putSel a0 (fun _ => true) (L vs) := putSel_congr (fun e he => hall _ (List.all_eq_true.1 (hLO vs) e he))
  have e2 : s = C.length := by
   rcases Nat.lt_or_ge s C.length with h | h
   ·have hc := List.getElem?_eq_getElem h
    have e2 := (h1 s _ hc).2 (Nat.le_refl _)
    rw [hall _ (List.all_eq_true.1 hCO _ (List.getElem_mem h))] at e2
    cases e2
   ·omega
  rw [ha, e1]
  rw [e2] at hI
  exact hend vs w hI
end
end Go.Proofs.YtdlamomabonkjaaDoor.Base
end
section
namespace Go.Proofs.YtdlamomabonkjaaDoor.Ch
open Go.RowKit YtdlamomabonkjaaDoorW.PrintWords YtdlamomabonkjaaDoorW.PrintLast Base PCh ParDec ParEnc
theorem two2 (a b : Int) : twoL [a, b] = twoL [a] ++ twoL [b] := rfl
theorem two4 (a b c d : Int) : twoL [a, b, c, d] = twoL [a] ++ (twoL [b] ++ (twoL [c] ++ twoL [d])) := rfl
theorem four2 (a b : Int) : fourL [a, b] = fourL [a] ++ fourL [b] := rfl
theorem encR_calls (w : World) (A : Option Addr) (c : Nat) (ps : List PrmS) (h : Kd.C k72 w A ps.length ps) (hc : ps.length ≤ c) :
  Calls Tryd.prog 35 #[.slice A ps.length c] w fun e w' => ∃ v0 : Value, e = .returned (.tuple #[v0, .int .i64 (encP ps).2]) ∧ Kd.R (Kd.int .u8) 5 w' w.heap.size (fun _ => True) v0 (encP ps).1 ∧ Below w.heap.size w w' := by
 obtain ⟨k, hk⟩ := refEncode_run ps
 exact ropewalkref05_Encode.calls k A c ps _ _ w h hc hk
theorem encP_nil' : encP [] = ([], 0) := rfl
theorem rest_value {x : Chk} (hb : x = bareD x) (n0 : ¬ x.f0 = 0) (n1 : ¬ x.f0 = 1) (n2 : ¬ x.f0 = 2) (n3 : ¬ x.f0 = 3) (n16 : ¬ x.f0 = 16) (n7 : ¬ x.f0 = 7) : valueD x = [] ++ (encP x.f14).1 ++ x.f13 ∧ (x.f13.length ≤ 140737488351232 → (encP x.f14).1.length + x.f13.length ≤ 140737488351232) := by
 have hl := encP_len x.f14
 unfold valueD
 have k1 : ¬ (x.f0 = 1 ∨ x.f0 = 2) := by omega
 rw [if_neg n0, if_neg k1, if_neg n3, if_neg n16, List.nil_append]
 by_cases k4 : x.f0 = 4 ∨ x.f0 = 5 ∨ x.f0 = 6 ∨ x.f0 = 9
 ·have e := bare_f hb (fun i => i == 14) (by funext i; unfold hasF; rw [if_neg n0, if_neg k1, if_neg n16, if_neg n3, if_pos k4])
  have e := congrArg (fun c : Chk => c.f13) e
  have e : x.f13 = [] := e
  rw [if_pos k4, e, List.append_nil]
  exact ⟨rfl, fun _ => by simp; omega⟩
 rw [if_neg k4, if_neg n7]
 by_cases k8 : x.f0 = 8 ∨ x.f0 = 11 ∨ x.f0 = 14
 ·have e0 := bare_f hb (fun i => false) (by funext i; unfold hasF; rw [if_neg n0, if_neg k1, if_neg n16, if_neg n3, if_neg k4, if_neg n7, if_pos k8])
  have e := congrArg (fun c : Chk => c.f13) e0
  have e : x.f13 = [] := e
  have e' := congrArg (fun c : Chk => c.f14) e0
  have e' : x.f14 = [] := e'
  rw [if_pos k8, e, e']
  exact ⟨rfl, fun _ => by simp [encP_nil']⟩
 ·have e0 := bare_f hb (fun i => i == 13) (by funext i; unfold hasF; rw [if_neg n0, if_neg k1, if_neg n16, if_neg n3, if_neg k4, if_neg n7, if_neg k8])
  have e' := congrArg (fun c : Chk => c.f14) e0
  have e' : x.f14 = [] := e'
  rw [if_neg k8, e']
  exact ⟨rfl, fun h => by rw [encP_nil']; simpa using h⟩
def rvAT6 : Bool × List (List Nat × List Nat) := (true, [([], []), ([], []), ([1], [1]), ([0, 2], [0, 2]), ([], []), ([4], [4]), ([5], [5]), ([3, 6, 3], [3, 6]), ([7, 7, 0, 1, 2, 3, 4, 5, 6, 7], [0, 7])])
def rvAB6 : List Nat := [0, 0, 2, 7, 0, 16, 48, 127, 255]
theorem rvAtab6 : Go.Proofs.YtdlamomabonkjaaDoorW.PrintLast.rtab .any (Go.Proofs.YtdlamomabonkjaaDoorW.PrintLast.opsOf Tryd.f36 6) = rvAT6 := by kernel_rfl
theorem rvAbits6 : Go.Proofs.YtdlamomabonkjaaDoorW.PrintLast.waitsOk rvAT6.2 rvAB6 = true := by kernel_rfl
def rvBT7 : Bool × List (List Nat × List Nat) := (true, [([], []), ([], []), ([1], [1]), ([2], [2]), ([0, 3], [0, 3]), ([], []), ([5], [5]), ([4, 6, 4], [4, 6]), ([7, 7, 0, 1, 2, 3, 4, 5, 6, 7], [0, 7])])
def rvBB7 : List Nat := [0, 0, 2, 6, 15, 0, 32, 127, 255]
theorem rvBtab7 : Go.Proofs.YtdlamomabonkjaaDoorW.PrintLast.rtab .any (Go.Proofs.YtdlamomabonkjaaDoorW.PrintLast.opsOf Tryd.f36 7) = rvBT7 := by kernel_rfl
theorem rvBbits7 : Go.Proofs.YtdlamomabonkjaaDoorW.PrintLast.waitsOk rvBT7.2 rvBB7 = true := by kernel_rfl
def rvCT11 : Bool × List (List Nat × List Nat) := (true, [([], []), ([], []), ([1], [1]), ([0, 2], [0, 2]), ([], []), ([4], [4]), ([3, 5, 3], [3, 5]), ([6, 6, 0, 1, 2, 3, 4, 5, 6], [0, 6])])
def rvCB11 : List Nat := [0, 0, 2, 7, 0, 16, 63, 127]
theorem rvCtab11 : Go.Proofs.YtdlamomabonkjaaDoorW.PrintLast.rtab .any (Go.Proofs.YtdlamomabonkjaaDoorW.PrintLast.opsOf Tryd.f36 11) = rvCT11 := by kernel_rfl
theorem rvCbits11 : Go.Proofs.YtdlamomabonkjaaDoorW.PrintLast.waitsOk rvCT11.2 rvCB11 = true := by kernel_rfl
def rvDT12 : Bool × List (List Nat × List Nat) := (true, [([], []), ([], []), ([1], [1]), ([2], [2]), ([0, 3], [0, 3]), ([], []), ([5], [5]), ([6], [6]), ([4, 7, 4], [4, 7]), ([8, 8, 0, 1, 2, 3, 4, 5, 6, 7, 8], [0, 8])])
def rvDB12 : List Nat := [0, 0, 2, 6, 15, 0, 32, 96, 255, 511]
theorem rvDtab12 : Go.Proofs.YtdlamomabonkjaaDoorW.PrintLast.rtab .any (Go.Proofs.YtdlamomabonkjaaDoorW.PrintLast.opsOf Tryd.f36 12) = rvDT12 := by kernel_rfl
theorem rvDbits12 : Go.Proofs.YtdlamomabonkjaaDoorW.PrintLast.waitsOk rvDT12.2 rvDB12 = true := by kernel_rfl
def rvCxT11 : Bool × List (List Nat × List Nat) := (true, [([], []), ([], []), ([1], [1]), ([0, 2], [0, 2]), ([], []), ([4], [4]), ([3, 5, 3], [3, 5]), ([6, 6, 0, 1, 2, 3, 4, 5, 6], [0, 6])])
def rvCxB11 : List Nat := [0, 0, 2, 7, 0, 16, 63, 127]
theorem rvCxtab11 : Go.Proofs.YtdlamomabonkjaaDoorW.PrintLast.rtab .any (Go.Proofs.YtdlamomabonkjaaDoorW.PrintLast.opsOf Tryd.f36 11) = rvCxT11 := by kernel_rfl
theorem rvCxbits11 : Go.Proofs.YtdlamomabonkjaaDoorW.PrintLast.waitsOk rvCxT11.2 rvCxB11 = true := by kernel_rfl
def rvDxT12 : Bool × List (List Nat × List Nat) := (true, [([], []), ([], []), ([1], [1]), ([2], [2]), ([0, 3], [0, 3]), ([], []), ([5], [5]), ([6], [6]), ([4, 7, 4], [4, 7]), ([8, 8, 0, 1, 2, 3, 4, 5, 6, 7, 8], [0, 8])])
def rvDxB12 : List Nat := [0, 0, 2, 6, 15, 0, 32, 96, 255, 511]
theorem rvDxtab12 : Go.Proofs.YtdlamomabonkjaaDoorW.PrintLast.rtab .any (Go.Proofs.YtdlamomabonkjaaDoorW.PrintLast.opsOf Tryd.f36 12) = rvDxT12 := by kernel_rfl
theorem rvDxbits12 : Go.Proofs.YtdlamomabonkjaaDoorW.PrintLast.waitsOk rvDxT12.2 rvDxB12 = true := by kernel_rfl
def rvET15 : Bool × List (List Nat × List Nat) := (true, [([], []), ([], []), ([1], [1]), ([0, 2], [0, 2]), ([], []), ([4], [4]), ([3, 5, 3], [3, 5]), ([6, 6, 0, 1, 2, 3, 4, 5, 6], [0, 6])])
def rvEB15 : List Nat := [0, 0, 2, 7, 0, 16, 63, 127]
theorem rvEtab15 : Go.Proofs.YtdlamomabonkjaaDoorW.PrintLast.rtab .any (Go.Proofs.YtdlamomabonkjaaDoorW.PrintLast.opsOf Tryd.f36 15) = rvET15 := by kernel_rfl
theorem rvEbits15 : Go.Proofs.YtdlamomabonkjaaDoorW.PrintLast.waitsOk rvET15.2 rvEB15 = true := by kernel_rfl
def rvFT16 : Bool × List (List Nat × List Nat) := (true, [([], []), ([], []), ([1], [1]), ([2], [2]), ([3], [3]), ([0, 4], [0, 4]), ([], []), ([6], [6]), ([7], [7]), ([8], [8]), ([5, 9, 5], [5, 9]), ([10, 10, 0, 1, 2, 3, 4, 5, 6, 7, 8, 9, 10], [0, 10])])
def rvFB16 : List Nat := [0, 0, 2, 6, 14, 31, 0, 64, 192, 448, 1023, 2047]
theorem rvFtab16 : Go.Proofs.YtdlamomabonkjaaDoorW.PrintLast.rtab .any (Go.Proofs.YtdlamomabonkjaaDoorW.PrintLast.opsOf Tryd.f36 16) = rvFT16 := by kernel_rfl
theorem rvFbits16 : Go.Proofs.YtdlamomabonkjaaDoorW.PrintLast.waitsOk rvFT16.2 rvFB16 = true := by kernel_rfl
def rvGT19 : Bool × List (List Nat × List Nat) := (true, [([], []), ([], []), ([1], [1]), ([0, 2], [0, 2]), ([], []), ([4], [4]), ([3, 5, 3], [3, 5]), ([6, 6, 0, 1, 2, 3, 4, 5, 6], [0, 6])])
def rvGB19 : List Nat := [0, 0, 2, 7, 0, 16, 63, 127]
theorem rvGtab19 : Go.Proofs.YtdlamomabonkjaaDoorW.PrintLast.rtab .any (Go.Proofs.YtdlamomabonkjaaDoorW.PrintLast.opsOf Tryd.f36 19) = rvGT19 := by kernel_rfl
theorem rvGbits19 : Go.Proofs.YtdlamomabonkjaaDoorW.PrintLast.waitsOk rvGT19.2 rvGB19 = true := by kernel_rfl
def rvHT20 : Bool × List (List Nat × List Nat) := (true, [([], []), ([], []), ([1], [1]), ([2], [2]), ([3], [3]), ([0, 4], [0, 4]), ([], []), ([6], [6]), ([7], [7]), ([8], [8]), ([5, 9, 5], [5, 9]), ([10, 10, 0, 1, 2, 3, 4, 5, 6, 7, 8, 9, 10], [0, 10])])
def rvHB20 : List Nat := [0, 0, 2, 6, 14, 31, 0, 64, 192, 448, 1023, 2047]
theorem rvHtab20 : Go.Proofs.YtdlamomabonkjaaDoorW.PrintLast.rtab .any (Go.Proofs.YtdlamomabonkjaaDoorW.PrintLast.opsOf Tryd.f36 20) = rvHT20 := by kernel_rfl
theorem rvHbits20 : Go.Proofs.YtdlamomabonkjaaDoorW.PrintLast.waitsOk rvHT20.2 rvHB20 = true := by kernel_rfl
def rvIT22 : Bool × List (List Nat × List Nat) := (true, [([], []), ([], []), ([1], [1]), ([0, 2], [0, 2]), ([], []), ([4], [4]), ([3, 5, 3], [3, 5]), ([6, 6, 0, 1, 2, 3, 4, 5, 6], [0, 6])])
def rvIB22 : List Nat := [0, 0, 2, 7, 0, 16, 63, 127]
theorem rvItab22 : Go.Proofs.YtdlamomabonkjaaDoorW.PrintLast.rtab .any (Go.Proofs.YtdlamomabonkjaaDoorW.PrintLast.opsOf Tryd.f36 22) = rvIT22 := by kernel_rfl
theorem rvIbits22 : Go.Proofs.YtdlamomabonkjaaDoorW.PrintLast.waitsOk rvIT22.2 rvIB22 = true := by kernel_rfl
def rvZT4 : Bool × List (List Nat × List Nat) := (true, [([], []), ([], []), ([0, 1], [0, 1]), ([], []), ([3], [3]), ([2, 4, 2], [2, 4]), ([5, 5, 0, 1, 2, 3, 4, 5], [5])])
def rvZB4 : List Nat := [0, 0, 3, 0, 8, 31, 63]
theorem rvZtab4 : Go.Proofs.YtdlamomabonkjaaDoorW.PrintLast.rtab .any (Go.Proofs.YtdlamomabonkjaaDoorW.PrintLast.opsOf Tryd.f36 4) = rvZT4 := by kernel_rfl
theorem rvZbits4 : Go.Proofs.YtdlamomabonkjaaDoorW.PrintLast.waitsOk rvZT4.2 rvZB4 = true := by kernel_rfl
set_option maxHeartbeats 16000000 in
theorem rvalue_calls (w : World) (x : Chk) (L : Lay) (hx : CR w x L) (hb : x = bareD x) (l10 : x.f10.length ≤ 4096) (l11 : x.f11.length ≤ 4096) (l12 : x.f12.length ≤ 4096) (l13 : x.f13.length ≤ 140737488351232) :
  Calls Tryd.prog 36 #[.agg (CV x L)] w fun e w' => ∃ v, e = .returned v ∧ (Kd.int .u8).R 5 w' w.heap.size (fun _ => True) v (valueD x) ∧ Below w.heap.size w w' := by
 have HN10 := Lh l10
 have HN11 := Lh l11
 have HN12 := Lh l12
 have HN13 := Lh l13
 have HCR := Lh (fun (W : World) (h : Below w.heap.size w W) => hx.below h)
 have HNP := Lh (encP_len x.f14)
 have HB := Lh hb
 clear hx l10 l11 l12 l13 hb
 have X := (show (w.alloc (.cells (CV x L) 41)).heap[w.heap.size]? = some (.cells (CV x L) 41 (0, 0)) ∧ Below w.heap.size w (w.alloc (.cells (CV x L) 41)) from ⟨blk_new _ _, below_alloc (Below.refl _ _) _⟩)
 go_enter Tryd.func36, Tryd.ntmps36
 go_upto_region 2 with (fail)
 refine wp_gen (fun W => W.heap[w.heap.size]? = some (.cells (CV x L) 41 (0, 0)) ∧ Below w.heap.size w W) X ?_
 clear X
 rintro W ⟨hb0, hB0⟩
 have k14 : W.cell? ⟨w.heap.size, 14, none⟩ = some (.slice L.A14 x.f14.length L.c14) := blk_cell hb0 14
 have HE := Lh (encR_calls W L.A14 L.c14 x.f14 (HCR.out W hB0).h14 (HCR.out W hB0).l14)
 have HB1_ := Lh hB0
 have HB2_ := Lh hb0
 clear hb0 hB0
 go_wp2_with fail
 refine HE.out.mono ?_
 rintro e w2 ⟨v0, rfl, hR, hB2⟩
 have hBw := below_then HB1_.out HB1_.out.size hB2
 have HB0 := Lh (blk_below HB2_.out hB2)
 have hcr := HCR.out w2 hBw
 have HG10 := Lh hcr.h10
 have HG11 := Lh hcr.h11
 have HD12 := Lh hcr.h12
 have HD13 := Lh hcr.h13
 obtain ⟨A0, c0, rfl, hle0, hC0⟩ := Kd.R_reads hR
 have HP0 := Lh hC0
 have HLE0 := Lh hle0
 have HFIN := Lh (fun (W' : World) (v : Value) (xs : List Int) (h1 : Below w2.heap.size w2 W') (h2 : (Kd.int .u8).R 5 W' w2.heap.size (fun _ => True) v xs) (h3 : valueD x = xs) => (show ∃ v_1, Ending.returned v = .returned v_1 ∧ (Kd.int .u8).R 5 W' w.heap.size (fun _ => True) v_1 (valueD x) ∧ Below w.heap.size w W' from ⟨v, rfl, by rw [h3]; exact Kd.R_lower h2 hBw.size, hBw.trans (h1.mono hBw.size)⟩))
 clear hR hB2 hcr hC0 hle0 HCR HE HB1_ HB2_ hBw k14
 have k0 : w2.cell? ⟨w.heap.size, 0, none⟩ = some (.int .u8 x.f0) := blk_cell HB0.out 0
 generalize hg : w.heap.size = g at *
 have X := RX.new w2
 by_cases h : x.f0 = 0
 ·have q0 : (x.f0 == 0) = true := by simp [h]
  have HVD := Lh (show valueD x = [] ++ fourL [x.f2] ++ twoL [x.f3] ++ twoL [x.f4] ++ fourL [x.f5] ++ x.f13 from by unfold valueD; rw [if_pos h]; unfold valData; simp only [List.nil_append, List.append_assoc, two2])
  go_upto_region 6 with (fail)
  obtain ⟨ys, hys⟩ : ∃ ys : List Int, ys = [] := ⟨_, rfl⟩
  have HX := Lh X
  rw [← hys] at HX
  have HYL := Lh (show ys.length ≤ 100000 by have := HN10.out; have := HN11.out; have := HN12.out; rw [hys]; simp only [List.length_append, twoL_length, fourL_length, gapL_length, List.length_cons, List.length_nil]; omega)
  have HYS := Lh hys
  clear X hys
  refine grow_region (B := rvAB6) [0, 1, 2, 3, 4, 5, 6, 7, 8] [3, 7, 8] (fun s v W => RX w2 (match s with | 0 => ys | 1 => ys ++ fourL [x.f2] | 2 => ys ++ fourL [x.f2] ++ twoL [x.f3] | _ => ys ++ fourL [x.f2] ++ twoL [x.f3]) v W) (.slice none 0 0) (fun vs => [(0, 23, .slice none 0 0), (1, 24, .pointer (some ⟨g, 2, none⟩)), (2, 25, .int .u32 x.f2), (3, 26, vs 1), (4, 27, .pointer (some ⟨g, 3, none⟩)), (5, 28, .int .u16 x.f3), (6, 29, .int .u32 (IntKind.u32.wrap x.f3)), (7, 30, vs 2), (8, 3, vs 3)]) (by kernel_rfl) rfl (l := #[false, false, false, false, false, false, false, false, false]) rfl rvAtab6 rvAbits6 (by kernel_rfl) (by kernel_rfl) (fun _ => rfl) rfl ?_ ?_ ?_
  ·exact HX.out.drewN 1
  ·exact steps_cons (gr_op (p := 3) (fun w => Below w2.heap.size w2 w) 0 0 rfl rfl rfl (fun _ => rfl) (fun _ => rfl) rfl (u := .slice none 0 0) (rd_not (p := 3) 8 (by kernel_rfl) (fun _ => rfl) rfl) (fun s x w h => RX.bl h) (fun a w hJ e => by go_simp)) (steps_cons (gr_op (p := 1) (fun w => Below w2.heap.size w2 w) 1 1 rfl rfl rfl (fun _ => rfl) (fun _ => rfl) rfl (u := .pointer (some ⟨g, 0, none⟩)) (rd_off (p := 1) (fun _ => rfl) rfl) (fun s x w h => RX.bl h) (fun a w hJ e => by go_simp)) (steps_cons (gr_op (p := 24) (fun w => Below w2.heap.size w2 w) 2 2 rfl rfl rfl (fun _ => rfl) (fun _ => rfl) rfl (u := .pointer (some ⟨g, 2, none⟩)) (rd_on (p := 24) 1 1 (fun _ => rfl) (fun _ => rfl) (by kernel_rfl) rfl) (fun s x w h => RX.bl h) (fun a w hJ e => by have hs : w.cell? ⟨g, 2, none⟩ = some (.int .u32 x.f2) := blk_cell (blk_below HB0.out hJ) 2; go_simp)) (steps_cons (gr_call (vals := [.int .u32 x.f2, .int .i64 4]) 3 3 0 rfl rfl rfl rfl (fun _ => rfl) (fun _ _ => rfl) (fun _ => rfl) rfl (by kernel_rfl) Tryd.func63 (by kernel_rfl) rfl rfl rfl (fv := fun vs => .slice none 0 0) (rd_on (p := 23) 0 0 (fun _ => rfl) (fun _ => rfl) (by kernel_rfl) rfl) (fun _ h => h.symm) (ar_t (rd_on (p := 25) 2 2 (fun _ => rfl) (fun _ => rfl) (by kernel_rfl) rfl) (ar_c (.int .i64 4) (ar_n))) (fun u w h => h.four _ (by have := HYL.out; (try simp only [List.length_append, twoL_length, fourL_length, List.length_cons, List.length_nil]); omega))) (steps_cons (gr_op (p := 1) (fun w => Below w2.heap.size w2 w) 4 4 rfl rfl rfl (fun _ => rfl) (fun _ => rfl) rfl (u := .pointer (some ⟨g, 0, none⟩)) (rd_off (p := 1) (fun _ => rfl) rfl) (fun s x w h => RX.bl h) (fun a w hJ e => by go_simp)) (steps_cons (gr_op (p := 27) (fun w => Below w2.heap.size w2 w) 5 5 rfl rfl rfl (fun _ => rfl) (fun _ => rfl) rfl (u := .pointer (some ⟨g, 3, none⟩)) (rd_on (p := 27) 4 4 (fun _ => rfl) (fun _ => rfl) (by kernel_rfl) rfl) (fun s x w h => RX.bl h) (fun a w hJ e => by have hs : w.cell? ⟨g, 3, none⟩ = some (.int .u16 x.f3) := blk_cell (blk_below HB0.out hJ) 3; go_simp)) (steps_cons (gr_op (p := 28) (fun w => Below w2.heap.size w2 w) 6 6 rfl rfl rfl (fun _ => rfl) (fun _ => rfl) rfl (u := .int .u16 x.f3) (rd_on (p := 28) 5 5 (fun _ => rfl) (fun _ => rfl) (by kernel_rfl) rfl) (fun s x w h => RX.bl h) (fun a w hJ e => by go_simp)) (steps_cons (gr_call (vals := [.int .u32 (IntKind.u32.wrap x.f3), .int .i64 2]) 7 7 1 rfl rfl rfl rfl (fun _ => rfl) (fun _ _ => rfl) (fun _ => rfl) rfl (by kernel_rfl) Tryd.func63 (by kernel_rfl) rfl rfl rfl (fv := fun vs => vs 1) (rd_on (p := 26) 3 3 (fun _ => rfl) (fun _ => rfl) (by kernel_rfl) rfl) (fun _ _ => rfl) (ar_t (rd_on (p := 29) 6 6 (fun _ => rfl) (fun _ => rfl) (by kernel_rfl) rfl) (ar_c (.int .i64 2) (ar_n))) (fun u w h => h.two _ _ (two32 _) (by have := HYL.out; (try simp only [List.length_append, twoL_length, fourL_length, List.length_cons, List.length_nil]); omega))) (steps_cons (gr_last 8 8 2 rfl rfl rfl rfl (fun _ => rfl) (fun _ _ => rfl) (fun _ => rfl) rfl (by kernel_rfl) (fv := fun vs => vs 2) (rd_on (p := 30) 7 7 (fun _ => rfl) (fun _ => rfl) (by kernel_rfl) rfl) (fun _ _ => rfl) (fun a w u e => by go_simp) (fun _ _ h => h)) steps_nil))))))))
  intro vs1 W1 hX9
  have HRR := Lh hX9
  clear hX9
  simp only [putSel, if_true, Act.put, List.setIfInBounds_toArray, List.set_cons_zero, List.set_cons_succ]
  obtain ⟨u1_, hu⟩ : ∃ u, vs1 3 = u := ⟨_, rfl⟩
  replace HRR := Lh (show RX w2 (ys ++ fourL [x.f2] ++ twoL [x.f3]) (vs1 3) W1 from HRR.out)
  rw [hu] at HRR ⊢
  clear hu
  have X := HRR.out
  rw [HYS.out] at X
  clear HRR HYS HX HYL
  clear ys
  go_upto_region 7 with (fail)
  obtain ⟨ys, hys⟩ : ∃ ys : List Int, ys = [] ++ fourL [x.f2] ++ twoL [x.f3] := ⟨_, rfl⟩
  have HX := Lh X
  rw [← hys] at HX
  have HYL := Lh (show ys.length ≤ 100000 by have := HN10.out; have := HN11.out; have := HN12.out; rw [hys]; simp only [List.length_append, twoL_length, fourL_length, gapL_length, List.length_cons, List.length_nil]; omega)
  have HYS := Lh hys
  clear X hys
  refine grow_region (B := rvBB7) [0, 1, 2, 3, 4, 5, 6, 7, 8] [4, 7, 8] (fun s v W => RX w2 (match s with | 0 => ys | 1 => ys ++ twoL [x.f4] | 2 => ys ++ twoL [x.f4] ++ fourL [x.f5] | _ => ys ++ twoL [x.f4] ++ fourL [x.f5]) v W) (u1_) (fun vs => [(0, 31, u1_), (1, 32, .pointer (some ⟨g, 4, none⟩)), (2, 33, .int .u16 x.f4), (3, 34, .int .u32 (IntKind.u32.wrap x.f4)), (4, 35, vs 1), (5, 36, .pointer (some ⟨g, 5, none⟩)), (6, 37, .int .u32 x.f5), (7, 38, vs 2), (8, 3, vs 3)]) (by kernel_rfl) rfl (l := #[false, false, false, false, false, false, false, false, false]) rfl rvBtab7 rvBbits7 (by kernel_rfl) (by kernel_rfl) (fun _ => rfl) rfl ?_ ?_ ?_
  ·exact HX.out.drewN 1
  ·exact steps_cons (gr_op (p := 3) (fun w => Below w2.heap.size w2 w) 0 0 rfl rfl rfl (fun _ => rfl) (fun _ => rfl) rfl (u := u1_) (rd_not (p := 3) 8 (by kernel_rfl) (fun _ => rfl) rfl) (fun s x w h => RX.bl h) (fun a w hJ e => by go_simp)) (steps_cons (gr_op (p := 1) (fun w => Below w2.heap.size w2 w) 1 1 rfl rfl rfl (fun _ => rfl) (fun _ => rfl) rfl (u := .pointer (some ⟨g, 0, none⟩)) (rd_off (p := 1) (fun _ => rfl) rfl) (fun s x w h => RX.bl h) (fun a w hJ e => by go_simp)) (steps_cons (gr_op (p := 32) (fun w => Below w2.heap.size w2 w) 2 2 rfl rfl rfl (fun _ => rfl) (fun _ => rfl) rfl (u := .pointer (some ⟨g, 4, none⟩)) (rd_on (p := 32) 1 1 (fun _ => rfl) (fun _ => rfl) (by kernel_rfl) rfl) (fun s x w h => RX.bl h) (fun a w hJ e => by have hs : w.cell? ⟨g, 4, none⟩ = some (.int .u16 x.f4) := blk_cell (blk_below HB0.out hJ) 4; go_simp)) (steps_cons (gr_op (p := 33) (fun w => Below w2.heap.size w2 w) 3 3 rfl rfl rfl (fun _ => rfl) (fun _ => rfl) rfl (u := .int .u16 x.f4) (rd_on (p := 33) 2 2 (fun _ => rfl) (fun _ => rfl) (by kernel_rfl) rfl) (fun s x w h => RX.bl h) (fun a w hJ e => by go_simp)) (steps_cons (gr_call (vals := [.int .u32 (IntKind.u32.wrap x.f4), .int .i64 2]) 4 4 0 rfl rfl rfl rfl (fun _ => rfl) (fun _ _ => rfl) (fun _ => rfl) rfl (by kernel_rfl) Tryd.func63 (by kernel_rfl) rfl rfl rfl (fv := fun vs => u1_) (rd_on (p := 31) 0 0 (fun _ => rfl) (fun _ => rfl) (by kernel_rfl) rfl) (fun _ h => h.symm) (ar_t (rd_on (p := 34) 3 3 (fun _ => rfl) (fun _ => rfl) (by kernel_rfl) rfl) (ar_c (.int .i64 2) (ar_n))) (fun u w h => h.two _ _ (two32 _) (by have := HYL.out; (try simp only [List.length_append, twoL_length, fourL_length, List.length_cons, List.length_nil]); omega))) (steps_cons (gr_op (p := 1) (fun w => Below w2.heap.size w2 w) 5 5 rfl rfl rfl (fun _ => rfl) (fun _ => rfl) rfl (u := .pointer (some ⟨g, 0, none⟩)) (rd_off (p := 1) (fun _ => rfl) rfl) (fun s x w h => RX.bl h) (fun a w hJ e => by go_simp)) (steps_cons (gr_op (p := 36) (fun w => Below w2.heap.size w2 w) 6 6 rfl rfl rfl (fun _ => rfl) (fun _ => rfl) rfl (u := .pointer (some ⟨g, 5, none⟩)) (rd_on (p := 36) 5 5 (fun _ => rfl) (fun _ => rfl) (by kernel_rfl) rfl) (fun s x w h => RX.bl h) (fun a w hJ e => by have hs : w.cell? ⟨g, 5, none⟩ = some (.int .u32 x.f5) := blk_cell (blk_below HB0.out hJ) 5; go_simp)) (steps_cons (gr_call (vals := [.int .u32 x.f5, .int .i64 4]) 7 7 1 rfl rfl rfl rfl (fun _ => rfl) (fun _ _ => rfl) (fun _ => rfl) rfl (by kernel_rfl) Tryd.func63 (by kernel_rfl) rfl rfl rfl (fv := fun vs => vs 1) (rd_on (p := 35) 4 4 (fun _ => rfl) (fun _ => rfl) (by kernel_rfl) rfl) (fun _ _ => rfl) (ar_t (rd_on (p := 37) 6 6 (fun _ => rfl) (fun _ => rfl) (by kernel_rfl) rfl) (ar_c (.int .i64 4) (ar_n))) (fun u w h => h.four _ (by have := HYL.out; (try simp only [List.length_append, twoL_length, fourL_length, List.length_cons, List.length_nil]); omega))) (steps_cons (gr_last 8 8 2 rfl rfl rfl rfl (fun _ => rfl) (fun _ _ => rfl) (fun _ => rfl) rfl (by kernel_rfl) (fv := fun vs => vs 2) (rd_on (p := 38) 7 7 (fun _ => rfl) (fun _ => rfl) (by kernel_rfl) rfl) (fun _ _ => rfl) (fun a w u e => by go_simp) (fun _ _ h => h)) steps_nil))))))))
  intro vs2 W2 hX9
  have HRR := Lh hX9
  clear hX9
  simp only [putSel, if_true, Act.put, List.setIfInBounds_toArray, List.set_cons_zero, List.set_cons_succ]
  obtain ⟨u2_, hu⟩ : ∃ u, vs2 3 = u := ⟨_, rfl⟩
  replace HRR := Lh (show RX w2 (ys ++ twoL [x.f4] ++ fourL [x.f5]) (vs2 3) W2 from HRR.out)
  rw [hu] at HRR ⊢
  clear hu
  have X := HRR.out
  rw [HYS.out] at X
  clear HRR HYS HX HYL
  clear ys
  go_upto_region 8 with (fail)
  obtain ⟨ys, hys⟩ : ∃ ys : List Int, ys = [] ++ fourL [x.f2] ++ twoL [x.f3] ++ twoL [x.f4] ++ fourL [x.f5] := ⟨_, rfl⟩
  have HX := Lh X
  rw [← hys] at HX
  have HYL := Lh (show ys.length ≤ 1000 by have := HN10.out; have := HN11.out; have := HN12.out; rw [hys]; simp only [List.length_append, twoL_length, fourL_length, gapL_length, List.length_cons, List.length_nil]; omega)
  have HYS := Lh hys
  clear X hys
  have k13 : W2.cell? ⟨g, 13, none⟩ = some (.slice L.A13 x.f13.length L.c13) := blk_cell (blk_below HB0.out HX.out.bl) 13
  obtain ⟨Au, cu, hu⟩ := Kd.R_slice HX.out.r
  have HV := Lh HX.out
  rw [hu] at HV
  subst hu
  have HRC := Lh HX.out.r
  have HBC := Lh HX.out.bl
  go_wp2_with (at_builtin; go_must (refine Kd.R_append_row (Value.int .u8) (0 : Int) (w0 := w2) (W := W2) w2.heap.size rfl _ _ 27 5 _ 1 rfl Tryd.underlying27 info_u8 rfl (by decide) (.slice Au ys.length cu) ys x.f13 L.A13 _ L.c13 (fun _ => True) rfl rfl (fun _ _ => trivial) HRC.out (Kd.C_below HD13.out HBC.out) HBC.out HBC.out.size (by have := HYL.out; have := HN13.out; omega) ?_); (intro v1 w1 hR1 hB1 hG1 _; have HR1 := Lh hR1; have HB1 := Lh hB1; clear hR1 hB1 hG1; refine RowKit.Hid.out ?_))
  refine Lh ?_
  go_wp2
  go_ret
  rw [HYS.out] at HR1
  subst hg
  exact HFIN.out _ _ _ HB1.out HR1.out (by rw [HVD.out])
 have n0 := h
 clear h
 by_cases h : x.f0 = 1
 ·have q0 : (x.f0 == 0) = false := by simp; omega
  have q1 : (x.f0 == 1) = true := by simp [h]
  have HVD := Lh (show valueD x = [] ++ fourL [x.f6] ++ fourL [x.f7] ++ twoL [x.f8] ++ twoL [x.f9] ++ fourL [x.f2] ++ (encP x.f14).1 from by unfold valueD; rw [if_neg (by omega), if_pos (by omega)]; simp only [List.nil_append, List.append_assoc, two2, four2])
  go_upto_region 11 with (fail)
  obtain ⟨ys, hys⟩ : ∃ ys : List Int, ys = [] := ⟨_, rfl⟩
  have HX := Lh X
  rw [← hys] at HX
  have HYL := Lh (show ys.length ≤ 100000 by have := HN10.out; have := HN11.out; have := HN12.out; rw [hys]; simp only [List.length_append, twoL_length, fourL_length, gapL_length, List.length_cons, List.length_nil]; omega)
  have HYS := Lh hys
  clear X hys
  refine grow_region (B := rvCB11) [0, 1, 2, 3, 4, 5, 6, 7] [3, 6, 7] (fun s v W => RX w2 (match s with | 0 => ys | 1 => ys ++ fourL [x.f6] | 2 => ys ++ fourL [x.f6] ++ fourL [x.f7] | _ => ys ++ fourL [x.f6] ++ fourL [x.f7]) v W) (.slice none 0 0) (fun vs => [(0, 46, .slice none 0 0), (1, 47, .pointer (some ⟨g, 6, none⟩)), (2, 48, .int .u32 x.f6), (3, 49, vs 1), (4, 50, .pointer (some ⟨g, 7, none⟩)), (5, 51, .int .u32 x.f7), (6, 52, vs 2), (7, 3, vs 3)]) (by kernel_rfl) rfl (l := #[false, false, false, false, false, false, false, false]) rfl rvCtab11 rvCbits11 (by kernel_rfl) (by kernel_rfl) (fun _ => rfl) rfl ?_ ?_ ?_
  ·exact HX.out.drewN 1
  ·exact steps_cons (gr_op (p := 3) (fun w => Below w2.heap.size w2 w) 0 0 rfl rfl rfl (fun _ => rfl) (fun _ => rfl) rfl (u := .slice none 0 0) (rd_not (p := 3) 7 (by kernel_rfl) (fun _ => rfl) rfl) (fun s x w h => RX.bl h) (fun a w hJ e => by go_simp)) (steps_cons (gr_op (p := 1) (fun w => Below w2.heap.size w2 w) 1 1 rfl rfl rfl (fun _ => rfl) (fun _ => rfl) rfl (u := .pointer (some ⟨g, 0, none⟩)) (rd_off (p := 1) (fun _ => rfl) rfl) (fun s x w h => RX.bl h) (fun a w hJ e => by go_simp)) (steps_cons (gr_op (p := 47) (fun w => Below w2.heap.size w2 w) 2 2 rfl rfl rfl (fun _ => rfl) (fun _ => rfl) rfl (u := .pointer (some ⟨g, 6, none⟩)) (rd_on (p := 47) 1 1 (fun _ => rfl) (fun _ => rfl) (by kernel_rfl) rfl) (fun s x w h => RX.bl h) (fun a w hJ e => by have hs : w.cell? ⟨g, 6, none⟩ = some (.int .u32 x.f6) := blk_cell (blk_below HB0.out hJ) 6; go_simp)) (steps_cons (gr_call (vals := [.int .u32 x.f6, .int .i64 4]) 3 3 0 rfl rfl rfl rfl (fun _ => rfl) (fun _ _ => rfl) (fun _ => rfl) rfl (by kernel_rfl) Tryd.func63 (by kernel_rfl) rfl rfl rfl (fv := fun vs => .slice none 0 0) (rd_on (p := 46) 0 0 (fun _ => rfl) (fun _ => rfl) (by kernel_rfl) rfl) (fun _ h => h.symm) (ar_t (rd_on (p := 48) 2 2 (fun _ => rfl) (fun _ => rfl) (by kernel_rfl) rfl) (ar_c (.int .i64 4) (ar_n))) (fun u w h => h.four _ (by have := HYL.out; (try simp only [List.length_append, twoL_length, fourL_length, List.length_cons, List.length_nil]); omega))) (steps_cons (gr_op (p := 1) (fun w => Below w2.heap.size w2 w) 4 4 rfl rfl rfl (fun _ => rfl) (fun _ => rfl) rfl (u := .pointer (some ⟨g, 0, none⟩)) (rd_off (p := 1) (fun _ => rfl) rfl) (fun s x w h => RX.bl h) (fun a w hJ e => by go_simp)) (steps_cons (gr_op (p := 50) (fun w => Below w2.heap.size w2 w) 5 5 rfl rfl rfl (fun _ => rfl) (fun _ => rfl) rfl (u := .pointer (some ⟨g, 7, none⟩)) (rd_on (p := 50) 4 4 (fun _ => rfl) (fun _ => rfl) (by kernel_rfl) rfl) (fun s x w h => RX.bl h) (fun a w hJ e => by have hs : w.cell? ⟨g, 7, none⟩ = some (.int .u32 x.f7) := blk_cell (blk_below HB0.out hJ) 7; go_simp)) (steps_cons (gr_call (vals := [.int .u32 x.f7, .int .i64 4]) 6 6 1 rfl rfl rfl rfl (fun _ => rfl) (fun _ _ => rfl) (fun _ => rfl) rfl (by kernel_rfl) Tryd.func63 (by kernel_rfl) rfl rfl rfl (fv := fun vs => vs 1) (rd_on (p := 49) 3 3 (fun _ => rfl) (fun _ => rfl) (by kernel_rfl) rfl) (fun _ _ => rfl) (ar_t (rd_on (p := 51) 5 5 (fun _ => rfl) (fun _ => rfl) (by kernel_rfl) rfl) (ar_c (.int .i64 4) (ar_n))) (fun u w h => h.four _ (by have := HYL.out; (try simp only [List.length_append, twoL_length, fourL_length, List.length_cons, List.length_nil]); omega))) (steps_cons (gr_last 7 7 2 rfl rfl rfl rfl (fun _ => rfl) (fun _ _ => rfl) (fun _ => rfl) rfl (by kernel_rfl) (fv := fun vs => vs 2) (rd_on (p := 52) 6 6 (fun _ => rfl) (fun _ => rfl) (by kernel_rfl) rfl) (fun _ _ => rfl) (fun a w u e => by go_simp) (fun _ _ h => h)) steps_nil)))))))
  intro vs1 W1 hX9
  have HRR := Lh hX9
  clear hX9
  simp only [putSel, if_true, Act.put, List.setIfInBounds_toArray, List.set_cons_zero, List.set_cons_succ]
  obtain ⟨u1_, hu⟩ : ∃ u, vs1 3 = u := ⟨_, rfl⟩
  replace HRR := Lh (show RX w2 (ys ++ fourL [x.f6] ++ fourL [x.f7]) (vs1 3) W1 from HRR.out)
  rw [hu] at HRR ⊢
  clear hu
  have X := HRR.out
  rw [HYS.out] at X
  clear HRR HYS HX HYL
  clear ys
  go_upto_region 12 with (fail)
  obtain ⟨ys, hys⟩ : ∃ ys : List Int, ys = [] ++ fourL [x.f6] ++ fourL [x.f7] := ⟨_, rfl⟩
  have HX := Lh X
  rw [← hys] at HX
  have HYL := Lh (show ys.length ≤ 100000 by have := HN10.out; have := HN11.out; have := HN12.out; rw [hys]; simp only [List.length_append, twoL_length, fourL_length, gapL_length, List.length_cons, List.length_nil]; omega)
  have HYS := Lh hys
  clear X hys
  refine grow_region (B := rvDB12) [0, 1, 2, 3, 4, 5, 6, 7, 8, 9] [4, 8, 9] (fun s v W => RX w2 (match s with | 0 => ys | 1 => ys ++ twoL [x.f8] | 2 => ys ++ twoL [x.f8] ++ twoL [x.f9] | _ => ys ++ twoL [x.f8] ++ twoL [x.f9]) v W) (u1_) (fun vs => [(0, 53, u1_), (1, 54, .pointer (some ⟨g, 8, none⟩)), (2, 55, .int .u16 x.f8), (3, 56, .int .u32 (IntKind.u32.wrap x.f8)), (4, 57, vs 1), (5, 58, .pointer (some ⟨g, 9, none⟩)), (6, 59, .int .u16 x.f9), (7, 60, .int .u32 (IntKind.u32.wrap x.f9)), (8, 61, vs 2), (9, 3, vs 3)]) (by kernel_rfl) rfl (l := #[false, false, false, false, false, false, false, false, false, false]) rfl rvDtab12 rvDbits12 (by kernel_rfl) (by kernel_rfl) (fun _ => rfl) rfl ?_ ?_ ?_
  ·exact HX.out.drewN 1
  ·exact steps_cons (gr_op (p := 3) (fun w => Below w2.heap.size w2 w) 0 0 rfl rfl rfl (fun _ => rfl) (fun _ => rfl) rfl (u := u1_) (rd_not (p := 3) 9 (by kernel_rfl) (fun _ => rfl) rfl) (fun s x w h => RX.bl h) (fun a w hJ e => by go_simp)) (steps_cons (gr_op (p := 1) (fun w => Below w2.heap.size w2 w) 1 1 rfl rfl rfl (fun _ => rfl) (fun _ => rfl) rfl (u := .pointer (some ⟨g, 0, none⟩)) (rd_off (p := 1) (fun _ => rfl) rfl) (fun s x w h => RX.bl h) (fun a w hJ e => by go_simp)) (steps_cons (gr_op (p := 54) (fun w => Below w2.heap.size w2 w) 2 2 rfl rfl rfl (fun _ => rfl) (fun _ => rfl) rfl (u := .pointer (some ⟨g, 8, none⟩)) (rd_on (p := 54) 1 1 (fun _ => rfl) (fun _ => rfl) (by kernel_rfl) rfl) (fun s x w h => RX.bl h) (fun a w hJ e => by have hs : w.cell? ⟨g, 8, none⟩ = some (.int .u16 x.f8) := blk_cell (blk_below HB0.out hJ) 8; go_simp)) (steps_cons (gr_op (p := 55) (fun w => Below w2.heap.size w2 w) 3 3 rfl rfl rfl (fun _ => rfl) (fun _ => rfl) rfl (u := .int .u16 x.f8) (rd_on (p := 55) 2 2 (fun _ => rfl) (fun _ => rfl) (by kernel_rfl) rfl) (fun s x w h => RX.bl h) (fun a w hJ e => by go_simp)) (steps_cons (gr_call (vals := [.int .u32 (IntKind.u32.wrap x.f8), .int .i64 2]) 4 4 0 rfl rfl rfl rfl (fun _ => rfl) (fun _ _ => rfl) (fun _ => rfl) rfl (by kernel_rfl) Tryd.func63 (by kernel_rfl) rfl rfl rfl (fv := fun vs => u1_) (rd_on (p := 53) 0 0 (fun _ => rfl) (fun _ => rfl) (by kernel_rfl) rfl) (fun _ h => h.symm) (ar_t (rd_on (p := 56) 3 3 (fun _ => rfl) (fun _ => rfl) (by kernel_rfl) rfl) (ar_c (.int .i64 2) (ar_n))) (fun u w h => h.two _ _ (two32 _) (by have := HYL.out; (try simp only [List.length_append, twoL_length, fourL_length, List.length_cons, List.length_nil]); omega))) (steps_cons (gr_op (p := 1) (fun w => Below w2.heap.size w2 w) 5 5 rfl rfl rfl (fun _ => rfl) (fun _ => rfl) rfl (u := .pointer (some ⟨g, 0, none⟩)) (rd_off (p := 1) (fun _ => rfl) rfl) (fun s x w h => RX.bl h) (fun a w hJ e => by go_simp)) (steps_cons (gr_op (p := 58) (fun w => Below w2.heap.size w2 w) 6 6 rfl rfl rfl (fun _ => rfl) (fun _ => rfl) rfl (u := .pointer (some ⟨g, 9, none⟩)) (rd_on (p := 58) 5 5 (fun _ => rfl) (fun _ => rfl) (by kernel_rfl) rfl) (fun s x w h => RX.bl h) (fun a w hJ e => by have hs : w.cell? ⟨g, 9, none⟩ = some (.int .u16 x.f9) := blk_cell (blk_below HB0.out hJ) 9; go_simp)) (steps_cons (gr_op (p := 59) (fun w => Below w2.heap.size w2 w) 7 7 rfl rfl rfl (fun _ => rfl) (fun _ => rfl) rfl (u := .int .u16 x.f9) (rd_on (p := 59) 6 6 (fun _ => rfl) (fun _ => rfl) (by kernel_rfl) rfl) (fun s x w h => RX.bl h) (fun a w hJ e => by go_simp)) (steps_cons (gr_call (vals := [.int .u32 (IntKind.u32.wrap x.f9), .int .i64 2]) 8 8 1 rfl rfl rfl rfl (fun _ => rfl) (fun _ _ => rfl) (fun _ => rfl) rfl (by kernel_rfl) Tryd.func63 (by kernel_rfl) rfl rfl rfl (fv := fun vs => vs 1) (rd_on (p := 57) 4 4 (fun _ => rfl) (fun _ => rfl) (by kernel_rfl) rfl) (fun _ _ => rfl) (ar_t (rd_on (p := 60) 7 7 (fun _ => rfl) (fun _ => rfl) (by kernel_rfl) rfl) (ar_c (.int .i64 2) (ar_n))) (fun u w h => h.two _ _ (two32 _) (by have := HYL.out; (try simp only [List.length_append, twoL_length, fourL_length, List.length_cons, List.length_nil]); omega))) (steps_cons (gr_last 9 9 2 rfl rfl rfl rfl (fun _ => rfl) (fun _ _ => rfl) (fun _ => rfl) rfl (by kernel_rfl) (fv := fun vs => vs 2) (rd_on (p := 61) 8 8 (fun _ => rfl) (fun _ => rfl) (by kernel_rfl) rfl) (fun _ _ => rfl) (fun a w u e => by go_simp) (fun _ _ h => h)) steps_nil)))))))))
  intro vs2 W2 hX9
  have HRR := Lh hX9
  clear hX9
  simp only [putSel, if_true, Act.put, List.setIfInBounds_toArray, List.set_cons_zero, List.set_cons_succ]
  obtain ⟨u2_, hu⟩ : ∃ u, vs2 3 = u := ⟨_, rfl⟩
  replace HRR := Lh (show RX w2 (ys ++ twoL [x.f8] ++ twoL [x.f9]) (vs2 3) W2 from HRR.out)
  rw [hu] at HRR ⊢
  clear hu
  have X := HRR.out
  rw [HYS.out] at X
  clear HRR HYS HX HYL
  clear ys
  go_upto_region 13 with (fail)
  obtain ⟨ys, hys⟩ : ∃ ys : List Int, ys = [] ++ fourL [x.f6] ++ fourL [x.f7] ++ twoL [x.f8] ++ twoL [x.f9] := ⟨_, rfl⟩
  have HX := Lh X
  rw [← hys] at HX
  have HYL := Lh (show ys.length ≤ 100000 by have := HN10.out; have := HN11.out; have := HN12.out; rw [hys]; simp only [List.length_append, twoL_length, fourL_length, gapL_length, List.length_cons, List.length_nil]; omega)
  have HYS := Lh hys
  clear X hys
  have k2 : W2.cell? ⟨g, 2, none⟩ = some (.int .u32 x.f2) := blk_cell (blk_below HB0.out HX.out.bl) 2
  go_wp2_with fail
  refine (HX.out.four _ (by have := HYL.out; (try simp only [List.length_append, twoL_length, fourL_length, List.length_cons, List.length_nil]); omega)).mono ?_
  rintro e W3 ⟨v3_, rfl, hX9⟩
  have HRR := Lh hX9
  clear hX9 k2
  have X := HRR.out
  rw [HYS.out] at X
  clear HRR HYS HX HYL
  clear ys
  obtain ⟨ys, hys⟩ : ∃ ys : List Int, ys = [] ++ fourL [x.f6] ++ fourL [x.f7] ++ twoL [x.f8] ++ twoL [x.f9] ++ fourL [x.f2] := ⟨_, rfl⟩
  have HX := Lh X
  rw [← hys] at HX
  have HYL := Lh (show ys.length ≤ 100000 by have := HN10.out; have := HN11.out; have := HN12.out; rw [hys]; simp only [List.length_append, twoL_length, fourL_length, gapL_length, List.length_cons, List.length_nil]; omega)
  have HYS := Lh hys
  clear X hys
  obtain ⟨Au, cu, hu⟩ := Kd.R_slice HX.out.r
  have HV := Lh HX.out
  rw [hu] at HV
  subst hu
  have HRC := Lh HX.out.r
  have HBC := Lh HX.out.bl
  go_wp2_with (at_builtin; go_must (refine Kd.R_append_row (Value.int .u8) (0 : Int) (w0 := w2) (W := W3) w2.heap.size rfl _ _ 27 5 _ 1 rfl Tryd.underlying27 info_u8 rfl (by decide) (.slice Au ys.length cu) ys (encP x.f14).1 A0 _ c0 (fun _ => True) rfl rfl (fun _ _ => trivial) HRC.out (Kd.C_below HP0.out HBC.out) HBC.out HBC.out.size (by have := HYL.out; have := HNP.out; omega) ?_); (intro v1 w1 hR1 hB1 hG1 _; have HR1 := Lh hR1; have HB1 := Lh hB1; clear hR1 hB1 hG1; refine RowKit.Hid.out ?_))
  refine Lh ?_
  go_wp2
  go_ret
  rw [HYS.out] at HR1
  subst hg
  exact HFIN.out _ _ _ HB1.out HR1.out (by rw [HVD.out])
 have n1 := h
 clear h
 by_cases h : x.f0 = 2
 ·have q0 : (x.f0 == 0) = false := by simp; omega
  have q1 : (x.f0 == 1) = false := by simp; omega
  have q2 : (x.f0 == 2) = true := by simp [h]
  have HVD := Lh (show valueD x = [] ++ fourL [x.f6] ++ fourL [x.f7] ++ twoL [x.f8] ++ twoL [x.f9] ++ fourL [x.f2] ++ (encP x.f14).1 from by unfold valueD; rw [if_neg (by omega), if_pos (by omega)]; simp only [List.nil_append, List.append_assoc, two2, four2])
  go_upto_region 11 with (fail)
  obtain ⟨ys, hys⟩ : ∃ ys : List Int, ys = [] := ⟨_, rfl⟩
  have HX := Lh X
  rw [← hys] at HX
  have HYL := Lh (show ys.length ≤ 100000 by have := HN10.out; have := HN11.out; have := HN12.out; rw [hys]; simp only [List.length_append, twoL_length, fourL_length, gapL_length, List.length_cons, List.length_nil]; omega)
  have HYS := Lh hys
  clear X hys
  refine grow_region (B := rvCxB11) [0, 1, 2, 3, 4, 5, 6, 7] [3, 6, 7] (fun s v W => RX w2 (match s with | 0 => ys | 1 => ys ++ fourL [x.f6] | 2 => ys ++ fourL [x.f6] ++ fourL [x.f7] | _ => ys ++ fourL [x.f6] ++ fourL [x.f7]) v W) (.slice none 0 0) (fun vs => [(0, 46, .slice none 0 0), (1, 47, .pointer (some ⟨g, 6, none⟩)), (2, 48, .int .u32 x.f6), (3, 49, vs 1), (4, 50, .pointer (some ⟨g, 7, none⟩)), (5, 51, .int .u32 x.f7), (6, 52, vs 2), (7, 3, vs 3)]) (by kernel_rfl) rfl (l := #[false, false, false, false, false, false, false, false]) rfl rvCxtab11 rvCxbits11 (by kernel_rfl) (by kernel_rfl) (fun _ => rfl) rfl ?_ ?_ ?_
  ·exact HX.out.drewN 1
  ·exact steps_cons (gr_op (p := 3) (fun w => Below w2.heap.size w2 w) 0 0 rfl rfl rfl (fun _ => rfl) (fun _ => rfl) rfl (u := .slice none 0 0) (rd_not (p := 3) 7 (by kernel_rfl) (fun _ => rfl) rfl) (fun s x w h => RX.bl h) (fun a w hJ e => by go_simp)) (steps_cons (gr_op (p := 1) (fun w => Below w2.heap.size w2 w) 1 1 rfl rfl rfl (fun _ => rfl) (fun _ => rfl) rfl (u := .pointer (some ⟨g, 0, none⟩)) (rd_off (p := 1) (fun _ => rfl) rfl) (fun s x w h => RX.bl h) (fun a w hJ e => by go_simp)) (steps_cons (gr_op (p := 47) (fun w => Below w2.heap.size w2 w) 2 2 rfl rfl rfl (fun _ => rfl) (fun _ => rfl) rfl (u := .pointer (some ⟨g, 6, none⟩)) (rd_on (p := 47) 1 1 (fun _ => rfl) (fun _ => rfl) (by kernel_rfl) rfl) (fun s x w h => RX.bl h) (fun a w hJ e => by have hs : w.cell? ⟨g, 6, none⟩ = some (.int .u32 x.f6) := blk_cell (blk_below HB0.out hJ) 6; go_simp)) (steps_cons (gr_call (vals := [.int .u32 x.f6, .int .i64 4]) 3 3 0 rfl rfl rfl rfl (fun _ => rfl) (fun _ _ => rfl) (fun _ => rfl) rfl (by kernel_rfl) Tryd.func63 (by kernel_rfl) rfl rfl rfl (fv := fun vs => .slice none 0 0) (rd_on (p := 46) 0 0 (fun _ => rfl) (fun _ => rfl) (by kernel_rfl) rfl) (fun _ h => h.symm) (ar_t (rd_on (p := 48) 2 2 (fun _ => rfl) (fun _ => rfl) (by kernel_rfl) rfl) (ar_c (.int .i64 4) (ar_n))) (fun u w h => h.four _ (by have := HYL.out; (try simp only [List.length_append, twoL_length, fourL_length, List.length_cons, List.length_nil]); omega))) (steps_cons (gr_op (p := 1) (fun w => Below w2.heap.size w2 w) 4 4 rfl rfl rfl (fun _ => rfl) (fun _ => rfl) rfl (u := .pointer (some ⟨g, 0, none⟩)) (rd_off (p := 1) (fun _ => rfl) rfl) (fun s x w h => RX.bl h) (fun a w hJ e => by go_simp)) (steps_cons (gr_op (p := 50) (fun w => Below w2.heap.size w2 w) 5 5 rfl rfl rfl (fun _ => rfl) (fun _ => rfl) rfl (u := .pointer (some ⟨g, 7, none⟩)) (rd_on (p := 50) 4 4 (fun _ => rfl) (fun _ => rfl) (by kernel_rfl) rfl) (fun s x w h => RX.bl h) (fun a w hJ e => by have hs : w.cell? ⟨g, 7, none⟩ = some (.int .u32 x.f7) := blk_cell (blk_below HB0.out hJ) 7; go_simp)) (steps_cons (gr_call (vals := [.int .u32 x.f7, .int .i64 4]) 6 6 1 rfl rfl rfl rfl (fun _ => rfl) (fun _ _ => rfl) (fun _ => rfl) rfl (by kernel_rfl) Tryd.func63 (by kernel_rfl) rfl rfl rfl (fv := fun vs => vs 1) (rd_on (p := 49) 3 3 (fun _ => rfl) (fun _ => rfl) (by kernel_rfl) rfl) (fun _ _ => rfl) (ar_t (rd_on (p := 51) 5 5 (fun _ => rfl) (fun _ => rfl) (by kernel_rfl) rfl) (ar_c (.int .i64 4) (ar_n))) (fun u w h => h.four _ (by have := HYL.out; (try simp only [List.length_append, twoL_length, fourL_length, List.length_cons, List.length_nil]); omega))) (steps_cons (gr_last 7 7 2 rfl rfl rfl rfl (fun _ => rfl) (fun _ _ => rfl) (fun _ => rfl) rfl (by kernel_rfl) (fv := fun vs => vs 2) (rd_on (p := 52) 6 6 (fun _ => rfl) (fun _ => rfl) (by kernel_rfl) rfl) (fun _ _ => rfl) (fun a w u e => by go_simp) (fun _ _ h => h)) steps_nil)))))))
  intro vs1 W1 hX9
  have HRR := Lh hX9
  clear hX9
  simp only [putSel, if_true, Act.put, List.setIfInBounds_toArray, List.set_cons_zero, List.set_cons_succ]
  obtain ⟨u1_, hu⟩ : ∃ u, vs1 3 = u := ⟨_, rfl⟩
  replace HRR := Lh (show RX w2 (ys ++ fourL [x.f6] ++ fourL [x.f7]) (vs1 3) W1 from HRR.out)
  rw [hu] at HRR ⊢
  clear hu
  have X := HRR.out
  rw [HYS.out] at X
  clear HRR HYS HX HYL
  clear ys
  go_upto_region 12 with (fail)
  obtain ⟨ys, hys⟩ : ∃ ys : List Int, ys = [] ++ fourL [x.f6] ++ fourL [x.f7] := ⟨_, rfl⟩
  have HX := Lh X
  rw [← hys] at HX
  have HYL := Lh (show ys.length ≤ 100000 by have := HN10.out; have := HN11.out; have := HN12.out; rw [hys]; simp only [List.length_append, twoL_length, fourL_length, gapL_length, List.length_cons, List.length_nil]; omega)
  have HYS := Lh hys
  clear X hys
  refine grow_region (B := rvDxB12) [0, 1, 2, 3, 4, 5, 6, 7, 8, 9] [4, 8, 9] (fun s v W => RX w2 (match s with | 0 => ys | 1 => ys ++ twoL [x.f8] | 2 => ys ++ twoL [x.f8] ++ twoL [x.f9] | _ => ys ++ twoL [x.f8] ++ twoL [x.f9]) v W) (u1_) (fun vs => [(0, 53, u1_), (1, 54, .pointer (some ⟨g, 8, none⟩)), (2, 55, .int .u16 x.f8), (3, 56, .int .u32 (IntKind.u32.wrap x.f8)), (4, 57, vs 1), (5, 58, .pointer (some ⟨g, 9, none⟩)), (6, 59, .int .u16 x.f9), (7, 60, .int .u32 (IntKind.u32.wrap x.f9)), (8, 61, vs 2), (9, 3, vs 3)]) (by kernel_rfl) rfl (l := #[false, false, false, false, false, false, false, false, false, false]) rfl rvDxtab12 rvDxbits12 (by kernel_rfl) (by kernel_rfl) (fun _ => rfl) rfl ?_ ?_ ?_
  ·exact HX.out.drewN 1
  ·exact steps_cons (gr_op (p := 3) (fun w => Below w2.heap.size w2 w) 0 0 rfl rfl rfl (fun _ => rfl) (fun _ => rfl) rfl (u := u1_) (rd_not (p := 3) 9 (by kernel_rfl) (fun _ => rfl) rfl) (fun s x w h => RX.bl h) (fun a w hJ e => by go_simp)) (steps_cons (gr_op (p := 1) (fun w => Below w2.heap.size w2 w) 1 1 rfl rfl rfl (fun _ => rfl) (fun _ => rfl) rfl (u := .pointer (some ⟨g, 0, none⟩)) (rd_off (p := 1) (fun _ => rfl) rfl) (fun s x w h => RX.bl h) (fun a w hJ e => by go_simp)) (steps_cons (gr_op (p := 54) (fun w => Below w2.heap.size w2 w) 2 2 rfl rfl rfl (fun _ => rfl) (fun _ => rfl) rfl (u := .pointer (some ⟨g, 8, none⟩)) (rd_on (p := 54) 1 1 (fun _ => rfl) (fun _ => rfl) (by kernel_rfl) rfl) (fun s x w h => RX.bl h) (fun a w hJ e => by have hs : w.cell? ⟨g, 8, none⟩ = some (.int .u16 x.f8) := blk_cell (blk_below HB0.out hJ) 8; go_simp)) (steps_cons (gr_op (p := 55) (fun w => Below w2.heap.size w2 w) 3 3 rfl rfl rfl (fun _ => rfl) (fun _ => rfl) rfl (u := .int .u16 x.f8) (rd_on (p := 55) 2 2 (fun _ => rfl) (fun _ => rfl) (by kernel_rfl) rfl) (fun s x w h => RX.bl h) (fun a w hJ e => by go_simp)) (steps_cons (gr_call (vals := [.int .u32 (IntKind.u32.wrap x.f8), .int .i64 2]) 4 4 0 rfl rfl rfl rfl (fun _ => rfl) (fun _ _ => rfl) (fun _ => rfl) rfl (by kernel_rfl) Tryd.func63 (by kernel_rfl) rfl rfl rfl (fv := fun vs => u1_) (rd_on (p := 53) 0 0 (fun _ => rfl) (fun _ => rfl) (by kernel_rfl) rfl) (fun _ h => h.symm) (ar_t (rd_on (p := 56) 3 3 (fun _ => rfl) (fun _ => rfl) (by kernel_rfl) rfl) (ar_c (.int .i64 2) (ar_n))) (fun u w h => h.two _ _ (two32 _) (by have := HYL.out; (try simp only [List.length_append, twoL_length, fourL_length, List.length_cons, List.length_nil]); omega))) (steps_cons (gr_op (p := 1) (fun w => Below w2.heap.size w2 w) 5 5 rfl rfl rfl (fun _ => rfl) (fun _ => rfl) rfl (u := .pointer (some ⟨g, 0, none⟩)) (rd_off (p := 1) (fun _ => rfl) rfl) (fun s x w h => RX.bl h) (fun a w hJ e => by go_simp)) (steps_cons (gr_op (p := 58) (fun w => Below w2.heap.size w2 w) 6 6 rfl rfl rfl (fun _ => rfl) (fun _ => rfl) rfl (u := .pointer (some ⟨g, 9, none⟩)) (rd_on (p := 58) 5 5 (fun _ => rfl) (fun _ => rfl) (by kernel_rfl) rfl) (fun s x w h => RX.bl h) (fun a w hJ e => by have hs : w.cell? ⟨g, 9, none⟩ = some (.int .u16 x.f9) := blk_cell (blk_below HB0.out hJ) 9; go_simp)) (steps_cons (gr_op (p := 59) (fun w => Below w2.heap.size w2 w) 7 7 rfl rfl rfl (fun _ => rfl) (fun _ => rfl) rfl (u := .int .u16 x.f9) (rd_on (p := 59) 6 6 (fun _ => rfl) (fun _ => rfl) (by kernel_rfl) rfl) (fun s x w h => RX.bl h) (fun a w hJ e => by go_simp)) (steps_cons (gr_call (vals := [.int .u32 (IntKind.u32.wrap x.f9), .int .i64 2]) 8 8 1 rfl rfl rfl rfl (fun _ => rfl) (fun _ _ => rfl) (fun _ => rfl) rfl (by kernel_rfl) Tryd.func63 (by kernel_rfl) rfl rfl rfl (fv := fun vs => vs 1) (rd_on (p := 57) 4 4 (fun _ => rfl) (fun _ => rfl) (by kernel_rfl) rfl) (fun _ _ => rfl) (ar_t (rd_on (p := 60) 7 7 (fun _ => rfl) (fun _ => rfl) (by kernel_rfl) rfl) (ar_c (.int .i64 2) (ar_n))) (fun u w h => h.two _ _ (two32 _) (by have := HYL.out; (try simp only [List.length_append, twoL_length, fourL_length, List.length_cons, List.length_nil]); omega))) (steps_cons (gr_last 9 9 2 rfl rfl rfl rfl (fun _ => rfl) (fun _ _ => rfl) (fun _ => rfl) rfl (by kernel_rfl) (fv := fun vs => vs 2) (rd_on (p := 61) 8 8 (fun _ => rfl) (fun _ => rfl) (by kernel_rfl) rfl) (fun _ _ => rfl) (fun a w u e => by go_simp) (fun _ _ h => h)) steps_nil)))))))))
  intro vs2 W2 hX9
  have HRR := Lh hX9
  clear hX9
  simp only [putSel, if_true, Act.put, List.setIfInBounds_toArray, List.set_cons_zero, List.set_cons_succ]
  obtain ⟨u2_, hu⟩ : ∃ u, vs2 3 = u := ⟨_, rfl⟩
  replace HRR := Lh (show RX w2 (ys ++ twoL [x.f8] ++ twoL [x.f9]) (vs2 3) W2 from HRR.out)
  rw [hu] at HRR ⊢
  clear hu
  have X := HRR.out
  rw [HYS.out] at X
  clear HRR HYS HX HYL
  clear ys
  go_upto_region 13 with (fail)
  obtain ⟨ys, hys⟩ : ∃ ys : List Int, ys = [] ++ fourL [x.f6] ++ fourL [x.f7] ++ twoL [x.f8] ++ twoL [x.f9] := ⟨_, rfl⟩
  have HX := Lh X
  rw [← hys] at HX
  have HYL := Lh (show ys.length ≤ 100000 by have := HN10.out; have := HN11.out; have := HN12.out; rw [hys]; simp only [List.length_append, twoL_length, fourL_length, gapL_length, List.length_cons, List.length_nil]; omega)
  have HYS := Lh hys
  clear X hys
  have k2 : W2.cell? ⟨g, 2, none⟩ = some (.int .u32 x.f2) := blk_cell (blk_below HB0.out HX.out.bl) 2
  go_wp2_with fail
  refine (HX.out.four _ (by have := HYL.out; (try simp only [List.length_append, twoL_length, fourL_length, List.length_cons, List.length_nil]); omega)).mono ?_
  rintro e W3 ⟨v3_, rfl, hX9⟩
  have HRR := Lh hX9
  clear hX9 k2
  have X := HRR.out
  rw [HYS.out] at X
  clear HRR HYS HX HYL
  clear ys
  obtain ⟨ys, hys⟩ : ∃ ys : List Int, ys = [] ++ fourL [x.f6] ++ fourL [x.f7] ++ twoL [x.f8] ++ twoL [x.f9] ++ fourL [x.f2] := ⟨_, rfl⟩
  have HX := Lh X
  rw [← hys] at HX
  have HYL := Lh (show ys.length ≤ 100000 by have := HN10.out; have := HN11.out; have := HN12.out; rw [hys]; simp only [List.length_append, twoL_length, fourL_length, gapL_length, List.length_cons, List.length_nil]; omega)
  have HYS := Lh hys
  clear X hys
  obtain ⟨Au, cu, hu⟩ := Kd.R_slice HX.out.r
  have HV := Lh HX.out
  rw [hu] at HV
  subst hu
  have HRC := Lh HX.out.r
  have HBC := Lh HX.out.bl
  go_wp2_with (at_builtin; go_must (refine Kd.R_append_row (Value.int .u8) (0 : Int) (w0 := w2) (W := W3) w2.heap.size rfl _ _ 27 5 _ 1 rfl Tryd.underlying27 info_u8 rfl (by decide) (.slice Au ys.length cu) ys (encP x.f14).1 A0 _ c0 (fun _ => True) rfl rfl (fun _ _ => trivial) HRC.out (Kd.C_below HP0.out HBC.out) HBC.out HBC.out.size (by have := HYL.out; have := HNP.out; omega) ?_); (intro v1 w1 hR1 hB1 hG1 _; have HR1 := Lh hR1; have HB1 := Lh hB1; clear hR1 hB1 hG1; refine RowKit.Hid.out ?_))
  refine Lh ?_
  go_wp2
  go_ret
  rw [HYS.out] at HR1
  subst hg
  exact HFIN.out _ _ _ HB1.out HR1.out (by rw [HVD.out])
 have n2 := h
 clear h
 by_cases h : x.f0 = 3
 ·have q0 : (x.f0 == 0) = false := by simp; omega
  have q1 : (x.f0 == 1) = false := by simp; omega
  have q2 : (x.f0 == 2) = false := by simp; omega
  have q3 : (x.f0 == 3) = true := by simp [h]
  have HVD := Lh (show valueD x = [] ++ fourL [x.f2] ++ fourL [x.f7] ++ twoL [IntKind.u16.wrap (x.f10.length : Int)] ++ twoL [IntKind.u16.wrap (x.f12.length : Int)] ++ twoL (gapL x.f10) ++ fourL x.f12 from by unfold valueD; rw [if_neg (by omega), if_neg (by omega), if_pos h]; simp only [List.nil_append, List.append_assoc, two2, four2])
  go_upto_region 15 with (fail)
  obtain ⟨ys, hys⟩ : ∃ ys : List Int, ys = [] := ⟨_, rfl⟩
  have HX := Lh X
  rw [← hys] at HX
  have HYL := Lh (show ys.length ≤ 100000 by have := HN10.out; have := HN11.out; have := HN12.out; rw [hys]; simp only [List.length_append, twoL_length, fourL_length, gapL_length, List.length_cons, List.length_nil]; omega)
  have HYS := Lh hys
  clear X hys
  refine grow_region (B := rvEB15) [0, 1, 2, 3, 4, 5, 6, 7] [3, 6, 7] (fun s v W => RX w2 (match s with | 0 => ys | 1 => ys ++ fourL [x.f2] | 2 => ys ++ fourL [x.f2] ++ fourL [x.f7] | _ => ys ++ fourL [x.f2] ++ fourL [x.f7]) v W) (.slice none 0 0) (fun vs => [(0, 70, .slice none 0 0), (1, 71, .pointer (some ⟨g, 2, none⟩)), (2, 72, .int .u32 x.f2), (3, 73, vs 1), (4, 74, .pointer (some ⟨g, 7, none⟩)), (5, 75, .int .u32 x.f7), (6, 76, vs 2), (7, 3, vs 3)]) (by kernel_rfl) rfl (l := #[false, false, false, false, false, false, false, false]) rfl rvEtab15 rvEbits15 (by kernel_rfl) (by kernel_rfl) (fun _ => rfl) rfl ?_ ?_ ?_
  ·exact HX.out.drewN 1
  ·exact steps_cons (gr_op (p := 3) (fun w => Below w2.heap.size w2 w) 0 0 rfl rfl rfl (fun _ => rfl) (fun _ => rfl) rfl (u := .slice none 0 0) (rd_not (p := 3) 7 (by kernel_rfl) (fun _ => rfl) rfl) (fun s x w h => RX.bl h) (fun a w hJ e => by go_simp)) (steps_cons (gr_op (p := 1) (fun w => Below w2.heap.size w2 w) 1 1 rfl rfl rfl (fun _ => rfl) (fun _ => rfl) rfl (u := .pointer (some ⟨g, 0, none⟩)) (rd_off (p := 1) (fun _ => rfl) rfl) (fun s x w h => RX.bl h) (fun a w hJ e => by go_simp)) (steps_cons (gr_op (p := 71) (fun w => Below w2.heap.size w2 w) 2 2 rfl rfl rfl (fun _ => rfl) (fun _ => rfl) rfl (u := .pointer (some ⟨g, 2, none⟩)) (rd_on (p := 71) 1 1 (fun _ => rfl) (fun _ => rfl) (by kernel_rfl) rfl) (fun s x w h => RX.bl h) (fun a w hJ e => by have hs : w.cell? ⟨g, 2, none⟩ = some (.int .u32 x.f2) := blk_cell (blk_below HB0.out hJ) 2; go_simp)) (steps_cons (gr_call (vals := [.int .u32 x.f2, .int .i64 4]) 3 3 0 rfl rfl rfl rfl (fun _ => rfl) (fun _ _ => rfl) (fun _ => rfl) rfl (by kernel_rfl) Tryd.func63 (by kernel_rfl) rfl rfl rfl (fv := fun vs => .slice none 0 0) (rd_on (p := 70) 0 0 (fun _ => rfl) (fun _ => rfl) (by kernel_rfl) rfl) (fun _ h => h.symm) (ar_t (rd_on (p := 72) 2 2 (fun _ => rfl) (fun _ => rfl) (by kernel_rfl) rfl) (ar_c (.int .i64 4) (ar_n))) (fun u w h => h.four _ (by have := HYL.out; (try simp only [List.length_append, twoL_length, fourL_length, List.length_cons, List.length_nil]); omega))) (steps_cons (gr_op (p := 1) (fun w => Below w2.heap.size w2 w) 4 4 rfl rfl rfl (fun _ => rfl) (fun _ => rfl) rfl (u := .pointer (some ⟨g, 0, none⟩)) (rd_off (p := 1) (fun _ => rfl) rfl) (fun s x w h => RX.bl h) (fun a w hJ e => by go_simp)) (steps_cons (gr_op (p := 74) (fun w => Below w2.heap.size w2 w) 5 5 rfl rfl rfl (fun _ => rfl) (fun _ => rfl) rfl (u := .pointer (some ⟨g, 7, none⟩)) (rd_on (p := 74) 4 4 (fun _ => rfl) (fun _ => rfl) (by kernel_rfl) rfl) (fun s x w h => RX.bl h) (fun a w hJ e => by have hs : w.cell? ⟨g, 7, none⟩ = some (.int .u32 x.f7) := blk_cell (blk_below HB0.out hJ) 7; go_simp)) (steps_cons (gr_call (vals := [.int .u32 x.f7, .int .i64 4]) 6 6 1 rfl rfl rfl rfl (fun _ => rfl) (fun _ _ => rfl) (fun _ => rfl) rfl (by kernel_rfl) Tryd.func63 (by kernel_rfl) rfl rfl rfl (fv := fun vs => vs 1) (rd_on (p := 73) 3 3 (fun _ => rfl) (fun _ => rfl) (by kernel_rfl) rfl) (fun _ _ => rfl) (ar_t (rd_on (p := 75) 5 5 (fun _ => rfl) (fun _ => rfl) (by kernel_rfl) rfl) (ar_c (.int .i64 4) (ar_n))) (fun u w h => h.four _ (by have := HYL.out; (try simp only [List.length_append, twoL_length, fourL_length, List.length_cons, List.length_nil]); omega))) (steps_cons (gr_last 7 7 2 rfl rfl rfl rfl (fun _ => rfl) (fun _ _ => rfl) (fun _ => rfl) rfl (by kernel_rfl) (fv := fun vs => vs 2) (rd_on (p := 76) 6 6 (fun _ => rfl) (fun _ => rfl) (by kernel_rfl) rfl) (fun _ _ => rfl) (fun a w u e => by go_simp) (fun _ _ h => h)) steps_nil)))))))
  intro vs1 W1 hX9
  have HRR := Lh hX9
  clear hX9
  simp only [putSel, if_true, Act.put, List.setIfInBounds_toArray, List.set_cons_zero, List.set_cons_succ]
  obtain ⟨u1_, hu⟩ : ∃ u, vs1 3 = u := ⟨_, rfl⟩
  replace HRR := Lh (show RX w2 (ys ++ fourL [x.f2] ++ fourL [x.f7]) (vs1 3) W1 from HRR.out)
  rw [hu] at HRR ⊢
  clear hu
  have X := HRR.out
  rw [HYS.out] at X
  clear HRR HYS HX HYL
  clear ys
  go_upto_region 16 with (fail)
  obtain ⟨ys, hys⟩ : ∃ ys : List Int, ys = [] ++ fourL [x.f2] ++ fourL [x.f7] := ⟨_, rfl⟩
  have HX := Lh X
  rw [← hys] at HX
  have HYL := Lh (show ys.length ≤ 100000 by have := HN10.out; have := HN11.out; have := HN12.out; rw [hys]; simp only [List.length_append, twoL_length, fourL_length, gapL_length, List.length_cons, List.length_nil]; omega)
  have HYS := Lh hys
  clear X hys
  refine grow_region (B := rvFB16) [0, 1, 2, 3, 4, 5, 6, 7, 8, 9, 10, 11] [5, 10, 11] (fun s v W => RX w2 (match s with | 0 => ys | 1 => ys ++ twoL [IntKind.u16.wrap (x.f10.length : Int)] | 2 => ys ++ twoL [IntKind.u16.wrap (x.f10.length : Int)] ++ twoL [IntKind.u16.wrap (x.f12.length : Int)] | _ => ys ++ twoL [IntKind.u16.wrap (x.f10.length : Int)] ++ twoL [IntKind.u16.wrap (x.f12.length : Int)]) v W) (u1_) (fun vs => [(0, 77, u1_), (1, 78, .pointer (some ⟨g, 10, none⟩)), (2, 79, .slice L.A10 x.f10.length L.c10), (3, 80, .int .i64 (x.f10.length : Int)), (4, 81, .int .u32 (IntKind.u32.wrap (x.f10.length : Int))), (5, 82, vs 1), (6, 83, .pointer (some ⟨g, 12, none⟩)), (7, 84, .slice L.A12 x.f12.length L.c12), (8, 85, .int .i64 (x.f12.length : Int)), (9, 86, .int .u32 (IntKind.u32.wrap (x.f12.length : Int))), (10, 87, vs 2), (11, 3, vs 3)]) (by kernel_rfl) rfl (l := #[false, false, false, false, false, false, false, false, false, false, false, false]) rfl rvFtab16 rvFbits16 (by kernel_rfl) (by kernel_rfl) (fun _ => rfl) rfl ?_ ?_ ?_
  ·exact HX.out.drewN 1
  ·exact steps_cons (gr_op (p := 3) (fun w => Below w2.heap.size w2 w) 0 0 rfl rfl rfl (fun _ => rfl) (fun _ => rfl) rfl (u := u1_) (rd_not (p := 3) 11 (by kernel_rfl) (fun _ => rfl) rfl) (fun s x w h => RX.bl h) (fun a w hJ e => by go_simp)) (steps_cons (gr_op (p := 1) (fun w => Below w2.heap.size w2 w) 1 1 rfl rfl rfl (fun _ => rfl) (fun _ => rfl) rfl (u := .pointer (some ⟨g, 0, none⟩)) (rd_off (p := 1) (fun _ => rfl) rfl) (fun s x w h => RX.bl h) (fun a w hJ e => by go_simp)) (steps_cons (gr_op (p := 78) (fun w => Below w2.heap.size w2 w) 2 2 rfl rfl rfl (fun _ => rfl) (fun _ => rfl) rfl (u := .pointer (some ⟨g, 10, none⟩)) (rd_on (p := 78) 1 1 (fun _ => rfl) (fun _ => rfl) (by kernel_rfl) rfl) (fun s x w h => RX.bl h) (fun a w hJ e => by have hs : w.cell? ⟨g, 10, none⟩ = some (.slice L.A10 x.f10.length L.c10) := blk_cell (blk_below HB0.out hJ) 10; go_simp)) (steps_cons (gr_op (p := 79) (fun w => Below w2.heap.size w2 w) 3 3 rfl rfl rfl (fun _ => rfl) (fun _ => rfl) rfl (u := .slice L.A10 x.f10.length L.c10) (rd_on (p := 79) 2 2 (fun _ => rfl) (fun _ => rfl) (by kernel_rfl) rfl) (fun s x w h => RX.bl h) (fun a w hJ e => by go_simp)) (steps_cons (gr_op (p := 80) (fun w => Below w2.heap.size w2 w) 4 4 rfl rfl rfl (fun _ => rfl) (fun _ => rfl) rfl (u := .int .i64 (x.f10.length : Int)) (rd_on (p := 80) 3 3 (fun _ => rfl) (fun _ => rfl) (by kernel_rfl) rfl) (fun s x w h => RX.bl h) (fun a w hJ e => by go_simp)) (steps_cons (gr_call (vals := [.int .u32 (IntKind.u32.wrap (x.f10.length : Int)), .int .i64 2]) 5 5 0 rfl rfl rfl rfl (fun _ => rfl) (fun _ _ => rfl) (fun _ => rfl) rfl (by kernel_rfl) Tryd.func63 (by kernel_rfl) rfl rfl rfl (fv := fun vs => u1_) (rd_on (p := 77) 0 0 (fun _ => rfl) (fun _ => rfl) (by kernel_rfl) rfl) (fun _ h => h.symm) (ar_t (rd_on (p := 81) 4 4 (fun _ => rfl) (fun _ => rfl) (by kernel_rfl) rfl) (ar_c (.int .i64 2) (ar_n))) (fun u w h => h.two _ _ ((two32 _).trans (two16 _).symm) (by have := HYL.out; (try simp only [List.length_append, twoL_length, fourL_length, List.length_cons, List.length_nil]); omega))) (steps_cons (gr_op (p := 1) (fun w => Below w2.heap.size w2 w) 6 6 rfl rfl rfl (fun _ => rfl) (fun _ => rfl) rfl (u := .pointer (some ⟨g, 0, none⟩)) (rd_off (p := 1) (fun _ => rfl) rfl) (fun s x w h => RX.bl h) (fun a w hJ e => by go_simp)) (steps_cons (gr_op (p := 83) (fun w => Below w2.heap.size w2 w) 7 7 rfl rfl rfl (fun _ => rfl) (fun _ => rfl) rfl (u := .pointer (some ⟨g, 12, none⟩)) (rd_on (p := 83) 6 6 (fun _ => rfl) (fun _ => rfl) (by kernel_rfl) rfl) (fun s x w h => RX.bl h) (fun a w hJ e => by have hs : w.cell? ⟨g, 12, none⟩ = some (.slice L.A12 x.f12.length L.c12) := blk_cell (blk_below HB0.out hJ) 12; go_simp)) (steps_cons (gr_op (p := 84) (fun w => Below w2.heap.size w2 w) 8 8 rfl rfl rfl (fun _ => rfl) (fun _ => rfl) rfl (u := .slice L.A12 x.f12.length L.c12) (rd_on (p := 84) 7 7 (fun _ => rfl) (fun _ => rfl) (by kernel_rfl) rfl) (fun s x w h => RX.bl h) (fun a w hJ e => by go_simp)) (steps_cons (gr_op (p := 85) (fun w => Below w2.heap.size w2 w) 9 9 rfl rfl rfl (fun _ => rfl) (fun _ => rfl) rfl (u := .int .i64 (x.f12.length : Int)) (rd_on (p := 85) 8 8 (fun _ => rfl) (fun _ => rfl) (by kernel_rfl) rfl) (fun s x w h => RX.bl h) (fun a w hJ e => by go_simp)) (steps_cons (gr_call (vals := [.int .u32 (IntKind.u32.wrap (x.f12.length : Int)), .int .i64 2]) 10 10 1 rfl rfl rfl rfl (fun _ => rfl) (fun _ _ => rfl) (fun _ => rfl) rfl (by kernel_rfl) Tryd.func63 (by kernel_rfl) rfl rfl rfl (fv := fun vs => vs 1) (rd_on (p := 82) 5 5 (fun _ => rfl) (fun _ => rfl) (by kernel_rfl) rfl) (fun _ _ => rfl) (ar_t (rd_on (p := 86) 9 9 (fun _ => rfl) (fun _ => rfl) (by kernel_rfl) rfl) (ar_c (.int .i64 2) (ar_n))) (fun u w h => h.two _ _ ((two32 _).trans (two16 _).symm) (by have := HYL.out; (try simp only [List.length_append, twoL_length, fourL_length, List.length_cons, List.length_nil]); omega))) (steps_cons (gr_last 11 11 2 rfl rfl rfl rfl (fun _ => rfl) (fun _ _ => rfl) (fun _ => rfl) rfl (by kernel_rfl) (fv := fun vs => vs 2) (rd_on (p := 87) 10 10 (fun _ => rfl) (fun _ => rfl) (by kernel_rfl) rfl) (fun _ _ => rfl) (fun a w u e => by go_simp) (fun _ _ h => h)) steps_nil)))))))))))
  intro vs2 W2 hX9
  have HRR := Lh hX9
  clear hX9
  simp only [putSel, if_true, Act.put, List.setIfInBounds_toArray, List.set_cons_zero, List.set_cons_succ]
  obtain ⟨u2_, hu⟩ : ∃ u, vs2 3 = u := ⟨_, rfl⟩
  replace HRR := Lh (show RX w2 (ys ++ twoL [IntKind.u16.wrap (x.f10.length : Int)] ++ twoL [IntKind.u16.wrap (x.f12.length : Int)]) (vs2 3) W2 from HRR.out)
  rw [hu] at HRR ⊢
  clear hu
  have X := HRR.out
  rw [HYS.out] at X
  clear HRR HYS HX HYL
  clear ys
  go_upto_region 17 with (fail)
  obtain ⟨ys, hys⟩ : ∃ ys : List Int, ys = [] ++ fourL [x.f2] ++ fourL [x.f7] ++ twoL [IntKind.u16.wrap (x.f10.length : Int)] ++ twoL [IntKind.u16.wrap (x.f12.length : Int)] := ⟨_, rfl⟩
  have HX := Lh X
  rw [← hys] at HX
  have HYL := Lh (show ys.length ≤ 100000 by have := HN10.out; have := HN11.out; have := HN12.out; rw [hys]; simp only [List.length_append, twoL_length, fourL_length, gapL_length, List.length_cons, List.length_nil]; omega)
  have HYS := Lh hys
  clear X hys
  have k10 : W2.cell? ⟨g, 10, none⟩ = some (.slice L.A10 x.f10.length L.c10) := blk_cell (blk_below HB0.out HX.out.bl) 10
  go_wp2_with fail
  refine (rwgaps_calls w2 W2 _ _ _ _ _ HX.out HG10.out (by have := HYL.out; have := HN10.out; have := HN10.out; (try simp only [List.length_append, twoL_length, fourL_length, gapL_length, List.length_cons, List.length_nil]); omega)).mono ?_
  rintro e W3 ⟨v3_, rfl, hX9⟩
  have HRR := Lh hX9
  clear hX9 k10
  have X := HRR.out
  rw [HYS.out] at X
  clear HRR HYS HX HYL
  clear ys
  go_upto_region 25 with (fail)
  obtain ⟨ys, hys⟩ : ∃ ys : List Int, ys = [] ++ fourL [x.f2] ++ fourL [x.f7] ++ twoL [IntKind.u16.wrap (x.f10.length : Int)] ++ twoL [IntKind.u16.wrap (x.f12.length : Int)] ++ twoL (gapL x.f10) := ⟨_, rfl⟩
  have HX := Lh X
  rw [← hys] at HX
  have HYL := Lh (show ys.length ≤ 100000 by have := HN10.out; have := HN11.out; have := HN12.out; rw [hys]; simp only [List.length_append, twoL_length, fourL_length, gapL_length, List.length_cons, List.length_nil]; omega)
  have HYS := Lh hys
  clear X hys
  have HYL2 := Lh (show ys.length ≤ 100000 from HYL.out)
  have HX2 := HX
  have HYS2 := HYS
  clear HX HYS HYL
  go_wp2
  go_loopw [3, 6] (fun v3 v6 wr => ∃ (i : Nat) (zs : List Int), i ≤ x.f12.length ∧ v6 = .int .i64 (i : Int) ∧ Hid (zs.length = ys.length + 4 * i) ∧ Hid (zs ++ fourL (x.f12.drop i) = ys ++ fourL x.f12) ∧ Hid (RX w2 zs v3 wr)) (fun _ v6 _ => x.f12.length - (intOf v6).toNat)
  case atStart => exact ⟨0, ys, Nat.zero_le _, rfl, (by show _ = _; omega), rfl, HX2.out⟩
  case round =>
   clear HX2
   obtain ⟨i, zs, hi, rfl, HZL, HZE, HZ⟩ := hrel
   have k12 : wr.cell? ⟨g, 12, none⟩ = some (.slice L.A12 x.f12.length L.c12) := blk_cell (blk_below HB0.out HZ.out.bl) 12
   have hm12 := HN12.out
   by_cases hlt : i < x.f12.length
   ·obtain ⟨ad, hA12, x0⟩ := int_at (Kd.C_below HD12.out HZ.out.bl) i hlt
    rw [hA12] at k12
    have hE := HZE.out
    have hd : x.f12.drop i = x.f12.getD i 0 :: x.f12.drop (i + 1) := by
     rw [List.drop_eq_getElem_cons hlt]
     congr 1
     simp [List.getD_eq_getElem?_getD, hlt]
    rw [hd, fourL_cons, ← List.append_assoc] at hE
    generalize x.f12.getD i 0 = q at *
    have HE2 := Lh hE
    have HP := Lh (HZ.out.four q (by have := HZL.out; have := HYL2.out; omega))
    have HL2 := Lh (show (zs ++ fourL [q]).length = ys.length + 4 * (i + 1) by rw [List.length_append, fourL_length]; have := HZL.out; simp; omega)
    clear hE hd HZE hA12 HZL HZ
    go_wp2_with fail
    refine HP.out.mono ?_
    rintro e wn ⟨vn, rfl, hX9⟩
    have HX9 := Lh hX9
    clear hX9 HP k12 x0
    go_wp2
    go_roundw
    case rel => exact ⟨i + 1, _, by omega, by go_num, HL2, HE2, HX9⟩
    case measure => simp [intOf]; omega
   ·obtain rfl : i = x.f12.length := by omega
    have hE := HZE.out
    rw [List.drop_length, show fourL [] = [] from rfl, List.append_nil] at hE
    subst hE
    clear HZE
    go_wp2
    go_ret
    have hX := HZ.out
    rw [HYS2.out] at hX
    subst hg
    exact HFIN.out _ _ _ hX.bl hX.r (by rw [HVD.out])
 have n3 := h
 clear h
 by_cases h : x.f0 = 16
 ·have q0 : (x.f0 == 0) = false := by simp; omega
  have q1 : (x.f0 == 1) = false := by simp; omega
  have q2 : (x.f0 == 2) = false := by simp; omega
  have q3 : (x.f0 == 3) = false := by simp; omega
  have q16 : (x.f0 == 16) = true := by simp [h]
  have HVD := Lh (show valueD x = [] ++ fourL [x.f2] ++ fourL [x.f7] ++ twoL [IntKind.u16.wrap (x.f10.length : Int)] ++ twoL [IntKind.u16.wrap (x.f11.length : Int)] ++ twoL [IntKind.u16.wrap (x.f12.length : Int)] ++ twoL [0] ++ twoL (gapL x.f10) ++ twoL (gapL x.f11) ++ fourL x.f12 from by unfold valueD; rw [if_neg (by omega), if_neg (by omega), if_neg (by omega), if_pos h]; simp only [List.nil_append, List.append_assoc, two4, four2])
  go_upto_region 19 with (fail)
  obtain ⟨ys, hys⟩ : ∃ ys : List Int, ys = [] := ⟨_, rfl⟩
  have HX := Lh X
  rw [← hys] at HX
  have HYL := Lh (show ys.length ≤ 100000 by have := HN10.out; have := HN11.out; have := HN12.out; rw [hys]; simp only [List.length_append, twoL_length, fourL_length, gapL_length, List.length_cons, List.length_nil]; omega)
  have HYS := Lh hys
  clear X hys
  refine grow_region (B := rvGB19) [0, 1, 2, 3, 4, 5, 6, 7] [3, 6, 7] (fun s v W => RX w2 (match s with | 0 => ys | 1 => ys ++ fourL [x.f2] | 2 => ys ++ fourL [x.f2] ++ fourL [x.f7] | _ => ys ++ fourL [x.f2] ++ fourL [x.f7]) v W) (.slice none 0 0) (fun vs => [(0, 94, .slice none 0 0), (1, 95, .pointer (some ⟨g, 2, none⟩)), (2, 96, .int .u32 x.f2), (3, 97, vs 1), (4, 98, .pointer (some ⟨g, 7, none⟩)), (5, 99, .int .u32 x.f7), (6, 100, vs 2), (7, 3, vs 3)]) (by kernel_rfl) rfl (l := #[false, false, false, false, false, false, false, false]) rfl rvGtab19 rvGbits19 (by kernel_rfl) (by kernel_rfl) (fun _ => rfl) rfl ?_ ?_ ?_
  ·exact HX.out.drewN 1
  ·exact steps_cons (gr_op (p := 3) (fun w => Below w2.heap.size w2 w) 0 0 rfl rfl rfl (fun _ => rfl) (fun _ => rfl) rfl (u := .slice none 0 0) (rd_not (p := 3) 7 (by kernel_rfl) (fun _ => rfl) rfl) (fun s x w h => RX.bl h) (fun a w hJ e => by go_simp)) (steps_cons (gr_op (p := 1) (fun w => Below w2.heap.size w2 w) 1 1 rfl rfl rfl (fun _ => rfl) (fun _ => rfl) rfl (u := .pointer (some ⟨g, 0, none⟩)) (rd_off (p := 1) (fun _ => rfl) rfl) (fun s x w h => RX.bl h) (fun a w hJ e => by go_simp)) (steps_cons (gr_op (p := 95) (fun w => Below w2.heap.size w2 w) 2 2 rfl rfl rfl (fun _ => rfl) (fun _ => rfl) rfl (u := .pointer (some ⟨g, 2, none⟩)) (rd_on (p := 95) 1 1 (fun _ => rfl) (fun _ => rfl) (by kernel_rfl) rfl) (fun s x w h => RX.bl h) (fun a w hJ e => by have hs : w.cell? ⟨g, 2, none⟩ = some (.int .u32 x.f2) := blk_cell (blk_below HB0.out hJ) 2; go_simp)) (steps_cons (gr_call (vals := [.int .u32 x.f2, .int .i64 4]) 3 3 0 rfl rfl rfl rfl (fun _ => rfl) (fun _ _ => rfl) (fun _ => rfl) rfl (by kernel_rfl) Tryd.func63 (by kernel_rfl) rfl rfl rfl (fv := fun vs => .slice none 0 0) (rd_on (p := 94) 0 0 (fun _ => rfl) (fun _ => rfl) (by kernel_rfl) rfl) (fun _ h => h.symm) (ar_t (rd_on (p := 96) 2 2 (fun _ => rfl) (fun _ => rfl) (by kernel_rfl) rfl) (ar_c (.int .i64 4) (ar_n))) (fun u w h => h.four _ (by have := HYL.out; (try simp only [List.length_append, twoL_length, fourL_length, List.length_cons, List.length_nil]); omega))) (steps_cons (gr_op (p := 1) (fun w => Below w2.heap.size w2 w) 4 4 rfl rfl rfl (fun _ => rfl) (fun _ => rfl) rfl (u := .pointer (some ⟨g, 0, none⟩)) (rd_off (p := 1) (fun _ => rfl) rfl) (fun s x w h => RX.bl h) (fun a w hJ e => by go_simp)) (steps_cons (gr_op (p := 98) (fun w => Below w2.heap.size w2 w) 5 5 rfl rfl rfl (fun _ => rfl) (fun _ => rfl) rfl (u := .pointer (some ⟨g, 7, none⟩)) (rd_on (p := 98) 4 4 (fun _ => rfl) (fun _ => rfl) (by kernel_rfl) rfl) (fun s x w h => RX.bl h) (fun a w hJ e => by have hs : w.cell? ⟨g, 7, none⟩ = some (.int .u32 x.f7) := blk_cell (blk_below HB0.out hJ) 7; go_simp)) (steps_cons (gr_call (vals := [.int .u32 x.f7, .int .i64 4]) 6 6 1 rfl rfl rfl rfl (fun _ => rfl) (fun _ _ => rfl) (fun _ => rfl) rfl (by kernel_rfl) Tryd.func63 (by kernel_rfl) rfl rfl rfl (fv := fun vs => vs 1) (rd_on (p := 97) 3 3 (fun _ => rfl) (fun _ => rfl) (by kernel_rfl) rfl) (fun _ _ => rfl) (ar_t (rd_on (p := 99) 5 5 (fun _ => rfl) (fun _ => rfl) (by kernel_rfl) rfl) (ar_c (.int .i64 4) (ar_n))) (fun u w h => h.four _ (by have := HYL.out; (try simp only [List.length_append, twoL_length, fourL_length, List.length_cons, List.length_nil]); omega))) (steps_cons (gr_last 7 7 2 rfl rfl rfl rfl (fun _ => rfl) (fun _ _ => rfl) (fun _ => rfl) rfl (by kernel_rfl) (fv := fun vs => vs 2) (rd_on (p := 100) 6 6 (fun _ => rfl) (fun _ => rfl) (by kernel_rfl) rfl) (fun _ _ => rfl) (fun a w u e => by go_simp) (fun _ _ h => h)) steps_nil)))))))
  intro vs1 W1 hX9
  have HRR := Lh hX9
  clear hX9
  simp only [putSel, if_true, Act.put, List.setIfInBounds_toArray, List.set_cons_zero, List.set_cons_succ]
  obtain ⟨u1_, hu⟩ : ∃ u, vs1 3 = u := ⟨_, rfl⟩
  replace HRR := Lh (show RX w2 (ys ++ fourL [x.f2] ++ fourL [x.f7]) (vs1 3) W1 from HRR.out)
  rw [hu] at HRR ⊢
  clear hu
  have X := HRR.out
  rw [HYS.out] at X
  clear HRR HYS HX HYL
  clear ys
  go_upto_region 20 with (fail)
  obtain ⟨ys, hys⟩ : ∃ ys : List Int, ys = [] ++ fourL [x.f2] ++ fourL [x.f7] := ⟨_, rfl⟩
  have HX := Lh X
  rw [← hys] at HX
  have HYL := Lh (show ys.length ≤ 100000 by have := HN10.out; have := HN11.out; have := HN12.out; rw [hys]; simp only [List.length_append, twoL_length, fourL_length, gapL_length, List.length_cons, List.length_nil]; omega)
  have HYS := Lh hys
  clear X hys
  refine grow_region (B := rvHB20) [0, 1, 2, 3, 4, 5, 6, 7, 8, 9, 10, 11] [5, 10, 11] (fun s v W => RX w2 (match s with | 0 => ys | 1 => ys ++ twoL [IntKind.u16.wrap (x.f10.length : Int)] | 2 => ys ++ twoL [IntKind.u16.wrap (x.f10.length : Int)] ++ twoL [IntKind.u16.wrap (x.f11.length : Int)] | _ => ys ++ twoL [IntKind.u16.wrap (x.f10.length : Int)] ++ twoL [IntKind.u16.wrap (x.f11.length : Int)]) v W) (u1_) (fun vs => [(0, 101, u1_), (1, 102, .pointer (some ⟨g, 10, none⟩)), (2, 103, .slice L.A10 x.f10.length L.c10), (3, 104, .int .i64 (x.f10.length : Int)), (4, 105, .int .u32 (IntKind.u32.wrap (x.f10.length : Int))), (5, 106, vs 1), (6, 107, .pointer (some ⟨g, 11, none⟩)), (7, 108, .slice L.A11 x.f11.length L.c11), (8, 109, .int .i64 (x.f11.length : Int)), (9, 110, .int .u32 (IntKind.u32.wrap (x.f11.length : Int))), (10, 111, vs 2), (11, 3, vs 3)]) (by kernel_rfl) rfl (l := #[false, false, false, false, false, false, false, false, false, false, false, false]) rfl rvHtab20 rvHbits20 (by kernel_rfl) (by kernel_rfl) (fun _ => rfl) rfl ?_ ?_ ?_
  ·exact HX.out.drewN 1
  ·exact steps_cons (gr_op (p := 3) (fun w => Below w2.heap.size w2 w) 0 0 rfl rfl rfl (fun _ => rfl) (fun _ => rfl) rfl (u := u1_) (rd_not (p := 3) 11 (by kernel_rfl) (fun _ => rfl) rfl) (fun s x w h => RX.bl h) (fun a w hJ e => by go_simp)) (steps_cons (gr_op (p := 1) (fun w => Below w2.heap.size w2 w) 1 1 rfl rfl rfl (fun _ => rfl) (fun _ => rfl) rfl (u := .pointer (some ⟨g, 0, none⟩)) (rd_off (p := 1) (fun _ => rfl) rfl) (fun s x w h => RX.bl h) (fun a w hJ e => by go_simp)) (steps_cons (gr_op (p := 102) (fun w => Below w2.heap.size w2 w) 2 2 rfl rfl rfl (fun _ => rfl) (fun _ => rfl) rfl (u := .pointer (some ⟨g, 10, none⟩)) (rd_on (p := 102) 1 1 (fun _ => rfl) (fun _ => rfl) (by kernel_rfl) rfl) (fun s x w h => RX.bl h) (fun a w hJ e => by have hs : w.cell? ⟨g, 10, none⟩ = some (.slice L.A10 x.f10.length L.c10) := blk_cell (blk_below HB0.out hJ) 10; go_simp)) (steps_cons (gr_op (p := 103) (fun w => Below w2.heap.size w2 w) 3 3 rfl rfl rfl (fun _ => rfl) (fun _ => rfl) rfl (u := .slice L.A10 x.f10.length L.c10) (rd_on (p := 103) 2 2 (fun _ => rfl) (fun _ => rfl) (by kernel_rfl) rfl) (fun s x w h => RX.bl h) (fun a w hJ e => by go_simp)) (steps_cons (gr_op (p := 104) (fun w => Below w2.heap.size w2 w) 4 4 rfl rfl rfl (fun _ => rfl) (fun _ => rfl) rfl (u := .int .i64 (x.f10.length : Int)) (rd_on (p := 104) 3 3 (fun _ => rfl) (fun _ => rfl) (by kernel_rfl) rfl) (fun s x w h => RX.bl h) (fun a w hJ e => by go_simp)) (steps_cons (gr_call (vals := [.int .u32 (IntKind.u32.wrap (x.f10.length : Int)), .int .i64 2]) 5 5 0 rfl rfl rfl rfl (fun _ => rfl) (fun _ _ => rfl) (fun _ => rfl) rfl (by kernel_rfl) Tryd.func63 (by kernel_rfl) rfl rfl rfl (fv := fun vs => u1_) (rd_on (p := 101) 0 0 (fun _ => rfl) (fun _ => rfl) (by kernel_rfl) rfl) (fun _ h => h.symm) (ar_t (rd_on (p := 105) 4 4 (fun _ => rfl) (fun _ => rfl) (by kernel_rfl) rfl) (ar_c (.int .i64 2) (ar_n))) (fun u w h => h.two _ _ ((two32 _).trans (two16 _).symm) (by have := HYL.out; (try simp only [List.length_append, twoL_length, fourL_length, List.length_cons, List.length_nil]); omega))) (steps_cons (gr_op (p := 1) (fun w => Below w2.heap.size w2 w) 6 6 rfl rfl rfl (fun _ => rfl) (fun _ => rfl) rfl (u := .pointer (some ⟨g, 0, none⟩)) (rd_off (p := 1) (fun _ => rfl) rfl) (fun s x w h => RX.bl h) (fun a w hJ e => by go_simp)) (steps_cons (gr_op (p := 107) (fun w => Below w2.heap.size w2 w) 7 7 rfl rfl rfl (fun _ => rfl) (fun _ => rfl) rfl (u := .pointer (some ⟨g, 11, none⟩)) (rd_on (p := 107) 6 6 (fun _ => rfl) (fun _ => rfl) (by kernel_rfl) rfl) (fun s x w h => RX.bl h) (fun a w hJ e => by have hs : w.cell? ⟨g, 11, none⟩ = some (.slice L.A11 x.f11.length L.c11) := blk_cell (blk_below HB0.out hJ) 11; go_simp)) (steps_cons (gr_op (p := 108) (fun w => Below w2.heap.size w2 w) 8 8 rfl rfl rfl (fun _ => rfl) (fun _ => rfl) rfl (u := .slice L.A11 x.f11.length L.c11) (rd_on (p := 108) 7 7 (fun _ => rfl) (fun _ => rfl) (by kernel_rfl) rfl) (fun s x w h => RX.bl h) (fun a w hJ e => by go_simp)) (steps_cons (gr_op (p := 109) (fun w => Below w2.heap.size w2 w) 9 9 rfl rfl rfl (fun _ => rfl) (fun _ => rfl) rfl (u := .int .i64 (x.f11.length : Int)) (rd_on (p := 109) 8 8 (fun _ => rfl) (fun _ => rfl) (by kernel_rfl) rfl) (fun s x w h => RX.bl h) (fun a w hJ e => by go_simp)) (steps_cons (gr_call (vals := [.int .u32 (IntKind.u32.wrap (x.f11.length : Int)), .int .i64 2]) 10 10 1 rfl rfl rfl rfl (fun _ => rfl) (fun _ _ => rfl) (fun _ => rfl) rfl (by kernel_rfl) Tryd.func63 (by kernel_rfl) rfl rfl rfl (fv := fun vs => vs 1) (rd_on (p := 106) 5 5 (fun _ => rfl) (fun _ => rfl) (by kernel_rfl) rfl) (fun _ _ => rfl) (ar_t (rd_on (p := 110) 9 9 (fun _ => rfl) (fun _ => rfl) (by kernel_rfl) rfl) (ar_c (.int .i64 2) (ar_n))) (fun u w h => h.two _ _ ((two32 _).trans (two16 _).symm) (by have := HYL.out; (try simp only [List.length_append, twoL_length, fourL_length, List.length_cons, List.length_nil]); omega))) (steps_cons (gr_last 11 11 2 rfl rfl rfl rfl (fun _ => rfl) (fun _ _ => rfl) (fun _ => rfl) rfl (by kernel_rfl) (fv := fun vs => vs 2) (rd_on (p := 111) 10 10 (fun _ => rfl) (fun _ => rfl) (by kernel_rfl) rfl) (fun _ _ => rfl) (fun a w u e => by go_simp) (fun _ _ h => h)) steps_nil)))))))))))
  intro vs2 W2 hX9
  have HRR := Lh hX9
  clear hX9
  simp only [putSel, if_true, Act.put, List.setIfInBounds_toArray, List.set_cons_zero, List.set_cons_succ]
  obtain ⟨u2_, hu⟩ : ∃ u, vs2 3 = u := ⟨_, rfl⟩
  replace HRR := Lh (show RX w2 (ys ++ twoL [IntKind.u16.wrap (x.f10.length : Int)] ++ twoL [IntKind.u16.wrap (x.f11.length : Int)]) (vs2 3) W2 from HRR.out)
  rw [hu] at HRR ⊢
  clear hu
  have X := HRR.out
  rw [HYS.out] at X
  clear HRR HYS HX HYL
  clear ys
  go_upto_region 21 with (fail)
  obtain ⟨ys, hys⟩ : ∃ ys : List Int, ys = [] ++ fourL [x.f2] ++ fourL [x.f7] ++ twoL [IntKind.u16.wrap (x.f10.length : Int)] ++ twoL [IntKind.u16.wrap (x.f11.length : Int)] := ⟨_, rfl⟩
  have HX := Lh X
  rw [← hys] at HX
  have HYL := Lh (show ys.length ≤ 100000 by have := HN10.out; have := HN11.out; have := HN12.out; rw [hys]; simp only [List.length_append, twoL_length, fourL_length, gapL_length, List.length_cons, List.length_nil]; omega)
  have HYS := Lh hys
  clear X hys
  have k12 : W2.cell? ⟨g, 12, none⟩ = some (.slice L.A12 x.f12.length L.c12) := blk_cell (blk_below HB0.out HX.out.bl) 12
  go_wp2_with fail
  refine (HX.out.two _ _ ((two32 _).trans (two16 _).symm) (by have := HYL.out; (try simp only [List.length_append, twoL_length, fourL_length, List.length_cons, List.length_nil]); omega)).mono ?_
  rintro e W3 ⟨v3_, rfl, hX9⟩
  have HRR := Lh hX9
  clear hX9 k12
  have X := HRR.out
  rw [HYS.out] at X
  clear HRR HYS HX HYL
  clear ys
  obtain ⟨ys, hys⟩ : ∃ ys : List Int, ys = [] ++ fourL [x.f2] ++ fourL [x.f7] ++ twoL [IntKind.u16.wrap (x.f10.length : Int)] ++ twoL [IntKind.u16.wrap (x.f11.length : Int)] ++ twoL [IntKind.u16.wrap (x.f12.length : Int)] := ⟨_, rfl⟩
  have HX := Lh X
  rw [← hys] at HX
  have HYL := Lh (show ys.length ≤ 100000 by have := HN10.out; have := HN11.out; have := HN12.out; rw [hys]; simp only [List.length_append, twoL_length, fourL_length, gapL_length, List.length_cons, List.length_nil]; omega)
  have HYS := Lh hys
  clear X hys
  go_wp2_with fail
  refine (HX.out.two _ _ rfl (by have := HYL.out; (try simp only [List.length_append, twoL_length, fourL_length, List.length_cons, List.length_nil]); omega)).mono ?_
  rintro e W4 ⟨v4_, rfl, hX9⟩
  have HRR := Lh hX9
  clear hX9
  have X := HRR.out
  rw [HYS.out] at X
  clear HRR HYS HX HYL
  clear ys
  go_upto_region 22 with (fail)
  obtain ⟨ys, hys⟩ : ∃ ys : List Int, ys = [] ++ fourL [x.f2] ++ fourL [x.f7] ++ twoL [IntKind.u16.wrap (x.f10.length : Int)] ++ twoL [IntKind.u16.wrap (x.f11.length : Int)] ++ twoL [IntKind.u16.wrap (x.f12.length : Int)] ++ twoL [0] := ⟨_, rfl⟩
  have HX := Lh X
  rw [← hys] at HX
  have HYL := Lh (show ys.length ≤ 100000 by have := HN10.out; have := HN11.out; have := HN12.out; rw [hys]; simp only [List.length_append, twoL_length, fourL_length, gapL_length, List.length_cons, List.length_nil]; omega)
  have HYS := Lh hys
  clear X hys
  refine grow_region (B := rvIB22) [0, 1, 2, 3, 4, 5, 6, 7] [3, 6, 7] (fun s v W => RX w2 (match s with | 0 => ys | 1 => ys ++ twoL (gapL x.f10) | 2 => ys ++ twoL (gapL x.f10) ++ twoL (gapL x.f11) | _ => ys ++ twoL (gapL x.f10) ++ twoL (gapL x.f11)) v W) (v4_) (fun vs => [(0, 119, v4_), (1, 120, .pointer (some ⟨g, 10, none⟩)), (2, 121, .slice L.A10 x.f10.length L.c10), (3, 122, vs 1), (4, 123, .pointer (some ⟨g, 11, none⟩)), (5, 124, .slice L.A11 x.f11.length L.c11), (6, 125, vs 2), (7, 3, vs 3)]) (by kernel_rfl) rfl (l := #[false, false, false, false, false, false, false, false]) rfl rvItab22 rvIbits22 (by kernel_rfl) (by kernel_rfl) (fun _ => rfl) rfl ?_ ?_ ?_
  ·exact HX.out.drewN 1
  ·exact steps_cons (gr_op (p := 3) (fun w => Below w2.heap.size w2 w) 0 0 rfl rfl rfl (fun _ => rfl) (fun _ => rfl) rfl (u := v4_) (rd_not (p := 3) 7 (by kernel_rfl) (fun _ => rfl) rfl) (fun s x w h => RX.bl h) (fun a w hJ e => by go_simp)) (steps_cons (gr_op (p := 1) (fun w => Below w2.heap.size w2 w) 1 1 rfl rfl rfl (fun _ => rfl) (fun _ => rfl) rfl (u := .pointer (some ⟨g, 0, none⟩)) (rd_off (p := 1) (fun _ => rfl) rfl) (fun s x w h => RX.bl h) (fun a w hJ e => by go_simp)) (steps_cons (gr_op (p := 120) (fun w => Below w2.heap.size w2 w) 2 2 rfl rfl rfl (fun _ => rfl) (fun _ => rfl) rfl (u := .pointer (some ⟨g, 10, none⟩)) (rd_on (p := 120) 1 1 (fun _ => rfl) (fun _ => rfl) (by kernel_rfl) rfl) (fun s x w h => RX.bl h) (fun a w hJ e => by have hs : w.cell? ⟨g, 10, none⟩ = some (.slice L.A10 x.f10.length L.c10) := blk_cell (blk_below HB0.out hJ) 10; go_simp)) (steps_cons (gr_call (vals := [.slice L.A10 x.f10.length L.c10]) 3 3 0 rfl rfl rfl rfl (fun _ => rfl) (fun _ _ => rfl) (fun _ => rfl) rfl (by kernel_rfl) Tryd.func64 (by kernel_rfl) rfl rfl rfl (fv := fun vs => v4_) (rd_on (p := 119) 0 0 (fun _ => rfl) (fun _ => rfl) (by kernel_rfl) rfl) (fun _ h => h.symm) (ar_t (rd_on (p := 121) 2 2 (fun _ => rfl) (fun _ => rfl) (by kernel_rfl) rfl) (ar_n)) (fun u w h => rwgaps_calls w2 w u _ _ _ _ h HG10.out (by have := HYL.out; have := HN10.out; have := HN10.out; (try simp only [List.length_append, twoL_length, fourL_length, gapL_length, List.length_cons, List.length_nil]); omega))) (steps_cons (gr_op (p := 1) (fun w => Below w2.heap.size w2 w) 4 4 rfl rfl rfl (fun _ => rfl) (fun _ => rfl) rfl (u := .pointer (some ⟨g, 0, none⟩)) (rd_off (p := 1) (fun _ => rfl) rfl) (fun s x w h => RX.bl h) (fun a w hJ e => by go_simp)) (steps_cons (gr_op (p := 123) (fun w => Below w2.heap.size w2 w) 5 5 rfl rfl rfl (fun _ => rfl) (fun _ => rfl) rfl (u := .pointer (some ⟨g, 11, none⟩)) (rd_on (p := 123) 4 4 (fun _ => rfl) (fun _ => rfl) (by kernel_rfl) rfl) (fun s x w h => RX.bl h) (fun a w hJ e => by have hs : w.cell? ⟨g, 11, none⟩ = some (.slice L.A11 x.f11.length L.c11) := blk_cell (blk_below HB0.out hJ) 11; go_simp)) (steps_cons (gr_call (vals := [.slice L.A11 x.f11.length L.c11]) 6 6 1 rfl rfl rfl rfl (fun _ => rfl) (fun _ _ => rfl) (fun _ => rfl) rfl (by kernel_rfl) Tryd.func64 (by kernel_rfl) rfl rfl rfl (fv := fun vs => vs 1) (rd_on (p := 122) 3 3 (fun _ => rfl) (fun _ => rfl) (by kernel_rfl) rfl) (fun _ _ => rfl) (ar_t (rd_on (p := 124) 5 5 (fun _ => rfl) (fun _ => rfl) (by kernel_rfl) rfl) (ar_n)) (fun u w h => rwgaps_calls w2 w u _ _ _ _ h HG11.out (by have := HYL.out; have := HN10.out; have := HN11.out; (try simp only [List.length_append, twoL_length, fourL_length, gapL_length, List.length_cons, List.length_nil]); omega))) (steps_cons (gr_last 7 7 2 rfl rfl rfl rfl (fun _ => rfl) (fun _ _ => rfl) (fun _ => rfl) rfl (by kernel_rfl) (fv := fun vs => vs 2) (rd_on (p := 125) 6 6 (fun _ => rfl) (fun _ => rfl) (by kernel_rfl) rfl) (fun _ _ => rfl) (fun a w u e => by go_simp) (fun _ _ h => h)) steps_nil)))))))
  intro vs5 W5 hX9
  have HRR := Lh hX9
  clear hX9
  simp only [putSel, if_true, Act.put, List.setIfInBounds_toArray, List.set_cons_zero, List.set_cons_succ]
  obtain ⟨u5_, hu⟩ : ∃ u, vs5 3 = u := ⟨_, rfl⟩
  replace HRR := Lh (show RX w2 (ys ++ twoL (gapL x.f10) ++ twoL (gapL x.f11)) (vs5 3) W5 from HRR.out)
  rw [hu] at HRR ⊢
  clear hu
  have X := HRR.out
  rw [HYS.out] at X
  clear HRR HYS HX HYL
  clear ys
  go_upto_region 25 with (fail)
  obtain ⟨ys, hys⟩ : ∃ ys : List Int, ys = [] ++ fourL [x.f2] ++ fourL [x.f7] ++ twoL [IntKind.u16.wrap (x.f10.length : Int)] ++ twoL [IntKind.u16.wrap (x.f11.length : Int)] ++ twoL [IntKind.u16.wrap (x.f12.length : Int)] ++ twoL [0] ++ twoL (gapL x.f10) ++ twoL (gapL x.f11) := ⟨_, rfl⟩
  have HX := Lh X
  rw [← hys] at HX
  have HYL := Lh (show ys.length ≤ 100000 by have := HN10.out; have := HN11.out; have := HN12.out; rw [hys]; simp only [List.length_append, twoL_length, fourL_length, gapL_length, List.length_cons, List.length_nil]; omega)
  have HYS := Lh hys
  clear X hys
  have HYL2 := Lh (show ys.length ≤ 100000 from HYL.out)
  have HX2 := HX
  have HYS2 := HYS
  clear HX HYS HYL
  go_wp2
  go_loopw [3, 6] (fun v3 v6 wr => ∃ (i : Nat) (zs : List Int), i ≤ x.f12.length ∧ v6 = .int .i64 (i : Int) ∧ Hid (zs.length = ys.length + 4 * i) ∧ Hid (zs ++ fourL (x.f12.drop i) = ys ++ fourL x.f12) ∧ Hid (RX w2 zs v3 wr)) (fun _ v6 _ => x.f12.length - (intOf v6).toNat)
  case atStart => exact ⟨0, ys, Nat.zero_le _, rfl, (by show _ = _; omega), rfl, HX2.out⟩
  case round =>
   clear HX2
   obtain ⟨i, zs, hi, rfl, HZL, HZE, HZ⟩ := hrel
   have k12 : wr.cell? ⟨g, 12, none⟩ = some (.slice L.A12 x.f12.length L.c12) := blk_cell (blk_below HB0.out HZ.out.bl) 12
   have hm12 := HN12.out
   by_cases hlt : i < x.f12.length
   ·obtain ⟨ad, hA12, x0⟩ := int_at (Kd.C_below HD12.out HZ.out.bl) i hlt
    rw [hA12] at k12
    have hE := HZE.out
    have hd : x.f12.drop i = x.f12.getD i 0 :: x.f12.drop (i + 1) := by
     rw [List.drop_eq_getElem_cons hlt]
     congr 1
     simp [List.getD_eq_getElem?_getD, hlt]
    rw [hd, fourL_cons, ← List.append_assoc] at hE
    generalize x.f12.getD i 0 = q at *
    have HE2 := Lh hE
    have HP := Lh (HZ.out.four q (by have := HZL.out; have := HYL2.out; omega))
    have HL2 := Lh (show (zs ++ fourL [q]).length = ys.length + 4 * (i + 1) by rw [List.length_append, fourL_length]; have := HZL.out; simp; omega)
    clear hE hd HZE hA12 HZL HZ
    go_wp2_with fail
    refine HP.out.mono ?_
    rintro e wn ⟨vn, rfl, hX9⟩
    have HX9 := Lh hX9
    clear hX9 HP k12 x0
    go_wp2
    go_roundw
    case rel => exact ⟨i + 1, _, by omega, by go_num, HL2, HE2, HX9⟩
    case measure => simp [intOf]; omega
   ·obtain rfl : i = x.f12.length := by omega
    have hE := HZE.out
    rw [List.drop_length, show fourL [] = [] from rfl, List.append_nil] at hE
    subst hE
    clear HZE
    go_wp2
    go_ret
    have hX := HZ.out
    rw [HYS2.out] at hX
    subst hg
    exact HFIN.out _ _ _ hX.bl hX.r (by rw [HVD.out])
 have n16 := h
 clear h
 by_cases h : x.f0 = 7
 ·have q0 : (x.f0 == 0) = false := by simp; omega
  have q1 : (x.f0 == 1) = false := by simp; omega
  have q2 : (x.f0 == 2) = false := by simp; omega
  have q3 : (x.f0 == 3) = false := by simp; omega
  have q16 : (x.f0 == 16) = false := by simp; omega
  have q7 : (x.f0 == 7) = true := by simp [h]
  have HVD := Lh (show valueD x = [] ++ fourL [x.f2] from by unfold valueD; rw [if_neg (by omega), if_neg (by omega), if_neg (by omega), if_neg (by omega), if_neg (by omega), if_pos h]; rfl)
  go_upto_region 24 with (fail)
  obtain ⟨ys, hys⟩ : ∃ ys : List Int, ys = [] := ⟨_, rfl⟩
  have HX := Lh X
  rw [← hys] at HX
  have HYL := Lh (show ys.length ≤ 100000 by have := HN10.out; have := HN11.out; have := HN12.out; rw [hys]; simp only [List.length_append, twoL_length, fourL_length, gapL_length, List.length_cons, List.length_nil]; omega)
  have HYS := Lh hys
  clear X hys
  have k2 : w2.cell? ⟨g, 2, none⟩ = some (.int .u32 x.f2) := blk_cell (blk_below HB0.out HX.out.bl) 2
  go_wp2_with fail
  refine (HX.out.four _ (by have := HYL.out; (try simp only [List.length_append, twoL_length, fourL_length, List.length_cons, List.length_nil]); omega)).mono ?_
  rintro e W1 ⟨v1_, rfl, hX9⟩
  have HRR := Lh hX9
  clear hX9 k2
  have X := HRR.out
  rw [HYS.out] at X
  clear HRR HYS HX HYL
  clear ys
  go_wp2
  go_ret
  subst hg
  exact HFIN.out _ _ _ X.bl X.r (by rw [HVD.out])
 have n7 := h
 clear h
 have q0 : (x.f0 == 0) = false := by simp [n0]
 have q1 : (x.f0 == 1) = false := by simp [n1]
 have q2 : (x.f0 == 2) = false := by simp [n2]
 have q3 : (x.f0 == 3) = false := by simp [n3]
 have q16 : (x.f0 == 16) = false := by simp [n16]
 have q7 : (x.f0 == 7) = false := by simp [n7]
 have HVD := Lh (rest_value HB.out n0 n1 n2 n3 n16 n7).1
 have HSUM := Lh ((rest_value HB.out n0 n1 n2 n3 n16 n7).2 HN13.out)
 generalize (encP x.f14).1 = ps at *
 obtain ⟨pl, hpl⟩ : ∃ pl, ps.length = pl := ⟨_, rfl⟩
 rw [hpl]
 have HPL := Lh hpl
 clear hpl
 go_upto_region 4 with (fail)
 have HX := Lh X
 clear X
 refine grow_region (B := rvZB4) [0, 1, 2, 3, 4, 5, 6] [2, 5, 6] (fun s v W => RX w2 (match s with | 0 => [] | 1 => [] ++ ps | _ => [] ++ ps ++ x.f13) v W) (.slice none 0 0) (fun vs => [(0, 15, .slice none 0 0), (1, 16, .slice A0 pl c0), (2, 17, vs 1), (3, 18, .pointer (some ⟨g, 13, none⟩)), (4, 19, .slice L.A13 x.f13.length L.c13), (5, 20, vs 2), (6, 2, vs 3)]) (by kernel_rfl) rfl (l := #[false, false, false, false, false, false, false]) rfl rvZtab4 rvZbits4 (by kernel_rfl) (by kernel_rfl) (fun _ => rfl) rfl ?_ ?_ ?_
 ·exact HX.out.drewN 1
 ·exact steps_cons (gr_op (p := 3) (fun w => Below w2.heap.size w2 w) 0 0 rfl rfl rfl (fun _ => rfl) (fun _ => rfl) rfl (u := .slice none 0 0) (rd_off (p := 3) (fun _ => rfl) rfl) (fun s x w h => RX.bl h) (fun a w hJ e => by go_simp)) (steps_cons (gr_op (p := 4) (fun w => Below w2.heap.size w2 w) 1 1 rfl rfl rfl (fun _ => rfl) (fun _ => rfl) rfl (u := .slice A0 pl c0) (rd_off (p := 4) (fun _ => rfl) rfl) (fun s x w h => RX.bl h) (fun a w hJ e => by go_simp)) (steps_cons (gr_gen (vals := [.slice A0 pl c0]) 2 2 0 rfl rfl rfl rfl (fun _ => rfl) (fun _ _ => rfl) (fun _ => rfl) rfl (by kernel_rfl) (fv := fun vs => .slice none 0 0) (rd_on (p := 15) 0 0 (fun _ => rfl) (fun _ => rfl) (by kernel_rfl) rfl) (fun _ h => h.symm) (ar_t (rd_on (p := 16) 1 1 (fun _ => rfl) (fun _ => rfl) (by kernel_rfl) rfl) (ar_n)) (fun a w K u h e1 e2 hK => by
   obtain ⟨A7, c7, e7⟩ := Kd.R_slice h.r
   subst e7
   refine Kd.R_append_rows_step (Kd.int .u8) (Rr := (Kd.int .u8).K w) (w0 := w2) (W := w) w2.heap.size (by rfl) _ _ 27 5 _ 1 rfl Tryd.underlying27 info_u8 rfl (by decide) (by decide) (.slice A7 ([] : List Int).length c7) [] ps A0 pl c0 (fun _ => True) (fun _ => False) (eval_of e1) (List.cons.inj e2).1 h.r (by have h := Kd.C_below HP0.out h.bl; rw [HPL.out] at h; exact h) (fun _ _ h => h) (fun _ h => h.elim) (fun _ _ => trivial) h.bl h.bl.size (by have := HSUM.out; have := HPL.out; simp; omega) ?_
   intro v1 w1 hR1 hB1 hG1 _
   exact hK v1 w1 ⟨hB1, hR1⟩)) (steps_cons (gr_op (p := 1) (fun w => Below w2.heap.size w2 w) 3 3 rfl rfl rfl (fun _ => rfl) (fun _ => rfl) rfl (u := .pointer (some ⟨g, 0, none⟩)) (rd_off (p := 1) (fun _ => rfl) rfl) (fun s x w h => RX.bl h) (fun a w hJ e => by go_simp)) (steps_cons (gr_op (p := 18) (fun w => Below w2.heap.size w2 w) 4 4 rfl rfl rfl (fun _ => rfl) (fun _ => rfl) rfl (u := .pointer (some ⟨g, 13, none⟩)) (rd_on (p := 18) 3 3 (fun _ => rfl) (fun _ => rfl) (by kernel_rfl) rfl) (fun s x w h => RX.bl h) (fun a w hJ e => by have hs : w.cell? ⟨g, 13, none⟩ = some (.slice L.A13 x.f13.length L.c13) := blk_cell (blk_below HB0.out hJ) 13; go_simp)) (steps_cons (gr_gen (vals := [.slice L.A13 x.f13.length L.c13]) 5 5 1 rfl rfl rfl rfl (fun _ => rfl) (fun _ _ => rfl) (fun _ => rfl) rfl (by kernel_rfl) (fv := fun vs => vs 1) (rd_on (p := 17) 2 2 (fun _ => rfl) (fun _ => rfl) (by kernel_rfl) rfl) (fun _ _ => rfl) (ar_t (rd_on (p := 19) 4 4 (fun _ => rfl) (fun _ => rfl) (by kernel_rfl) rfl) (ar_n)) (fun a w K u h e1 e2 hK => by
   obtain ⟨A7, c7, e7⟩ := Kd.R_slice h.r
   subst e7
   refine Kd.R_append_rows_step (Kd.int .u8) (Rr := (Kd.int .u8).K w) (w0 := w2) (W := w) w2.heap.size (by rfl) _ _ 27 5 _ 1 rfl Tryd.underlying27 info_u8 rfl (by decide) (by decide) (.slice A7 ([] ++ ps).length c7) ([] ++ ps) x.f13 L.A13 x.f13.length L.c13 (fun _ => True) (fun _ => False) (eval_of e1) (List.cons.inj e2).1 h.r (Kd.C_below HD13.out h.bl) (fun _ _ h => h) (fun _ h => h.elim) (fun _ _ => trivial) h.bl h.bl.size (by have := HSUM.out; have := HPL.out; simp; omega) ?_
   intro v1 w1 hR1 hB1 hG1 _
   exact hK v1 w1 ⟨hB1, hR1⟩)) (steps_cons (gr_last 6 6 2 rfl rfl rfl rfl (fun _ => rfl) (fun _ _ => rfl) (fun _ => rfl) rfl (by kernel_rfl) (fv := fun vs => vs 2) (rd_on (p := 20) 5 5 (fun _ => rfl) (fun _ => rfl) (by kernel_rfl) rfl) (fun _ _ => rfl) (fun a w u e => by go_simp) (fun _ _ h => h)) steps_nil))))))
 intro vs W9 hX9
 have HRR := Lh hX9
 clear hX9
 simp only [putSel, if_true, Act.put, List.setIfInBounds_toArray, List.set_cons_zero, List.set_cons_succ]
 go_wp2
 go_ret
 subst hg
 exact HFIN.out _ _ _ HRR.out.bl HRR.out.r HVD.out
end Go.Proofs.YtdlamomabonkjaaDoor.Ch
end
section
namespace Go.Proofs.YtdlamomabonkjaaDoor.Ch
open Go.RowKit YtdlamomabonkjaaDoorW.PrintWords YtdlamomabonkjaaDoorW.PrintLast Base PCh ParDec ParEnc
structure B1 (w : World) (x : Chk) (L : Lay) (W : World) : Prop where
 x0 : W.heap[w.heap.size]? = some (.cells (CV x L) 41 (0, 0))
 x2 : Below w.heap.size w W
theorem B1.cell {w W : World} {x : Chk} {L : Lay} (h : B1 w x L W) (i : Nat) : W.cell? ⟨w.heap.size, i, none⟩ = (CV x L)[i]? := blk_cell h.x0 i
theorem B1.below {w W W' : World} {x : Chk} {L : Lay} (h : B1 w x L W) (hb : Below W.heap.size W W') : B1 w x L W' := ⟨blk_below h.x0 hb, below_then h.x2 h.x2.size hb⟩
theorem B1.drewN {w W : World} {x : Chk} {L : Lay} (h : B1 w x L W) (n : Nat) : B1 w x L (W.drewN n) := ⟨blk_drewN h.x0 n, pw_below_drewN h.x2 n⟩
theorem B1.new (w : World) (x : Chk) (L : Lay) : B1 w x L (w.alloc (.cells (CV x L) 41)) := ⟨blk_new _ _, below_alloc (Below.refl _ _) _⟩
set_option maxHeartbeats 4000000 in
theorem check_calls (w : World) (x : Chk) (L : Lay) (hx : CR w x L) (hv : ValOk x L) :
  Calls Tryd.prog 46 #[.agg (CV x L)] w fun e w' => e = .returned (.int .i64 (checkD x)) ∧ Below w.heap.size w w' := by
 have HBR := Lh (fun (W : World) (h : Below w.heap.size w W) => bare_calls W x L (hx.below h))
 have HSM := Lh (fun (W : World) (h : Below w.heap.size w W) => same_calls W x (bareD x) L (keepL (hasF x.f0) L) (hx.below h) (keep_CR (hx.below h) _ _))
 have HEN := Lh (fun (W : World) (h : Below w.heap.size w W) => encP_calls W L.A14 L.c14 x.f14 (Kd.C_below hx.h14 h) hx.l14)
 have HXC := Lh (fun (W : World) (h : Below w.heap.size w W) => hx.below h)
 have HXS := Lh (show (Tryd.prog.info? 41).map (·.size) = some (CV x L).size by kernel_rfl)
 have HM13 := Lh hx.h13.2.1
 obtain ⟨CD, hcd⟩ : ∃ CD, checkD x = CD := ⟨_, rfl⟩
 have HCD := Lh hcd
 rw [hcd]
 have X := B1.new w x L
 clear hx hcd
 go_enter Tryd.func46, Tryd.ntmps46
 go_upto_region 1 with (fail)
 refine wp_gen (B1 w x L) X ?_
 clear X
 intro W X
 obtain ⟨q, hq⟩ : ∃ q, decide (x = bareD x) = q := ⟨_, rfl⟩
 rw [hq] at HSM
 have HQ := Lh hq
 clear hq
 have HX0 := Lh X
 have B := True.intro
 refine start_ (n := 6) (S := fun w' => True) (ds := []) #[false, false, false, false, false, false] (by kernel_rfl) rfl rfl trivial (fun hHeld => ?_)
 refine with_tabW checktab1 checkbits1 (fun HT_ HW_ => ?_)
 refine inv_at [0, 1, 2, 3, 4, 5] (fun a0_ b a w' => a = putSel a0_ b [(0, 6, .agg (CV x L)), (1, 7, .agg (CV x L)), (2, 8, .agg (CV (bareD x) (keepL (hasF x.f0) L))), (3, 9, .bool q), (4, 10, .bool (!q)), (5, 5, .bool (!q))] ∧ (Below W.heap.size W w')) HT_.out HW_.out (by kernel_rfl) (by kernel_rfl) ?_ ?_ ?_
 ·exact ⟨by simp only [putSel, Bool.false_eq_true, if_false], below_drew (Below.refl _ _)⟩
 ·skip
  clear B
  refine sc rfl ?_ ?_
  ·rintro b a w' ⟨ha, Q_B⟩ hb_ hon hoff K hK
   have e1 : a.tmps[1]? = some (.pointer (some ⟨w.heap.size, 0, none⟩)) := by rw [ha]; exact (putSel_off rfl).trans rfl
   replace ha := Am ha
   have B := Am Q_B
   refine value_ (w1 := w') (v := .agg (CV x L)) (by rfl) rfl (exec_load_row 41 (.tmp 1) rfl (eval_of e1) (blk_below HX0.out.x0 B.out) Tryd.underlying41 rfl HXS.out) ?_
   refine hK.out _ _ ⟨(puk ha 0 hb_ rfl rfl rfl), B.out⟩
  refine sc rfl ?_ ?_
  ·rintro b a w' ⟨ha, Q_B⟩ hb_ hon hoff K hK
   have e1 : a.tmps[1]? = some (.pointer (some ⟨w.heap.size, 0, none⟩)) := by rw [ha]; exact (putSel_off rfl).trans rfl
   replace ha := Am ha
   have B := Am Q_B
   refine value_ (w1 := w') (v := .agg (CV x L)) (by rfl) rfl (exec_load_row 41 (.tmp 1) rfl (eval_of e1) (blk_below HX0.out.x0 B.out) Tryd.underlying41 rfl HXS.out) ?_
   refine hK.out _ _ ⟨(puk ha 1 hb_ rfl rfl rfl), B.out⟩
  refine sc rfl ?_ ?_
  ·rintro b a w' ⟨ha, Q_B⟩ hb_ hon hoff K hK
   have e7 := psn ha 1 rfl rfl (hon 1 (by kernel_rfl)) rfl
   replace ha := Am ha
   have B := Am Q_B
   refine goes_ Tryd.func71 (by kernel_rfl) rfl #[.agg (CV x L)] (by rfl) rfl rfl (by first | (simp only [List.map_toArray, List.map_cons, List.map_nil, Act.eval, Array.getD_eq_getD_getElem?, Option.getD_some, e7]; done) | (simp only [List.map_toArray, List.map_cons, List.map_nil, Act.eval, Array.getD_eq_getD_getElem?, Option.getD_some, e7]; rfl)) ?_
   refine (HBR.out w' (HX0.out.below B.out).x2).mono ?_
   rintro e w1 ⟨rfl, hB1⟩
   refine ⟨_, rfl, ?_⟩
   refine hK.out _ _ ⟨(puk ha 2 hb_ rfl rfl rfl), B.out.trans (hB1.mono B.out.size)⟩
  refine sc rfl ?_ ?_
  ·rintro b a w' ⟨ha, Q_B⟩ hb_ hon hoff K hK
   have e6 := psn ha 0 rfl rfl (hon 0 (by kernel_rfl)) rfl
   have e8 := psn ha 2 rfl rfl (hon 2 (by kernel_rfl)) rfl
   replace ha := Am ha
   have B := Am Q_B
   refine goes_ Tryd.func38 (by kernel_rfl) rfl #[.agg (CV x L), .agg (CV (bareD x) (keepL (hasF x.f0) L))] (by rfl) rfl rfl (by first | (simp only [List.map_toArray, List.map_cons, List.map_nil, Act.eval, Array.getD_eq_getD_getElem?, Option.getD_some, e6, e8]; done) | (simp only [List.map_toArray, List.map_cons, List.map_nil, Act.eval, Array.getD_eq_getD_getElem?, Option.getD_some, e6, e8]; rfl)) ?_
   refine (HSM.out w' (HX0.out.below B.out).x2).mono ?_
   rintro e w1 ⟨rfl, hB1⟩
   refine ⟨_, rfl, ?_⟩
   refine hK.out _ _ ⟨(puk ha 3 hb_ rfl rfl rfl), B.out.trans (hB1.mono B.out.size)⟩
  refine sc rfl ?_ ?_
  ·rintro b a w' ⟨ha, Q_B⟩ hb_ hon hoff K hK
   have e9 := psn ha 3 rfl rfl (hon 3 (by kernel_rfl)) rfl
   replace ha := Am ha
   refine value_ (w1 := w') (v := .bool (!q)) (by rfl) rfl ?_ ?_
   ·go_simp
    (try simp only [i64_w])
    try rfl
   refine hK.out _ _ ⟨(puk ha 4 hb_ rfl rfl rfl), Q_B⟩
  refine sc rfl ?_ ?_
  ·rintro b a w' ⟨ha, Q_B⟩ hb_ hon hoff K hK
   have e10 := psn ha 4 rfl rfl (hon 4 (by kernel_rfl)) rfl
   replace ha := Am ha
   refine value_ (w1 := w') (v := .bool (!q)) (by rfl) rfl ?_ ?_
   ·go_simp
    (try simp only [i64_w])
    try rfl
   refine hK.out _ _ ⟨(puk ha 5 hb_ rfl rfl rfl), Q_B⟩
  exact steps_nil
 rintro b a w' hall ⟨ha, Q_B⟩
 clear B
 have hb0_ := hall 0 (by kernel_rfl)
 have hb1_ := hall 1 (by kernel_rfl)
 have hb2_ := hall 2 (by kernel_rfl)
 have hb3_ := hall 3 (by kernel_rfl)
 have hb4_ := hall 4 (by kernel_rfl)
 have hb5_ := hall 5 (by kernel_rfl)
 subst ha
 simp only [putSel, hb0_, hb1_, hb2_, hb3_, hb4_, hb5_, if_true, Act.put, List.setIfInBounds_toArray, List.set_cons_zero, List.set_cons_succ]
 have B := Am Q_B
 clear Q_B
 clear hall hb0_ hb1_ hb2_ hb3_ hb4_ hb5_
 replace X := X.below B.out
 clear B HBR HSM HX0
 generalize w' = W at *
 cases q with
 | false =>
  have hC : CD = 63 := by rw [← HCD.out]; unfold checkD; rw [if_pos HQ.out]
  subst hC
  go_wp2
  go_ret
  exact ⟨rfl, X.x2⟩
 | true =>
 have HXE := Lh (show x = bareD x from of_decide_eq_true HQ.out)
 have n1 : ¬ decide (x = bareD x) = false := by rw [HQ.out]; decide
 have hcd := HCD.out
 unfold checkD at hcd
 rw [if_neg n1] at hcd
 clear n1 HCD
 have k0 : W.cell? ⟨w.heap.size, 0, none⟩ = some (.int .u8 x.f0) := X.cell 0
 have k10 : W.cell? ⟨w.heap.size, 10, none⟩ = some (.slice L.A10 x.f10.length L.c10) := X.cell 10
 have k11 : W.cell? ⟨w.heap.size, 11, none⟩ = some (.slice L.A11 x.f11.length L.c11) := X.cell 11
 have k12 : W.cell? ⟨w.heap.size, 12, none⟩ = some (.slice L.A12 x.f12.length L.c12) := X.cell 12
 have k13 : W.cell? ⟨w.heap.size, 13, none⟩ = some (.slice L.A13 x.f13.length L.c13) := X.cell 13
 have k14 : W.cell? ⟨w.heap.size, 14, none⟩ = some (.slice L.A14 x.f14.length L.c14) := X.cell 14
 by_cases h62 : x.f0 = 0 ∧ x.f13.length = 0
 ·rw [if_pos h62] at hcd
  have q0 : (x.f0 == 0) = true := by simp [h62.1]
  have q13 : ((x.f13.length : Int) == 0) = true := by rw [h62.2]; rfl
  subst hcd
  clear h62
  go_wp2
  go_ret
  exact ⟨rfl, X.x2⟩
 rw [if_neg h62] at hcd
 have hbt : beatB x.f14 = true ∨ beatB x.f14 = false := by cases beatB x.f14 <;> simp
 by_cases h61 : (x.f0 = 4 ∨ x.f0 = 5) ∧ beatB x.f14 = false
 ·rw [if_pos h61] at hcd
  have q0 : (x.f0 == 0) = false := by simp; omega
  have HBT := Lh (fun (W' : World) (h : Below w.heap.size w W') => chunk_beat.calls x.f0 x.f1 x.f2 x.f3 x.f4 x.f5 x.f6 x.f7 x.f8 x.f9 L.A10 L.c10 x.f10 L.A11 L.c11 x.f11 L.A12 L.c12 x.f12 L.A13 L.c13 x.f13 L.A14 L.c14 x.f14 false W' (HXC.out W' h).h10 (HXC.out W' h).l10 (HXC.out W' h).h11 (HXC.out W' h).l11 (HXC.out W' h).h12 (HXC.out W' h).l12 (HXC.out W' h).h13 (HXC.out W' h).l13 (HXC.out W' h).h14 (HXC.out W' h).l14 (by rw [beat_f, h61.2]))
  have HIB := Lh (fun W' => isBeat_calls x.f0 W')
  rw [decide_eq_true h61.1] at HIB
  subst hcd
  clear h61 h62 hbt
  go_wp2_with fail
  refine (HIB.out _).mono ?_
  rintro e w2 ⟨rfl, ⟨m2, rfl⟩⟩
  replace X := X.drewN m2
  go_wp2_with (with_reducible refine gate_dst (N := 26) rfl ?_; go_must (refine step_on (wanted_on rfl rfl rfl rfl) (exec_load_row 41 (.tmp 1) rfl rfl X.x0 Tryd.underlying41 rfl HXS.out) ?_))
  refine (HBT.out _ X.x2).mono ?_
  rintro e w2 ⟨rfl, hB2⟩
  replace X := X.below hB2
  go_wp2
  go_ret
  exact ⟨rfl, X.x2⟩
 rw [if_neg h61] at hcd
 have HCD := Lh hcd
 clear hcd
 have hvar : (x.f0 = 0 ∧ ¬ x.f13.length = 0) ∨ (¬ x.f0 = 0 ∧ ¬ (x.f0 = 4 ∨ x.f0 = 5)) ∨ (¬ x.f0 = 0 ∧ (x.f0 = 4 ∨ x.f0 = 5) ∧ beatB x.f14 = true) := by
  by_cases a0 : x.f0 = 0
  ·exact Or.inl ⟨a0, fun e => h62 ⟨a0, e⟩⟩
  ·by_cases a4 : x.f0 = 4 ∨ x.f0 = 5
   ·exact Or.inr (Or.inr ⟨a0, a4, hbt.elim id (fun e => absurd ⟨a4, e⟩ h61)⟩)
   ·exact Or.inr (Or.inl ⟨a0, a4⟩)
 clear h61 h62 hbt
 rcases hvar with ⟨a0, a13⟩ | ⟨a0, a4⟩ | ⟨a0, a4, hbt⟩
 ·have HIB := Lh (fun W' => isBeat_calls x.f0 W')
  rw [decide_eq_false (by omega)] at HIB
  have q0 : (x.f0 == 0) = true := by simp [a0]
  have q13 : ((x.f13.length : Int) == 0) = false := by rw [beq_eq_false_iff_ne]; omega
  clear a0 a13
  go_wp2_with fail
  refine (HIB.out _).mono ?_
  rintro e w2 ⟨rfl, ⟨m2, rfl⟩⟩
  replace X := X.drewN m2
  go_upto_region 7 with (fail)
  refine wp_gen (B1 w x L) X ?_
  clear X k0 k10 k11 k12 k13 k14 q0 q13 HIB
  intro W X
  have k10 : W.cell? ⟨w.heap.size, 10, none⟩ = some (.slice L.A10 x.f10.length L.c10) := X.cell 10
  have k11 : W.cell? ⟨w.heap.size, 11, none⟩ = some (.slice L.A11 x.f11.length L.c11) := X.cell 11
  have k12 : W.cell? ⟨w.heap.size, 12, none⟩ = some (.slice L.A12 x.f12.length L.c12) := X.cell 12
  have k14 : W.cell? ⟨w.heap.size, 14, none⟩ = some (.slice L.A14 x.f14.length L.c14) := X.cell 14
  by_cases hm : 4096 < x.f10.length ∨ 4096 < x.f11.length ∨ 4096 < x.f12.length
  ·have hc := HCD.out
   rw [if_pos hm] at hc
   subst hc
   go_wp2
   all_goals first | (exfalso; omega) | (go_ret; exact ⟨rfl, X.x2⟩)
  have b10 : decide ((4096 : Int) < (x.f10.length : Int)) = false := by simp; omega
  have b11 : decide ((4096 : Int) < (x.f11.length : Int)) = false := by simp; omega
  have b12 : decide ((4096 : Int) < (x.f12.length : Int)) = false := by simp; omega
  have HCE := Lh HCD.out
  rw [if_neg hm] at HCE
  have l10 : x.f10.length ≤ 4096 := by omega
  have l11 : x.f11.length ≤ 4096 := by omega
  have l12 : x.f12.length ≤ 4096 := by omega
  have HEW := Lh (HEN.out W X.x2)
  by_cases he : (encP x.f14).2 = 0
  ·have HVL := Lh (fun (W' : World) (h : Below w.heap.size w W') => hv W' (HXC.out W' h) HXE.out l10 l11 l12 he)
   rw [if_neg (fun e => e he)] at HCE
   rw [he] at HEW
   clear hm he
   unfold ValP at HVL
   go_wp2_with fail
   refine HEW.out.mono ?_
   rintro e w3 ⟨v0, rfl, hR, hB3⟩
   obtain ⟨A0, c0, rfl⟩ := Kd.R_slice hR
   replace X := X.below hB3
   clear hR hB3 k10 k11 k12 k14
   go_wp2_with (with_reducible refine gate_dst (N := 52) rfl ?_; refine wpList_load_row rfl 41 (.tmp 1) rfl _ rfl 41 _ (0, 0) _ X.x0 Tryd.underlying41 rfl HXS.out ?_)
   refine (HVL.out _ X.x2).mono ?_
   rintro e w5 ⟨A9, c9, rfl, hle9, hC9, hB5⟩
   replace X := X.below hB5
   clear hC9 hB5 hle9
   generalize (valueD x).length = vl at *
   by_cases h2 : 65531 < vl
   ·have hc := HCE.out
    rw [if_pos h2] at hc
    subst hc
    go_wp2
    go_ret
    exact ⟨rfl, X.x2⟩
   ·have hc := HCE.out
    rw [if_neg h2] at hc
    subst hc
    go_wp2
    go_ret
    exact ⟨rfl, X.x2⟩
  ·have hc := HCE.out
   rw [if_pos he] at hc
   rw [hc] at HEW he
   have q : (CD != 0) = true := by simp [he]
   clear hm he hc
   go_wp2_with fail
   refine HEW.out.mono ?_
   rintro e w3 ⟨v0, rfl, hR, hB3⟩
   obtain ⟨A0, c0, rfl⟩ := Kd.R_slice hR
   replace X := X.below hB3
   clear hR hB3 k10 k11 k12 k14
   go_wp2
   go_ret
   exact ⟨rfl, X.x2⟩
 ·have HIB := Lh (fun W' => isBeat_calls x.f0 W')
  rw [decide_eq_false a4] at HIB
  have q0 : (x.f0 == 0) = false := by simp [a0]
  clear a0 a4
  go_wp2_with fail
  refine (HIB.out _).mono ?_
  rintro e w2 ⟨rfl, ⟨m2, rfl⟩⟩
  replace X := X.drewN m2
  go_upto_region 7 with (fail)
  refine wp_gen (B1 w x L) X ?_
  clear X k0 k10 k11 k12 k13 k14 q0 HIB
  intro W X
  have k10 : W.cell? ⟨w.heap.size, 10, none⟩ = some (.slice L.A10 x.f10.length L.c10) := X.cell 10
  have k11 : W.cell? ⟨w.heap.size, 11, none⟩ = some (.slice L.A11 x.f11.length L.c11) := X.cell 11
  have k12 : W.cell? ⟨w.heap.size, 12, none⟩ = some (.slice L.A12 x.f12.length L.c12) := X.cell 12
  have k14 : W.cell? ⟨w.heap.size, 14, none⟩ = some (.slice L.A14 x.f14.length L.c14) := X.cell 14
  by_cases hm : 4096 < x.f10.length ∨ 4096 < x.f11.length ∨ 4096 < x.f12.length
  ·have hc := HCD.out
   rw [if_pos hm] at hc
   subst hc
   go_wp2
   all_goals first | (exfalso; omega) | (go_ret; exact ⟨rfl, X.x2⟩)
  have b10 : decide ((4096 : Int) < (x.f10.length : Int)) = false := by simp; omega
  have b11 : decide ((4096 : Int) < (x.f11.length : Int)) = false := by simp; omega
  have b12 : decide ((4096 : Int) < (x.f12.length : Int)) = false := by simp; omega
  have HCE := Lh HCD.out
  rw [if_neg hm] at HCE
  have l10 : x.f10.length ≤ 4096 := by omega
  have l11 : x.f11.length ≤ 4096 := by omega
  have l12 : x.f12.length ≤ 4096 := by omega
  have HEW := Lh (HEN.out W X.x2)
  by_cases he : (encP x.f14).2 = 0
  ·have HVL := Lh (fun (W' : World) (h : Below w.heap.size w W') => hv W' (HXC.out W' h) HXE.out l10 l11 l12 he)
   rw [if_neg (fun e => e he)] at HCE
   rw [he] at HEW
   clear hm he
   unfold ValP at HVL
   go_wp2_with fail
   refine HEW.out.mono ?_
   rintro e w3 ⟨v0, rfl, hR, hB3⟩
   obtain ⟨A0, c0, rfl⟩ := Kd.R_slice hR
   replace X := X.below hB3
   clear hR hB3 k10 k11 k12 k14
   go_wp2_with (with_reducible refine gate_dst (N := 52) rfl ?_; refine wpList_load_row rfl 41 (.tmp 1) rfl _ rfl 41 _ (0, 0) _ X.x0 Tryd.underlying41 rfl HXS.out ?_)
   refine (HVL.out _ X.x2).mono ?_
   rintro e w5 ⟨A9, c9, rfl, hle9, hC9, hB5⟩
   replace X := X.below hB5
   clear hC9 hB5 hle9
   generalize (valueD x).length = vl at *
   by_cases h2 : 65531 < vl
   ·have hc := HCE.out
    rw [if_pos h2] at hc
    subst hc
    go_wp2
    go_ret
    exact ⟨rfl, X.x2⟩
   ·have hc := HCE.out
    rw [if_neg h2] at hc
    subst hc
    go_wp2
    go_ret
    exact ⟨rfl, X.x2⟩
  ·have hc := HCE.out
   rw [if_pos he] at hc
   rw [hc] at HEW he
   have q : (CD != 0) = true := by simp [he]
   clear hm he hc
   go_wp2_with fail
   refine HEW.out.mono ?_
   rintro e w3 ⟨v0, rfl, hR, hB3⟩
   obtain ⟨A0, c0, rfl⟩ := Kd.R_slice hR
   replace X := X.below hB3
   clear hR hB3 k10 k11 k12 k14
   go_wp2
   go_ret
   exact ⟨rfl, X.x2⟩
 ·have HIB := Lh (fun W' => isBeat_calls x.f0 W')
  rw [decide_eq_true a4] at HIB
  have HBT := Lh (fun (W' : World) (h : Below w.heap.size w W') => chunk_beat.calls x.f0 x.f1 x.f2 x.f3 x.f4 x.f5 x.f6 x.f7 x.f8 x.f9 L.A10 L.c10 x.f10 L.A11 L.c11 x.f11 L.A12 L.c12 x.f12 L.A13 L.c13 x.f13 L.A14 L.c14 x.f14 true W' (HXC.out W' h).h10 (HXC.out W' h).l10 (HXC.out W' h).h11 (HXC.out W' h).l11 (HXC.out W' h).h12 (HXC.out W' h).l12 (HXC.out W' h).h13 (HXC.out W' h).l13 (HXC.out W' h).h14 (HXC.out W' h).l14 (by rw [beat_f, hbt]))
  have q0 : (x.f0 == 0) = false := by simp [a0]
  clear a0 a4 hbt
  go_wp2_with fail
  refine (HIB.out _).mono ?_
  rintro e w2 ⟨rfl, ⟨m2, rfl⟩⟩
  replace X := X.drewN m2
  go_wp2_with (with_reducible refine gate_dst (N := 26) rfl ?_; go_must (refine step_on (wanted_on rfl rfl rfl rfl) (exec_load_row 41 (.tmp 1) rfl rfl X.x0 Tryd.underlying41 rfl HXS.out) ?_))
  refine (HBT.out _ X.x2).mono ?_
  rintro e w2 ⟨rfl, hB2⟩
  replace X := X.below hB2
  clear hB2
  go_upto_region 7 with (fail)
  refine wp_gen (B1 w x L) X ?_
  clear X k0 k10 k11 k12 k13 k14 q0 HIB HBT
  intro W X
  have k10 : W.cell? ⟨w.heap.size, 10, none⟩ = some (.slice L.A10 x.f10.length L.c10) := X.cell 10
  have k11 : W.cell? ⟨w.heap.size, 11, none⟩ = some (.slice L.A11 x.f11.length L.c11) := X.cell 11
  have k12 : W.cell? ⟨w.heap.size, 12, none⟩ = some (.slice L.A12 x.f12.length L.c12) := X.cell 12
  have k14 : W.cell? ⟨w.heap.size, 14, none⟩ = some (.slice L.A14 x.f14.length L.c14) := X.cell 14
  by_cases hm : 4096 < x.f10.length ∨ 4096 < x.f11.length ∨ 4096 < x.f12.length
  ·have hc := HCD.out
   rw [if_pos hm] at hc
   subst hc
   go_wp2
   all_goals first | (exfalso; omega) | (go_ret; exact ⟨rfl, X.x2⟩)
  have b10 : decide ((4096 : Int) < (x.f10.length : Int)) = false := by simp; omega
  have b11 : decide ((4096 : Int) < (x.f11.length : Int)) = false := by simp; omega
  have b12 : decide ((4096 : Int) < (x.f12.length : Int)) = false := by simp; omega
  have HCE := Lh HCD.out
  rw [if_neg hm] at HCE
  have l10 : x.f10.length ≤ 4096 := by omega
  have l11 : x.f11.length ≤ 4096 := by omega
  have l12 : x.f12.length ≤ 4096 := by omega
  have HEW := Lh (HEN.out W X.x2)
  by_cases he : (encP x.f14).2 = 0
  ·have HVL := Lh (fun (W' : World) (h : Below w.heap.size w W') => hv W' (HXC.out W' h) HXE.out l10 l11 l12 he)
   rw [if_neg (fun e => e he)] at HCE
   rw [he] at HEW
   clear hm he
   unfold ValP at HVL
   go_wp2_with fail
   refine HEW.out.mono ?_
   rintro e w3 ⟨v0, rfl, hR, hB3⟩
   obtain ⟨A0, c0, rfl⟩ := Kd.R_slice hR
   replace X := X.below hB3
   clear hR hB3 k10 k11 k12 k14
   go_wp2_with (with_reducible refine gate_dst (N := 52) rfl ?_; refine wpList_load_row rfl 41 (.tmp 1) rfl _ rfl 41 _ (0, 0) _ X.x0 Tryd.underlying41 rfl HXS.out ?_)
   refine (HVL.out _ X.x2).mono ?_
   rintro e w5 ⟨A9, c9, rfl, hle9, hC9, hB5⟩
   replace X := X.below hB5
   clear hC9 hB5 hle9
   generalize (valueD x).length = vl at *
   by_cases h2 : 65531 < vl
   ·have hc := HCE.out
    rw [if_pos h2] at hc
    subst hc
    go_wp2
    go_ret
    exact ⟨rfl, X.x2⟩
   ·have hc := HCE.out
    rw [if_neg h2] at hc
    subst hc
    go_wp2
    go_ret
    exact ⟨rfl, X.x2⟩
  ·have hc := HCE.out
   rw [if_pos he] at hc
   rw [hc] at HEW he
   have q : (CD != 0) = true := by simp [he]
   clear hm he hc
   go_wp2_with fail
   refine HEW.out.mono ?_
   rintro e w3 ⟨v0, rfl, hR, hB3⟩
   obtain ⟨A0, c0, rfl⟩ := Kd.R_slice hR
   replace X := X.below hB3
   clear hR hB3 k10 k11 k12 k14
   go_wp2
   go_ret
   exact ⟨rfl, X.x2⟩
end Go.Proofs.YtdlamomabonkjaaDoor.Ch
end
