/- The texts of one proof, merged: part 4. -/
import Derived.Test.YtdlamomabonkjaaDoorUf3
import Derived.Deep.WholeRow
import Derived.Lib.SlBytesConst
import Derived.Test.YtdlamomabonkjaaDoorProg
import Derived.WalkSpells
import Derived.Deep.RegionWith
set_option maxRecDepth 100000
set_option linter.unusedVariables false
set_option linter.unusedSimpArgs false
section
namespace Go.Proofs.YtdlamomabonkjaaDoor.Ch
open Go.RowKit YtdlamomabonkjaaDoorW.PrintWords YtdlamomabonkjaaDoorW.PrintLast Base PCh ParDec
theorem below_cell {B : Nat} {w W : World} {a : Addr} {v : Value} (h : Below B w W) (hlt : a.block < B) (hc : w.cell? a = some v) : W.cell? a = some v := by
 have := h.block a.block hlt
 simpa [World.cell?, this] using hc
theorem WS.alloc {w : World} {gw : Nat} {xs : List Int} (h : WS w gw xs) (x : Obj) : WS (w.alloc x) gw xs := by
 obtain ⟨u, hg, hR⟩ := h
 exact ⟨u, blk_alloc hg _, Kd.R_alloc hR _⟩
theorem gapL_length (l : List GapS) : (gapL l).length = 2 * l.length := by
 induction l with
 | nil => rfl
 | cons g r ih => simp only [gapL, List.length_append, List.length_cons, List.length_nil, ih]; omega
theorem twoL_app (a b : List Int) : twoL (a ++ b) = twoL a ++ twoL b := by
 induction a with
 | nil => rfl
 | cons n r ih => simp only [List.cons_append, twoL, ih, List.append_assoc]
set_option maxHeartbeats 2000000 in
theorem wgaps_calls (w : World) (gw : Nat) (xs : List Int) (A : Option Addr) (c : Nat) (gs : List GapS) (hs : WS w gw xs) (hA : ∀ W, Fr gw w W → Kd.C k117 W A gs.length gs) (hx : xs.length + 4 * gs.length ≤ 140737488355328) :
  Calls Tryd.prog 77 #[.pointer (some ⟨gw, 0, none⟩), .slice A gs.length c] w fun e w' => e = .returned (.tuple #[]) ∧ WS w' gw (xs ++ twoL (gapL gs)) ∧ Fr gw w w' := by
 have HS := Lh hs
 have HA := Lh hA
 have hm := (hA w (Fr.refl _ _)).2.1
 have HGW := Lh (show gw < w.heap.size by obtain ⟨u, hg, _⟩ := hs; exact blk_lt hg)
 have HX := Lh hx
 clear hs hA hx
 go_enter Tryd.func77, Tryd.ntmps77
 go_wp2
 go_loopw [8] (fun v8 wr => ∃ (i : Nat) (ys : List Int), i ≤ gs.length ∧ v8 = .int .i64 (i : Int) ∧ Hid (ys.length = xs.length + 4 * i) ∧ Hid (ys ++ twoL (gapL (gs.drop i)) = xs ++ twoL (gapL gs)) ∧ Hid (WS wr gw ys) ∧ Hid (Fr gw w wr)) (fun v8 _ => gs.length - (intOf v8).toNat)
 case atStart => exact ⟨0, xs, Nat.zero_le _, rfl, (by show _ = _; omega), rfl, HS.out, Fr.refl _ _⟩
 case round =>
  obtain ⟨i, ys, hi, rfl, HL, HE, HW, HF⟩ := hrel
  by_cases hlt : i < gs.length
  ·obtain ⟨ad, rfl, x0, x1⟩ := at_T117 (HA.out _ HF.out) (i : Int) (by omega) (by omega)
   rw [Int.toNat_natCast] at x0 x1
   have hE := HE.out
   rw [gap_drop gs i hlt, gapL, twoL_app, ← List.append_assoc] at hE
   generalize rd_T117 gs (i : Int) = g at *
   have HE2 := Lh hE
   have HXL := Lh (show ys.length + 2 * [g.f0, g.f1].length ≤ 140737488355328 by have := HX.out; have := HL.out; simp; omega)
   have HL2 := Lh (show (ys ++ twoL [g.f0, g.f1]).length = xs.length + 4 * (i + 1) by rw [List.length_append, twoL_length]; have := HL.out; simp; omega)
   have HT := Lh (wtwo_lit (wr.alloc (.cells #[.int .u16 g.f0, .int .u16 g.f1] 117)) gw ys [g.f0, g.f1] [.int .u16 g.f0, .int .u16 g.f1] 2 rfl rfl (HW.out.alloc _) HXL.out)
   rw [World.size_alloc] at HT
   have HGS := Lh (show gw ≤ wr.heap.size by have := HGW.out; have := HF.out.below.size; omega)
   clear hE HE HXL
   go_wp2_with fail
   refine HT.out.mono ?_
   rintro e w1 ⟨rfl, hS, hF⟩
   have HF2 := Lh ((HF.out.alloc HGS.out _).trans hF)
   have HS2 := Lh hS
   clear hS hF HT HW HF x0 x1
   go_wp2
   go_roundw
   case rel => exact ⟨i + 1, _, by omega, by go_num, HL2, HE2, HS2, HF2⟩
   case measure => simp [intOf]; omega
  ·obtain rfl : i = gs.length := by omega
   have hE := HE.out
   rw [List.drop_length, show twoL (gapL []) = [] from rfl, List.append_nil] at hE
   subst hE
   clear HE
   go_wp2
   go_end0
   exact ⟨rfl, HW.out, HF.out⟩
structure VX (w : World) (x : Chk) (L : Lay) (xs : List Int) (W : World) : Prop where
 x0 : W.heap[w.heap.size]? = some (.cells (CV x L) 41 (0, 0))
 ws : WS W (w.heap.size + 1) xs
 bl : Below w.heap.size w W
theorem VX.cell {w W : World} {x : Chk} {L : Lay} {xs : List Int} (h : VX w x L xs W) (i : Nat) : W.cell? ⟨w.heap.size, i, none⟩ = (CV x L)[i]? := blk_cell h.x0 i
theorem VX.fr {w W W' : World} {x : Chk} {L : Lay} {xs ys : List Int} (h : VX w x L xs W) (hs : WS W' (w.heap.size + 1) ys) (hf : Fr (w.heap.size + 1) W W') : VX w x L ys W' :=
 ⟨(hf.below.block _ (by omega)).trans h.x0, hs, h.bl.trans (hf.below.mono (by omega))⟩
theorem VX.below {w W W' : World} {x : Chk} {L : Lay} {xs : List Int} (h : VX w x L xs W) (hb : Below W.heap.size W W') : VX w x L xs W' := by
 obtain ⟨u, hg, hR⟩ := h.ws
 exact ⟨blk_below h.x0 hb, ⟨u, blk_below hg hb, R_only hR (Only.of_below (S := fun _ => False) hb) (fun _ _ _ h => h)⟩, below_then h.bl h.bl.size hb⟩
theorem VX.new (w : World) (x : Chk) (L : Lay) : VX w x L [] ((w.alloc (.cells (CV x L) 41)).alloc (.cells #[.slice none 0 0] 87)) := by
 refine ⟨blk_alloc (blk_new _ _) _, ⟨_, ?_, Kd.R_nil _ _ _ _ _⟩, below_alloc (below_alloc (Below.refl _ _) _) _⟩
 have h := blk_new (w.alloc (.cells (CV x L) 41)) (.cells #[.slice none 0 0] 87)
 rw [World.size_alloc] at h
 exact h
theorem VX.four {w W : World} {x : Chk} {L : Lay} {xs : List Int} (h : VX w x L xs W) (ns : List Int) (vs : List Value) (n : Nat) (hv : vs = ns.map (Value.int .u32)) (hn : ns.length = n) (hx : xs.length ≤ 140737488355300) (hn4 : n ≤ 4) :
  Calls Tryd.prog 76 #[.pointer (some ⟨w.heap.size + 1, 0, none⟩), .slice (some ⟨W.heap.size, 0, none⟩) n n] (W.alloc (.cells vs.toArray 23)) fun e w' => e = .returned (.tuple #[]) ∧ VX w x L (xs ++ fourL ns) w' :=
 (wfour_lit W _ xs ns vs n hv hn h.ws (by omega)).mono fun _ _ ⟨h1, h2, h3⟩ => ⟨h1, h.fr h2 h3⟩
theorem VX.two {w W : World} {x : Chk} {L : Lay} {xs : List Int} (h : VX w x L xs W) (ns : List Int) (vs : List Value) (n : Nat) (hv : vs = ns.map (Value.int .u16)) (hn : ns.length = n) (hx : xs.length ≤ 140737488355300) (hn4 : n ≤ 4) :
  Calls Tryd.prog 53 #[.pointer (some ⟨w.heap.size + 1, 0, none⟩), .slice (some ⟨W.heap.size, 0, none⟩) n n] (W.alloc (.cells vs.toArray 22)) fun e w' => e = .returned (.tuple #[]) ∧ VX w x L (xs ++ twoL ns) w' :=
 (wtwo_lit W _ xs ns vs n hv hn h.ws (by omega)).mono fun _ _ ⟨h1, h2, h3⟩ => ⟨h1, h.fr h2 h3⟩
theorem VX.gaps {w W : World} {x : Chk} {L : Lay} {xs : List Int} (h : VX w x L xs W) (A : Option Addr) (c : Nat) (gs : List GapS) (hC : Kd.C k117 w A gs.length gs) (hx : xs.length ≤ 140737488300000) (hg : gs.length ≤ 4096) :
  Calls Tryd.prog 77 #[.pointer (some ⟨w.heap.size + 1, 0, none⟩), .slice A gs.length c] W fun e w' => e = .returned (.tuple #[]) ∧ VX w x L (xs ++ twoL (gapL gs)) w' :=
 (wgaps_calls W _ xs A c gs h.ws (fun W' hf => Kd.C_below hC (h.bl.trans (hf.below.mono (by omega)))) (by omega)).mono fun _ _ ⟨h1, h2, h3⟩ => ⟨h1, h.fr h2 h3⟩
theorem VX.dups {w W : World} {x : Chk} {L : Lay} {xs : List Int} (h : VX w x L xs W) (A : Option Addr) (c : Nat) (ns : List Int) (hC : (Kd.int .u32).C w A ns.length ns) (hx : xs.length ≤ 140737488300000) (hg : ns.length ≤ 4096) :
  Calls Tryd.prog 76 #[.pointer (some ⟨w.heap.size + 1, 0, none⟩), .slice A ns.length c] W fun e w' => e = .returned (.tuple #[]) ∧ VX w x L (xs ++ fourL ns) w' :=
 (wfour_calls W _ xs A c ns h.ws (fun W' hf => Kd.C_below hC (h.bl.trans (hf.below.mono (by omega)))) (by omega)).mono fun _ _ ⟨h1, h2, h3⟩ => ⟨h1, h.fr h2 h3⟩
theorem encP_len (ps : List PrmS) : (encP ps).1.length ≤ 16777728 := by
 unfold encP
 by_cases h : ps.length > 256
 ·rw [if_pos h]; simp
 rw [if_neg h]
 have hr : ∀ (qs : List PrmS) (b : List Int), (ParEnc.runB b qs).1.length ≤ b.length + 65538 * qs.length := by
  intro qs
  induction qs with
  | nil => intro b; simp [ParEnc.runB]
  | cons p r ih =>
   intro b
   unfold ParEnc.runB
   split
   ·simp
   ·rename_i hp
    have h1 := ParEnc.stepB_le b p (by omega)
    have h2 := ih (ParEnc.stepB b p)
    simp only [List.length_cons]
    omega
 have := hr ps []
 simp only [List.length_nil] at this
 omega
theorem u16_len {n : Nat} (h : n ≤ 4096) : IntKind.u16.wrap (n : Int) = (n : Int) := by
 simp [IntKind.wrap, IntKind.bits, IntKind.signed]
 omega
set_option maxHeartbeats 8000000 in
theorem value_calls (b0 : Nat) (w : World) (x : Chk) (L : Lay) (hb0 : b0 ≤ w.heap.size) (hx : ∀ W', Below b0 w W' → CR W' x L) (l10 : x.f10.length ≤ 4096) (l11 : x.f11.length ≤ 4096) (l12 : x.f12.length ≤ 4096) (l13 : x.f13.length ≤ 140737488355232) :
  Calls Tryd.prog 52 #[.agg (CV x L)] w (ValQ b0 (valueD x) w) := by
 have hxw := hx w (Below.refl _ _)
 have HCR := Lh (fun (W' : World) (h : Below w.heap.size w W') => hxw.below h)
 have HXX := Lh hx
 have H14 := Lh (fun (W' : World) (h : Below w.heap.size w W') => encP_calls W' L.A14 L.c14 x.f14 (Kd.C_below hxw.h14 h) hxw.l14)
 have X := VX.new w x L
 have HXW := Lh hxw
 have HEL := Lh (encP_len x.f14)
 clear hx hxw
 go_enter Tryd.func52, Tryd.ntmps52
 go_upto_region 2 with (fail)
 refine wp_gen (VX w x L []) X ?_
 clear X
 intro W X
 have k0 : W.cell? ⟨w.heap.size, 0, none⟩ = some (.int .u8 x.f0) := X.cell 0
 by_cases hk : x.f0 = 0
 ·have HV := Lh (show valueD x = [] ++ fourL [x.f2] ++ twoL [x.f3, x.f4] ++ fourL [x.f5] ++ x.f13 from by unfold valueD; rw [if_pos (by omega)]; try rfl)
  have q0 : (x.f0 == 0) = true := by simp [hk]
  clear hk
  have k2 : W.cell? ⟨w.heap.size, 2, none⟩ = some (.int .u32 x.f2) := X.cell 2
  go_wp2_with fail
  refine (X.four [x.f2] [.int .u32 (x.f2)] 1 rfl rfl (by simp [twoL_length, fourL_length, gapL_length]; try omega) (by decide)).mono ?_
  rintro e W1 ⟨rfl, X1⟩
  replace X := X1
  clear X1 k2
  have k3 : W1.cell? ⟨w.heap.size, 3, none⟩ = some (.int .u16 x.f3) := X.cell 3
  have k4 : W1.cell? ⟨w.heap.size, 4, none⟩ = some (.int .u16 x.f4) := X.cell 4
  go_wp2_with fail
  refine (X.two [x.f3, x.f4] [.int .u16 (x.f3), .int .u16 (x.f4)] 2 rfl rfl (by simp [twoL_length, fourL_length, gapL_length]; try omega) (by decide)).mono ?_
  rintro e W2 ⟨rfl, X1⟩
  replace X := X1
  clear X1 k3 k4
  have k5 : W2.cell? ⟨w.heap.size, 5, none⟩ = some (.int .u32 x.f5) := X.cell 5
  go_wp2_with fail
  refine (X.four [x.f5] [.int .u32 (x.f5)] 1 rfl rfl (by simp [twoL_length, fourL_length, gapL_length]; try omega) (by decide)).mono ?_
  rintro e W3 ⟨rfl, X1⟩
  replace X := X1
  clear X1 k5
  go_upto_region 8 with (fail)
  have HXL := Lh (show ([] ++ fourL [x.f2] ++ twoL [x.f3, x.f4] ++ fourL [x.f5]).length + x.f13.length ≤ 140737488355328 by simp [twoL_length, fourL_length]; omega)
  obtain ⟨xs, hxs⟩ : ∃ xs, [] ++ fourL [x.f2] ++ twoL [x.f3, x.f4] ++ fourL [x.f5] = xs := ⟨_, rfl⟩
  obtain ⟨l13', hl13⟩ : ∃ l, x.f13 = l := ⟨_, rfl⟩
  rw [hxs] at X HXL HV
  rw [hl13] at HXL HV
  have k13 : W3.cell? ⟨w.heap.size, 13, none⟩ = some (.slice L.A13 x.f13.length L.c13) := X.cell 13
  have hbd := HXW.out.h13
  rw [hl13] at k13 hbd
  obtain ⟨u, hg, hR⟩ := X.ws
  obtain ⟨Au, cu, rfl⟩ := Kd.R_slice hR
  have HC := Lh hg
  have HR := Lh hR
  have HBW := Lh X.bl
  obtain ⟨gb, hgb⟩ : ∃ gb, w.heap.size = gb := ⟨_, rfl⟩
  obtain ⟨gw, hgw⟩ : ∃ gw, w.heap.size + 1 = gw := ⟨_, rfl⟩
  have HU := Lh (fun (w' : World) (h : Below gw W3 w') => below_cell h (show w.heap.size < gw by omega) k13)
  have HBD := Lh (fun (w' : World) (h : Below gw W3 w') => Kd.C_below hbd (HBW.out.trans (h.mono (by omega))))
  rw [hgw] at HC HR ⊢
  rw [hgb] at HU ⊢
  have HGL := Lh (show gw = w.heap.size + 1 from hgw.symm)
  clear hg hR X k13 hbd hxs hl13 hgb hgw H14 HCR HXX HXW HEL l10 l11 l12 l13 hb0
  generalize l13' = l13 at *
  generalize W3 = W at *
  have B := True.intro
  have C := True.intro
  have R := True.intro
  refine start_ (n := 11) (S := fun w' => True) (ds := []) #[false, false, false, false, false, false, false, false, false, false, false] (by kernel_rfl) rfl rfl trivial (fun hHeld => ?_)
  refine with_tabW valAtab8 valAbits8 (fun HT_ HW_ => ?_)
  refine pu 0 34 ?_ rfl rfl (any_of HT_.out (by kernel_rfl)) (fun _ _ _ h => h) (by rfl) ?_ ?_ ?_ ?_
  rotate_left
  ·intro w'
   go_simp
   with_reducible rfl
  rotate_left
  ·simp only [sL]
   rfl
  refine pu 1 35 ?_ rfl rfl (any_of HT_.out (by kernel_rfl)) (fun _ _ _ h => h) (by rfl) ?_ ?_ ?_ ?_
  rotate_left
  ·intro w'
   go_simp
   with_reducible rfl
  rotate_left
  ·simp only [sL]
   rfl
  refine inv_at [2, 3, 4, 5, 6, 7, 8, 9, 10] (fun a0_ b a w' => ∃ (v9 : Value), a = putSel a0_ b [(2, 36, .pointer (some ⟨gw, 0, none⟩)), (3, 37, .pointer (some ⟨gw, 0, none⟩)), (4, 38, .slice Au xs.length cu), (5, 39, .pointer (some ⟨gb, 13, none⟩)), (6, 40, .slice L.A13 l13.length L.c13), (7, 41, v9), (8, 42, .pointer (some ⟨gw, 0, none⟩)), (9, 43, .pointer (some ⟨gw, 0, none⟩))] ∧ (b 7 = false → Fr gw W w') ∧ (b 7 = false → w'.heap[gw]? = some (.cells #[.slice Au xs.length cu] 87 (0, 0))) ∧ (b 7 = false → (Kd.int .u8).R 5 w' (gw + 1) (fun k => k ≠ gw) (.slice Au xs.length cu) xs) ∧ (b 7 = true → b 10 = false → (Kd.int .u8).R 5 w' (gw + 1) (fun k => k ≠ gw) v9 (xs ++ l13) ∧ w'.heap[gw]? = some (.cells #[.slice Au xs.length cu] 87 (0, 0)) ∧ Fr gw W w') ∧ (b 10 = true → ∃ u, w'.heap[gw]? = some (.cells #[u] 87 (0, 0)) ∧ (Kd.int .u8).R 5 w' (gw + 1) (fun k => k ≠ gw) u (xs ++ l13) ∧ Fr gw W w')) HT_.out HW_.out (by kernel_rfl) (by kernel_rfl) ?_ ?_ ?_
  ·exact ⟨.bool false, by simp only [putSel, Bool.false_eq_true, if_false], fun _ => (Fr.refl _ _).drewN 1, fun _ => HC.out, fun _ => HR.out, fun h_ => absurd h_ (by decide), fun h_ => absurd h_ (by decide)⟩
  ·skip
   clear B C R
   refine sc rfl ?_ ?_
   ·rintro b a w' ⟨v9, ha, Q_B, Q_C, Q_R, Q_S1, Q_S2⟩ hb_ hon hoff K hK
    have e35 : a.tmps[35]? = some (.pointer (some ⟨gw, 0, none⟩)) := by rw [ha]; exact (putSel_off rfl).trans rfl
    replace ha := Am ha
    refine value_ (w1 := w') (v := .pointer (some ⟨gw, 0, none⟩)) (by rfl) rfl ?_ ?_
    ·go_simp
     (try simp only [i64_w])
     try rfl
    refine hK.out _ _ ⟨v9, (puk ha 0 hb_ rfl rfl rfl), Q_B, Q_C, Q_R, fun h0_ _ => hof (hoff 7 (by kernel_rfl)) h0_, fun h0_ => hof (hoff 10 (by kernel_rfl)) h0_⟩
   refine sc rfl ?_ ?_
   ·rintro b a w' ⟨v9, ha, Q_B, Q_C, Q_R, Q_S1, Q_S2⟩ hb_ hon hoff K hK
    have e36 := psn ha 0 rfl rfl (hon 2 (by kernel_rfl)) rfl
    replace ha := Am ha
    refine value_ (w1 := w') (v := .pointer (some ⟨gw, 0, none⟩)) (by rfl) rfl ?_ ?_
    ·go_simp
     (try simp only [i64_w])
     try rfl
    refine hK.out _ _ ⟨v9, (puk ha 1 hb_ rfl rfl rfl), Q_B, Q_C, Q_R, fun h0_ _ => hof (hoff 7 (by kernel_rfl)) h0_, fun h0_ => hof (hoff 10 (by kernel_rfl)) h0_⟩
   refine sc rfl ?_ ?_
   ·rintro b a w' ⟨v9, ha, Q_B, Q_C, Q_R, Q_S1, Q_S2⟩ hb_ hon hoff K hK
    have e37 := psn ha 1 rfl rfl (hon 3 (by kernel_rfl)) rfl
    replace ha := Am ha
    have C := Am (Q_C (hoff 7 (by kernel_rfl)))
    have hs := blk_cell C.out 0
    refine value_ (w1 := w') (v := .slice Au xs.length cu) (by rfl) rfl ?_ ?_
    ·go_simp
     (try simp only [i64_w])
     try rfl
    refine hK.out _ _ ⟨v9, (puk ha 2 hb_ rfl rfl rfl), Q_B, Q_C, Q_R, fun h0_ _ => hof (hoff 7 (by kernel_rfl)) h0_, fun h0_ => hof (hoff 10 (by kernel_rfl)) h0_⟩
   refine sc rfl ?_ ?_
   ·rintro b a w' ⟨v9, ha, Q_B, Q_C, Q_R, Q_S1, Q_S2⟩ hb_ hon hoff K hK
    have e1 : a.tmps[1]? = some (.pointer (some ⟨gb, 0, none⟩)) := by rw [ha]; exact (putSel_off rfl).trans rfl
    replace ha := Am ha
    refine value_ (w1 := w') (v := .pointer (some ⟨gb, 13, none⟩)) (by rfl) rfl ?_ ?_
    ·go_simp
     (try simp only [i64_w])
     try rfl
    refine hK.out _ _ ⟨v9, (puk ha 3 hb_ rfl rfl rfl), Q_B, Q_C, Q_R, fun h0_ _ => hof (hoff 7 (by kernel_rfl)) h0_, fun h0_ => hof (hoff 10 (by kernel_rfl)) h0_⟩
   refine sc rfl ?_ ?_
   ·rintro b a w' ⟨v9, ha, Q_B, Q_C, Q_R, Q_S1, Q_S2⟩ hb_ hon hoff K hK
    have e39 := psn ha 3 rfl rfl (hon 5 (by kernel_rfl)) rfl
    replace ha := Am ha
    have B := Am (Q_B (hoff 7 (by kernel_rfl)))
    have hs : w'.cell? ⟨gb, 13, none⟩ = some (.slice L.A13 l13.length L.c13) := HU.out w' B.out.below
    refine value_ (w1 := w') (v := .slice L.A13 l13.length L.c13) (by rfl) rfl ?_ ?_
    ·go_simp
     (try simp only [i64_w])
     try rfl
    refine hK.out _ _ ⟨v9, (puk ha 4 hb_ rfl rfl rfl), Q_B, Q_C, Q_R, fun h0_ _ => hof (hoff 7 (by kernel_rfl)) h0_, fun h0_ => hof (hoff 10 (by kernel_rfl)) h0_⟩
   refine sc rfl ?_ ?_
   ·rintro b a w' ⟨v9, ha, Q_B, Q_C, Q_R, Q_S1, Q_S2⟩ hb_ hon hoff K hK
    have e38 := psn ha 2 rfl rfl (hon 4 (by kernel_rfl)) rfl
    have e40 := psn ha 4 rfl rfl (hon 6 (by kernel_rfl)) rfl
    replace ha := Am ha
    have B := Am (Q_B hb_)
    have C := Am (Q_C hb_)
    have R := Am (Q_R hb_)
    refine Kd.R_append_rows_step (Kd.int .u8) (Rr := (Kd.int .u8).K w') (w0 := w') (W := w') (gw + 1) (by rfl) _ _ 27 5 _ 1 rfl Tryd.underlying27 info_u8 rfl (by decide) (by decide) (.slice Au xs.length cu) xs l13 L.A13 l13.length L.c13 (fun k => k ≠ gw) (fun _ => False) (by simp [Act.eval, Array.getD_eq_getD_getElem?, e38]) (by simp [Act.eval, Array.getD_eq_getD_getElem?, e40]) R.out (HBD.out w' B.out.below) (fun _ _ h => h) (fun _ h => h.elim) (fun k hk => by have := blk_lt C.out; omega) (Below.refl _ _) (by have := blk_lt C.out; omega) (by have := HXL.out; omega) ?_
    intro v1 w1 hR1 hB1 hG1 _
    refine hK.out _ _ ⟨v1, (puk ha 5 hb_ rfl rfl rfl), fun h0_ => absurd ((up_self b 7).symm.trans h0_) (by decide), fun h0_ => absurd ((up_self b 7).symm.trans h0_) (by decide), fun h0_ => absurd ((up_self b 7).symm.trans h0_) (by decide), fun _ _ => ⟨hR1, blk_grown C.out hG1 (fun e => R.out.1 _ e.symm rfl), B.out.grown R.out (hB1.mono (Nat.le_succ _)) hG1⟩, fun h0_ => hof (hoff 10 (by kernel_rfl)) h0_⟩
   refine sc rfl ?_ ?_
   ·rintro b a w' ⟨v9, ha, Q_B, Q_C, Q_R, Q_S1, Q_S2⟩ hb_ hon hoff K hK
    have e34 : a.tmps[34]? = some (.pointer (some ⟨gw, 0, none⟩)) := by rw [ha]; exact (putSel_off rfl).trans rfl
    replace ha := Am ha
    refine value_ (w1 := w') (v := .pointer (some ⟨gw, 0, none⟩)) (by rfl) rfl ?_ ?_
    ·go_simp
     (try simp only [i64_w])
     try rfl
    refine hK.out _ _ ⟨v9, (puk ha 6 hb_ rfl rfl rfl), fun h0_ => absurd ((hon 7 (by kernel_rfl)).symm.trans h0_) (by decide), fun h0_ => absurd ((hon 7 (by kernel_rfl)).symm.trans h0_) (by decide), fun h0_ => absurd ((hon 7 (by kernel_rfl)).symm.trans h0_) (by decide), Q_S1, fun h0_ => hof (hoff 10 (by kernel_rfl)) h0_⟩
   refine sc rfl ?_ ?_
   ·rintro b a w' ⟨v9, ha, Q_B, Q_C, Q_R, Q_S1, Q_S2⟩ hb_ hon hoff K hK
    have e42 := psn ha 6 rfl rfl (hon 8 (by kernel_rfl)) rfl
    replace ha := Am ha
    refine value_ (w1 := w') (v := .pointer (some ⟨gw, 0, none⟩)) (by rfl) rfl ?_ ?_
    ·go_simp
     (try simp only [i64_w])
     try rfl
    refine hK.out _ _ ⟨v9, (puk ha 7 hb_ rfl rfl rfl), fun h0_ => absurd ((hon 7 (by kernel_rfl)).symm.trans h0_) (by decide), fun h0_ => absurd ((hon 7 (by kernel_rfl)).symm.trans h0_) (by decide), fun h0_ => absurd ((hon 7 (by kernel_rfl)).symm.trans h0_) (by decide), Q_S1, fun h0_ => hof (hoff 10 (by kernel_rfl)) h0_⟩
   refine sc rfl ?_ ?_
   ·rintro b a w' ⟨v9, ha, Q_B, Q_C, Q_R, Q_S1, Q_S2⟩ hb_ hon hoff K hK
    have e43 := psn ha 7 rfl rfl (hon 9 (by kernel_rfl)) rfl
    have e41 := psn ha 5 rfl rfl (hon 7 (by kernel_rfl)) rfl
    replace ha := Am ha
    have S1 := Am (Q_S1 (hon 7 (by kernel_rfl)) hb_)
    obtain ⟨hR1, hC1, hF1⟩ := S1.out
    obtain ⟨A7, c7, hv9⟩ := Kd.R_slice hR1
    have hs := blk_cell hC1 0
    have hf := blk_frozen hC1 0
    refine skip_ (w1 := w'.setCell ⟨gw, 0, none⟩ v9) (by rfl) rfl (by generalize (xs ++ l13).length = zl at hv9; rw [hv9] at e41 ⊢; go_simp; try rfl) ?_
    refine hK.out _ _ ⟨v9, (by rw [ha.out]; exact putSel_none (v := undef) rfl), fun h0_ => absurd ((hon 7 (by kernel_rfl)).symm.trans h0_) (by decide), fun h0_ => absurd ((hon 7 (by kernel_rfl)).symm.trans h0_) (by decide), fun h0_ => absurd ((hon 7 (by kernel_rfl)).symm.trans h0_) (by decide), fun _ h1_ => absurd ((up_self b 10).symm.trans h1_) (by decide), fun _ => ⟨v9, blk_put hC1 0 v9 rfl, Kd.R_far hR1 (p := ⟨gw, 0, none⟩) (fun k hk => hk) v9, hF1.set hC1 0 v9⟩⟩
   exact steps_nil
  rintro b a w' hall ⟨v9, ha, Q_B, Q_C, Q_R, Q_S1, Q_S2⟩
  clear B C R
  have hb2_ := hall 2 (by kernel_rfl)
  have hb3_ := hall 3 (by kernel_rfl)
  have hb4_ := hall 4 (by kernel_rfl)
  have hb5_ := hall 5 (by kernel_rfl)
  have hb6_ := hall 6 (by kernel_rfl)
  have hb7_ := hall 7 (by kernel_rfl)
  have hb8_ := hall 8 (by kernel_rfl)
  have hb9_ := hall 9 (by kernel_rfl)
  have hb10_ := hall 10 (by kernel_rfl)
  subst ha
  simp only [putSel, hb2_, hb3_, hb4_, hb5_, hb6_, hb7_, hb8_, hb9_, hb10_, if_true, Act.put, List.setIfInBounds_toArray, List.set_cons_zero, List.set_cons_succ]
  clear Q_B
  clear Q_C
  clear Q_R
  clear Q_S1
  have S2 := Am (Q_S2 hb10_)
  clear Q_S2
  clear hall hb2_ hb3_ hb4_ hb5_ hb6_ hb7_ hb8_ hb9_ hb10_
  obtain ⟨u, hg, hR, hF⟩ := S2.out
  obtain ⟨A7, c7, rfl⟩ := Kd.R_slice hR
  have k9 : w'.cell? ⟨gw, 0, none⟩ = some (.slice A7 (xs ++ l13).length c7) := blk_cell hg 0
  have HR7 := Lh hR
  have HB7 := Lh (HBW.out.trans (hF.below.mono (by have := HGL.out; omega)))
  clear hg hR hF S2
  generalize hn : (xs ++ l13).length = nl at *
  go_wp2
  go_ret
  rw [HV.out]
  exact ValQ.of_R HR7.out (by have := HGL.out; omega) HB7.out
 by_cases hk0 : x.f0 = 1 ∨ x.f0 = 2
 ·have HV := Lh (show valueD x = [] ++ fourL [x.f6, x.f7] ++ twoL [x.f8, x.f9] ++ fourL [x.f2] ++ (encP x.f14).1 from by unfold valueD; rw [if_neg (by omega), if_pos (by omega)]; try rfl)
  have hq : ((x.f0 == 1) = true) ∨ ((x.f0 == 1) = false ∧ (x.f0 == 2) = true) := by rcases hk0 with h | h <;> simp [h]
  have q0 : (x.f0 == 0) = false := by simp; omega
  clear hk0
  rcases hq with q1 | ⟨q1, q2⟩
  all_goals
   have k6 : W.cell? ⟨w.heap.size, 6, none⟩ = some (.int .u32 x.f6) := X.cell 6
   have k7 : W.cell? ⟨w.heap.size, 7, none⟩ = some (.int .u32 x.f7) := X.cell 7
   go_wp2_with fail
   refine (X.four [x.f6, x.f7] [.int .u32 (x.f6), .int .u32 (x.f7)] 2 rfl rfl (by simp [twoL_length, fourL_length, gapL_length]; try omega) (by decide)).mono ?_
   rintro e W1 ⟨rfl, X1⟩
   replace X := X1
   clear X1 k6 k7
   have k8 : W1.cell? ⟨w.heap.size, 8, none⟩ = some (.int .u16 x.f8) := X.cell 8
   have k9 : W1.cell? ⟨w.heap.size, 9, none⟩ = some (.int .u16 x.f9) := X.cell 9
   go_wp2_with fail
   refine (X.two [x.f8, x.f9] [.int .u16 (x.f8), .int .u16 (x.f9)] 2 rfl rfl (by simp [twoL_length, fourL_length, gapL_length]; try omega) (by decide)).mono ?_
   rintro e W2 ⟨rfl, X1⟩
   replace X := X1
   clear X1 k8 k9
   have k2 : W2.cell? ⟨w.heap.size, 2, none⟩ = some (.int .u32 x.f2) := X.cell 2
   go_wp2_with fail
   refine (X.four [x.f2] [.int .u32 (x.f2)] 1 rfl rfl (by simp [twoL_length, fourL_length, gapL_length]; try omega) (by decide)).mono ?_
   rintro e W3 ⟨rfl, X1⟩
   replace X := X1
   clear X1 k2
   have k14 : W3.cell? ⟨w.heap.size, 14, none⟩ = some (.slice L.A14 x.f14.length L.c14) := X.cell 14
   go_wp2_with fail
   refine (H14.out W3 X.bl).mono ?_
   rintro e W9 ⟨v0, rfl, hR0, hB0⟩
   obtain ⟨A0, c0, rfl, hle0, hC0⟩ := Kd.R_reads hR0
   have HR0 := Lh hR0
   have HBASE := Lh X.bl.size
   have HW1 := Lh (show w.heap.size + 1 < W3.heap.size by obtain ⟨u, hg, _⟩ := X.ws; exact blk_lt hg)
   replace X := X.below hB0
   clear k14 hB0 hR0
   obtain ⟨xs, hxs⟩ : ∃ xs, [] ++ fourL [x.f6, x.f7] ++ twoL [x.f8, x.f9] ++ fourL [x.f2] = xs := ⟨_, rfl⟩
   rw [hxs] at X HV
   have HXL := Lh (show xs.length ≤ 100 by rw [← hxs]; simp [twoL_length, fourL_length])
   obtain ⟨u, hg, hR⟩ := X.ws
   obtain ⟨Au, cu, rfl⟩ := Kd.R_slice hR
   have HC0 := Lh hC0
   have HRW := Lh hR
   have HGW := Lh hg
   have HBW := Lh X.bl
   have HS9 := Lh (show w.heap.size + 1 < W9.heap.size from blk_lt hg)
   have k9 : W9.cell? ⟨w.heap.size + 1, 0, none⟩ = some (.slice Au xs.length cu) := blk_cell hg 0
   clear hg hR X hxs hC0 HR0 HBASE HW1
   generalize hpl : (encP x.f14).1.length = pl at *
   go_wp2_with (at_builtin; go_must (refine Kd.R_append_row (Value.int .u8) (0 : Int) (w0 := W9) (W := W9) (w.heap.size + 1 + 1) rfl _ _ 27 5 _ 1 rfl Tryd.underlying27 info_u8 rfl (by decide) (.slice Au xs.length cu) xs (encP x.f14).1 A0 _ c0 (fun k => k ≠ w.heap.size + 1) rfl rfl (fun k hk => by have := HS9.out; omega) HRW.out HC0.out (Below.refl _ _) (by have := HS9.out; omega) (by have := HXL.out; have := HEL.out; omega) ?_); (intro v1 w1 hR1 hB1 hG1 _; have HR1 := Lh hR1; have HB1 := Lh hB1; have HG1 := Lh hG1; clear hR1 hB1 hG1; refine RowKit.Hid.out ?_))
   refine Lh ?_
   obtain ⟨A7, c7, e7⟩ := Kd.R_slice HR1.out
   have hg1 := blk_grown HGW.out HG1.out (fun e => HRW.out.1 _ e.symm rfl)
   have h9 := blk_cell hg1 0
   have f9 := blk_frozen hg1 0
   subst e7
   have HR2 := Lh (Kd.R_far HR1.out (p := ⟨w.heap.size + 1, 0, none⟩) (fun k hk => hk) (.slice A7 (xs ++ (encP x.f14).1).length c7))
   have HB2 := Lh ((HBW.out.trans (HB1.out.mono (by omega))).setCell (p := ⟨w.heap.size + 1, 0, none⟩) (Nat.le_succ _) (.slice A7 (xs ++ (encP x.f14).1).length c7))
   clear HR1 HB1 HG1 hg1 HRW HGW HBW HC0 k9
   generalize (xs ++ (encP x.f14).1).length = nl at *
   go_wp2
   go_ret
   rw [HV.out]
   exact ValQ.of_R HR2.out (by omega) HB2.out
 by_cases hk : x.f0 = 3
 ·have HV := Lh (show valueD x = [] ++ fourL [x.f2, x.f7] ++ twoL [(x.f10.length : Int), (x.f12.length : Int)] ++ twoL (gapL x.f10) ++ fourL x.f12 from by unfold valueD; rw [if_neg (by omega), if_neg (by omega), if_pos (by omega)]; rw [u16_len l10, u16_len l12]; try rfl)
  have q0 : (x.f0 == 0) = false := by simp; omega
  have q1 : (x.f0 == 1) = false := by simp; omega
  have q2 : (x.f0 == 2) = false := by simp; omega
  have q3 : (x.f0 == 3) = true := by simp [hk]
  clear hk
  have k2 : W.cell? ⟨w.heap.size, 2, none⟩ = some (.int .u32 x.f2) := X.cell 2
  have k7 : W.cell? ⟨w.heap.size, 7, none⟩ = some (.int .u32 x.f7) := X.cell 7
  go_wp2_with fail
  refine (X.four [x.f2, x.f7] [.int .u32 (x.f2), .int .u32 (x.f7)] 2 rfl rfl (by simp [twoL_length, fourL_length, gapL_length]; try omega) (by decide)).mono ?_
  rintro e W1 ⟨rfl, X1⟩
  replace X := X1
  clear X1 k2 k7
  have k10 : W1.cell? ⟨w.heap.size, 10, none⟩ = some (.slice L.A10 x.f10.length L.c10) := X.cell 10
  have k12 : W1.cell? ⟨w.heap.size, 12, none⟩ = some (.slice L.A12 x.f12.length L.c12) := X.cell 12
  go_wp2_with fail
  refine (X.two [(x.f10.length : Int), (x.f12.length : Int)] [.int .u16 ((x.f10.length : Int)), .int .u16 ((x.f12.length : Int))] 2 rfl rfl (by simp [twoL_length, fourL_length, gapL_length]; try omega) (by decide)).mono ?_
  rintro e W2 ⟨rfl, X1⟩
  replace X := X1
  clear X1 k10 k12
  have k10 : W2.cell? ⟨w.heap.size, 10, none⟩ = some (.slice L.A10 x.f10.length L.c10) := X.cell 10
  go_wp2_with fail
  refine (X.gaps L.A10 L.c10 x.f10 HXW.out.h10 (by simp [twoL_length, fourL_length, gapL_length]; try omega) l10).mono ?_
  rintro e W3 ⟨rfl, X1⟩
  replace X := X1
  clear X1 k10
  have k12 : W3.cell? ⟨w.heap.size, 12, none⟩ = some (.slice L.A12 x.f12.length L.c12) := X.cell 12
  go_wp2_with fail
  refine (X.dups L.A12 L.c12 x.f12 HXW.out.h12 (by simp [twoL_length, fourL_length, gapL_length]; try omega) l12).mono ?_
  rintro e W4 ⟨rfl, X1⟩
  replace X := X1
  clear X1 k12
  obtain ⟨u, hg, hR⟩ := X.ws
  obtain ⟨Au, cu, rfl⟩ := Kd.R_slice hR
  have k9 : W4.cell? ⟨w.heap.size + 1, 0, none⟩ = some (.slice Au ([] ++ fourL [x.f2, x.f7] ++ twoL [(x.f10.length : Int), (x.f12.length : Int)] ++ twoL (gapL x.f10) ++ fourL x.f12).length cu) := blk_cell hg 0
  have HRR := Lh hR
  have HXB := Lh X.bl
  clear hg hR X
  generalize ([] ++ fourL [x.f2, x.f7] ++ twoL [(x.f10.length : Int), (x.f12.length : Int)] ++ twoL (gapL x.f10) ++ fourL x.f12).length = nl at *
  go_wp2
  go_ret
  rw [HV.out]
  exact ValQ.of_R HRR.out (by omega) HXB.out
 by_cases hk : x.f0 = 16
 ·have HV := Lh (show valueD x = [] ++ fourL [x.f2, x.f7] ++ twoL [(x.f10.length : Int), (x.f11.length : Int), (x.f12.length : Int), 0] ++ twoL (gapL x.f10) ++ twoL (gapL x.f11) ++ fourL x.f12 from by unfold valueD; rw [if_neg (by omega), if_neg (by omega), if_neg (by omega), if_pos (by omega)]; rw [u16_len l10, u16_len l11, u16_len l12]; try rfl)
  have q0 : (x.f0 == 0) = false := by simp; omega
  have q1 : (x.f0 == 1) = false := by simp; omega
  have q2 : (x.f0 == 2) = false := by simp; omega
  have q3 : (x.f0 == 3) = false := by simp; omega
  have q16 : (x.f0 == 16) = true := by simp [hk]
  clear hk
  have k2 : W.cell? ⟨w.heap.size, 2, none⟩ = some (.int .u32 x.f2) := X.cell 2
  have k7 : W.cell? ⟨w.heap.size, 7, none⟩ = some (.int .u32 x.f7) := X.cell 7
  go_wp2_with fail
  refine (X.four [x.f2, x.f7] [.int .u32 (x.f2), .int .u32 (x.f7)] 2 rfl rfl (by simp [twoL_length, fourL_length, gapL_length]; try omega) (by decide)).mono ?_
  rintro e W1 ⟨rfl, X1⟩
  replace X := X1
  clear X1 k2 k7
  have k10 : W1.cell? ⟨w.heap.size, 10, none⟩ = some (.slice L.A10 x.f10.length L.c10) := X.cell 10
  have k11 : W1.cell? ⟨w.heap.size, 11, none⟩ = some (.slice L.A11 x.f11.length L.c11) := X.cell 11
  have k12 : W1.cell? ⟨w.heap.size, 12, none⟩ = some (.slice L.A12 x.f12.length L.c12) := X.cell 12
  go_wp2_with fail
  refine (X.two [(x.f10.length : Int), (x.f11.length : Int), (x.f12.length : Int), 0] [.int .u16 ((x.f10.length : Int)), .int .u16 ((x.f11.length : Int)), .int .u16 ((x.f12.length : Int)), .int .u16 (0)] 4 rfl rfl (by simp [twoL_length, fourL_length, gapL_length]; try omega) (by decide)).mono ?_
  rintro e W2 ⟨rfl, X1⟩
  replace X := X1
  clear X1 k10 k11 k12
  have k10 : W2.cell? ⟨w.heap.size, 10, none⟩ = some (.slice L.A10 x.f10.length L.c10) := X.cell 10
  go_wp2_with fail
  refine (X.gaps L.A10 L.c10 x.f10 HXW.out.h10 (by simp [twoL_length, fourL_length, gapL_length]; try omega) l10).mono ?_
  rintro e W3 ⟨rfl, X1⟩
  replace X := X1
  clear X1 k10
  have k11 : W3.cell? ⟨w.heap.size, 11, none⟩ = some (.slice L.A11 x.f11.length L.c11) := X.cell 11
  go_wp2_with fail
  refine (X.gaps L.A11 L.c11 x.f11 HXW.out.h11 (by simp [twoL_length, fourL_length, gapL_length]; try omega) l11).mono ?_
  rintro e W4 ⟨rfl, X1⟩
  replace X := X1
  clear X1 k11
  have k12 : W4.cell? ⟨w.heap.size, 12, none⟩ = some (.slice L.A12 x.f12.length L.c12) := X.cell 12
  go_wp2_with fail
  refine (X.dups L.A12 L.c12 x.f12 HXW.out.h12 (by simp [twoL_length, fourL_length, gapL_length]; try omega) l12).mono ?_
  rintro e W5 ⟨rfl, X1⟩
  replace X := X1
  clear X1 k12
  obtain ⟨u, hg, hR⟩ := X.ws
  obtain ⟨Au, cu, rfl⟩ := Kd.R_slice hR
  have k9 : W5.cell? ⟨w.heap.size + 1, 0, none⟩ = some (.slice Au ([] ++ fourL [x.f2, x.f7] ++ twoL [(x.f10.length : Int), (x.f11.length : Int), (x.f12.length : Int), 0] ++ twoL (gapL x.f10) ++ twoL (gapL x.f11) ++ fourL x.f12).length cu) := blk_cell hg 0
  have HRR := Lh hR
  have HXB := Lh X.bl
  clear hg hR X
  generalize ([] ++ fourL [x.f2, x.f7] ++ twoL [(x.f10.length : Int), (x.f11.length : Int), (x.f12.length : Int), 0] ++ twoL (gapL x.f10) ++ twoL (gapL x.f11) ++ fourL x.f12).length = nl at *
  go_wp2
  go_ret
  rw [HV.out]
  exact ValQ.of_R HRR.out (by omega) HXB.out
 by_cases hk0 : x.f0 = 4 ∨ x.f0 = 5 ∨ x.f0 = 6 ∨ x.f0 = 9
 ·have HV := Lh (show valueD x = (encP x.f14).1 from by unfold valueD; rw [if_neg (by omega), if_neg (by omega), if_neg (by omega), if_neg (by omega), if_pos (by omega)]; try rfl)
  have hq : ((x.f0 == 4) = true) ∨ ((x.f0 == 4) = false ∧ (x.f0 == 5) = true) ∨ ((x.f0 == 4) = false ∧ (x.f0 == 5) = false ∧ (x.f0 == 6) = true) ∨ ((x.f0 == 4) = false ∧ (x.f0 == 5) = false ∧ (x.f0 == 6) = false ∧ (x.f0 == 9) = true) := by rcases hk0 with h | h | h | h <;> simp [h]
  have q0 : (x.f0 == 0) = false := by simp; omega
  have q1 : (x.f0 == 1) = false := by simp; omega
  have q2 : (x.f0 == 2) = false := by simp; omega
  have q3 : (x.f0 == 3) = false := by simp; omega
  have q16 : (x.f0 == 16) = false := by simp; omega
  clear hk0
  rcases hq with q4 | ⟨q4, q5⟩ | ⟨q4, q5, q6⟩ | ⟨q4, q5, q6, q9⟩
  all_goals
   have k14 : W.cell? ⟨w.heap.size, 14, none⟩ = some (.slice L.A14 x.f14.length L.c14) := X.cell 14
   go_wp2_with fail
   refine (H14.out W X.bl).mono ?_
   rintro e W9 ⟨v0, rfl, hR0, hB0⟩
   obtain ⟨A0, c0, rfl, hle0, hC0⟩ := Kd.R_reads hR0
   have HR0 := Lh hR0
   have HBASE := Lh X.bl.size
   have HW1 := Lh (show w.heap.size + 1 < W.heap.size by obtain ⟨u, hg, _⟩ := X.ws; exact blk_lt hg)
   replace X := X.below hB0
   clear k14 hB0 hR0
   obtain ⟨u, hg, hR⟩ := X.ws
   obtain ⟨Au, cu, rfl⟩ := Kd.R_slice hR
   have k9 : W9.cell? ⟨w.heap.size + 1, 0, none⟩ = some (.slice Au [].length cu) := blk_cell hg 0
   have f9 := blk_frozen hg 0
   have HR2 := Lh (R_only HR0.out ((Only.refl (· = w.heap.size + 1) W9).setCell (p := ⟨w.heap.size + 1, 0, none⟩) (fun _ => rfl) (.slice A0 (encP x.f14).1.length c0)) (fun k hk _ h => by have := HW1.out; omega))
   have HB2 := Lh (X.bl.setCell (p := ⟨w.heap.size + 1, 0, none⟩) (Nat.le_succ _) (.slice A0 (encP x.f14).1.length c0))
   clear hg hR X hC0 HR0
   generalize (encP x.f14).1.length = nl at *
   go_wp2
   go_ret
   rw [HV.out]
   exact ValQ.of_R HR2.out HBASE.out HB2.out
 by_cases hk : x.f0 = 7
 ·have HV := Lh (show valueD x = [] ++ fourL [x.f2] from by unfold valueD; rw [if_neg (by omega), if_neg (by omega), if_neg (by omega), if_neg (by omega), if_neg (by omega), if_pos (by omega)]; try rfl)
  have q0 : (x.f0 == 0) = false := by simp; omega
  have q1 : (x.f0 == 1) = false := by simp; omega
  have q2 : (x.f0 == 2) = false := by simp; omega
  have q3 : (x.f0 == 3) = false := by simp; omega
  have q16 : (x.f0 == 16) = false := by simp; omega
  have q4 : (x.f0 == 4) = false := by simp; omega
  have q5 : (x.f0 == 5) = false := by simp; omega
  have q6 : (x.f0 == 6) = false := by simp; omega
  have q9 : (x.f0 == 9) = false := by simp; omega
  have q7 : (x.f0 == 7) = true := by simp [hk]
  clear hk
  have k2 : W.cell? ⟨w.heap.size, 2, none⟩ = some (.int .u32 x.f2) := X.cell 2
  go_wp2_with fail
  refine (X.four [x.f2] [.int .u32 (x.f2)] 1 rfl rfl (by simp [twoL_length, fourL_length, gapL_length]; try omega) (by decide)).mono ?_
  rintro e W1 ⟨rfl, X1⟩
  replace X := X1
  clear X1 k2
  obtain ⟨u, hg, hR⟩ := X.ws
  obtain ⟨Au, cu, rfl⟩ := Kd.R_slice hR
  have k9 : W1.cell? ⟨w.heap.size + 1, 0, none⟩ = some (.slice Au ([] ++ fourL [x.f2]).length cu) := blk_cell hg 0
  have HRR := Lh hR
  have HXB := Lh X.bl
  clear hg hR X
  generalize ([] ++ fourL [x.f2]).length = nl at *
  go_wp2
  go_ret
  rw [HV.out]
  exact ValQ.of_R HRR.out (by omega) HXB.out
 by_cases hk0 : x.f0 = 8 ∨ x.f0 = 11 ∨ x.f0 = 14
 ·have HV := Lh (show valueD x = [] from by unfold valueD; rw [if_neg (by omega), if_neg (by omega), if_neg (by omega), if_neg (by omega), if_neg (by omega), if_neg (by omega), if_pos (by omega)]; try rfl)
  have hq : ((x.f0 == 8) = true) ∨ ((x.f0 == 8) = false ∧ (x.f0 == 11) = true) ∨ ((x.f0 == 8) = false ∧ (x.f0 == 11) = false ∧ (x.f0 == 14) = true) := by rcases hk0 with h | h | h <;> simp [h]
  have q0 : (x.f0 == 0) = false := by simp; omega
  have q1 : (x.f0 == 1) = false := by simp; omega
  have q2 : (x.f0 == 2) = false := by simp; omega
  have q3 : (x.f0 == 3) = false := by simp; omega
  have q16 : (x.f0 == 16) = false := by simp; omega
  have q4 : (x.f0 == 4) = false := by simp; omega
  have q5 : (x.f0 == 5) = false := by simp; omega
  have q6 : (x.f0 == 6) = false := by simp; omega
  have q9 : (x.f0 == 9) = false := by simp; omega
  have q7 : (x.f0 == 7) = false := by simp; omega
  clear hk0
  rcases hq with q8 | ⟨q8, q11⟩ | ⟨q8, q11, q14⟩
  all_goals
   obtain ⟨u, hg, hR⟩ := X.ws
   obtain ⟨Au, cu, rfl⟩ := Kd.R_slice hR
   have k9 : W.cell? ⟨w.heap.size + 1, 0, none⟩ = some (.slice Au ([]).length cu) := blk_cell hg 0
   have HRR := Lh hR
   have HXB := Lh X.bl
   clear hg hR X
   generalize ([]).length = nl at *
   go_wp2
   go_ret
   rw [HV.out]
   exact ValQ.of_R HRR.out (by omega) HXB.out
 have HV := Lh (show valueD x = x.f13 from by unfold valueD; rw [if_neg (by omega), if_neg (by omega), if_neg (by omega), if_neg (by omega), if_neg (by omega), if_neg (by omega), if_neg (by omega)]; try rfl)
 have q0 : (x.f0 == 0) = false := by simp; omega
 have q1 : (x.f0 == 1) = false := by simp; omega
 have q2 : (x.f0 == 2) = false := by simp; omega
 have q3 : (x.f0 == 3) = false := by simp; omega
 have q16 : (x.f0 == 16) = false := by simp; omega
 have q4 : (x.f0 == 4) = false := by simp; omega
 have q5 : (x.f0 == 5) = false := by simp; omega
 have q6 : (x.f0 == 6) = false := by simp; omega
 have q9 : (x.f0 == 9) = false := by simp; omega
 have q7 : (x.f0 == 7) = false := by simp; omega
 have q8 : (x.f0 == 8) = false := by simp; omega
 have q11 : (x.f0 == 11) = false := by simp; omega
 have q14 : (x.f0 == 14) = false := by simp; omega
 clear hk hk0
 have k13 : W.cell? ⟨w.heap.size, 13, none⟩ = some (.slice L.A13 x.f13.length L.c13) := X.cell 13
 obtain ⟨u, hg, hR⟩ := X.ws
 obtain ⟨Au, cu, rfl⟩ := Kd.R_slice hR
 have k9 : W.cell? ⟨w.heap.size + 1, 0, none⟩ = some (.slice Au [].length cu) := blk_cell hg 0
 have f9 := blk_frozen hg 0
 have HB2 := Lh (X.bl.setCell (p := ⟨w.heap.size + 1, 0, none⟩) (Nat.le_succ _) (.slice L.A13 x.f13.length L.c13))
 clear hg hR X
 generalize hnl : x.f13.length = nl at *
 go_wp2
 go_ret
 rw [HV.out]
 subst hnl
 exact ⟨L.A13, L.c13, rfl, HXW.out.l13, fun W' hO => (HXX.out W' ((HB2.out.mono hb0).trans (hO.below (by have := HB2.out.size; omega) (fun k hk => hk.1)))).h13, HB2.out⟩
end Go.Proofs.YtdlamomabonkjaaDoor.Ch
end
section
namespace Go.Proofs.YtdlamomabonkjaaDoor.Ch
open Go.RowKit YtdlamomabonkjaaDoorW.PrintWords YtdlamomabonkjaaDoorW.PrintLast Base PCh ParDec ParEnc
structure RX (w1 : World) (ys : List Int) (v : Value) (W : World) : Prop where
 bl : Below w1.heap.size w1 W
 r : (Kd.int .u8).R 5 W w1.heap.size (fun _ => True) v ys
theorem RX.drewN {w1 W : World} {ys : List Int} {v : Value} (h : RX w1 ys v W) (n : Nat) : RX w1 ys v (W.drewN n) := ⟨pw_below_drewN h.bl n, Kd.R_drewN h.r n⟩
theorem u32_mod (n : Int) : IntKind.u32.wrap n = n % 4294967296 := by simp [IntKind.wrap, IntKind.bits, IntKind.signed]
theorem two32 (n : Int) : twoL [IntKind.u32.wrap n] = twoL [n] := by
 rw [u32_mod]
 simp only [twoL, List.append_nil, List.cons.injEq, and_true]
 omega
theorem sh_nonneg (n : Int) : 0 ≤ IntKind.u64.wrap n := by simp [IntKind.wrap, IntKind.bits, IntKind.signed]; omega
theorem put_two (l : List Int) (n : Int) (hl : l.length ≤ 140737488355000) : ropewalkref06_put.f 3 l n 2 = some (l ++ twoL [n]) := by
 have e1 : shr .u32 n (IntKind.u64.wrap (wrap64 (8 * 1))) % 256 = n / 256 % 256 := by simp [shr, wrap64, IntKind.wrap, IntKind.bits, IntKind.signed]
 have e0 : shr .u32 n (IntKind.u64.wrap (wrap64 (8 * 0))) % 256 = n % 256 := by simp [shr, wrap64, IntKind.wrap, IntKind.bits, IntKind.signed]
 unfold ropewalkref06_put.f
 rw [show wrap64 (2 - 1) = 1 by unfold wrap64; omega, ropewalkref06_put.l0, if_pos (by decide), if_pos (sh_nonneg _), if_pos (by omega), e1, show wrap64 (1 - 1) = 0 by unfold wrap64; omega, ropewalkref06_put.l0, if_pos (by decide), if_pos (sh_nonneg _), if_pos (by rw [List.length_append]; simp; omega), e0, show wrap64 (0 - 1) = -1 by unfold wrap64; omega, ropewalkref06_put.l0, if_neg (by decide)]
 simp [twoL]
theorem put_four (l : List Int) (n : Int) (hl : l.length ≤ 140737488355000) : ropewalkref06_put.f 5 l n 4 = some (l ++ fourL [n]) := by
 have e3 : shr .u32 n (IntKind.u64.wrap (wrap64 (8 * 3))) % 256 = n / 16777216 % 256 := by simp [shr, wrap64, IntKind.wrap, IntKind.bits, IntKind.signed]
 have e2 : shr .u32 n (IntKind.u64.wrap (wrap64 (8 * 2))) % 256 = n / 65536 % 256 := by simp [shr, wrap64, IntKind.wrap, IntKind.bits, IntKind.signed]
 have e1 : shr .u32 n (IntKind.u64.wrap (wrap64 (8 * 1))) % 256 = n / 256 % 256 := by simp [shr, wrap64, IntKind.wrap, IntKind.bits, IntKind.signed]
 have e0 : shr .u32 n (IntKind.u64.wrap (wrap64 (8 * 0))) % 256 = n % 256 := by simp [shr, wrap64, IntKind.wrap, IntKind.bits, IntKind.signed]
 unfold ropewalkref06_put.f
 rw [show wrap64 (4 - 1) = 3 by unfold wrap64; omega, ropewalkref06_put.l0, if_pos (by decide), if_pos (sh_nonneg _), if_pos (by omega), e3, show wrap64 (3 - 1) = 2 by unfold wrap64; omega, ropewalkref06_put.l0, if_pos (by decide), if_pos (sh_nonneg _), if_pos (by rw [List.length_append]; simp; omega), e2, show wrap64 (2 - 1) = 1 by unfold wrap64; omega, ropewalkref06_put.l0, if_pos (by decide), if_pos (sh_nonneg _), if_pos (by simp only [List.length_append, List.length_cons, List.length_nil]; omega), e1, show wrap64 (1 - 1) = 0 by unfold wrap64; omega, ropewalkref06_put.l0, if_pos (by decide), if_pos (sh_nonneg _), if_pos (by simp only [List.length_append, List.length_cons, List.length_nil]; omega), e0, show wrap64 (0 - 1) = -1 by unfold wrap64; omega, ropewalkref06_put.l0, if_neg (by decide)]
 simp [fourL]
theorem RX.put {w1 W : World} {ys zs : List Int} {v : Value} (h : RX w1 ys v W) (k : Nat) (n m : Int) (hf : ropewalkref06_put.f k ys n m = some zs) :
  Calls Tryd.prog 63 #[v, .int .u32 n, .int .i64 m] W fun e w' => ∃ v', e = .returned v' ∧ RX w1 zs v' w' :=
 (ropewalkref06_put.calls k (fun _ => True) v ys n m zs w1 W h.bl h.r hf).mono fun e w' ⟨v', h1, h2, h3, _⟩ => ⟨v', h1, h3, Kd.R_mono h2 (fun _ _ => trivial)⟩
theorem RX.two {w1 W : World} {ys : List Int} {v : Value} (h : RX w1 ys v W) (n : Int) (t : List Int) (ht : twoL [n] = t) (hl : ys.length ≤ 140737488355000) :
  Calls Tryd.prog 63 #[v, .int .u32 n, .int .i64 2] W fun e w' => ∃ v', e = .returned v' ∧ RX w1 (ys ++ t) v' w' := by
 subst ht
 exact h.put 3 n 2 (put_two ys n hl)
theorem RX.four {w1 W : World} {ys : List Int} {v : Value} (h : RX w1 ys v W) (n : Int) (hl : ys.length ≤ 140737488355000) :
  Calls Tryd.prog 63 #[v, .int .u32 n, .int .i64 4] W fun e w' => ∃ v', e = .returned v' ∧ RX w1 (ys ++ fourL [n]) v' w' := h.put 5 n 4 (put_four ys n hl)
end Go.Proofs.YtdlamomabonkjaaDoor.Ch
end
section
namespace Go.Proofs.YtdlamomabonkjaaDoor.Ch
open Go.RowKit YtdlamomabonkjaaDoorW.PrintWords YtdlamomabonkjaaDoorW.PrintLast Base PCh ParDec ParEnc
def padL (n : Nat) : List Int := List.replicate ((n + 3) / 4 * 4 - n) 0
noncomputable def chunkL (x : Chk) : List Int := [x.f0, x.f1] ++ twoL [IntKind.u16.wrap (4 + ((valueD x).length : Int))] ++ valueD x ++ padL (valueD x).length
noncomputable def runE : List Int → List Chk → List Int × Int
 | acc, [] => (acc, 0)
 | acc, x :: r => if 65536 < (acc ++ chunkL x).length then ([], 2) else runE (acc ++ chunkL x) r
noncomputable def chkAll : List Chk → Int
 | [] => 0
 | x :: r => if checkD x = 0 then chkAll r else checkD x
noncomputable def encD (xs : List Chk) : List Int × Int := if chkAll xs = 0 then runE [] xs else ([], chkAll xs)
theorem checkD_len {x : Chk} (h : checkD x = 0) : (valueD x).length ≤ 65531 := by
 unfold checkD at h
 split at h
 ·cases h
 ·split at h
  ·cases h
  ·split at h
   ·cases h
   ·split at h
    ·cases h
    ·split at h
     ·contradiction
     ·split at h
      ·cases h
      ·omega
theorem chkAll_mem {xs : List Chk} (h : chkAll xs = 0) {x : Chk} (hx : x ∈ xs) : checkD x = 0 := by
 induction xs with
 | nil => cases hx
 | cons y r ih =>
  unfold chkAll at h
  split at h
  ·rcases List.mem_cons.1 hx with rfl | hx
   ·assumption
   ·exact ih h hx
  ·contradiction
theorem _root_.Go.Proofs.YtdlamomabonkjaaDoor.Base.Only.grown {S : Nat → Prop} {a b c : World} {own : Option Nat} (h : Only S a b) (hG : b.grownBy c own) (hS : ∀ k, k < a.heap.size → own = some k → S k) : Only S a c :=
 ⟨hG.os.trans h.os, hG.tape.trans h.tape, hG.output.trans h.output, Nat.le_trans h.size hG.size, fun k hk hn => (hG.block k (Nat.lt_of_lt_of_le hk h.size) (fun e => hn (hS k hk e.symm))).trans (h.block k hk hn)⟩
theorem chk_at {w : World} {A : Option Addr} {xs : List Chk} (h : Kd.C k41 w A xs.length xs) (i : Nat) (hi : i < xs.length) :
  ∃ ad x L, A = some ad ∧ xs.drop i = x :: xs.drop (i + 1) ∧ x ∈ xs ∧ (∀ j v, (CV x L).toList[j]? = some v → w.cell? ((ad.add (i * 15)).add j) = some v) ∧ CR w x L := by
 obtain ⟨ad, c, e, _, hK, hc0⟩ := Kd.C_get h xs[i] (i : Int) (by omega) (by omega)
 rw [Int.toNat_natCast] at hK hc0
 have e2 : xs.getD i xs[i] = xs[i] := getD_lt _ _ _ hi
 rw [e2] at hK
 obtain ⟨L, rfl, hx⟩ := CR.of_K hK
 refine ⟨ad, xs[i], L, e, List.drop_eq_getElem_cons hi, List.getElem_mem hi, fun j v hv => ?_, hx⟩
 rw [Addr.add_add]
 exact hc0 j v hv
theorem wpList_load_cells {P : Program} {ops : Array Oper} {rest : List Oper} {op : Oper} {a : Act} {w : World} {Q : Exit → Act → World → Prop} (hgd : op.guard = none) (ty : TypeId) (x : Operand) (ho : op.op = .load ty x)
  {ad : Addr} (hx : a.eval x = .pointer (some ad)) (cs : Array Value) (d : TypeDesc) (hc : ∀ j v, cs.toList[j]? = some v → w.cell? (ad.add j) = some v)
  (hu : P.underlying ty = some d) (hd : d.isRow = true) (hi : (P.info? ty).map (·.size) = some cs.size)
  (h : wpList P ops Q rest (a.put op.dst (.agg cs)) w) : wpList P ops Q (op :: rest) a w := by
 have hl : (loadCells ad cs.size).run P w = .ok cs w := run_loadCells_list (P := P) w ad cs.toList hc
 have hv : (loadVar ty ad).run P w = .ok (.agg cs) w := by
  cases hq : P.info? ty with
  | none => simp [hq] at hi
  | some i =>
   have hs : i.size = cs.size := by simpa [hq] using hi
   have hagg : (isAgg ty).run P w = .ok true w := by
    unfold isAgg
    rw [Sem.run_bind, run_underlying hu w]
    cases d <;> simp_all [TypeDesc.isRow]
   simp [loadVar, Sem.run_bind, hagg, sizeOf, typeInfo, hq, hs, hl]
 refine wpList_plain hgd fun _ hK => ?_
 have hK' := hK _ _ h
 unfold Oper.wp execOp
 simp only [ho, hx, Instr.loadAt, Instr.sureAddr, Sem.run_bind, Sem.run_pure, Result.andThen_ok, hv]
 exact hK'
theorem exec_load_cells {P : Program} {o : Oper} {a : Act} {w : World} (ty : TypeId) (x : Operand) (ho : o.op = .load ty x) {ad : Addr} (hx : a.eval x = .pointer (some ad)) (cs : Array Value) (d : TypeDesc) (hc : ∀ j v, cs.toList[j]? = some v → w.cell? (ad.add j) = some v)
  (hu : P.underlying ty = some d) (hd : d.isRow = true) (hi : (P.info? ty).map (·.size) = some cs.size) : (execOp a.eval o).run P w = .ok (.value (.agg cs)) w := by
 have hl : (loadCells ad cs.size).run P w = .ok cs w := run_loadCells_list (P := P) w ad cs.toList hc
 have hv : (loadVar ty ad).run P w = .ok (.agg cs) w := by
  cases hq : P.info? ty with
  | none => simp [hq] at hi
  | some i =>
   have hs : i.size = cs.size := by simpa [hq] using hi
   have hagg : (isAgg ty).run P w = .ok true w := by
    unfold isAgg
    rw [Sem.run_bind, run_underlying hu w]
    cases d <;> simp_all [TypeDesc.isRow]
   simp [loadVar, Sem.run_bind, hagg, sizeOf, typeInfo, hq, hs, hl]
 unfold execOp
 simp only [ho, hx, Instr.loadAt, Instr.sureAddr, Sem.run_bind, Sem.run_pure, Result.andThen_ok, hv]
theorem cells_of_blk {w : World} {g : Nat} {cs : Array Value} {t : TypeId} {fr : Nat × Nat} (h : w.heap[g]? = some (.cells cs t fr)) : ∀ (j : Nat) (v : Value), cs.toList[j]? = some v → w.cell? ((⟨g, 0, none⟩ : Addr).add j) = some v := fun j v hv => by
 rw [Addr.add_lit, Nat.zero_add]
 unfold World.cell?
 simp only [h]
 simpa using hv
theorem CV_one (x : Chk) (L : Lay) : (CV x L).all (·.oneCell') = true := by simp [CV, Value.oneCell']
theorem alloc_chunk {o : Oper} {a : Act} {w : World} (ho : o.op = .alloc 41) : (execOp a.eval o).run Tryd.prog w = .ok (.value (.pointer (some ⟨w.heap.size, 0, none⟩))) (w.alloc (.cells #[.int .u8 0, .int .u8 0, .int .u32 0, .int .u16 0, .int .u16 0, .int .u32 0, .int .u32 0, .int .u32 0, .int .u16 0, .int .u16 0, .slice none 0 0, .slice none 0 0, .slice none 0 0, .slice none 0 0, .slice none 0 0] 41)) := by
 unfold execOp
 simp only [ho]
 go_simp
theorem wpList_box {ops : Array Oper} {rest : List Oper} {o1 o2 : Oper} {a : Act} {w : World} {Q : Exit → Act → World → Prop} (h1 : o1.guard = none) (h2 : o2.guard = none) (n : Tmp) (hd : o1.dst = some n) (ho1 : o1.op = .alloc 41)
  (y : Operand) (ho2 : o2.op = .store 41 (.tmp n) y) (cs : Array Value) (hx : (a.put (some n) (.pointer (some ⟨w.heap.size, 0, none⟩))).eval (.tmp n) = .pointer (some ⟨w.heap.size, 0, none⟩))
  (hy : (a.put (some n) (.pointer (some ⟨w.heap.size, 0, none⟩))).eval y = .agg cs) (hsz : (#[.int .u8 0, .int .u8 0, .int .u32 0, .int .u16 0, .int .u16 0, .int .u32 0, .int .u32 0, .int .u32 0, .int .u16 0, .int .u16 0, .slice none 0 0, .slice none 0 0, .slice none 0 0, .slice none 0 0, .slice none 0 0] : Array Value).size = cs.size) (hi : (Tryd.prog.info? 41).map (·.size) = some cs.size) (hone : cs.all (·.oneCell') = true)
  (h : wpList Tryd.prog ops Q rest ((a.put (some n) (.pointer (some ⟨w.heap.size, 0, none⟩))).put o2.dst undef) (w.alloc (.cells cs 41))) : wpList Tryd.prog ops Q (o1 :: o2 :: rest) a w := by
 have h3 : wpList Tryd.prog ops Q (o2 :: rest) (a.put (some n) (.pointer (some ⟨w.heap.size, 0, none⟩))) (w.alloc (.cells #[.int .u8 0, .int .u8 0, .int .u32 0, .int .u16 0, .int .u16 0, .int .u32 0, .int .u32 0, .int .u32 0, .int .u16 0, .int .u16 0, .slice none 0 0, .slice none 0 0, .slice none 0 0, .slice none 0 0, .slice none 0 0] 41)) := by
  refine wpList_store_row h2 41 (.tmp n) y ho2 w.heap.size cs hx hy 41 #[.int .u8 0, .int .u8 0, .int .u32 0, .int .u16 0, .int .u16 0, .int .u32 0, .int .u32 0, .int .u32 0, .int .u16 0, .int .u16 0, .slice none 0 0, .slice none 0 0, .slice none 0 0, .slice none 0 0, .slice none 0 0] (blk_new _ _) hi hsz hone ?_
  rw [World.setRow_alloc_new]
  exact h
 refine wpList_plain h1 fun _ hK => ?_
 have hK' := hK _ _ h3
 rw [← hd] at hK'
 unfold Oper.wp
 rw [alloc_chunk ho1]
 exact hK'
def WSo (ok : Nat → Prop) (w : World) (gw : Nat) (xs : List Int) : Prop := ∃ u, w.heap[gw]? = some (.cells #[u] 87 (0, 0)) ∧ (Kd.int .u8).R 5 w (gw + 1) ok u xs
theorem C_blk {g n : Nat} {w W : World} {kk : IntKind} {ns : List Int} (hg : W.heap[g]? = w.heap[g]?) (hC : (Kd.int kk).C w (some ⟨g, 0, none⟩) n ns) : (Kd.int kk).C W (some ⟨g, 0, none⟩) n ns := by
 obtain ⟨e1, e2, e3⟩ := hC
 refine ⟨e1, e2, fun hn => ?_⟩
 obtain ⟨ad, e, hc⟩ := e3 hn
 injection e with e
 subst e
 refine ⟨_, rfl, fun j p hj => ?_⟩
 obtain ⟨cs, c1, c2, c3⟩ := hc j p hj
 refine ⟨cs, c1, c2, fun i u hu => ?_⟩
 have := c3 i u hu
 have hb : (Addr.add ⟨g, 0, none⟩ (j * (Kd.int kk).sz + i)).block = g := add_block _ _
 unfold World.cell? at this ⊢
 rw [hb, hg]
 rw [hb] at this
 exact this
set_option maxHeartbeats 2000000 in
theorem wtwo_o (w : World) (gw : Nat) (ok : Nat → Prop) (hok : ∀ k, w.heap.size ≤ k → ok k) (hgo : ¬ ok gw) (xs : List Int) (A : Option Addr) (c : Nat) (ns : List Int) (hs : WSo ok w gw xs) (hA : ∀ W, Only (fun k => k = gw ∨ ok k) w W → (Kd.int .u16).C W A ns.length ns) (hx : xs.length + 2 * ns.length ≤ 140737488355328) :
  Calls Tryd.prog 53 #[.pointer (some ⟨gw, 0, none⟩), .slice A ns.length c] w fun e w' => e = .returned (.tuple #[]) ∧ WSo ok w' gw (xs ++ twoL ns) ∧ Only (fun k => k = gw ∨ ok k) w w' := by
 have HS := Lh hs
 have HA := Lh hA
 have hm := (hA w (Only.refl _ _)).2.1
 have HOK := Lh hok
 have HGO := Lh hgo
 clear hs hA hok hgo
 go_enter Tryd.func53, Tryd.ntmps53
 go_wp2
 go_loopw [5, 8] (fun v5 v8 wr => ∃ (i : Nat) (ys : List Int), i ≤ ns.length ∧ v8 = .int .i64 (i : Int) ∧ Hid (ys.length = xs.length + 2 * i) ∧ Hid (ys ++ twoL (ns.drop i) = xs ++ twoL ns) ∧ Hid (WSo ok wr gw ys) ∧ Hid (Only (fun k => k = gw ∨ ok k) w wr)) (fun _ v8 _ => ns.length - (intOf v8).toNat)
 case atStart => exact ⟨0, xs, Nat.zero_le _, rfl, (by show _ = _; omega), rfl, HS.out, Only.refl _ _⟩
 case round =>
  clear HS
  obtain ⟨i, ys, hi, rfl, HYL, HE, HW, HF⟩ := hrel
  by_cases hlt : i < ns.length
  ·obtain ⟨ad, rfl, x0⟩ := int_at (HA.out wr HF.out) i hlt
   obtain ⟨u, hg, hR⟩ := HW.out
   obtain ⟨Au, cu, rfl⟩ := Kd.R_slice hR
   have hE := HE.out
   have hd : ns.drop i = ns.getD i 0 :: ns.drop (i + 1) := by
    rw [List.drop_eq_getElem_cons hlt]
    congr 1
    simp [List.getD_eq_getElem?_getD, hlt]
   rw [hd, twoL] at hE
   generalize ns.getD i 0 = q at *
   have hE2 : (ys ++ [q / 256 % 256, q % 256]) ++ twoL (ns.drop (i + 1)) = xs ++ twoL ns := by rw [List.append_assoc]; exact hE
   have HE2 := Lh hE2
   have HG := Lh hg
   have HR := Lh hR
   have k0 : wr.cell? ⟨gw, 0, none⟩ = some (.slice Au ys.length cu) := blk_cell hg 0
   have HLT := Lh (blk_lt hg)
   clear hE hE2 hd HE HW hg hR
   go_wp2_with (at_builtin; go_must (refine Kd.R_append_row (Value.int .u8) (0 : Int) (w0 := wr.alloc (.cells #[.int .u8 (q / 256 % 256), .int .u8 (q % 256)] 5)) (W := wr.alloc (.cells #[.int .u8 (q / 256 % 256), .int .u8 (q % 256)] 5)) (gw + 1) rfl _ _ 27 5 _ 1 rfl Tryd.underlying27 info_u8 rfl (by decide) (.slice Au ys.length cu) ys [q / 256 % 256, q % 256] (some ⟨wr.heap.size, 0, none⟩) 2 2 ok rfl rfl (fun k hk => HOK.out k (by have := HF.out.size; simp at hk; omega)) (Kd.R_alloc HR.out _) (row_lit (Kd.int .u8) rfl wr 5 [.int .u8 (q / 256 % 256), .int .u8 (q % 256)] [q / 256 % 256, q % 256] rfl (by simp) (fun j v p hv hp => by rcases j with _ | _ | j <;> simp at hv hp <;> (subst hv; subst hp; rfl))) (Below.refl _ _) (by have := HLT.out; simp; omega) (by have := HYL.out; omega) ?_); (intro v1 w1 hR1 hB1 hG1 _; have HR1 := Lh hR1; have HB1 := Lh hB1; have HGR := Lh hG1; clear hR1 hB1 hG1; refine RowKit.Hid.out ?_))
   refine Lh ?_
   obtain ⟨A7, c7, hv1⟩ := Kd.R_slice HR1.out
   subst hv1
   have hown : (Value.slice Au ys.length cu).ownBlock ≠ some gw := fun e => HGO.out ((Kd.R_alloc HR.out (.cells #[.int .u8 (q / 256 % 256), .int .u8 (q % 256)] 5)).1 _ e)
   have hg1 := blk_grown (blk_alloc HG.out (.cells #[.int .u8 (q / 256 % 256), .int .u8 (q % 256)] 5)) HGR.out (fun e => hown e.symm)
   have hs := blk_cell hg1 0
   have hf := blk_frozen hg1 0
   have HG1 := Lh hg1
   have HF1 := Lh ((HF.out.alloc (.cells #[.int .u8 (q / 256 % 256), .int .u8 (q % 256)] 5)).grown HGR.out (fun k _ e => Or.inr ((Kd.R_alloc HR.out (.cells #[.int .u8 (q / 256 % 256), .int .u8 (q % 256)] 5)).1 _ e)))
   have HR2 := Lh (Kd.R_far HR1.out (p := ⟨gw, 0, none⟩) (fun k hk (e : k = gw) => HGO.out (e ▸ hk)) (.slice A7 (ys ++ [q / 256 % 256, q % 256]).length c7))
   rw [show (ys ++ [q / 256 % 256, q % 256]).length = ys.length + 2 by simp] at HR2
   clear hg1 HGR HB1 HF HR HG k0
   go_wp2
   go_roundw
   case rel => exact ⟨i + 1, ys ++ [q / 256 % 256, q % 256], by omega, by go_num, (by have := HYL.out; show _ = _; simp only [List.length_append, List.length_cons, List.length_nil]; omega), HE2, ⟨_, blk_put HG1.out 0 _ rfl, HR2.out⟩, HF1.out.setCell (fun _ => Or.inl rfl) _⟩
   case measure => simp [intOf]; omega
  ·obtain rfl : i = ns.length := by omega
   have hE := HE.out
   rw [List.drop_length, twoL, List.append_nil] at hE
   have HE2 := Lh hE
   clear hE HE HA
   go_wp2
   go_end0
   exact ⟨rfl, by rw [← HE2.out]; exact HW.out, HF.out⟩
theorem WSo.only {ok : Nat → Prop} {S : Nat → Prop} {w w' : World} {gw : Nat} {xs : List Int} (h : WSo ok w gw xs) (o : Only S w w') (hs : ∀ k, gw ≤ k → k < w.heap.size → ¬ S k) : WSo ok w' gw xs := by
 obtain ⟨u, h1, h2⟩ := h
 exact ⟨u, o.blk h1 (hs gw (Nat.le_refl _) (blk_lt h1)), R_only h2 o (fun k hk => hs k (by omega))⟩
theorem wtwo_lit_o (w : World) (gw : Nat) (ok : Nat → Prop) (hok : ∀ k, w.heap.size ≤ k → ok k) (hgo : ¬ ok gw) (xs ns : List Int) (vs : List Value) (n : Nat) (hv : vs = ns.map (Value.int .u16)) (hn : ns.length = n) (hs : WSo ok w gw xs) (hx : xs.length + 2 * ns.length ≤ 140737488355328) :
  Calls Tryd.prog 53 #[.pointer (some ⟨gw, 0, none⟩), .slice (some ⟨w.heap.size, 0, none⟩) n n] (w.alloc (.cells vs.toArray 22)) fun e w' => e = .returned (.tuple #[]) ∧ WSo ok w' gw (xs ++ twoL ns) ∧ Only (fun k => k = gw ∨ ok k) w w' := by
 subst hn
 obtain ⟨u, hg, hR⟩ := hs
 have hlt := blk_lt hg
 have hC : (Kd.int .u16).C (w.alloc (.cells vs.toArray 22)) (some ⟨w.heap.size, 0, none⟩) ns.length ns := row_lit (Kd.int .u16) rfl w _ vs ns (by rw [hv, List.length_map]) (by omega) (fun j v p h1 h2 => by
  rw [hv, List.getElem?_map, h2] at h1
  injection h1 with h1
  subst h1
  rfl)
 have hR' : (Kd.int .u8).R 5 (w.alloc (.cells vs.toArray 22)) (gw + 1) (fun k => ok k ∧ k ≠ w.heap.size) u xs := Kd.R_alloc (Kd.R_mono (Kd.R_bound hR) (fun k hk => ⟨hk.1, by have := hk.2.2.1; omega⟩)) _
 have hsz : (w.alloc (.cells vs.toArray 22)).heap.size = w.heap.size + 1 := by simp
 refine (wtwo_o (w.alloc (.cells vs.toArray 22)) gw (fun k => ok k ∧ k ≠ w.heap.size) (fun k hk => ⟨hok k (by omega), by omega⟩) (fun h => hgo h.1) xs (some ⟨w.heap.size, 0, none⟩) ns.length ns ⟨u, blk_alloc hg _, hR'⟩ (fun W hO => ?_) hx).mono ?_
 ·exact C_blk (hO.block _ (by omega) (fun h => h.elim (fun h => absurd h (by omega)) (fun h => h.2 rfl))) hC
 ·rintro e w' ⟨h1, ⟨u', h2, h3⟩, h4⟩
  exact ⟨h1, ⟨u', h2, Kd.R_mono h3 (fun k hk => hk.1)⟩, ((Only.refl _ w).alloc _).trans h4 (fun k _ h => h.elim Or.inl (fun h => Or.inr h.1))⟩
end Go.Proofs.YtdlamomabonkjaaDoor.Ch
end
section
namespace Go.Proofs.YtdlamomabonkjaaDoor.Base
open Go.ChangeShapes Go.WideShapes Go.ChangeAt Go.RowKit YtdlamomabonkjaaDoorW.PrintWords
theorem bulk_one {H : Type} (d : DataW H) : 1 ≤ Rows.uptoBulk d := by
 cases d with
 | lit l => cases l <;> simp [Rows.uptoBulk]
 | nil => simp [Rows.uptoBulk]
 | ptr d => simp [Rows.uptoBulk]
 | slice elems spare => simp [Rows.uptoBulk]
 | agg parts => simp [Rows.uptoBulk]
 | iface t d => simp [Rows.uptoBulk]
 | map entries => simp [Rows.uptoBulk]
 | held h => simp [Rows.uptoBulk]
theorem bulk_sum {H : Type} {α : Type} (l : List (DataW H)) (xs : List α) (wt : α → Nat) (hl : xs.length = l.length) (h : ∀ (i : Nat) (x : α) (d : DataW H), xs[i]? = some x → l[i]? = some d → wt x ≤ Rows.uptoBulk d) : (xs.map wt).sum ≤ Rows.uptoBulkAll l := by
 induction l generalizing xs with
 | nil =>
  cases xs with
  | nil => simp
  | cons x xs => simp at hl
 | cons d l ih =>
  cases xs with
  | nil => simp at hl
  | cons x xs =>
   have h1 := h 0 x d rfl rfl
   have h2 := ih xs (by simpa using hl) (fun i x d hx hd => h (i + 1) x d (by simpa using hx) (by simpa using hd))
   simp only [List.map_cons, List.sum_cons, Rows.uptoBulkAll]
   omega
def Opens {α : Type} (t : TypeId) (d : Kd α) (wt : α → Nat) : Prop :=
 ∀ {H : Type} (enc : TypeId × Value → H) (W : World) (fuel : Nat) (cs : List Value) (D : DataW H) (p : List MemPlace), DataW.trod enc Tryd.prog W 0 (fun _ => true) true fuel t cs = some (D, p) → ∃ x, d.K W x cs ∧ wt x ≤ Rows.uptoBulk D
theorem Opens.int {α : Type} {t : TypeId} {k : IntKind} {enc : α → Value} {h1 : ∀ x : α, (enc x).oneCell' = true} (dec : Int → α) (ht : Tryd.prog.underlying t = some (.int k)) (hd : ∀ n, (Lit.int k n).wf = true → enc (dec n) = .int k n) : Opens t (Kd.scalar enc h1) (fun _ => 1) := by
 intro H enc W fuel cs D p h
 obtain ⟨n, rfl, hx, hw⟩ := DataW.trod_int ht h
 exact ⟨dec n, by show _ = _; rw [hd n hw], bulk_one D⟩
theorem Opens.bool {t : TypeId} (ht : Tryd.prog.underlying t = some .bool) : Opens t Kd.bool (fun _ => 1) := by
 intro H enc W fuel cs D p h
 obtain ⟨b, rfl, hx⟩ := DataW.trod_bool ht h
 exact ⟨b, rfl, bulk_one D⟩
theorem Opens.byte : Opens 5 Base.byte (fun _ => 1) := Opens.int (fun n => UInt8.ofNat n.toNat) Tryd.underlying5 (fun n hw => by rw [u8_of_wf hw])
theorem Opens.slice {α : Type} {t e : TypeId} {d : Kd α} {wt : α → Nat} (ho : Opens e d wt) (ht : Tryd.prog.underlying t = some (.slice e)) (hc : Tryd.prog.cellsOf e = d.sz) : Opens t (Kd.slice e d) (fun xs => (xs.map wt).sum + 1) := by
 intro H enc W fuel cs D p h
 rcases Go.Deep.open_slice ht h with ⟨rfl, hx⟩ | ⟨a, len, cap, m, n, Ds, Pl, rfl, hb, hl, hm, hmm, hxx, hel⟩
 ·exact ⟨[], ⟨none, 0, rfl, Nat.le_refl _, Kd.C_nil d W⟩, bulk_one D⟩
 ·have hmc : m = cap := by simpa using hmm
  subst hmc
  simp only [Prod.mk.injEq] at hxx
  obtain ⟨rfl, rfl⟩ := hxx
  have hone : ∀ i, i < len → ∃ x cs', W.cells? 0 (a.add (i * d.sz)) d.sz = some cs' ∧ d.K W x cs' ∧ wt x ≤ Rows.uptoBulk (Ds i) := by
   intro i hi
   obtain ⟨cs', h1, h2⟩ := hel i (by omega)
   obtain ⟨x, hk, hw⟩ := ho enc W n cs' (Ds i) (Pl i) h2
   rw [hc] at h1
   exact ⟨x, cs', h1, hk, hw⟩
  cases hlen : len with
  | zero =>
   refine ⟨[], ⟨some a, m, rfl, Nat.zero_le _, ⟨rfl, by simp, fun h0 => by simp at h0⟩⟩, ?_⟩
   exact bulk_one _
  | succ len' =>
   obtain ⟨x0, _⟩ := hone 0 (by omega)
   have hx : ∀ i, ∃ x, i < len → ∃ cs', W.cells? 0 (a.add (i * d.sz)) d.sz = some cs' ∧ d.K W x cs' ∧ wt x ≤ Rows.uptoBulk (Ds i) := by
    intro i
    by_cases hi : i < len
    ·obtain ⟨x, hx⟩ := hone i hi
     exact ⟨x, fun _ => hx⟩
    ·exact ⟨x0, fun h0 => absurd h0 hi⟩
   rw [← hlen]
   have hll : ((List.range len).map fun i => (hx i).choose).length = len := by simp
   have hget : ∀ j x, ((List.range len).map fun i => (hx i).choose)[j]? = some x → j < len ∧ x = (hx j).choose := by
    intro j x hj
    have hjl : j < len := by have := (List.getElem?_eq_some_iff.1 hj).1; simpa using this
    rw [List.getElem?_map, List.getElem?_range hjl] at hj
    exact ⟨hjl, (Option.some.inj hj).symm⟩
   refine ⟨(List.range len).map fun i => (hx i).choose, ⟨some a, m, by rw [hll], by rw [hll]; exact hl, ⟨rfl, by rw [hll]; simp only [maxLen] at hm; omega, fun _ => ⟨a, rfl, fun j x hj => ?_⟩⟩⟩, ?_⟩
   ·obtain ⟨hjl, rfl⟩ := hget j x hj
    obtain ⟨cs', h1, h2, _⟩ := (hx j).choose_spec hjl
    obtain ⟨_, hlen2, hcell⟩ := World.cells?_some h1
    refine ⟨cs', hlen2, h2, fun i u hu => ?_⟩
    have hi : i < d.sz := by have := (List.getElem?_eq_some_iff.1 hu).1; omega
    have := hcell i hi
    rw [hu] at this
    rw [← this, Go.Deep.add_add]
   ·have hs := bulk_sum ((List.range len).map Ds) ((List.range len).map fun i => (hx i).choose) wt (by simp) (fun i x D hxi hD => by
     obtain ⟨hjl, rfl⟩ := hget i x hxi
     rw [List.getElem?_map, List.getElem?_range hjl] at hD
     obtain rfl := Option.some.inj hD
     obtain ⟨_, _, _, h3⟩ := (hx i).choose_spec hjl
     exact h3)
    simp only [Rows.uptoBulk]
    omega
theorem Opens.bytes : Opens 27 (Kd.slice 5 Base.byte) (fun xs => (xs.map (fun _ => 1)).sum + 1) := Opens.slice Opens.byte Tryd.underlying27 cells_u8
end Go.Proofs.YtdlamomabonkjaaDoor.Base
end
section
namespace Go.Proofs.YtdlamomabonkjaaDoor.Base
open Go.ChangeShapes Go.WideShapes Go.ChangeAt Go.RowKit YtdlamomabonkjaaDoorW.PrintWords
def Short {H : Type} (t : TypeId) (D : DataW H) : Prop := ∀ n ∈ D.weights Tryd.prog t, n ≤ reachBytes
def OpensP {α : Type} (t : TypeId) (d : Kd α) (wt : α → Nat) (Pr : α → Prop) : Prop :=
 ∀ {H : Type} (enc : TypeId × Value → H) (W : World) (fuel : Nat) (cs : List Value) (D : DataW H) (p : List MemPlace), DataW.trod enc Tryd.prog W 0 (fun _ => true) true fuel t cs = some (D, p) → Short t D → ∃ x, d.K W x cs ∧ wt x ≤ Rows.uptoBulk D ∧ Pr x
theorem OpensP.of {α : Type} {t : TypeId} {d : Kd α} {wt : α → Nat} (h : Opens t d wt) : OpensP t d wt (fun _ => True) := by
 intro H enc W fuel cs D p hx _
 obtain ⟨x, h1, h2⟩ := h enc W fuel cs D p hx
 exact ⟨x, h1, h2, trivial⟩
theorem OpensP.mono {α : Type} {t : TypeId} {d : Kd α} {wt : α → Nat} {Pr Pr' : α → Prop} (h : OpensP t d wt Pr) (hp : ∀ x, Pr x → Pr' x) : OpensP t d wt Pr' := by
 intro H enc W fuel cs D p hx hs
 obtain ⟨x, h1, h2, h3⟩ := h enc W fuel cs D p hx hs
 exact ⟨x, h1, h2, hp x h3⟩
theorem weights_all {H : Type} {e : TypeId} {l : List (DataW H)} {D : DataW H} (h : D ∈ l) {n : Nat} (hn : n ∈ D.weights Tryd.prog e) : n ∈ DataW.weightsAll Tryd.prog e l := by
 induction l with
 | nil => cases h
 | cons x r ih =>
  simp only [DataW.weightsAll, List.mem_append]
  rcases List.mem_cons.1 h with rfl | h
  ·exact Or.inl hn
  ·exact Or.inr (ih h)
theorem OpensP.slice {α : Type} {t e : TypeId} {d : Kd α} {wt : α → Nat} {Pr : α → Prop} (ho : OpensP e d wt Pr) (ht : Tryd.prog.underlying t = some (.slice e)) (hc : Tryd.prog.cellsOf e = d.sz) (by_ : Nat) (hby : Tryd.prog.bytesOf e = by_) : OpensP t (Kd.slice e d) (fun xs => (xs.map wt).sum + 1) (fun xs => xs.length * by_ ≤ 140737488351232 ∧ ∀ x ∈ xs, Pr x) := by
 intro H enc W fuel cs D p h hs
 rcases Go.Deep.open_slice ht h with ⟨rfl, hx⟩ | ⟨a, len, cap, m, n, Ds, Pl, rfl, hb, hl, hm, hmm, hxx, hel⟩
 ·exact ⟨[], ⟨none, 0, rfl, Nat.le_refl _, Kd.C_nil d W⟩, bulk_one D, by simp, fun x hx => by cases hx⟩
 ·have hmc : m = cap := by simpa using hmm
  subst hmc
  simp only [Prod.mk.injEq] at hxx
  obtain ⟨rfl, rfl⟩ := hxx
  have hlen : len * by_ ≤ 140737488351232 := by
   have := hs ((((List.range len).map Ds).length + ((List.range (m - len)).map fun j => Ds (len + j)).length) * Tryd.prog.bytesOf e) (by simp only [DataW.weights, ht]; exact List.mem_cons_self ..)
   rw [hby] at this
   simp only [List.length_map, List.length_range] at this
   have h2 : len * by_ ≤ (len + (m - len)) * by_ := Nat.mul_le_mul_right _ (by omega)
   exact Nat.le_trans h2 this
  have hone : ∀ i, i < len → ∃ x cs', W.cells? 0 (a.add (i * d.sz)) d.sz = some cs' ∧ d.K W x cs' ∧ wt x ≤ Rows.uptoBulk (Ds i) ∧ Pr x := by
   intro i hi
   obtain ⟨cs', h1, h2⟩ := hel i (by omega)
   obtain ⟨x, hk, hw, hp⟩ := ho enc W n cs' (Ds i) (Pl i) h2 (fun q hq => hs q (by
    simp only [DataW.weights, ht]
    refine List.mem_cons_of_mem _ (List.mem_append_left _ (weights_all (D := Ds i) ?_ hq))
    exact List.mem_map.2 ⟨i, List.mem_range.2 hi, rfl⟩))
   rw [hc] at h1
   exact ⟨x, cs', h1, hk, hw, hp⟩
  cases hlen' : len with
  | zero =>
   refine ⟨[], ⟨some a, m, rfl, Nat.zero_le _, ⟨rfl, by simp, fun h0 => by simp at h0⟩⟩, ?_, by simp, fun x hx => by cases hx⟩
   exact bulk_one _
  | succ len' =>
   obtain ⟨x0, _⟩ := hone 0 (by omega)
   have hx : ∀ i, ∃ x, i < len → ∃ cs', W.cells? 0 (a.add (i * d.sz)) d.sz = some cs' ∧ d.K W x cs' ∧ wt x ≤ Rows.uptoBulk (Ds i) ∧ Pr x := by
    intro i
    by_cases hi : i < len
    ·obtain ⟨x, hx⟩ := hone i hi
     exact ⟨x, fun _ => hx⟩
    ·exact ⟨x0, fun h0 => absurd h0 hi⟩
   rw [← hlen']
   have hll : ((List.range len).map fun i => (hx i).choose).length = len := by simp
   have hget : ∀ j x, ((List.range len).map fun i => (hx i).choose)[j]? = some x → j < len ∧ x = (hx j).choose := by
    intro j x hj
    have hjl : j < len := by have := (List.getElem?_eq_some_iff.1 hj).1; simpa using this
    rw [List.getElem?_map, List.getElem?_range hjl] at hj
    exact ⟨hjl, (Option.some.inj hj).symm⟩
   refine ⟨(List.range len).map fun i => (hx i).choose, ⟨some a, m, by rw [hll], by rw [hll]; exact hl, ⟨rfl, by rw [hll]; simp only [maxLen] at hm; omega, fun _ => ⟨a, rfl, fun j x hj => ?_⟩⟩⟩, ?_, by rw [hll]; exact hlen, fun x hmem => ?_⟩
   ·obtain ⟨hjl, rfl⟩ := hget j x hj
    obtain ⟨cs', h1, h2, _⟩ := (hx j).choose_spec hjl
    obtain ⟨_, hlen2, hcell⟩ := World.cells?_some h1
    refine ⟨cs', hlen2, h2, fun i u hu => ?_⟩
    have hi : i < d.sz := by have := (List.getElem?_eq_some_iff.1 hu).1; omega
    have := hcell i hi
    rw [hu] at this
    rw [← this, Go.Deep.add_add]
   ·have hsm := bulk_sum ((List.range len).map Ds) ((List.range len).map fun i => (hx i).choose) wt (by simp) (fun i x D hxi hD => by
     obtain ⟨hjl, rfl⟩ := hget i x hxi
     rw [List.getElem?_map, List.getElem?_range hjl] at hD
     obtain rfl := Option.some.inj hD
     obtain ⟨_, _, _, h3, _⟩ := (hx i).choose_spec hjl
     exact h3)
    simp only [Rows.uptoBulk]
    omega
   ·obtain ⟨j, hj, rfl⟩ := List.mem_iff_getElem.1 hmem
    obtain ⟨hjl, he⟩ := hget j _ (List.getElem?_eq_getElem hj)
    rw [he]
    obtain ⟨_, _, _, _, h4⟩ := (hx j).choose_spec hjl
    exact h4
def Seg {α : Type} (fs : List Field) (off : Nat) (d : Kd α) (wt : α → Nat) (Pr : α → Prop) : Prop :=
 ∀ {H : Type} (enc : TypeId × Value → H) (W : World) (n : Nat) (cs : List Value) (xs : List (DataW H × List MemPlace)), xs.length = fs.length →
  (∀ (j : Nat) (f : Field), fs[j]? = some f → DataW.trod enc Tryd.prog W 0 (fun _ => true) true n f.type ((cs.drop f.offset).take (Tryd.prog.cellsOf f.type)) = xs[j]?) →
  (∀ q ∈ DataW.weightsEach Tryd.prog (fs.map (·.type)) (xs.map (·.1)), q ≤ reachBytes) → ∃ x, d.K W x ((cs.drop off).take d.sz) ∧ wt x ≤ Rows.uptoBulkAll (xs.map (·.1)) ∧ Pr x
theorem Seg.one {α : Type} {f : Field} {off : Nat} {d : Kd α} {wt : α → Nat} {Pr : α → Prop} (o : OpensP f.type d wt Pr) (ho : f.offset = off) (hc : Tryd.prog.cellsOf f.type = d.sz) : Seg [f] off d wt Pr := by
 intro H enc W n cs xs hl hx hs
 match xs, hl with
 | [x], _ =>
  have e := hx 0 f rfl
  rw [ho, hc] at e
  obtain ⟨v, h1, h2, h3⟩ := o enc W n _ x.1 x.2 e (fun q hq => hs q (by simp only [List.map_cons, List.map_nil, DataW.weightsEach, List.mem_append]; exact Or.inl hq))
  exact ⟨v, h1, by simp only [List.map_cons, List.map_nil, Rows.uptoBulkAll]; omega, h3⟩
theorem Seg.cons {α β : Type} {f : Field} {fs : List Field} {off : Nat} {a : Kd α} {b : Kd β} {wa : α → Nat} {wb : β → Nat} {Pa : α → Prop} {Pb : β → Prop} (o : OpensP f.type a wa Pa) (ho : f.offset = off) (hc : Tryd.prog.cellsOf f.type = a.sz) (s : Seg fs (off + a.sz) b wb Pb) :
  Seg (f :: fs) off (Kd.pair a b) (fun x => wa x.1 + wb x.2) (fun x => Pa x.1 ∧ Pb x.2) := by
 intro H enc W n cs xs hl hx hs
 match xs, hl with
 | x :: r, hl =>
  have e := hx 0 f rfl
  rw [ho, hc] at e
  obtain ⟨v, h1, h2, h3⟩ := o enc W n _ x.1 x.2 e (fun q hq => hs q (by simp only [List.map_cons, DataW.weightsEach, List.mem_append]; exact Or.inl hq))
  obtain ⟨u, g1, g2, g3⟩ := s enc W n cs r (by simpa using hl) (fun j f' hf => hx (j + 1) f' hf) (fun q hq => hs q (by simp only [List.map_cons, DataW.weightsEach, List.mem_append]; exact Or.inr hq))
  refine ⟨(v, u), ⟨_, _, ?_, h1, g1⟩, by simp only [List.map_cons, Rows.uptoBulkAll]; omega, h3, g3⟩
  show (cs.drop off).take (a.sz + b.sz) = _
  rw [List.take_add, List.drop_drop]
theorem OpensP.struct {α : Type} {t : TypeId} {fs : Array Field} {d : Kd α} {wt : α → Nat} {Pr : α → Prop} (ht : Tryd.prog.underlying t = some (.struct fs)) (hc : Tryd.prog.cellsOf t = d.sz) (s : Seg fs.toList 0 d wt Pr) : OpensP t d (fun x => wt x + 1) Pr := by
 intro H enc W fuel cs D p h hs
 obtain ⟨xs, n, _, hx, hlen, hl, hel⟩ := DataW.trod_struct ht h
 simp only [Prod.mk.injEq] at hx
 obtain ⟨v, h1, h2, h3⟩ := s enc W n cs xs (by simpa using hl) (fun j f hf => hel j f (by simpa using hf)) (fun q hq => hs q (by
  rw [hx.1]
  simp only [DataW.weights, ht]
  exact hq))
 rw [List.drop_zero, List.take_of_length_le (by omega)] at h1
 exact ⟨v, h1, by rw [hx.1]; simp only [Rows.uptoBulk]; omega, h3⟩
theorem OpensP.iso {α β : Type} {t : TypeId} {d : Kd α} {wt : α → Nat} {Pr : α → Prop} (o : OpensP t d wt Pr) (f : β → α) (g : α → β) (hfg : ∀ x, f (g x) = x) : OpensP t (Kd.iso d f) (fun x => wt (f x)) (fun x => Pr (f x)) := by
 intro H enc W fuel cs D p h hs
 obtain ⟨x, hk, hw, hp⟩ := o enc W fuel cs D p h hs
 exact ⟨g x, by show d.K W (f (g x)) cs; rw [hfg]; exact hk, by show wt (f (g x)) ≤ _; rw [hfg]; exact hw, by show Pr (f (g x)); rw [hfg]; exact hp⟩
theorem short_part {H : Type} {ts : List TypeId} {ds : List (DataW H)} (hsz : (DataW.weightsEach Tryd.prog ts ds).all (· ≤ reachBytes) = true) {j : Nat} {t : TypeId} {d : DataW H} (ht : ts[j]? = some t) (hd : ds[j]? = some d) : Short t d := fun n hn => by
 have := List.all_eq_true.1 hsz n (DataW.weights_mem_each ht hd n hn)
 simpa using this
theorem OpensP.arg {α : Type} {t e : TypeId} {d : Kd α} {wt : List α → Nat} {Pr : List α → Prop} (ho : OpensP t (Kd.slice e d) wt Pr) {H : Type} {enc : TypeId × Value → H} {W : World} {a : Option Addr} {len cap : Nat} {D : DataW H} {p : List MemPlace} (h : DataW.Trod enc Tryd.prog W 0 (fun _ => true) true t (.slice a len cap) D p) (hs : Short t D) :
  ∃ xs : List α, len = xs.length ∧ xs.length ≤ cap ∧ d.C W a xs.length xs ∧ wt xs ≤ Rows.uptoBulk D ∧ Pr xs := by
 obtain ⟨fuel, hf⟩ := h
 obtain ⟨xs, ⟨A, c, he, hl, hC⟩, hw, hp⟩ := ho enc W fuel _ D p hf hs
 simp [Value.cells] at he
 obtain ⟨rfl, rfl, rfl⟩ := he
 exact ⟨xs, rfl, hl, hC, hw, hp⟩
theorem OpensP.bytes : OpensP 27 (Kd.slice 5 Base.byte) (fun xs => (xs.map (fun _ => 1)).sum + 1) (fun xs => xs.length * 1 ≤ 140737488351232 ∧ ∀ x ∈ xs, True) := OpensP.slice (OpensP.of Opens.byte) Tryd.underlying27 cells_u8 1 bytes_u8
end Go.Proofs.YtdlamomabonkjaaDoor.Base
end
section
namespace Go.Proofs.YtdlamomabonkjaaDoor.Ch
open Go.ChangeShapes Go.WideShapes Go.ChangeAt Go.RowKit YtdlamomabonkjaaDoorW.PrintWords Base PCh ParDec
def in16 (x : Int) : Prop := 0 ≤ x ∧ x < 65536
def in32 (x : Int) : Prop := 0 ≤ x ∧ x < 4294967296
theorem OpensP.u8 {t : TypeId} (ht : Tryd.prog.underlying t = some (.int .u8)) : OpensP t (Kd.int .u8) (fun _ => 1) inB := by
 intro H enc W fuel cs D p h _
 obtain ⟨z, rfl, _, hw⟩ := DataW.trod_int ht h
 have := bounds_u8 hw
 exact ⟨z, rfl, bulk_one D, by unfold inB; omega⟩
theorem OpensP.u16 {t : TypeId} (ht : Tryd.prog.underlying t = some (.int .u16)) : OpensP t (Kd.int .u16) (fun _ => 1) in16 := by
 intro H enc W fuel cs D p h _
 obtain ⟨z, rfl, _, hw⟩ := DataW.trod_int ht h
 have := bounds_u16 hw
 exact ⟨z, rfl, bulk_one D, by unfold in16; omega⟩
theorem OpensP.u32 {t : TypeId} (ht : Tryd.prog.underlying t = some (.int .u32)) : OpensP t (Kd.int .u32) (fun _ => 1) in32 := by
 intro H enc W fuel cs D p h _
 obtain ⟨z, rfl, _, hw⟩ := DataW.trod_int ht h
 have := bounds_u32 hw
 exact ⟨z, rfl, bulk_one D, by unfold in32; omega⟩
def okG (g : GapS) : Prop := in16 g.f0 ∧ in16 g.f1
def okQ (p : PrmS) : Prop := in16 p.f0 ∧ ∀ b ∈ p.f1, inB b
structure OkC (x : Chk) : Prop where
 r0 : inB x.f0
 r1 : inB x.f1
 r2 : in32 x.f2
 r3 : in16 x.f3
 r4 : in16 x.f4
 r5 : in32 x.f5
 r6 : in32 x.f6
 r7 : in32 x.f7
 r8 : in16 x.f8
 r9 : in16 x.f9
 r10 : ∀ g ∈ x.f10, okG g
 r11 : ∀ g ∈ x.f11, okG g
 r12 : ∀ d ∈ x.f12, in32 d
 r13 : ∀ b ∈ x.f13, inB b
 r14 : ∀ p ∈ x.f14, okQ p
 l13 : x.f13.length ≤ 140737488351232
theorem OkC.okB {x : Chk} (h : OkC x) : OkB x := ⟨h.r13, fun p hp => (h.r14 p hp).2⟩
theorem bytes_u8' : Tryd.prog.bytesOf 5 = 1 := by kernel_rfl
theorem opens_gap : OpensP 117 k117 (fun x => 1 + 1 + 1) okG :=
 OpensP.iso (OpensP.struct Tryd.underlying117 (by kernel_rfl) (Seg.cons (OpensP.u16 Tryd.underlying22) rfl (by kernel_rfl) (Seg.one (OpensP.u16 Tryd.underlying22) rfl (by kernel_rfl)))) _ (fun p => ⟨p.1, p.2⟩) (fun _ => rfl)
theorem opens_body : OpensP 27 (Kd.slice 5 (Kd.int .u8)) (fun xs => (xs.map (fun _ => 1)).sum + 1) (fun xs => xs.length * 1 ≤ 140737488351232 ∧ ∀ x ∈ xs, inB x) :=
 OpensP.slice (OpensP.u8 Tryd.underlying5) Tryd.underlying27 (by kernel_rfl) 1 bytes_u8'
theorem opens_prm : OpensP 72 k72 (fun x => 1 + ((x.f1.map (fun _ => 1)).sum + 1) + 1) okQ :=
 OpensP.mono (OpensP.iso (OpensP.struct Tryd.underlying72 (by kernel_rfl) (Seg.cons (OpensP.u16 Tryd.underlying22) rfl (by kernel_rfl) (Seg.one opens_body rfl (by kernel_rfl)))) _ (fun p => ⟨p.1, p.2⟩) (fun _ => rfl)) (fun x h => ⟨h.1, h.2.2⟩)
theorem opens_chk : ∃ wt, OpensP 41 k41 wt OkC := by
 refine ⟨_, OpensP.mono (OpensP.iso (OpensP.struct Tryd.underlying41 (by kernel_rfl)
  (Seg.cons (OpensP.u8 Tryd.underlying36) rfl (by kernel_rfl)
  (Seg.cons (OpensP.u8 Tryd.underlying5) rfl (by kernel_rfl)
  (Seg.cons (OpensP.u32 Tryd.underlying23) rfl (by kernel_rfl)
  (Seg.cons (OpensP.u16 Tryd.underlying22) rfl (by kernel_rfl)
  (Seg.cons (OpensP.u16 Tryd.underlying22) rfl (by kernel_rfl)
  (Seg.cons (OpensP.u32 Tryd.underlying23) rfl (by kernel_rfl)
  (Seg.cons (OpensP.u32 Tryd.underlying23) rfl (by kernel_rfl)
  (Seg.cons (OpensP.u32 Tryd.underlying23) rfl (by kernel_rfl)
  (Seg.cons (OpensP.u16 Tryd.underlying22) rfl (by kernel_rfl)
  (Seg.cons (OpensP.u16 Tryd.underlying22) rfl (by kernel_rfl)
  (Seg.cons (OpensP.slice opens_gap Tryd.underlying37 (by kernel_rfl) 4 (by kernel_rfl)) rfl (by kernel_rfl)
  (Seg.cons (OpensP.slice opens_gap Tryd.underlying37 (by kernel_rfl) 4 (by kernel_rfl)) rfl (by kernel_rfl)
  (Seg.cons (OpensP.slice (OpensP.u32 Tryd.underlying23) Tryd.underlying38 (by kernel_rfl) 4 (by kernel_rfl)) rfl (by kernel_rfl)
  (Seg.cons opens_body rfl (by kernel_rfl)
  (Seg.one (OpensP.slice opens_prm Tryd.underlying39 (by kernel_rfl) 32 (by kernel_rfl)) rfl (by kernel_rfl)))))))))))))))))
  _ (fun p => ⟨p.1, p.2.1, p.2.2.1, p.2.2.2.1, p.2.2.2.2.1, p.2.2.2.2.2.1, p.2.2.2.2.2.2.1, p.2.2.2.2.2.2.2.1, p.2.2.2.2.2.2.2.2.1, p.2.2.2.2.2.2.2.2.2.1, p.2.2.2.2.2.2.2.2.2.2.1, p.2.2.2.2.2.2.2.2.2.2.2.1, p.2.2.2.2.2.2.2.2.2.2.2.2.1, p.2.2.2.2.2.2.2.2.2.2.2.2.2.1, p.2.2.2.2.2.2.2.2.2.2.2.2.2.2⟩) (fun _ => rfl)) ?_⟩
 rintro x ⟨h0, h1, h2, h3, h4, h5, h6, h7, h8, h9, h10, h11, h12, h13, h14⟩
 exact ⟨h0, h1, h2, h3, h4, h5, h6, h7, h8, h9, h10.2, h11.2, h12.2, h13.2, h14.2, by have := h13.1; simpa using this⟩
theorem opens_chks : ∃ wt, OpensP 24 (Kd.slice 41 k41) wt (fun xs => xs.length * 152 ≤ 140737488351232 ∧ ∀ x ∈ xs, OkC x) := by
 obtain ⟨wt, h⟩ := opens_chk
 exact ⟨_, OpensP.slice h Tryd.underlying24 (by kernel_rfl) 152 (by kernel_rfl)⟩
end Go.Proofs.YtdlamomabonkjaaDoor.Ch
end
section
namespace Go.Proofs.YtdlamomabonkjaaDoor.Ch
open Go.RowKit YtdlamomabonkjaaDoorW.PrintWords YtdlamomabonkjaaDoorW.PrintLast Base PCh ParDec
def ParR (b0 : Nat) (r : Except Int Chk) (cs : Array Value) (code : Int) (W1 : World) : Prop :=
 cs.size = 15 ∧ cs.all (·.oneCell') = true ∧ (match r with
  | .error c => code = c
  | .ok d => code = 0 ∧ k41.M W1 b0 (fun _ => True) d cs.toList)
end Go.Proofs.YtdlamomabonkjaaDoor.Ch
end
section
namespace Go.Proofs.YtdlamomabonkjaaDoor.Ch
open Go.RowKit YtdlamomabonkjaaDoorW.PrintWords YtdlamomabonkjaaDoorW.PrintLast Base PCh ParDec
theorem prmsD_err {v : List UInt8} {c : Int} (h : prmsD v = .error c) : c ≠ 0 := by
 unfold prmsD at h
 by_cases e : (decD v).2.2 = 0
 ·rw [if_pos e] at h
  cases h
 ·rw [if_neg e] at h
  injection h with h
  rw [← h]
  exact e
theorem listsD_err {nr : Bool} {v : List UInt8} {c : Int} (h : listsD nr v = .error c) : c ≠ 0 := by
 unfold listsD at h
 repeat' split at h
 all_goals first | cases h; done | (injection h with h; omega)
theorem readD_err {kd fl : Int} {v : List UInt8} {c : Int} (h : readD kd fl v = .error c) : c ≠ 0 := by
 unfold readD readData readInit readLists readPrms readShut readNone readBody at h
 repeat' split at h
 all_goals first | (cases h; done) | (injection h with h; omega) | (rename_i e; injection h with h; subst h; first | exact prmsD_err e | exact listsD_err e)
theorem chkE : ∀ q ∈ k41.E, q ≠ 41 := by decide
theorem M_setRow {w : World} {b0 g : Nat} {d : Chk} {cs : List Value} {old cs' : Array Value} (h : k41.M w b0 (fun _ => True) d cs) (hg : w.heap[g]? = some (.cells old 41 (0, 0))) : k41.M (w.setRow g cs') b0 (fun _ => True) d cs :=
 k41.M_mono (fun _ hk => hk.1) (k41.M_move (fun k hk => setRow_other _ _ _ _ (fun e => by
  obtain ⟨_, _, _, q, hq, cells, hc⟩ := hk
  rw [e, hg] at hc
  injection hc with hc
  injection hc with _ hc
  exact chkE q hq hc.symm)) (k41.M_bound h))
theorem ParR.alloc {b0 : Nat} {r : Except Int Chk} {cs : Array Value} {code : Int} {w : World} (h : ParR b0 r cs code w) (x : Obj) : ParR b0 r cs code (w.alloc x) := by
 obtain ⟨h1, h2, h3⟩ := h
 refine ⟨h1, h2, ?_⟩
 cases r with
 | error c => exact h3
 | ok d => exact ⟨h3.1, M_only h3.2 (Only.of_below (S := fun _ => False) (below_alloc (Below.refl _ _) x)) (fun _ _ _ h => h)⟩
theorem ParR.setRow {b0 g : Nat} {r : Except Int Chk} {cs old cs' : Array Value} {code : Int} {w : World} (h : ParR b0 r cs code w) (hg : w.heap[g]? = some (.cells old 41 (0, 0))) : ParR b0 r cs code (w.setRow g cs') := by
 obtain ⟨h1, h2, h3⟩ := h
 refine ⟨h1, h2, ?_⟩
 cases r with
 | error c => exact h3
 | ok d => exact ⟨h3.1, M_setRow h3.2 hg⟩
end Go.Proofs.YtdlamomabonkjaaDoor.Ch
end
section
namespace Go.Proofs.YtdlamomabonkjaaDoor.Ch
open Go.RowKit YtdlamomabonkjaaDoorW.PrintWords YtdlamomabonkjaaDoorW.PrintLast Base PCh ParDec
theorem info_chk : (Tryd.prog.info? 41).map (fun i => (i.zero, i.size, i.bytes)) = some (some (.agg zerV), k41.sz, 152) := by kernel_rfl
def allD : Nat → List UInt8 → Nat → List Chk → List Chk × Int × Int
 | 0, _, _, acc => (acc, 0, 0)
 | n + 1, b, at_, acc => if at_ < b.length then (if (decC (b.drop at_)).2.2 ≠ 0 then ([], (at_ : Int), (decC (b.drop at_)).2.2) else allD n b (at_ + (decC (b.drop at_)).2.1.toNat) (acc ++ [(decC (b.drop at_)).1])) else (acc, 0, 0)
def allL (b : List UInt8) : List Chk × Int × Int := allD (b.length + 1) b 0 []
theorem decC_len {b : List UInt8} (h : (decC b).2.2 = 0) : ∃ n : Nat, (decC b).2.1 = (n : Int) ∧ 4 ≤ n ∧ n ≤ b.length := by
 unfold decC at h ⊢
 by_cases h4 : b.length < 4
 ·rw [if_pos h4] at h
  cases h
 rw [if_neg h4] at h ⊢
 by_cases h5 : be ((b.drop 2).take 2) < 4 ∨ b.length < be ((b.drop 2).take 2)
 ·rw [if_pos h5] at h
  cases h
 rw [if_neg h5] at h ⊢
 cases hr : readD ((b.getD 0 0).toNat : Int) (flD ((b.getD 0 0).toNat : Int) ((b.getD 1 0).toNat : Int)) ((b.take (be ((b.drop 2).take 2))).drop 4) with
 | error c =>
  rw [hr] at h
  exact absurd h (readD_err hr)
 | ok d => exact ⟨_, rfl, by omega, Nat.min_le_right _ _⟩
set_option maxHeartbeats 4000000 in
theorem all_with (w : World) (A : Option Addr) (b : List UInt8) (c : Nat) (hb : byte.C w A b.length b) (hc : b.length ≤ c) (hv : b.length ≤ 1048576)
  (HDC : ∀ (at_ : Nat) (W : World) (B : Option Addr) (d : Nat), at_ < b.length → byte.C W B (b.drop at_).length (b.drop at_) → (b.drop at_).length ≤ d → Calls Tryd.prog 81 #[.slice B (b.drop at_).length d] W (DecCP (b.drop at_) W)) :
  Calls Tryd.prog 60 #[.slice A b.length c] w fun e w' => ∃ v, e = .returned (.tuple #[v, .int .i64 (allL b).2.1, .int .i64 (allL b).2.2]) ∧ Kd.R k41 41 w' w.heap.size (fun _ => True) v (allL b).1 ∧ Below w.heap.size w w' := by
 have HDX := Lh HDC
 clear HDC
 have HBC := Lh (fun (W : World) (h : Below w.heap.size w W) => Kd.C_below hb h)
 obtain ⟨E, hE⟩ : ∃ E, allL b = E := ⟨_, rfl⟩
 rw [hE]
 have HE := Lh (show allD (b.length + 1) b 0 [] = E from hE)
 clear hE hb
 go_enter Tryd.func60, Tryd.ntmps60
 go_wp2
 go_loopw [5, 6] (fun v5 v6 wr => ∃ (at_ n : Nat) (xs : List Chk), at_ ≤ b.length ∧ v6 = .int .i64 (at_ : Int) ∧ Hid (b.length < n + at_ ∧ xs.length ≤ at_) ∧ Hid (allD n b at_ xs = E) ∧ Hid (Kd.R k41 41 wr w.heap.size (fun _ => True) v5 xs) ∧ Hid (Below w.heap.size w wr)) (fun _ v6 _ => b.length - (intOf v6).toNat)
 case atStart => exact ⟨0, b.length + 1, [], Nat.zero_le _, rfl, ⟨by omega, Nat.le_refl _⟩, HE.out, Kd.R_nil _ _ _ _ _, Below.refl _ _⟩
 case round =>
  obtain ⟨at_, n, xs, hat, rfl, HN, HA, HR, HB⟩ := hrel
  by_cases hlt : at_ < b.length
  ·obtain ⟨n, rfl⟩ : ∃ m, n = m + 1 := ⟨n - 1, by have := HN.out.1; omega⟩
   have hA := HA.out
   rw [allD, if_pos hlt] at hA
   obtain ⟨A', hdr, hdC, hdl⟩ := drop_bytes (HBC.out _ HB.out) hc at_ (at_ : Int) rfl (Nat.le_of_lt hlt)
   have hzl : (b.drop at_).length ≤ 140737488355232 := by rw [List.length_drop]; omega
   have HD := Lh (HDX.out at_ wr A' (c - at_) hlt hdC hdl)
   have hdn : (decC (b.drop at_)).2.2 = 0 → ∃ k : Nat, (decC (b.drop at_)).2.1 = (k : Int) ∧ 4 ≤ k ∧ k ≤ b.length - at_ := fun h => by
    obtain ⟨k, h1, h2, h3⟩ := decC_len h
    exact ⟨k, h1, h2, by rw [List.length_drop] at h3; exact h3⟩
   unfold DecCP at HD
   have HDN := Lh hdn
   have HA2 := Lh hA
   clear hA hdC hdl hzl hdn HA
   generalize decC (b.drop at_) = D at *
   obtain ⟨d, k, er⟩ := D
   dsimp only at HD HDN HA2
   generalize (b.drop at_).length = zl at *
   go_wp2_with fail
   refine HD.out.mono ?_
   rintro e w1 ⟨cs, rfl, hM, hB⟩
   obtain ⟨cl, rfl⟩ : ∃ cl : List Value, cs = cl.toArray := ⟨cs.toList, by simp⟩
   rw [List.toList_toArray] at hM
   obtain ⟨v10, v11, v12, v13, v14, hcs, h10, h11, h12, h13, h14⟩ := k41_openM hM
   obtain ⟨A10, c10, rfl⟩ := Kd.R_slice h10
   obtain ⟨A11, c11, rfl⟩ := Kd.R_slice h11
   obtain ⟨A12, c12, rfl⟩ := Kd.R_slice h12
   obtain ⟨A13, c13, rfl⟩ := Kd.R_slice h13
   obtain ⟨A14, c14, rfl⟩ := Kd.R_slice h14
   have HB2 := Lh (below_then HB.out HB.out.size hB)
   have HR2 := Lh (R_only HR.out (Only.of_below (S := fun _ => False) hB) (fun _ _ _ h => h))
   have HS := Lh hB.size
   subst hcs
   have HM := Lh hM
   clear h10 h11 h12 h13 h14 hM hB HD
   have HBO := Lh (fun k h => Kd.R_lt HR.out k h)
   by_cases her : er = 0
   ·subst her
    obtain ⟨k', hk', hk4, hkl⟩ := HDN.out rfl
    subst hk'
    have hA := HA2.out
    rw [if_neg (by simp), Int.toNat_natCast] at hA
    have HA3 := Lh hA
    clear hA HA2 HDN
    have hwr : wrap64 ((at_ : Int) + (k' : Int)) = ((at_ + k' : Nat) : Int) := by unfold wrap64; omega
    go_upto_region 7 with (fail)
    refine wp_gen (fun W' => W'.heap[w1.heap.size]? = some (.cells ([.int .u8 d.f0, .int .u8 d.f1, .int .u32 d.f2, .int .u16 d.f3, .int .u16 d.f4, .int .u32 d.f5, .int .u32 d.f6, .int .u32 d.f7, .int .u16 d.f8, .int .u16 d.f9, .slice A10 d.f10.length c10, .slice A11 d.f11.length c11, .slice A12 d.f12.length c12, .slice A13 d.f13.length c13, .slice A14 d.f14.length c14] : List Value).toArray 41 (0, 0)) ∧ Kd.R k41 41 W' w.heap.size (fun _ => True) u5 xs ∧ k41.M W' w.heap.size (fun k => wr.heap.size ≤ k) d ([.int .u8 d.f0, .int .u8 d.f1, .int .u32 d.f2, .int .u16 d.f3, .int .u16 d.f4, .int .u32 d.f5, .int .u32 d.f6, .int .u32 d.f7, .int .u16 d.f8, .int .u16 d.f9, .slice A10 d.f10.length c10, .slice A11 d.f11.length c11, .slice A12 d.f12.length c12, .slice A13 d.f13.length c13, .slice A14 d.f14.length c14]) ∧ Below w.heap.size w W') ⟨blk_new _ _, Kd.R_alloc HR2.out _, k41.M_mono (fun k hk => hk.2.1) (k41.M_bound (M_only HM.out (Only.of_below (S := fun _ => False) (below_alloc (Below.refl _ _) _)) (fun _ _ _ h => h))) |> k41.M_lower HB.out.size, below_alloc HB2.out _⟩ ?_
    clear HR2 HM HB2 HB HR
    rintro W2 ⟨hblk, hR2, hM2, hB2⟩
    have HM2 := Lh hM2
    have HR3 := Lh hR2
    have HB3 := Lh hB2
    have HBL := Lh hblk
    clear hR2 hM2 hB2 hblk
    go_wp2_with (first | (with_reducible refine gate_dst (N := 27) rfl ?_; go_must (refine wpList_load_row rfl 41 (.tmp 7) rfl _ rfl 41 _ (0, 0) _ HBL.out Tryd.underlying41 rfl (by kernel_rfl) ?_)) | (at_builtin; go_must (refine Kd.R_append k41 (w0 := w) (W := W2) w.heap.size rfl _ _ 24 41 (.agg zerV) 152 rfl Tryd.underlying24 info_chk rfl (by decide) (by decide) u5 xs d ([.int .u8 d.f0, .int .u8 d.f1, .int .u32 d.f2, .int .u16 d.f3, .int .u16 d.f4, .int .u32 d.f5, .int .u32 d.f6, .int .u32 d.f7, .int .u16 d.f8, .int .u16 d.f9, .slice A10 d.f10.length c10, .slice A11 d.f11.length c11, .slice A12 d.f12.length c12, .slice A13 d.f13.length c13, .slice A14 d.f14.length c14]) (fun _ => True) (fun k => wr.heap.size ≤ k) rfl rfl HM2.out (fun k hk => ⟨trivial, fun he => by have := HBO.out k he.symm; omega⟩) (fun _ _ => trivial) HR3.out HB3.out HB3.out.size (by have := HN.out.2; omega) ?_); (intro v1 w2 hR1 hB1 hG1 _; have HR1 := Lh hR1; have HB1 := Lh hB1; clear hR1 hB1 hG1)))
    go_roundw
    case rel => exact ⟨at_ + k', n, xs ++ [d], by omega, by rw [← hwr]; first | rfl | go_num, ⟨by have := HN.out.1; show _ < _; omega, by have := HN.out.2; show _ ≤ _; rw [List.length_append]; simp; omega⟩, HA3, HR1, HB1⟩
    case measure => simp [intOf]; omega
   ·have hA := HA2.out
    rw [if_pos her] at hA
    subst hA
    have q : (er != 0) = true := by simp [her]
    clear HA2 HDN her
    go_wp2
    go_ret3
    exact ⟨_, rfl, Kd.R_nil _ _ _ _ _, below_alloc HB2.out _⟩
  ·obtain rfl : at_ = b.length := by omega
   have hA := HA.out
   have hn : ∃ m, n = m + 1 := ⟨n - 1, by have := HN.out.1; omega⟩
   obtain ⟨n, rfl⟩ := hn
   rw [allD, if_neg (Nat.lt_irrefl _)] at hA
   subst hA
   clear HA HE
   go_wp2
   go_ret3
   exact ⟨_, rfl, HR.out, HB.out⟩
end Go.Proofs.YtdlamomabonkjaaDoor.Ch
end
section
namespace Go.Proofs.YtdlamomabonkjaaDoor.Ch
open Go.RowKit YtdlamomabonkjaaDoorW.PrintWords YtdlamomabonkjaaDoorW.PrintLast Base PCh ParDec ParEnc
theorem ints_cons {v : List UInt8} {a : Int} {t : List Int} (h : ints v = a :: t) : ∃ b r, v = b :: r ∧ (b.toNat : Int) = a ∧ ints r = t := by
 cases v with
 | nil => cases h
 | cons b r => injection h with h1 h2; exact ⟨b, r, rfl, h1, h2⟩
theorem be2 {v : List UInt8} {n : Int} {t : List Int} (h : ints v = twoL [n] ++ t) (hn : in16 n) : (be (v.take 2) : Int) = n ∧ ints (v.drop 2) = t := by
 obtain ⟨a, r, rfl, ha, h1⟩ := ints_cons h
 obtain ⟨b, r, rfl, hb, h2⟩ := ints_cons h1
 refine ⟨?_, h2⟩
 unfold in16 at hn
 simp only [be, List.take, List.foldl]
 omega
theorem be4 {v : List UInt8} {n : Int} {t : List Int} (h : ints v = fourL [n] ++ t) (hn : in32 n) : (be (v.take 4) : Int) = n ∧ ints (v.drop 4) = t := by
 obtain ⟨a, r, rfl, ha, h1⟩ := ints_cons h
 obtain ⟨b, r, rfl, hb, h2⟩ := ints_cons h1
 obtain ⟨c, r, rfl, hc, h3⟩ := ints_cons h2
 obtain ⟨d, r, rfl, hd, h4⟩ := ints_cons h3
 refine ⟨?_, h4⟩
 unfold in32 at hn
 simp only [be, List.take, List.foldl]
 omega
theorem twoL_cons (a : Int) (l : List Int) : twoL (a :: l) = twoL [a] ++ twoL l := rfl
theorem fourL_cons (a : Int) (l : List Int) : fourL (a :: l) = fourL [a] ++ fourL l := rfl
theorem drop2 (v : List UInt8) (k m : Nat) {t : List Int} (h : ints ((v.drop k).drop 2) = t) (hm : k + 2 = m) : ints (v.drop m) = t := by rw [← hm, ← List.drop_drop]; exact h
theorem drop4 (v : List UInt8) (k m : Nat) {t : List Int} (h : ints ((v.drop k).drop 4) = t) (hm : k + 4 = m) : ints (v.drop m) = t := by rw [← hm, ← List.drop_drop]; exact h
theorem gaps_back (G : List GapS) : ∀ (v : List UInt8) (t : List Int), ints v = twoL (gapL G) ++ t → (∀ g ∈ G, okG g) → gapsD G.length v = G ∧ ints (v.drop (4 * G.length)) = t := by
 induction G with
 | nil => intro v t h _; exact ⟨rfl, h⟩
 | cons g r ih =>
  intro v t h ho
  obtain ⟨h1, h2⟩ := ho g (List.mem_cons_self ..)
  have e : twoL (gapL (g :: r)) ++ t = twoL [g.f0] ++ (twoL [g.f1] ++ (twoL (gapL r) ++ t)) := by simp [gapL, twoL]
  rw [e] at h
  obtain ⟨a1, a2⟩ := be2 h h1
  obtain ⟨b1, b2⟩ := be2 a2 h2
  rw [List.drop_drop] at b2
  obtain ⟨c1, c2⟩ := ih _ t b2 (fun q hq => ho q (List.mem_cons_of_mem _ hq))
  refine ⟨?_, ?_⟩
  ·rw [List.length_cons, gapsD, a1, b1, c1]
  ·rw [List.drop_drop] at c2
   rw [List.length_cons, show 4 * (r.length + 1) = 2 + 2 + 4 * r.length by omega]
   exact c2
theorem dups_back (G : List Int) : ∀ (v : List UInt8) (t : List Int), ints v = fourL G ++ t → (∀ g ∈ G, in32 g) → dupsD G.length v = G ∧ ints (v.drop (4 * G.length)) = t := by
 induction G with
 | nil => intro v t h _; exact ⟨rfl, h⟩
 | cons g r ih =>
  intro v t h ho
  rw [fourL_cons, List.append_assoc] at h
  obtain ⟨a1, a2⟩ := be4 h (ho g (List.mem_cons_self ..))
  obtain ⟨c1, c2⟩ := ih _ t a2 (fun q hq => ho q (List.mem_cons_of_mem _ hq))
  refine ⟨?_, ?_⟩
  ·rw [List.length_cons, dupsD, a1, c1]
  ·rw [List.drop_drop] at c2
   rw [List.length_cons, show 4 * (r.length + 1) = 4 + 4 * r.length by omega]
   exact c2
theorem ints_inj {a b : List UInt8} (h : ints a = ints b) : a = b := by
 unfold ints at h
 exact (List.map_inj_right (fun x y (e : (x.toNat : Int) = (y.toNat : Int)) => UInt8.toNat_inj.1 (by omega))).1 h
theorem prms_back {ps : List PrmS} {v : List UInt8} (h : ints v = (encP ps).1) (h0 : (encP ps).2 = 0) (ho : ∀ p ∈ ps, okQ p) : prmsD v = .ok ps := by
 unfold encP at h h0
 by_cases hl : ps.length > 256
 ·rw [if_pos hl] at h0; cases h0
 rw [if_neg hl] at h h0
 by_cases hs : allShort ps
 ·rw [runB_short ps hs] at h
  have ok : ∀ q ∈ ps, okP q := fun q hq => ⟨(ho q hq).1.1, (ho q hq).1.2, by have := hs q hq; omega, fun x hx => (ho q hq).2 x hx⟩
  have e : v = bytesOf (foldB [] ps) := ints_inj (h.trans (ints_bytesOf _ (fold_in ps [] (fun x hx => by cases hx) ok)).symm)
  unfold prmsD
  rw [e, back_dec ps (by omega) ok]
  rfl
 ·rw [runB_long ps hs] at h0; cases h0
theorem len_ints {v : List UInt8} {l : List Int} (h : ints v = l) : v.length = l.length := by rw [← h, ints_length]
theorem u16_count {n : Nat} (h : n ≤ 4096) : IntKind.u16.wrap (n : Int) = (n : Int) ∧ in16 (n : Int) := by
 refine ⟨?_, by unfold in16; omega⟩
 simp [IntKind.wrap, IntKind.bits, IntKind.signed]
 omega
structure ChkOk (x : Chk) : Prop where
 bare : x = bareD x
 data : x.f0 = 0 → x.f13 ≠ []
 beat : x.f0 = 4 ∨ x.f0 = 5 → beatB x.f14 = true
 l10 : x.f10.length ≤ 4096
 l11 : x.f11.length ≤ 4096
 l12 : x.f12.length ≤ 4096
 enc : (encP x.f14).2 = 0
 len : (valueD x).length ≤ 65531
theorem check_ok {x : Chk} : checkD x = 0 ↔ ChkOk x := by
 constructor
 ·intro h
  unfold checkD at h
  by_cases h1 : decide (x = bareD x) = false
  ·rw [if_pos h1] at h; cases h
  rw [if_neg h1] at h
  by_cases h2 : x.f0 = 0 ∧ x.f13.length = 0
  ·rw [if_pos h2] at h; cases h
  rw [if_neg h2] at h
  by_cases h3 : (x.f0 = 4 ∨ x.f0 = 5) ∧ beatB x.f14 = false
  ·rw [if_pos h3] at h; cases h
  rw [if_neg h3] at h
  by_cases h4 : 4096 < x.f10.length ∨ 4096 < x.f11.length ∨ 4096 < x.f12.length
  ·rw [if_pos h4] at h; cases h
  rw [if_neg h4] at h
  by_cases h5 : (encP x.f14).2 ≠ 0
  ·rw [if_pos h5] at h; exact absurd h h5
  rw [if_neg h5] at h
  by_cases h6 : 65531 < (valueD x).length
  ·rw [if_pos h6] at h; cases h
  exact ⟨by simpa using h1, fun e hb => h2 ⟨e, by rw [hb]; rfl⟩, fun e => (by cases hb : beatB x.f14 <;> first | rfl | exact absurd ⟨e, hb⟩ h3), by omega, by omega, by omega, by omega, by omega⟩
 ·intro h
  unfold checkD
  rw [if_neg (by rw [decide_eq_true h.bare]; decide), if_neg (fun e => h.data e.1 (List.length_eq_zero_iff.1 e.2)), if_neg (fun e => by rw [h.beat e.1] at e; exact absurd e.2 (by decide)), if_neg (by have := h.l10; have := h.l11; have := h.l12; omega), if_neg (by have := h.enc; omega), if_neg (by have := h.len; omega)]
theorem bare_f {x : Chk} (h : x = bareD x) (p : Nat → Bool) (hp : hasF x.f0 = p) : x = ⟨x.f0, flD x.f0 x.f1, if p 2 then x.f2 else 0, if p 3 then x.f3 else 0, if p 4 then x.f4 else 0, if p 5 then x.f5 else 0, if p 6 then x.f6 else 0, if p 7 then x.f7 else 0, if p 8 then x.f8 else 0, if p 9 then x.f9 else 0, if p 10 then x.f10 else [], if p 11 then x.f11 else [], if p 12 then x.f12 else [], if p 13 then x.f13 else [], if p 14 then x.f14 else []⟩ := by
 conv => lhs; rw [h]
 unfold bareD keepF
 rw [hp]
theorem fl_of {x : Chk} (h : x = bareD x) : flD x.f0 x.f1 = x.f1 := by
 have := congrArg (fun c : Chk => c.f1) h
 exact this.symm
theorem read_back {x : Chk} (ok : OkC x) (h : ChkOk x) {v : List UInt8} (hv : ints v = valueD x) : readD x.f0 x.f1 v = .ok x := by
 have hb := h.bare
 have hf := fl_of hb
 have hl := len_ints hv
 unfold readD
 unfold valueD at hv hl
 by_cases k0 : x.f0 = 0
 ·rw [if_pos k0] at hv hl ⊢
  have e := bare_f hb (fun i => i == 2 || i == 3 || i == 4 || i == 5 || i == 13) (by funext i; unfold hasF; rw [if_pos k0])
  simp at e
  have hd := h.data k0
  have h13 : x.f13.length ≠ 0 := fun e => hd (List.length_eq_zero_iff.1 e)
  unfold valData at hv hl
  simp only [List.length_append, fourL_length, twoL_length, List.length_cons, List.length_nil] at hl
  unfold readData
  rw [if_neg (by omega), if_neg (by omega)]
  rw [List.append_assoc, List.append_assoc] at hv
  obtain ⟨a1, a2⟩ := be4 hv ok.r2
  rw [twoL_cons, List.append_assoc] at a2
  obtain ⟨b1, b2⟩ := be2 a2 ok.r3
  have b2 := drop2 v 4 6 b2 rfl
  obtain ⟨c1, c2⟩ := be2 b2 ok.r4
  have c2 := drop2 v 6 8 c2 rfl
  obtain ⟨d1, d2⟩ := be4 c2 ok.r5
  have d2 := drop4 v 8 12 d2 rfl
  rw [a1, b1, c1, d1, show intsL (v.drop 12) = x.f13 from d2]
  conv => rhs; rw [e, hf]
 rw [if_neg k0] at hv hl ⊢
 by_cases k1 : x.f0 = 1 ∨ x.f0 = 2
 ·rw [if_pos k1] at hv hl ⊢
  have e := bare_f hb (fun i => i == 2 || i == 6 || i == 7 || i == 8 || i == 9 || i == 14) (by funext i; unfold hasF; rw [if_neg k0, if_pos k1])
  simp at e
  simp only [List.length_append, fourL_length, twoL_length, List.length_cons, List.length_nil] at hl
  unfold readInit
  rw [if_neg (by omega)]
  rw [List.append_assoc, List.append_assoc, fourL_cons, List.append_assoc] at hv
  obtain ⟨a1, a2⟩ := be4 hv ok.r6
  obtain ⟨b1, b2⟩ := be4 a2 ok.r7
  have b2 := drop4 v 4 8 b2 rfl
  rw [twoL_cons, List.append_assoc] at b2
  obtain ⟨c1, c2⟩ := be2 b2 ok.r8
  have c2 := drop2 v 8 10 c2 rfl
  obtain ⟨d1, d2⟩ := be2 c2 ok.r9
  have d2 := drop2 v 10 12 d2 rfl
  obtain ⟨e1, e2⟩ := be4 d2 ok.r2
  have e2 := drop4 v 12 16 e2 rfl
  rw [prms_back e2 h.enc ok.r14]
  dsimp only
  rw [a1, b1, c1, d1, e1]
  conv => rhs; rw [e, hf]
 rw [if_neg k1] at hv hl ⊢
 by_cases k3 : x.f0 = 3
 ·rw [if_pos k3] at hv hl ⊢
  have e := bare_f hb (fun i => i == 2 || i == 7 || i == 10 || i == 12) (by funext i; unfold hasF; rw [if_neg k0, if_neg k1, if_neg (by omega), if_pos k3])
  simp at e
  obtain ⟨u1, u2⟩ := u16_count h.l10
  obtain ⟨w1, w2⟩ := u16_count h.l12
  rw [u1, w1] at hv hl
  simp only [List.length_append, fourL_length, twoL_length, List.length_cons, List.length_nil, gapL_length] at hl
  unfold readLists listsD
  rw [List.append_assoc, List.append_assoc, fourL_cons, List.append_assoc] at hv
  obtain ⟨a1, a2⟩ := be4 hv ok.r2
  obtain ⟨b1, b2⟩ := be4 a2 ok.r7
  have b2 := drop4 v 4 8 b2 rfl
  rw [twoL_cons, List.append_assoc] at b2
  obtain ⟨c1, c2⟩ := be2 b2 u2
  have c2 := drop2 v 8 10 c2 rfl
  obtain ⟨d1, d2⟩ := be2 c2 w2
  have d2 := drop2 v 10 12 d2 rfl
  have c1' : be ((v.drop 8).take 2) = x.f10.length := by omega
  have d1' : be ((v.drop 10).take 2) = x.f12.length := by omega
  obtain ⟨g1, g2⟩ := gaps_back x.f10 _ _ d2 ok.r10
  rw [List.drop_drop] at g2
  obtain ⟨h1, h2⟩ := dups_back x.f12 _ [] (by rw [List.append_nil]; exact g2) ok.r12
  have := h.l10
  have := h.l12
  simp only [Bool.false_eq_true, if_false, c1', d1', Nat.add_zero]
  rw [if_neg (by omega), if_neg (by omega), if_neg (by omega)]
  dsimp only
  rw [a1, b1, g1, h1]
  conv => rhs; rw [e, hf]
  simp [gapsD]
 rw [if_neg k3] at hv hl ⊢
 by_cases k16 : x.f0 = 16
 ·rw [if_pos k16] at hv hl ⊢
  have e := bare_f hb (fun i => i == 2 || i == 7 || i == 10 || i == 11 || i == 12) (by funext i; unfold hasF; rw [if_neg k0, if_neg k1, if_pos k16])
  simp at e
  obtain ⟨u1, u2⟩ := u16_count h.l10
  obtain ⟨y1, y2⟩ := u16_count h.l11
  obtain ⟨w1, w2⟩ := u16_count h.l12
  rw [u1, w1, y1] at hv hl
  simp only [List.length_append, fourL_length, twoL_length, List.length_cons, List.length_nil, gapL_length] at hl
  unfold readLists listsD
  rw [List.append_assoc, List.append_assoc, List.append_assoc, fourL_cons, List.append_assoc] at hv
  obtain ⟨a1, a2⟩ := be4 hv ok.r2
  obtain ⟨b1, b2⟩ := be4 a2 ok.r7
  have b2 := drop4 v 4 8 b2 rfl
  rw [twoL_cons, List.append_assoc] at b2
  obtain ⟨c1, c2⟩ := be2 b2 u2
  have c2 := drop2 v 8 10 c2 rfl
  rw [twoL_cons, List.append_assoc] at c2
  obtain ⟨i1, i2⟩ := be2 c2 y2
  have i2 := drop2 v 10 12 i2 rfl
  rw [twoL_cons, List.append_assoc] at i2
  obtain ⟨d1, d2⟩ := be2 i2 w2
  have d2 := drop2 v 12 14 d2 rfl
  obtain ⟨j1, j2⟩ := be2 d2 (by unfold in16; omega)
  have j2 := drop2 v 14 16 j2 rfl
  have c1' : be ((v.drop 8).take 2) = x.f10.length := by omega
  have i1' : be ((v.drop 10).take 2) = x.f11.length := by omega
  have d1' : be ((v.drop 12).take 2) = x.f12.length := by omega
  obtain ⟨g1, g2⟩ := gaps_back x.f10 _ _ j2 ok.r10
  rw [List.drop_drop] at g2
  obtain ⟨n1, n2⟩ := gaps_back x.f11 _ _ g2 ok.r11
  rw [List.drop_drop] at n2
  obtain ⟨h1, h2⟩ := dups_back x.f12 _ [] (by rw [List.append_nil]; exact n2) ok.r12
  have := h.l10
  have := h.l11
  have := h.l12
  simp only [if_true, c1', d1', i1']
  rw [if_neg (by omega), if_neg (by omega), if_neg (by omega)]
  dsimp only
  rw [show 16 + 4 * (x.f10.length + x.f11.length) = 16 + 4 * x.f10.length + 4 * x.f11.length by omega, a1, b1, g1, n1, h1]
  conv => rhs; rw [e, hf]
 rw [if_neg k16] at hv hl ⊢
 by_cases k4 : x.f0 = 4 ∨ x.f0 = 5 ∨ x.f0 = 6 ∨ x.f0 = 9
 ·rw [if_pos k4] at hv hl
  have e := bare_f hb (fun i => i == 14) (by funext i; unfold hasF; rw [if_neg k0, if_neg k1, if_neg k16, if_neg k3, if_pos k4])
  simp at e
  have hp := prms_back hv h.enc ok.r14
  by_cases k45 : x.f0 = 4 ∨ x.f0 = 5
  ·rw [if_pos k45]
   unfold readPrms
   rw [hp]
   dsimp only
   rw [h.beat k45]
   conv => rhs; rw [e, hf]
   rfl
  ·rw [if_neg k45, if_pos (by omega)]
   unfold readPrms
   rw [hp]
   dsimp only
   conv => rhs; rw [e, hf]
   rfl
 rw [if_neg k4] at hv hl
 rw [if_neg (by omega), if_neg (by omega)]
 by_cases k7 : x.f0 = 7
 ·rw [if_pos k7] at hv hl ⊢
  have e := bare_f hb (fun i => i == 2) (by funext i; unfold hasF; rw [if_neg k0, if_neg k1, if_neg k16, if_neg k3, if_neg k4, if_pos k7])
  simp at e
  rw [fourL_length] at hl
  unfold readShut
  have hl : v.length = 4 := hl
  rw [if_pos hl]
  obtain ⟨a1, a2⟩ := be4 (t := []) (by rw [List.append_nil]; exact hv) ok.r2
  rw [show v.take 4 = v from List.take_of_length_le (by rw [hl]; exact Nat.le_refl _)] at a1
  rw [a1]
  conv => rhs; rw [e, hf]
 rw [if_neg k7] at hv hl ⊢
 by_cases k8 : x.f0 = 8 ∨ x.f0 = 11 ∨ x.f0 = 14
 ·rw [if_pos k8] at hv hl ⊢
  have e := bare_f hb (fun i => false) (by funext i; unfold hasF; rw [if_neg k0, if_neg k1, if_neg k16, if_neg k3, if_neg k4, if_neg k7, if_pos k8])
  simp at e
  have hl : v.length = 0 := hl
  unfold readNone chk0
  rw [if_pos hl]
  conv => rhs; rw [e, hf]
 rw [if_neg k8] at hv hl ⊢
 have e := bare_f hb (fun i => i == 13) (by funext i; unfold hasF; rw [if_neg k0, if_neg k1, if_neg k16, if_neg k3, if_neg k4, if_neg k7, if_neg k8])
 simp at e
 unfold readBody
 rw [show intsL v = x.f13 from hv]
 conv => rhs; rw [e, hf]
end Go.Proofs.YtdlamomabonkjaaDoor.Ch
end
section
namespace Go.Proofs.YtdlamomabonkjaaDoor.Base
open Go.RowKit YtdlamomabonkjaaDoorW.PrintWords YtdlamomabonkjaaDoorW.PrintLast
abbrev Sel := List (Nat × Tmp × Value)
def GrI (C : List Nat) (I : Nat → Value → World → Prop) (u0 : Value) (L : (Nat → Value) → Sel) (a0 : Act) (b : Nat → Bool) (a : Act) (w : World) : Prop :=
 ∃ (s : Nat) (vs : Nat → Value), s ≤ C.length ∧ vs 0 = u0 ∧ (∀ j c, C[j]? = some c → (j < s → b c = true) ∧ (s ≤ j → b c = false)) ∧ a = putSel a0 b (L vs) ∧ I s (vs s) w
def Rd (O B : List Nat) (i : Nat) (L : (Nat → Value) → Sel) (a0 : Act) (p : Tmp) (f : (Nat → Value) → Value) : Prop :=
 ∀ (b : Nat → Bool) (vs : Nat → Value), (∀ j, (O.contains j && (B.getD i 0).testBit j) = true → b j = true) → (∀ d, (O.contains d && (B.getD d 0).testBit i) = true → b d = false) → (putSel a0 b (L vs)).tmps[p]? = some (f vs)
def Ar (O B : List Nat) (i : Nat) (L : (Nat → Value) → Sel) (a0 : Act) (os : List Operand) (vals : List Value) : Prop :=
 ∀ (b : Nat → Bool) (vs : Nat → Value), (∀ j, (O.contains j && (B.getD i 0).testBit j) = true → b j = true) → (∀ d, (O.contains d && (B.getD d 0).testBit i) = true → b d = false) → os.map (putSel a0 b (L vs)).eval = vals
section
variable {P : Program} {ops : Array Oper} {Q : Exit → Act → World → Prop} {B O C : List Nat} {W : World} {I : Nat → Value → World → Prop} {u0 : Value} {L : (Nat → Value) → Sel} {a0 : Act} {i : Nat} {p : Tmp}
theorem rd_on {f : (Nat → Value) → Value} (kp qp : Nat) (hP : ∀ vs, (L vs)[kp]? = some (qp, p, f vs)) (hPd : ∀ vs, ((L vs).drop (kp + 1)).all (fun x => !(x.2.1 == p)) = true) (hon : (O.contains qp && (B.getD i 0).testBit qp) = true) (hsz : Nat.ble (p + 1) a0.tmps.size = true) : Rd O B i L a0 p f :=
 fun b vs h1 h2 => putSel_on kp (hP vs) (hPd vs) (h1 qp hon) hsz
theorem rd_off {v : Value} (h : ∀ vs, (L vs).all (fun e => !(e.2.1 == p)) = true) (hp : a0.tmps[p]? = some v) : Rd O B i L a0 p (fun _ => v) := fun b vs _ _ => (putSel_off (h vs)).trans hp
theorem ar_n : Ar O B i L a0 [] [] := fun _ _ _ _ => rfl
theorem ar_c (c : Value) {os : List Operand} {vals : List Value} (h : Ar O B i L a0 os vals) : Ar O B i L a0 (.const c :: os) (c :: vals) := fun b vs h1 h2 => by rw [List.map_cons, h b vs h1 h2]; rfl
theorem ar_t {v : Value} {os : List Operand} {vals : List Value} (h0 : Rd O B i L a0 p (fun _ => v)) (h : Ar O B i L a0 os vals) : Ar O B i L a0 (.tmp p :: os) (v :: vals) := fun b vs h1 h2 => by rw [List.map_cons, h b vs h1 h2, eval_of (h0 b vs h1 h2)]
theorem gr_op (J : World → Prop) (i k : Nat) {t : Tmp} {u v : Value} {oi : Oper} (ho : ops[i]? = some oi) (hg : oi.guard = none) (hd : oi.dst = some t) (hL : ∀ vs, (L vs)[k]? = some (i, t, v))
  (hdist : ∀ vs, ((L vs).take k ++ (L vs).drop (k + 1)).all (fun e => !(e.1 == i) && !(e.2.1 == t)) = true) (hC : C.contains i = false) (hr : Rd O B i L a0 p (fun _ => u)) (hJ : ∀ s x w, I s x w → J w)
  (hrun : ∀ (a : Act) (w : World), J w → a.tmps[p]? = some u → (execOp a.eval oi).run P w = .ok (.value v) w) : StepAt P ops Q B O (GrI C I u0 L a0) i := by
 rintro b a w ⟨s, vs, h0, hu, h1, ha, hI⟩ hb hon hoff
 refine ⟨oi, ho, fun K hK => ?_⟩
 rw [hd]
 refine value_ (w1 := w) (v := v) (wanted_none0 hg) hd (hrun a w (hJ _ _ _ hI) (by rw [ha]; exact hr b vs hon hoff)) (hK.out _ _ ⟨s, vs, h0, hu, fun j c hc => ?_, ?_, hI⟩)
 ·have hne : c ≠ i := fun e => by
   rw [e] at hc
   have := List.mem_of_getElem? hc
   rw [List.contains_iff_mem.2 this] at hC
   cases hC
  rw [up_ne hne]
  exact h1 j c hc
 ·rw [ha]
  exact putSel_upk k hb (hL vs) (set_same (hL vs)) (hdist vs)
theorem gr_step (i k m : Nat) {t : Tmp} (hm : C[m]? = some i) (hL : ∀ vs, (L vs)[k]? = some (i, t, vs (m + 1))) (hset : ∀ vs v', (L vs).set k (i, t, v') = L (fun j => if j = m + 1 then v' else vs j))
  (hdist : ∀ vs, ((L vs).take k ++ (L vs).drop (k + 1)).all (fun e => !(e.1 == i) && !(e.2.1 == t)) = true) (hnd : (C.take m ++ C.drop (m + 1)).contains i = false) (hprev : (C.take m).all (fun q => O.contains q && (B.getD i 0).testBit q) = true)
  {b : Nat → Bool} {a : Act} {w : World} (hI : GrI C I u0 L a0 b a w) (hb : b i = false) (hon : ∀ j, (O.contains j && (B.getD i 0).testBit j) = true → b j = true) :
  ∃ vs, vs 0 = u0 ∧ a = putSel a0 b (L vs) ∧ I m (vs m) w ∧ ∀ v' w', I (m + 1) v' w' → GrI C I u0 L a0 (up b i) (a.put (some t) v') w' := by
 obtain ⟨s, vs, h0, hu, h1, ha, hI⟩ := hI
 have hs : s = m := by
  have e1 := h1 m i hm
  rcases Nat.lt_trichotomy s m with h | h | h
  ·have hlt : s < C.length := by
    have := (List.getElem?_eq_some_iff.1 hm).1
    omega
   have hc := List.getElem?_eq_getElem hlt
   have e2 := (h1 s _ hc).2 (Nat.le_refl _)
   have e3 := List.all_eq_true.1 hprev C[s] (List.mem_take_iff_getElem.2 ⟨s, by omega, rfl⟩)
   rw [hon _ e3] at e2
   cases e2
  ·exact h
  ·rw [e1.1 h] at hb
   cases hb
 subst hs
 refine ⟨vs, hu, ha, hI, fun v' w' hI' => ⟨s + 1, fun j => if j = s + 1 then v' else vs j, ?_, ?_, fun j c hc => ?_, ?_, ?_⟩⟩
 ·have := (List.getElem?_eq_some_iff.1 hm).1
  omega
 ·show (if 0 = s + 1 then v' else vs 0) = u0
  rw [if_neg (by omega)]
  exact hu
 ·by_cases hj : j = s
  ·subst hj
   rw [hm] at hc
   injection hc with hc
   subst hc
   exact ⟨fun _ => up_self _ _, fun h => absurd h (by omega)⟩
  ·have hne : c ≠ i := fun e => by
    subst e
    have hmem : c ∈ C.take s ++ C.drop (s + 1) := by
     rw [List.mem_append]
     have hl := (List.getElem?_eq_some_iff.1 hc)
     obtain ⟨hl1, hl2⟩ := hl
     by_cases h : j < s
     ·exact Or.inl (List.mem_take_iff_getElem.2 ⟨j, by omega, hl2⟩)
     ·refine Or.inr (List.mem_drop_iff_getElem.2 ⟨j - (s + 1), by omega, ?_⟩)
      rw [← hl2]
      congr 1
      omega
    rw [List.contains_iff_mem.2 hmem] at hnd
    cases hnd
   rw [up_ne hne]
   have := h1 j c hc
   exact ⟨fun h => this.1 (by omega), fun h => this.2 (by omega)⟩
 ·rw [ha]
  exact putSel_upk k hb (hL vs) (hset vs v') (hdist vs)
 ·show I (s + 1) (if s + 1 = s + 1 then v' else vs (s + 1)) w'
  rw [if_pos rfl]
  exact hI'
theorem gr_call (i k m : Nat) {t : Tmp} {fv : (Nat → Value) → Value} {os : List Operand} {vals : List Value} {oi : Oper} {f : FuncId} {fn : Func} {ax : Array Operand} {ts : Array TypeId} (ho : ops[i]? = some oi) (hg : oi.guard = none) (hd : oi.dst = some t) (hm : C[m]? = some i) (hL : ∀ vs, (L vs)[k]? = some (i, t, vs (m + 1)))
  (hset : ∀ vs v', (L vs).set k (i, t, v') = L (fun j => if j = m + 1 then v' else vs j)) (hdist : ∀ vs, ((L vs).take k ++ (L vs).drop (k + 1)).all (fun e => !(e.1 == i) && !(e.2.1 == t)) = true) (hnd : (C.take m ++ C.drop (m + 1)).contains i = false) (hprev : (C.take m).all (fun q => O.contains q && (B.getD i 0).testBit q) = true)
  (hf : P.funcs[f]? = some fn) (hname : (fn.name == "runtime.NumGoroutine") = false) (hbd : fn.body.isSome = true) (hop : oi.op = .call { callee := .value (.func f), args := ax, argTypes := ts }) (has : ax.toList = .tmp p :: os)
  (hr : Rd O B i L a0 p fv) (hfv : ∀ vs, vs 0 = u0 → fv vs = vs m) (har : Ar O B i L a0 os vals) (hcall : ∀ u w, I m u w → Calls P f (u :: vals).toArray w fun e w' => ∃ v', e = .returned v' ∧ I (m + 1) v' w') : StepAt P ops Q B O (GrI C I u0 L a0) i := by
 rintro b a w hG hb hon hoff
 obtain ⟨vs, hu, ha, hI, hK2⟩ := gr_step i k m hm hL hset hdist hnd hprev hG hb hon
 refine ⟨oi, ho, fun K hK => ?_⟩
 rw [hd]
 have e1 := hr b vs hon hoff
 have e2 := har b vs hon hoff
 refine goes_ hf hname hbd (vs m :: vals).toArray (wanted_none0 hg) hd hop ?_ ?_
 ·apply Array.toList_inj.1
  rw [Array.toList_map, has, List.map_cons, ha, eval_of e1, e2, hfv vs hu]
 ·refine (hcall (vs m) w hI).mono ?_
  rintro e w' ⟨v', rfl, hI'⟩
  exact ⟨v', rfl, hK.out _ _ (hK2 v' w' hI')⟩
theorem gr_last (i k m : Nat) {t : Tmp} {fv : (Nat → Value) → Value} {oi : Oper} (ho : ops[i]? = some oi) (hg : oi.guard = none) (hd : oi.dst = some t) (hm : C[m]? = some i) (hL : ∀ vs, (L vs)[k]? = some (i, t, vs (m + 1)))
  (hset : ∀ vs v', (L vs).set k (i, t, v') = L (fun j => if j = m + 1 then v' else vs j)) (hdist : ∀ vs, ((L vs).take k ++ (L vs).drop (k + 1)).all (fun e => !(e.1 == i) && !(e.2.1 == t)) = true) (hnd : (C.take m ++ C.drop (m + 1)).contains i = false) (hprev : (C.take m).all (fun q => O.contains q && (B.getD i 0).testBit q) = true)
  (hr : Rd O B i L a0 p fv) (hfv : ∀ vs, vs 0 = u0 → fv vs = vs m) (hrun : ∀ (a : Act) (w : World) (u : Value), a.tmps[p]? = some u → (execOp a.eval oi).run P w = .ok (.value u) w) (hI2 : ∀ u w, I m u w → I (m + 1) u w) : StepAt P ops Q B O (GrI C I u0 L a0) i := by
 rintro b a w hG hb hon hoff
 obtain ⟨vs, hu, ha, hI, hK2⟩ := gr_step i k m hm hL hset hdist hnd hprev hG hb hon
 refine ⟨oi, ho, fun K hK => ?_⟩
 rw [hd]
 have e1 := hr b vs hon hoff
 rw [hfv vs hu] at e1
 exact value_ (w1 := w) (v := vs m) (wanted_none0 hg) hd (hrun a w (vs m) (by rw [ha]; exact e1)) (hK.out _ _ (hK2 _ _ (hI2 _ _ hI)))
theorem grow_region {id : Nat} (O C : List Nat) (I : Nat → Value → World → Prop) (u0 : Value) (L : (Nat → Value) → Sel) {n : Nat} {l : Array Bool} {Tb : Bool × List (List Nat × List Nat)} (hm : P.follows .mixedOrders = true) (hn : ops.size = n) (hl : Array.replicate n false = l) (hT : rtab .any ops = Tb) (hw : waitsOk Tb.2 B = true) (hk : baseOk Tb.2 O = true) (hl2 : (lof Tb.2.length O (fun _ => false) == l.toList && O.length == n) = true)
  (hLO : ∀ vs, (L vs).all (fun e => O.contains e.1) = true) (hCO : (C.all fun e => O.contains e) = true) (h0 : I 0 u0 W.drew) (hs : ∀ i ∈ O, StepAt P ops Q B O (GrI C I u0 L a0) i)
  (hend : ∀ (vs : Nat → Value) (w : World), I C.length (vs C.length) w → Q .normal (putSel a0 (fun _ => true) (L vs)) w) : Code.wp P (Code.region id ops true) Q a0 W := by
 refine start_ (S := fun _ => True) (ds := []) l hm hn hl trivial (fun _ => ?_)
 refine inv_at O (fun a0 => GrI C I u0 L a0) hT hw hk hl2 ⟨0, fun _ => u0, Nat.zero_le _, rfl, fun j c _ => ⟨fun h => absurd h (Nat.not_lt_zero _), fun _ => rfl⟩, ?_, h0⟩ hs ?_
 ·generalize L (fun _ => u0) = LL
  clear hLO hs hend
  induction LL with
  | nil => rfl
  | cons e r ih => unfold putSel; exact ih
 ·rintro b a w hall ⟨s, vs, hs1, hu, h1, ha, hI⟩
  have e1 : putSel a0 b (L vs) = putSel a0 (fun _ => true) (L vs) := putSel_congr (fun e he => hall _ (List.all_eq_true.1 (hLO vs) e he))
  have e2 : s = C.length := by
   rcases Nat.lt_or_ge s C.length with h | h
   ·have hc := List.getElem?_eq_getElem h
    have e2 := (h1 s _ hc).2 (Nat.le_refl _)
    rw [hall _ (List.all_eq_true.1 hCO _ (List.getElem_mem h))] at e2
    cases e2
   ·omega
  rw [ha, e1]
  rw [e2] at hI
  exact hend vs w hI
end
end Go.Proofs.YtdlamomabonkjaaDoor.Base
end
section
namespace Go.Proofs.YtdlamomabonkjaaDoor.Ch
open Go.RowKit YtdlamomabonkjaaDoorW.PrintWords YtdlamomabonkjaaDoorW.PrintLast Base PCh ParDec ParEnc
structure B1 (w : World) (x : Chk) (L : Lay) (W : World) : Prop where
 x0 : W.heap[w.heap.size]? = some (.cells (CV x L) 41 (0, 0))
 x2 : Below w.heap.size w W
theorem B1.cell {w W : World} {x : Chk} {L : Lay} (h : B1 w x L W) (i : Nat) : W.cell? ⟨w.heap.size, i, none⟩ = (CV x L)[i]? := blk_cell h.x0 i
theorem B1.below {w W W' : World} {x : Chk} {L : Lay} (h : B1 w x L W) (hb : Below W.heap.size W W') : B1 w x L W' := ⟨blk_below h.x0 hb, below_then h.x2 h.x2.size hb⟩
theorem B1.drewN {w W : World} {x : Chk} {L : Lay} (h : B1 w x L W) (n : Nat) : B1 w x L (W.drewN n) := ⟨blk_drewN h.x0 n, pw_below_drewN h.x2 n⟩
theorem B1.new (w : World) (x : Chk) (L : Lay) : B1 w x L (w.alloc (.cells (CV x L) 41)) := ⟨blk_new _ _, below_alloc (Below.refl _ _) _⟩
set_option maxHeartbeats 4000000 in
theorem check_calls (w : World) (x : Chk) (L : Lay) (hx : CR w x L) (hv : ValOk x L) :
  Calls Tryd.prog 46 #[.agg (CV x L)] w fun e w' => e = .returned (.int .i64 (checkD x)) ∧ Below w.heap.size w w' := by
 have HBR := Lh (fun (W : World) (h : Below w.heap.size w W) => bare_calls W x L (hx.below h))
 have HSM := Lh (fun (W : World) (h : Below w.heap.size w W) => same_calls W x (bareD x) L (keepL (hasF x.f0) L) (hx.below h) (keep_CR (hx.below h) _ _))
 have HEN := Lh (fun (W : World) (h : Below w.heap.size w W) => encP_calls W L.A14 L.c14 x.f14 (Kd.C_below hx.h14 h) hx.l14)
 have HXC := Lh (fun (W : World) (h : Below w.heap.size w W) => hx.below h)
 have HXS := Lh (show (Tryd.prog.info? 41).map (·.size) = some (CV x L).size by kernel_rfl)
 have HM13 := Lh hx.h13.2.1
 obtain ⟨CD, hcd⟩ : ∃ CD, checkD x = CD := ⟨_, rfl⟩
 have HCD := Lh hcd
 rw [hcd]
 have X := B1.new w x L
 clear hx hcd
 go_enter Tryd.func46, Tryd.ntmps46
 go_upto_region 1 with (fail)
 refine wp_gen (B1 w x L) X ?_
 clear X
 intro W X
 obtain ⟨q, hq⟩ : ∃ q, decide (x = bareD x) = q := ⟨_, rfl⟩
 rw [hq] at HSM
 have HQ := Lh hq
 clear hq
 have HX0 := Lh X
 have B := True.intro
 refine start_ (n := 6) (S := fun w' => True) (ds := []) #[false, false, false, false, false, false] (by kernel_rfl) rfl rfl trivial (fun hHeld => ?_)
 refine with_tabW checktab1 checkbits1 (fun HT_ HW_ => ?_)
 refine inv_at [0, 1, 2, 3, 4, 5] (fun a0_ b a w' => a = putSel a0_ b [(0, 6, .agg (CV x L)), (1, 7, .agg (CV x L)), (2, 8, .agg (CV (bareD x) (keepL (hasF x.f0) L))), (3, 9, .bool q), (4, 10, .bool (!q)), (5, 5, .bool (!q))] ∧ (Below W.heap.size W w')) HT_.out HW_.out (by kernel_rfl) (by kernel_rfl) ?_ ?_ ?_
 ·exact ⟨by simp only [putSel, Bool.false_eq_true, if_false], below_drew (Below.refl _ _)⟩
 ·skip
  clear B
  refine sc rfl ?_ ?_
  ·rintro b a w' ⟨ha, Q_B⟩ hb_ hon hoff K hK
   have e1 : a.tmps[1]? = some (.pointer (some ⟨w.heap.size, 0, none⟩)) := by rw [ha]; exact (putSel_off rfl).trans rfl
   replace ha := Am ha
   have B := Am Q_B
   refine value_ (w1 := w') (v := .agg (CV x L)) (by rfl) rfl (exec_load_row 41 (.tmp 1) rfl (eval_of e1) (blk_below HX0.out.x0 B.out) Tryd.underlying41 rfl HXS.out) ?_
   refine hK.out _ _ ⟨(puk ha 0 hb_ rfl rfl rfl), B.out⟩
  refine sc rfl ?_ ?_
  ·rintro b a w' ⟨ha, Q_B⟩ hb_ hon hoff K hK
   have e1 : a.tmps[1]? = some (.pointer (some ⟨w.heap.size, 0, none⟩)) := by rw [ha]; exact (putSel_off rfl).trans rfl
   replace ha := Am ha
   have B := Am Q_B
   refine value_ (w1 := w') (v := .agg (CV x L)) (by rfl) rfl (exec_load_row 41 (.tmp 1) rfl (eval_of e1) (blk_below HX0.out.x0 B.out) Tryd.underlying41 rfl HXS.out) ?_
   refine hK.out _ _ ⟨(puk ha 1 hb_ rfl rfl rfl), B.out⟩
  refine sc rfl ?_ ?_
  ·rintro b a w' ⟨ha, Q_B⟩ hb_ hon hoff K hK
   have e7 := psn ha 1 rfl rfl (hon 1 (by kernel_rfl)) rfl
   replace ha := Am ha
   have B := Am Q_B
   refine goes_ Tryd.func71 (by kernel_rfl) rfl #[.agg (CV x L)] (by rfl) rfl rfl (by first | (simp only [List.map_toArray, List.map_cons, List.map_nil, Act.eval, Array.getD_eq_getD_getElem?, Option.getD_some, e7]; done) | (simp only [List.map_toArray, List.map_cons, List.map_nil, Act.eval, Array.getD_eq_getD_getElem?, Option.getD_some, e7]; rfl)) ?_
   refine (HBR.out w' (HX0.out.below B.out).x2).mono ?_
   rintro e w1 ⟨rfl, hB1⟩
   refine ⟨_, rfl, ?_⟩
   refine hK.out _ _ ⟨(puk ha 2 hb_ rfl rfl rfl), B.out.trans (hB1.mono B.out.size)⟩
  refine sc rfl ?_ ?_
  ·rintro b a w' ⟨ha, Q_B⟩ hb_ hon hoff K hK
   have e6 := psn ha 0 rfl rfl (hon 0 (by kernel_rfl)) rfl
   have e8 := psn ha 2 rfl rfl (hon 2 (by kernel_rfl)) rfl
   replace ha := Am ha
   have B := Am Q_B
   refine goes_ Tryd.func38 (by kernel_rfl) rfl #[.agg (CV x L), .agg (CV (bareD x) (keepL (hasF x.f0) L))] (by rfl) rfl rfl (by first | (simp only [List.map_toArray, List.map_cons, List.map_nil, Act.eval, Array.getD_eq_getD_getElem?, Option.getD_some, e6, e8]; done) | (simp only [List.map_toArray, List.map_cons, List.map_nil, Act.eval, Array.getD_eq_getD_getElem?, Option.getD_some, e6, e8]; rfl)) ?_
   refine (HSM.out w' (HX0.out.below B.out).x2).mono ?_
   rintro e w1 ⟨rfl, hB1⟩
   refine ⟨_, rfl, ?_⟩
   refine hK.out _ _ ⟨(puk ha 3 hb_ rfl rfl rfl), B.out.trans (hB1.mono B.out.size)⟩
  refine sc rfl ?_ ?_
  ·rintro b a w' ⟨ha, Q_B⟩ hb_ hon hoff K hK
   have e9 := psn ha 3 rfl rfl (hon 3 (by kernel_rfl)) rfl
   replace ha := Am ha
   refine value_ (w1 := w') (v := .bool (!q)) (by rfl) rfl ?_ ?_
   ·go_simp
    (try simp only [i64_w])
    try rfl
   refine hK.out _ _ ⟨(puk ha 4 hb_ rfl rfl rfl), Q_B⟩
  refine sc rfl ?_ ?_
  ·rintro b a w' ⟨ha, Q_B⟩ hb_ hon hoff K hK
   have e10 := psn ha 4 rfl rfl (hon 4 (by kernel_rfl)) rfl
   replace ha := Am ha
   refine value_ (w1 := w') (v := .bool (!q)) (by rfl) rfl ?_ ?_
   ·go_simp
    (try simp only [i64_w])
    try rfl
   refine hK.out _ _ ⟨(puk ha 5 hb_ rfl rfl rfl), Q_B⟩
  exact steps_nil
 rintro b a w' hall ⟨ha, Q_B⟩
 clear B
 have hb0_ := hall 0 (by kernel_rfl)
 have hb1_ := hall 1 (by kernel_rfl)
 have hb2_ := hall 2 (by kernel_rfl)
 have hb3_ := hall 3 (by kernel_rfl)
 have hb4_ := hall 4 (by kernel_rfl)
 have hb5_ := hall 5 (by kernel_rfl)
 subst ha
 simp only [putSel, hb0_, hb1_, hb2_, hb3_, hb4_, hb5_, if_true, Act.put, List.setIfInBounds_toArray, List.set_cons_zero, List.set_cons_succ]
 have B := Am Q_B
 clear Q_B
 clear hall hb0_ hb1_ hb2_ hb3_ hb4_ hb5_
 replace X := X.below B.out
 clear B HBR HSM HX0
 generalize w' = W at *
 cases q with
 | false =>
  have hC : CD = 63 := by rw [← HCD.out]; unfold checkD; rw [if_pos HQ.out]
  subst hC
  go_wp2
  go_ret
  exact ⟨rfl, X.x2⟩
 | true =>
 have HXE := Lh (show x = bareD x from of_decide_eq_true HQ.out)
 have n1 : ¬ decide (x = bareD x) = false := by rw [HQ.out]; decide
 have hcd := HCD.out
 unfold checkD at hcd
 rw [if_neg n1] at hcd
 clear n1 HCD
 have k0 : W.cell? ⟨w.heap.size, 0, none⟩ = some (.int .u8 x.f0) := X.cell 0
 have k10 : W.cell? ⟨w.heap.size, 10, none⟩ = some (.slice L.A10 x.f10.length L.c10) := X.cell 10
 have k11 : W.cell? ⟨w.heap.size, 11, none⟩ = some (.slice L.A11 x.f11.length L.c11) := X.cell 11
 have k12 : W.cell? ⟨w.heap.size, 12, none⟩ = some (.slice L.A12 x.f12.length L.c12) := X.cell 12
 have k13 : W.cell? ⟨w.heap.size, 13, none⟩ = some (.slice L.A13 x.f13.length L.c13) := X.cell 13
 have k14 : W.cell? ⟨w.heap.size, 14, none⟩ = some (.slice L.A14 x.f14.length L.c14) := X.cell 14
 by_cases h62 : x.f0 = 0 ∧ x.f13.length = 0
 ·rw [if_pos h62] at hcd
  have q0 : (x.f0 == 0) = true := by simp [h62.1]
  have q13 : ((x.f13.length : Int) == 0) = true := by rw [h62.2]; rfl
  subst hcd
  clear h62
  go_wp2
  go_ret
  exact ⟨rfl, X.x2⟩
 rw [if_neg h62] at hcd
 have hbt : beatB x.f14 = true ∨ beatB x.f14 = false := by cases beatB x.f14 <;> simp
 by_cases h61 : (x.f0 = 4 ∨ x.f0 = 5) ∧ beatB x.f14 = false
 ·rw [if_pos h61] at hcd
  have q0 : (x.f0 == 0) = false := by simp; omega
  have HBT := Lh (fun (W' : World) (h : Below w.heap.size w W') => chunk_beat.calls x.f0 x.f1 x.f2 x.f3 x.f4 x.f5 x.f6 x.f7 x.f8 x.f9 L.A10 L.c10 x.f10 L.A11 L.c11 x.f11 L.A12 L.c12 x.f12 L.A13 L.c13 x.f13 L.A14 L.c14 x.f14 false W' (HXC.out W' h).h10 (HXC.out W' h).l10 (HXC.out W' h).h11 (HXC.out W' h).l11 (HXC.out W' h).h12 (HXC.out W' h).l12 (HXC.out W' h).h13 (HXC.out W' h).l13 (HXC.out W' h).h14 (HXC.out W' h).l14 (by rw [beat_f, h61.2]))
  have HIB := Lh (fun W' => isBeat_calls x.f0 W')
  rw [decide_eq_true h61.1] at HIB
  subst hcd
  clear h61 h62 hbt
  go_wp2_with fail
  refine (HIB.out _).mono ?_
  rintro e w2 ⟨rfl, ⟨m2, rfl⟩⟩
  replace X := X.drewN m2
  go_wp2_with (with_reducible refine gate_dst (N := 26) rfl ?_; go_must (refine step_on (wanted_on rfl rfl rfl rfl) (exec_load_row 41 (.tmp 1) rfl rfl X.x0 Tryd.underlying41 rfl HXS.out) ?_))
  refine (HBT.out _ X.x2).mono ?_
  rintro e w2 ⟨rfl, hB2⟩
  replace X := X.below hB2
  go_wp2
  go_ret
  exact ⟨rfl, X.x2⟩
 rw [if_neg h61] at hcd
 have HCD := Lh hcd
 clear hcd
 have hvar : (x.f0 = 0 ∧ ¬ x.f13.length = 0) ∨ (¬ x.f0 = 0 ∧ ¬ (x.f0 = 4 ∨ x.f0 = 5)) ∨ (¬ x.f0 = 0 ∧ (x.f0 = 4 ∨ x.f0 = 5) ∧ beatB x.f14 = true) := by
  by_cases a0 : x.f0 = 0
  ·exact Or.inl ⟨a0, fun e => h62 ⟨a0, e⟩⟩
  ·by_cases a4 : x.f0 = 4 ∨ x.f0 = 5
   ·exact Or.inr (Or.inr ⟨a0, a4, hbt.elim id (fun e => absurd ⟨a4, e⟩ h61)⟩)
   ·exact Or.inr (Or.inl ⟨a0, a4⟩)
 clear h61 h62 hbt
 rcases hvar with ⟨a0, a13⟩ | ⟨a0, a4⟩ | ⟨a0, a4, hbt⟩
 ·have HIB := Lh (fun W' => isBeat_calls x.f0 W')
  rw [decide_eq_false (by omega)] at HIB
  have q0 : (x.f0 == 0) = true := by simp [a0]
  have q13 : ((x.f13.length : Int) == 0) = false := by rw [beq_eq_false_iff_ne]; omega
  clear a0 a13
  go_wp2_with fail
  refine (HIB.out _).mono ?_
  rintro e w2 ⟨rfl, ⟨m2, rfl⟩⟩
  replace X := X.drewN m2
  go_upto_region 7 with (fail)
  refine wp_gen (B1 w x L) X ?_
  clear X k0 k10 k11 k12 k13 k14 q0 q13 HIB
  intro W X
  have k10 : W.cell? ⟨w.heap.size, 10, none⟩ = some (.slice L.A10 x.f10.length L.c10) := X.cell 10
  have k11 : W.cell? ⟨w.heap.size, 11, none⟩ = some (.slice L.A11 x.f11.length L.c11) := X.cell 11
  have k12 : W.cell? ⟨w.heap.size, 12, none⟩ = some (.slice L.A12 x.f12.length L.c12) := X.cell 12
  have k14 : W.cell? ⟨w.heap.size, 14, none⟩ = some (.slice L.A14 x.f14.length L.c14) := X.cell 14
  by_cases hm : 4096 < x.f10.length ∨ 4096 < x.f11.length ∨ 4096 < x.f12.length
  ·have hc := HCD.out
   rw [if_pos hm] at hc
   subst hc
   go_wp2
   all_goals first | (exfalso; omega) | (go_ret; exact ⟨rfl, X.x2⟩)
  have b10 : decide ((4096 : Int) < (x.f10.length : Int)) = false := by simp; omega
  have b11 : decide ((4096 : Int) < (x.f11.length : Int)) = false := by simp; omega
  have b12 : decide ((4096 : Int) < (x.f12.length : Int)) = false := by simp; omega
  have HCE := Lh HCD.out
  rw [if_neg hm] at HCE
  have l10 : x.f10.length ≤ 4096 := by omega
  have l11 : x.f11.length ≤ 4096 := by omega
  have l12 : x.f12.length ≤ 4096 := by omega
  have HEW := Lh (HEN.out W X.x2)
  by_cases he : (encP x.f14).2 = 0
  ·have HVL := Lh (fun (W' : World) (h : Below w.heap.size w W') => hv W' (HXC.out W' h) HXE.out l10 l11 l12 he)
   rw [if_neg (fun e => e he)] at HCE
   rw [he] at HEW
   clear hm he
   unfold ValP at HVL
   go_wp2_with fail
   refine HEW.out.mono ?_
   rintro e w3 ⟨v0, rfl, hR, hB3⟩
   obtain ⟨A0, c0, rfl⟩ := Kd.R_slice hR
   replace X := X.below hB3
   clear hR hB3 k10 k11 k12 k14
   go_wp2_with (with_reducible refine gate_dst (N := 52) rfl ?_; refine wpList_load_row rfl 41 (.tmp 1) rfl _ rfl 41 _ (0, 0) _ X.x0 Tryd.underlying41 rfl HXS.out ?_)
   refine (HVL.out _ X.x2).mono ?_
   rintro e w5 ⟨A9, c9, rfl, hle9, hC9, hB5⟩
   replace X := X.below hB5
   clear hC9 hB5 hle9
   generalize (valueD x).length = vl at *
   by_cases h2 : 65531 < vl
   ·have hc := HCE.out
    rw [if_pos h2] at hc
    subst hc
    go_wp2
    go_ret
    exact ⟨rfl, X.x2⟩
   ·have hc := HCE.out
    rw [if_neg h2] at hc
    subst hc
    go_wp2
    go_ret
    exact ⟨rfl, X.x2⟩
  ·have hc := HCE.out
   rw [if_pos he] at hc
   rw [hc] at HEW he
   have q : (CD != 0) = true := by simp [he]
   clear hm he hc
   go_wp2_with fail
   refine HEW.out.mono ?_
   rintro e w3 ⟨v0, rfl, hR, hB3⟩
   obtain ⟨A0, c0, rfl⟩ := Kd.R_slice hR
   replace X := X.below hB3
   clear hR hB3 k10 k11 k12 k14
   go_wp2
   go_ret
   exact ⟨rfl, X.x2⟩
 ·have HIB := Lh (fun W' => isBeat_calls x.f0 W')
  rw [decide_eq_false a4] at HIB
  have q0 : (x.f0 == 0) = false := by simp [a0]
  clear a0 a4
  go_wp2_with fail
  refine (HIB.out _).mono ?_
  rintro e w2 ⟨rfl, ⟨m2, rfl⟩⟩
  replace X := X.drewN m2
  go_upto_region 7 with (fail)
  refine wp_gen (B1 w x L) X ?_
  clear X k0 k10 k11 k12 k13 k14 q0 HIB
  intro W X
  have k10 : W.cell? ⟨w.heap.size, 10, none⟩ = some (.slice L.A10 x.f10.length L.c10) := X.cell 10
  have k11 : W.cell? ⟨w.heap.size, 11, none⟩ = some (.slice L.A11 x.f11.length L.c11) := X.cell 11
  have k12 : W.cell? ⟨w.heap.size, 12, none⟩ = some (.slice L.A12 x.f12.length L.c12) := X.cell 12
  have k14 : W.cell? ⟨w.heap.size, 14, none⟩ = some (.slice L.A14 x.f14.length L.c14) := X.cell 14
  by_cases hm : 4096 < x.f10.length ∨ 4096 < x.f11.length ∨ 4096 < x.f12.length
  ·have hc := HCD.out
   rw [if_pos hm] at hc
   subst hc
   go_wp2
   all_goals first | (exfalso; omega) | (go_ret; exact ⟨rfl, X.x2⟩)
  have b10 : decide ((4096 : Int) < (x.f10.length : Int)) = false := by simp; omega
  have b11 : decide ((4096 : Int) < (x.f11.length : Int)) = false := by simp; omega
  have b12 : decide ((4096 : Int) < (x.f12.length : Int)) = false := by simp; omega
  have HCE := Lh HCD.out
  rw [if_neg hm] at HCE
  have l10 : x.f10.length ≤ 4096 := by omega
  have l11 : x.f11.length ≤ 4096 := by omega
  have l12 : x.f12.length ≤ 4096 := by omega
  have HEW := Lh (HEN.out W X.x2)
  by_cases he : (encP x.f14).2 = 0
  ·have HVL := Lh (fun (W' : World) (h : Below w.heap.size w W') => hv W' (HXC.out W' h) HXE.out l10 l11 l12 he)
   rw [if_neg (fun e => e he)] at HCE
   rw [he] at HEW
   clear hm he
   unfold ValP at HVL
   go_wp2_with fail
   refine HEW.out.mono ?_
   rintro e w3 ⟨v0, rfl, hR, hB3⟩
   obtain ⟨A0, c0, rfl⟩ := Kd.R_slice hR
   replace X := X.below hB3
   clear hR hB3 k10 k11 k12 k14
   go_wp2_with (with_reducible refine gate_dst (N := 52) rfl ?_; refine wpList_load_row rfl 41 (.tmp 1) rfl _ rfl 41 _ (0, 0) _ X.x0 Tryd.underlying41 rfl HXS.out ?_)
   refine (HVL.out _ X.x2).mono ?_
   rintro e w5 ⟨A9, c9, rfl, hle9, hC9, hB5⟩
   replace X := X.below hB5
   clear hC9 hB5 hle9
   generalize (valueD x).length = vl at *
   by_cases h2 : 65531 < vl
   ·have hc := HCE.out
    rw [if_pos h2] at hc
    subst hc
    go_wp2
    go_ret
    exact ⟨rfl, X.x2⟩
   ·have hc := HCE.out
    rw [if_neg h2] at hc
    subst hc
    go_wp2
    go_ret
    exact ⟨rfl, X.x2⟩
  ·have hc := HCE.out
   rw [if_pos he] at hc
   rw [hc] at HEW he
   have q : (CD != 0) = true := by simp [he]
   clear hm he hc
   go_wp2_with fail
   refine HEW.out.mono ?_
   rintro e w3 ⟨v0, rfl, hR, hB3⟩
   obtain ⟨A0, c0, rfl⟩ := Kd.R_slice hR
   replace X := X.below hB3
   clear hR hB3 k10 k11 k12 k14
   go_wp2
   go_ret
   exact ⟨rfl, X.x2⟩
 ·have HIB := Lh (fun W' => isBeat_calls x.f0 W')
  rw [decide_eq_true a4] at HIB
  have HBT := Lh (fun (W' : World) (h : Below w.heap.size w W') => chunk_beat.calls x.f0 x.f1 x.f2 x.f3 x.f4 x.f5 x.f6 x.f7 x.f8 x.f9 L.A10 L.c10 x.f10 L.A11 L.c11 x.f11 L.A12 L.c12 x.f12 L.A13 L.c13 x.f13 L.A14 L.c14 x.f14 true W' (HXC.out W' h).h10 (HXC.out W' h).l10 (HXC.out W' h).h11 (HXC.out W' h).l11 (HXC.out W' h).h12 (HXC.out W' h).l12 (HXC.out W' h).h13 (HXC.out W' h).l13 (HXC.out W' h).h14 (HXC.out W' h).l14 (by rw [beat_f, hbt]))
  have q0 : (x.f0 == 0) = false := by simp [a0]
  clear a0 a4 hbt
  go_wp2_with fail
  refine (HIB.out _).mono ?_
  rintro e w2 ⟨rfl, ⟨m2, rfl⟩⟩
  replace X := X.drewN m2
  go_wp2_with (with_reducible refine gate_dst (N := 26) rfl ?_; go_must (refine step_on (wanted_on rfl rfl rfl rfl) (exec_load_row 41 (.tmp 1) rfl rfl X.x0 Tryd.underlying41 rfl HXS.out) ?_))
  refine (HBT.out _ X.x2).mono ?_
  rintro e w2 ⟨rfl, hB2⟩
  replace X := X.below hB2
  clear hB2
  go_upto_region 7 with (fail)
  refine wp_gen (B1 w x L) X ?_
  clear X k0 k10 k11 k12 k13 k14 q0 HIB HBT
  intro W X
  have k10 : W.cell? ⟨w.heap.size, 10, none⟩ = some (.slice L.A10 x.f10.length L.c10) := X.cell 10
  have k11 : W.cell? ⟨w.heap.size, 11, none⟩ = some (.slice L.A11 x.f11.length L.c11) := X.cell 11
  have k12 : W.cell? ⟨w.heap.size, 12, none⟩ = some (.slice L.A12 x.f12.length L.c12) := X.cell 12
  have k14 : W.cell? ⟨w.heap.size, 14, none⟩ = some (.slice L.A14 x.f14.length L.c14) := X.cell 14
  by_cases hm : 4096 < x.f10.length ∨ 4096 < x.f11.length ∨ 4096 < x.f12.length
  ·have hc := HCD.out
   rw [if_pos hm] at hc
   subst hc
   go_wp2
   all_goals first | (exfalso; omega) | (go_ret; exact ⟨rfl, X.x2⟩)
  have b10 : decide ((4096 : Int) < (x.f10.length : Int)) = false := by simp; omega
  have b11 : decide ((4096 : Int) < (x.f11.length : Int)) = false := by simp; omega
  have b12 : decide ((4096 : Int) < (x.f12.length : Int)) = false := by simp; omega
  have HCE := Lh HCD.out
  rw [if_neg hm] at HCE
  have l10 : x.f10.length ≤ 4096 := by omega
  have l11 : x.f11.length ≤ 4096 := by omega
  have l12 : x.f12.length ≤ 4096 := by omega
  have HEW := Lh (HEN.out W X.x2)
  by_cases he : (encP x.f14).2 = 0
  ·have HVL := Lh (fun (W' : World) (h : Below w.heap.size w W') => hv W' (HXC.out W' h) HXE.out l10 l11 l12 he)
   rw [if_neg (fun e => e he)] at HCE
   rw [he] at HEW
   clear hm he
   unfold ValP at HVL
   go_wp2_with fail
   refine HEW.out.mono ?_
   rintro e w3 ⟨v0, rfl, hR, hB3⟩
   obtain ⟨A0, c0, rfl⟩ := Kd.R_slice hR
   replace X := X.below hB3
   clear hR hB3 k10 k11 k12 k14
   go_wp2_with (with_reducible refine gate_dst (N := 52) rfl ?_; refine wpList_load_row rfl 41 (.tmp 1) rfl _ rfl 41 _ (0, 0) _ X.x0 Tryd.underlying41 rfl HXS.out ?_)
   refine (HVL.out _ X.x2).mono ?_
   rintro e w5 ⟨A9, c9, rfl, hle9, hC9, hB5⟩
   replace X := X.below hB5
   clear hC9 hB5 hle9
   generalize (valueD x).length = vl at *
   by_cases h2 : 65531 < vl
   ·have hc := HCE.out
    rw [if_pos h2] at hc
    subst hc
    go_wp2
    go_ret
    exact ⟨rfl, X.x2⟩
   ·have hc := HCE.out
    rw [if_neg h2] at hc
    subst hc
    go_wp2
    go_ret
    exact ⟨rfl, X.x2⟩
  ·have hc := HCE.out
   rw [if_pos he] at hc
   rw [hc] at HEW he
   have q : (CD != 0) = true := by simp [he]
   clear hm he hc
   go_wp2_with fail
   refine HEW.out.mono ?_
   rintro e w3 ⟨v0, rfl, hR, hB3⟩
   obtain ⟨A0, c0, rfl⟩ := Kd.R_slice hR
   replace X := X.below hB3
   clear hR hB3 k10 k11 k12 k14
   go_wp2
   go_ret
   exact ⟨rfl, X.x2⟩
end Go.Proofs.YtdlamomabonkjaaDoor.Ch
end
section
namespace Go.Proofs.YtdlamomabonkjaaDoor.Ch
open Go.RowKit YtdlamomabonkjaaDoorW.PrintWords YtdlamomabonkjaaDoorW.PrintLast Base PCh ParDec ParEnc
theorem chunkL_len (x : Chk) : (chunkL x).length = ((valueD x).length + 7) / 4 * 4 := by
 unfold chunkL padL
 simp only [List.length_append, twoL_length, List.length_cons, List.length_nil, List.length_replicate]
 omega
theorem ints_take (v : List UInt8) (n : Nat) : ints (v.take n) = (ints v).take n := by unfold ints; rw [List.map_take]
theorem ints_dr (v : List UInt8) (n : Nat) : ints (v.drop n) = (ints v).drop n := by unfold ints; rw [List.map_drop]
theorem dec_back {x : Chk} (ok : OkC x) (h : ChkOk x) {b : List UInt8} {t : List Int} (hb : ints b = chunkL x ++ t) : decC b = (x, ((chunkL x).length : Int), 0) := by
 have hl := len_ints hb
 have hc := chunkL_len x
 have hv := h.len
 have hq : IntKind.u16.wrap (4 + ((valueD x).length : Int)) = ((4 + (valueD x).length : Nat) : Int) := by simp [IntKind.wrap, IntKind.bits, IntKind.signed]; omega
 rw [List.length_append] at hl
 unfold chunkL at hb
 rw [hq, List.append_assoc, List.append_assoc, List.append_assoc] at hb
 obtain ⟨a, r, rfl, ha, h1⟩ := ints_cons hb
 obtain ⟨c, r, rfl, hc1, h2⟩ := ints_cons h1
 obtain ⟨n1, n2⟩ := be2 (v := r) h2 (by unfold in16; omega)
 have n1' : be (r.take 2) = 4 + (valueD x).length := by omega
 unfold decC
 rw [if_neg (by omega)]
 rw [show ((a :: c :: r).drop 2).take 2 = r.take 2 from rfl, n1', if_neg (by omega), show (a :: c :: r).getD 0 0 = a from rfl, show (a :: c :: r).getD 1 0 = c from rfl, ha, hc1, fl_of h.bare]
 have hvv : ints (((a :: c :: r).take (4 + (valueD x).length)).drop 4) = valueD x := by
  rw [List.drop_take, show 4 + (valueD x).length - 4 = (valueD x).length by omega, ints_take, show (a :: c :: r).drop 4 = r.drop 2 from rfl, n2]
  exact List.take_left
 rw [read_back ok h hvv]
 dsimp only
 rw [show min ((4 + (valueD x).length + 3) / 4 * 4) (a :: c :: r).length = (chunkL x).length by omega]
noncomputable def flatL : List Chk → List Int
 | [] => []
 | x :: r => chunkL x ++ flatL r
theorem run_flat (xs : List Chk) : ∀ acc, (runE acc xs).2 = 0 → (runE acc xs).1 = acc ++ flatL xs ∧ (acc ++ flatL xs).length ≤ max 65536 acc.length := by
 induction xs with
 | nil => intro acc _; exact ⟨(List.append_nil _).symm, by rw [flatL, List.append_nil]; omega⟩
 | cons x r ih =>
  intro acc h
  unfold runE at h ⊢
  by_cases hl : 65536 < (acc ++ chunkL x).length
  ·rw [if_pos hl] at h; cases h
  ·rw [if_neg hl] at h ⊢
   obtain ⟨h1, h2⟩ := ih _ h
   rw [flatL, ← List.append_assoc]
   exact ⟨h1, by omega⟩
theorem run_bad (xs : List Chk) : ∀ acc, (runE acc xs).2 ≠ 0 → (runE acc xs).1 = [] := by
 induction xs with
 | nil => intro acc h; exact absurd rfl h
 | cons x r ih =>
  intro acc h
  unfold runE at h ⊢
  by_cases hl : 65536 < (acc ++ chunkL x).length
  ·rw [if_pos hl]
  ·rw [if_neg hl] at h ⊢
   exact ih _ h
theorem enc_bad {xs : List Chk} (h : (encD xs).2 ≠ 0) : (encD xs).1 = [] := by
 unfold encD at h ⊢
 by_cases hc : chkAll xs = 0
 ·rw [if_pos hc] at h ⊢; exact run_bad xs _ h
 ·rw [if_neg hc]
theorem enc_good {xs : List Chk} (h : (encD xs).2 = 0) : (∀ x ∈ xs, checkD x = 0) ∧ (encD xs).1 = flatL xs ∧ (flatL xs).length ≤ 65536 := by
 unfold encD at h ⊢
 by_cases hc : chkAll xs = 0
 ·rw [if_pos hc] at h ⊢
  obtain ⟨h1, h2⟩ := run_flat xs [] h
  exact ⟨fun x hx => chkAll_mem hc hx, h1, by simpa using h2⟩
 ·rw [if_neg hc] at h; exact absurd h hc
theorem all_back (xs : List Chk) : ∀ (n at_ : Nat) (b : List UInt8) (acc : List Chk), (∀ x ∈ xs, OkC x ∧ checkD x = 0) → ints (b.drop at_) = flatL xs → at_ ≤ b.length → b.length < n + at_ → allD n b at_ acc = (acc ++ xs, 0, 0) := by
 induction xs with
 | nil =>
  intro n at_ b acc _ hb ha hn
  have h0 := len_ints hb
  rw [List.length_drop] at h0
  have h0 : b.length - at_ = 0 := h0
  obtain ⟨m, rfl⟩ : ∃ m, n = m + 1 := ⟨n - 1, by omega⟩
  rw [allD, if_neg (by omega), List.append_nil]
 | cons x r ih =>
  intro n at_ b acc ho hb ha hn
  obtain ⟨o1, o2⟩ := ho x (List.mem_cons_self ..)
  have hd := dec_back o1 (check_ok.1 o2) hb
  have h0 := len_ints hb
  have hc := chunkL_len x
  rw [List.length_drop, flatL, List.length_append] at h0
  obtain ⟨m, rfl⟩ : ∃ m, n = m + 1 := ⟨n - 1, by omega⟩
  rw [allD, if_pos (by omega), hd, if_neg (by simp)]
  dsimp only
  rw [Int.toNat_natCast, ih m _ b _ (fun y hy => ho y (List.mem_cons_of_mem _ hy)) _ (by omega) (by omega), List.append_assoc, List.singleton_append]
  rw [← List.drop_drop, ints_dr, hb, flatL]
  exact List.drop_left
end Go.Proofs.YtdlamomabonkjaaDoor.Ch
end
section
namespace Go.Proofs.YtdlamomabonkjaaDoor.Ch
open Go.RowKit YtdlamomabonkjaaDoorW.PrintWords YtdlamomabonkjaaDoorW.PrintLast Base PCh ParDec ParEnc
def encAT13 : Bool × List (List Nat × List Nat) := (true, [([], []), ([], []), ([1], [1]), ([2], [2]), ([3], [3]), ([], []), ([5], [5]), ([], []), ([7], [7]), ([6, 8], [6, 8]), ([4, 9], [4, 9]), ([0, 0, 1, 2, 3, 4, 5, 6, 7, 8, 9, 10], [0]), ([11, 0, 1, 2, 3, 4, 5, 6, 7, 8, 9, 10], [11]), ([12, 10, 10, 0, 1, 2, 3, 4, 5, 6, 7, 8, 9, 10], [10, 12])])
def encAB13 : List Nat := [0, 0, 2, 6, 14, 0, 32, 0, 128, 480, 1022, 2047, 4095, 8191]
theorem encAtab13 : Go.Proofs.YtdlamomabonkjaaDoorW.PrintLast.rtab .any (Go.Proofs.YtdlamomabonkjaaDoorW.PrintLast.opsOf Tryd.f28 13) = encAT13 := by kernel_rfl
theorem encAbits13 : Go.Proofs.YtdlamomabonkjaaDoorW.PrintLast.waitsOk encAT13.2 encAB13 = true := by kernel_rfl
def encBT16 : Bool × List (List Nat × List Nat) := (true, [([], []), ([], []), ([1], [1]), ([2], [2]), ([3], [3]), ([], []), ([5], [5]), ([6], [6]), ([], []), ([8], [8]), ([7, 9], [7, 9]), ([4, 10, 7], [4, 10]), ([0, 0, 1, 2, 3, 4, 5, 6, 7, 8, 9, 10, 11], [0]), ([12, 0, 1, 2, 3, 4, 5, 6, 7, 8, 9, 10, 11], [12]), ([13, 11, 11, 0, 1, 2, 3, 4, 5, 6, 7, 8, 9, 10, 11], [11, 13])])
def encBB16 : List Nat := [0, 0, 2, 6, 14, 0, 32, 96, 0, 256, 992, 2046, 4095, 8191, 16383]
theorem encBtab16 : Go.Proofs.YtdlamomabonkjaaDoorW.PrintLast.rtab .any (Go.Proofs.YtdlamomabonkjaaDoorW.PrintLast.opsOf Tryd.f28 16) = encBT16 := by kernel_rfl
theorem encBbits16 : Go.Proofs.YtdlamomabonkjaaDoorW.PrintLast.waitsOk encBT16.2 encBB16 = true := by kernel_rfl
set_option maxHeartbeats 4000000 in
theorem encode_chunks (w : World) (A : Option Addr) (c : Nat) (l : List Chk) (hl : Kd.C k41 w A l.length l)
  (hck : ∀ x ∈ l, ∀ W L, CR W x L → Calls Tryd.prog 46 #[.agg (CV x L)] W fun e w' => e = .returned (.int .i64 (checkD x)) ∧ Below W.heap.size W w')
  (hval : ∀ x ∈ l, checkD x = 0 → ∀ W L, w.heap.size ≤ W.heap.size → (∀ W', Below w.heap.size W W' → CR W' x L) → Calls Tryd.prog 52 #[.agg (CV x L)] W (ValQ w.heap.size (valueD x) W)) :
  Calls Tryd.prog 28 #[.slice A l.length c] w fun e w' => ∃ v, e = .returned (.tuple #[v, .int .i64 (encD l).2]) ∧ (Kd.int .u8).R 5 w' w.heap.size (fun _ => True) v (encD l).1 ∧ Below w.heap.size w w' := by
 have HLC := Lh (fun (W : World) (h : Below w.heap.size w W) => Kd.C_below hl h)
 have HCK := Lh hck
 have HVAL := Lh hval
 have HMX := Lh hl.2.1
 obtain ⟨E, hE⟩ : ∃ E, encD l = E := ⟨_, rfl⟩
 rw [hE]
 have HE := Lh hE
 clear hl hck hval hE
 go_enter Tryd.func28, Tryd.ntmps28
 have hm := HMX.out
 go_wp2
 go_loopw [13] (fun v13 wr => ∃ (i : Nat), i ≤ l.length ∧ v13 = .int .i64 (i : Int) ∧ Hid (chkAll (l.drop i) = chkAll l) ∧ Hid (Below w.heap.size w wr)) (fun v13 _ => l.length - (intOf v13).toNat)
 case atStart => exact ⟨0, Nat.zero_le _, rfl, rfl, Below.refl _ _⟩
 case round =>
  obtain ⟨i, hi, rfl, HA, HB⟩ := hrel
  by_cases hlt : i < l.length
  ·obtain ⟨ad, x, L, rfl, hd, hxm, hcell, hx⟩ := chk_at (HLC.out wr HB.out) i hlt
   have hA := HA.out
   rw [hd, chkAll] at hA
   have HCX := Lh (HCK.out x hxm (wr.alloc (.cells (CV x L) 41)) L (hx.below (below_alloc (Below.refl _ _) _)))
   have HCL := Lh hcell
   have HXS := Lh (show (Tryd.prog.info? 41).map (·.size) = some (CV x L).size by kernel_rfl)
   have HXZ := Lh (show (#[.int .u8 0, .int .u8 0, .int .u32 0, .int .u16 0, .int .u16 0, .int .u32 0, .int .u32 0, .int .u32 0, .int .u16 0, .int .u16 0, .slice none 0 0, .slice none 0 0, .slice none 0 0, .slice none 0 0, .slice none 0 0] : Array Value).size = (CV x L).size from rfl)
   have HXO := Lh (CV_one x L)
   clear hcell hd hxm
   generalize checkD x = q at *
   generalize CV x L = CX at *
   clear hx HA
   have HA2 := Lh hA
   clear hA
   go_wp2_with (first | (with_reducible refine gate_dst (N := 16) rfl ?_; go_must (refine wpList_load_cells rfl 41 (.tmp 15) rfl rfl CX _ (fun j v hv => HCL.out j v hv) Tryd.underlying41 rfl HXS.out ?_)) | (with_reducible refine gate_dst (N := 5) rfl ?_; go_must (refine wpList_box rfl rfl 5 rfl rfl (.tmp 16) rfl CX rfl rfl HXZ.out HXS.out HXO.out ?_)) | (with_reducible refine gate_dst (N := 17) rfl ?_; go_must (refine wpList_load_cells rfl 41 (.tmp 5) rfl rfl CX _ (cells_of_blk (blk_new wr (.cells CX 41))) Tryd.underlying41 rfl HXS.out ?_)))
   refine HCX.out.mono ?_
   rintro e w1 ⟨rfl, hB1⟩
   have HB2 := Lh (below_then HB.out (by have := HB.out.size; exact this) (below_then (below_alloc (Below.refl wr.heap.size wr) (.cells CX 41)) (by simp) hB1))
   clear hB1 HB HCL
   by_cases hq : q = 0
   ·subst hq
    have hA := HA2.out
    rw [if_pos rfl] at hA
    have HA := Lh hA
    clear hA HA2
    go_wp2
    go_roundw
    case rel => exact ⟨i + 1, by omega, by go_num, HA, HB2⟩
    case measure => simp [intOf]; omega
   ·have hA := HA2.out
    rw [if_neg hq] at hA
    have HA := Lh hA
    clear hA HA2
    go_wp2
    go_ret2
    have hE : encD l = ([], q) := by unfold encD; rw [← HA.out, if_neg hq]
    rw [← HE.out, hE]
    exact ⟨_, rfl, Kd.R_nil _ _ _ _ _, HB2.out⟩
  ·obtain rfl : i = l.length := by omega
   have hA := HA.out
   rw [List.drop_length, chkAll] at hA
   have HAL := Lh hA.symm
   have HRE := Lh (show runE [] l = E by have := HE.out; unfold encD at this; rw [if_pos hA.symm] at this; exact this)
   clear hA HA HCK HE
   go_wp2
   have HW0 := Lh (show WS (wr.alloc (.cells #[.slice none 0 0] 87)) wr.heap.size [] from ⟨_, blk_new _ _, Kd.R_nil _ _ _ _ _⟩)
   have HBW := Lh (below_alloc HB.out (.cells #[.slice none 0 0] 87))
   have HGW := Lh (show w.heap.size ≤ wr.heap.size from HB.out.size)
   clear HB
   generalize wr.alloc (.cells #[.slice none 0 0] 87) = W0 at *
   generalize wr.heap.size = gw at *
   go_loopw [27] (fun v27 wr => ∃ (i : Nat) (acc : List Int), i ≤ l.length ∧ v27 = .int .i64 (i : Int) ∧ Hid (runE acc (l.drop i) = E) ∧ Hid (acc.length ≤ 65536) ∧ Hid (WS wr gw acc) ∧ Hid (Below w.heap.size w wr)) (fun v27 _ => l.length - (intOf v27).toNat)
   case atStart => exact ⟨0, [], Nat.zero_le _, rfl, HRE.out, (by show _ ≤ _; simp), HW0.out, HBW.out⟩
   case round =>
    obtain ⟨i, acc, hi, rfl, HA, HLA, HW, HB⟩ := hrel
    by_cases hlt : i < l.length
    ·obtain ⟨ad, x, L, rfl, hd, hxm, hcell, hx⟩ := chk_at (HLC.out w (Below.refl _ _)) i hlt
     have hA := HA.out
     rw [hd, runE, chunkL] at hA
     have hc0 := chkAll_mem HAL.out hxm
     have hvl := checkD_len hc0
     have HCL := Lh (fun j v hv => pw_cell_below HB.out (hcell j v hv))
     have HV := Lh (HVAL.out x hxm hc0 (wr.alloc (.cells (CV x L) 41)) L (by have := HB.out.size; rw [World.size_alloc]; omega) (fun W' h => hx.below ((below_alloc HB.out _).trans h)))
     have HXS := Lh (show (Tryd.prog.info? 41).map (·.size) = some (CV x L).size by kernel_rfl)
     have HXZ := Lh (show (#[.int .u8 0, .int .u8 0, .int .u32 0, .int .u16 0, .int .u16 0, .int .u32 0, .int .u32 0, .int .u32 0, .int .u16 0, .int .u16 0, .slice none 0 0, .slice none 0 0, .slice none 0 0, .slice none 0 0, .slice none 0 0] : Array Value).size = (CV x L).size from rfl)
     have HXO := Lh (CV_one x L)
     have HY0 := Lh (show (CV x L)[0]? = some (.int .u8 x.f0) from rfl)
     have HY1 := Lh (show (CV x L)[1]? = some (.int .u8 x.f1) from rfl)
     clear hcell hd hxm hx hc0 HA HAL HRE HW0 HBW HLC HVAL
     generalize CV x L = CX at *
     generalize valueD x = v at *
     generalize x.f0 = a0 at *
     generalize x.f1 = a1 at *
     obtain ⟨pad, hpad⟩ : ∃ m : Nat, (v.length + 3) / 4 * 4 - v.length = m := ⟨_, rfl⟩
     unfold padL at hA
     rw [hpad] at hA
     simp only [← List.append_assoc] at hA
     have HPL := Lh (show pad ≤ 3 by omega)
     have HSUB := Lh (show wrap64 ((((v.length + 3) / 4 * 4 : Nat) : Int) - (v.length : Int)) = ((pad : Nat) : Int) by unfold wrap64; omega)
     have HPD := Lh (fun W : World => padded_calls v.length (by omega) W)
     have HVL := Lh hvl
     have HA2 := Lh hA
     clear hA hpad hvl
     obtain ⟨n, hn⟩ : ∃ n, v.length = n := ⟨_, rfl⟩
     rw [hn] at HSUB HPD HVL HA2
     have HNV := Lh hn
     clear hn
     generalize hpn : (n + 3) / 4 * 4 = pn at *
     clear hpn
     go_wp2_with (first | (with_reducible refine gate_dst (N := 30) rfl ?_; go_must (refine wpList_load_cells rfl 41 (.tmp 29) rfl rfl CX _ (fun j v hv => HCL.out j v hv) Tryd.underlying41 rfl HXS.out ?_)) | (with_reducible refine gate_dst (N := 9) rfl ?_; go_must (refine wpList_box rfl rfl 9 rfl rfl (.tmp 30) rfl CX rfl rfl HXZ.out HXS.out HXO.out ?_)) | (with_reducible refine gate_dst (N := 31) rfl ?_; go_must (refine wpList_load_cells rfl 41 (.tmp 9) rfl rfl CX _ (cells_of_blk (blk_new wr (.cells CX 41))) Tryd.underlying41 rfl HXS.out ?_)))
     refine HV.out.mono ?_
     rintro e W ⟨Av, cv, rfl, hvc, hVC, hB1⟩
     obtain ⟨u, hg, hR⟩ := HW.out
     obtain ⟨Au, cu, rfl⟩ := Kd.R_slice hR
     have hgx := blk_lt hg
     have hsz : (wr.alloc (.cells CX 41)).heap.size = wr.heap.size + 1 := by simp
     have hWz := hB1.size
     rw [hsz] at hWz
     obtain ⟨okW, hokW⟩ : ∃ f : Nat → Prop, ∀ k, f k ↔ (gw < k ∧ (k < wr.heap.size ∨ W.heap.size ≤ k)) := ⟨fun k => gw < k ∧ (k < wr.heap.size ∨ W.heap.size ≤ k), fun k => Iff.rfl⟩
     have HC := Lh (blk_below (blk_alloc hg (.cells CX 41)) hB1)
     have HR := Lh (show (Kd.int .u8).R 5 W (gw + 1) okW (.slice Au acc.length cu) acc from R_only (Kd.R_alloc (Kd.R_mono (Kd.R_bound hR) (fun k hk => (hokW k).2 ⟨by have := hk.2.1; omega, Or.inl hk.2.2.1⟩)) _) (Only.of_below (S := fun _ => False) hB1) (fun _ _ _ h => h))
     have HXB := Lh (blk_below (blk_new wr (.cells CX 41)) hB1)
     have HNX := Lh (show ¬ (wr.heap.size = gw ∨ okW wr.heap.size) from fun h => h.elim (fun h => by omega) (fun h => by have := (hokW _).1 h; omega))
     have HOK := Lh (show ∀ k, W.heap.size ≤ k → okW k from fun k hk => (hokW k).2 ⟨by omega, Or.inr hk⟩)
     have HGO := Lh (show ¬ okW gw from fun h => by have := (hokW _).1 h; omega)
     have HVC := Lh (show ∀ W', Only (fun k => k = gw ∨ okW k) W W' → (Kd.int .u8).C W' Av n v from fun W' hO => by
      rw [← HNV.out]
      exact hVC W' (hO.mono (fun k hk h => by
       rw [hsz]
       have := HGW.out
       rcases h with rfl | h
       ·omega
       ·have h2 := (hokW k).1 h
        omega)))
     have HBW := Lh ((below_alloc HB.out (.cells CX 41)).trans (hB1.mono (by have := HB.out.size; omega)))
     have HBO := Lh (show ∀ k, (k = gw ∨ okW k) → w.heap.size ≤ k from fun k h => by
      have := HGW.out
      rcases h with rfl | h
      ·omega
      ·have h2 := (hokW k).1 h
       omega)
     have HXL := Lh (show acc.length ≤ 65536 from HLA.out)
     rw [HNV.out]
     clear hokW hVC hB1 hWz hsz hgx hg hR HW HB HV HCL HLA hvc HXS HXZ HXO
     generalize wr.heap.size = gx at *
     generalize acc = xs at *
     clear wr
     go_upto_region 13 with (fail)
     have B := True.intro
     have C := True.intro
     have R := True.intro
     have D := True.intro
     refine start_ (n := 14) (S := fun w' => True) (ds := []) #[false, false, false, false, false, false, false, false, false, false, false, false, false, false] (by kernel_rfl) rfl rfl trivial (fun hHeld => ?_)
     refine with_tabW encAtab13 encAbits13 (fun HT_ HW_ => ?_)
     refine pu 0 33 ?_ rfl rfl (any_of HT_.out (by kernel_rfl)) (fun _ _ _ h => h) (by rfl) ?_ ?_ ?_ ?_
     rotate_left
     ·intro w'
      go_simp
      with_reducible rfl
     rotate_left
     ·simp only [sL]
      rfl
     refine pu 1 34 ?_ rfl rfl (any_of HT_.out (by kernel_rfl)) (fun _ _ _ h => h) (by rfl) ?_ ?_ ?_ ?_
     rotate_left
     ·intro w'
      go_simp
      with_reducible rfl
     rotate_left
     ·simp only [sL]
      rfl
     refine inv_at [2, 3, 4, 5, 6, 7, 8, 9, 10, 11, 12, 13] (fun a0_ b a w' => ∃ (g9 : Nat) (v9 : Value) (m9_ : Value), a = putSel a0_ b [(2, 35, .pointer (some ⟨gw, 0, none⟩)), (3, 36, .pointer (some ⟨gw, 0, none⟩)), (4, 37, .slice Au xs.length cu), (5, 38, .pointer (some ⟨gx, 0, none⟩)), (6, 39, .int .u8 a0), (7, 40, .pointer (some ⟨gx, 1, none⟩)), (8, 41, .int .u8 a1), (9, 42, m9_), (10, 43, v9), (11, 44, .pointer (some ⟨gw, 0, none⟩)), (12, 45, .pointer (some ⟨gw, 0, none⟩))] ∧ (b 10 = false → Only (fun k => k = gw ∨ okW k) W w') ∧ (b 10 = false → w'.heap[gw]? = some (.cells #[.slice Au xs.length cu] 87 (0, 0))) ∧ (b 10 = false → (Kd.int .u8).R 5 w' (gw + 1) okW (.slice Au xs.length cu) (xs)) ∧ (b 9 = true → b 10 = false → (Kd.int .u8).C w' (some ⟨g9, 0, none⟩) 2 [a0, a1]) ∧ (b 10 = true → b 13 = false → (Kd.int .u8).R 5 w' (gw + 1) okW (v9) (xs ++ [a0, a1]) ∧ w'.heap[gw]? = some (.cells #[.slice Au xs.length cu] 87 (0, 0)) ∧ Only (fun k => k = gw ∨ okW k) W w') ∧ (b 13 = true → ∃ u, w'.heap[gw]? = some (.cells #[u] 87 (0, 0)) ∧ (Kd.int .u8).R 5 w' (gw + 1) okW (u) (xs ++ [a0, a1]) ∧ Only (fun k => k = gw ∨ okW k) W w') ∧ (b 9 = true → (m9_ : Value) = .slice (some ⟨g9, 0, none⟩) 2 2)) HT_.out HW_.out (by kernel_rfl) (by kernel_rfl) ?_ ?_ ?_
     ·exact ⟨0, .bool false, .bool false, by simp only [putSel, Bool.false_eq_true, if_false], fun _ => (Only.refl _ _).drewN 1, fun _ => HC.out, fun _ => HR.out, fun h_ => absurd h_ (by decide), fun h_ => absurd h_ (by decide), fun h_ => absurd h_ (by decide), fun h_ => absurd h_ (by decide)⟩
     ·skip
      clear B C R
      refine sc rfl ?_ ?_
      ·rintro b a w' ⟨g9, v9, m9_, ha, Q_B, Q_C, Q_R, Q_D, Q_S1, Q_S2, Q_X9_⟩ hb_ hon hoff K hK
       have e34 : a.tmps[34]? = some (.pointer (some ⟨gw, 0, none⟩)) := by rw [ha]; exact (putSel_off rfl).trans rfl
       replace ha := Am ha
       refine value_ (w1 := w') (v := .pointer (some ⟨gw, 0, none⟩)) (by rfl) rfl ?_ ?_
       ·go_simp
        (try simp only [i64_w])
        try rfl
       refine hK.out _ _ ⟨g9, v9, m9_, (puk ha 0 hb_ rfl rfl rfl), Q_B, Q_C, Q_R, Q_D, fun h0_ _ => hof (hoff 10 (by kernel_rfl)) h0_, fun h0_ => hof (hoff 13 (by kernel_rfl)) h0_, Q_X9_⟩
      refine sc rfl ?_ ?_
      ·rintro b a w' ⟨g9, v9, m9_, ha, Q_B, Q_C, Q_R, Q_D, Q_S1, Q_S2, Q_X9_⟩ hb_ hon hoff K hK
       have e35 := psn ha 0 rfl rfl (hon 2 (by kernel_rfl)) rfl
       replace ha := Am ha
       refine value_ (w1 := w') (v := .pointer (some ⟨gw, 0, none⟩)) (by rfl) rfl ?_ ?_
       ·go_simp
        (try simp only [i64_w])
        try rfl
       refine hK.out _ _ ⟨g9, v9, m9_, (puk ha 1 hb_ rfl rfl rfl), Q_B, Q_C, Q_R, Q_D, fun h0_ _ => hof (hoff 10 (by kernel_rfl)) h0_, fun h0_ => hof (hoff 13 (by kernel_rfl)) h0_, Q_X9_⟩
      refine sc rfl ?_ ?_
      ·rintro b a w' ⟨g9, v9, m9_, ha, Q_B, Q_C, Q_R, Q_D, Q_S1, Q_S2, Q_X9_⟩ hb_ hon hoff K hK
       have e36 := psn ha 1 rfl rfl (hon 3 (by kernel_rfl)) rfl
       replace ha := Am ha
       have C := Am (Q_C (hoff 10 (by kernel_rfl)))
       have hs := blk_cell C.out 0
       refine value_ (w1 := w') (v := .slice Au xs.length cu) (by rfl) rfl ?_ ?_
       ·go_simp
        (try simp only [i64_w])
        try rfl
       refine hK.out _ _ ⟨g9, v9, m9_, (puk ha 2 hb_ rfl rfl rfl), Q_B, Q_C, Q_R, Q_D, fun h0_ _ => hof (hoff 10 (by kernel_rfl)) h0_, fun h0_ => hof (hoff 13 (by kernel_rfl)) h0_, Q_X9_⟩
      refine sc rfl ?_ ?_
      ·rintro b a w' ⟨g9, v9, m9_, ha, Q_B, Q_C, Q_R, Q_D, Q_S1, Q_S2, Q_X9_⟩ hb_ hon hoff K hK
       have e9 : a.tmps[9]? = some (.pointer (some ⟨gx, 0, none⟩)) := by rw [ha]; exact (putSel_off rfl).trans rfl
       replace ha := Am ha
       refine value_ (w1 := w') (v := .pointer (some ⟨gx, 0, none⟩)) (by rfl) rfl ?_ ?_
       ·go_simp
        (try simp only [i64_w])
        try rfl
       refine hK.out _ _ ⟨g9, v9, m9_, (puk ha 3 hb_ rfl rfl rfl), Q_B, Q_C, Q_R, fun h0_ _ => hof (hoff 9 (by kernel_rfl)) h0_, fun h0_ _ => hof (hoff 10 (by kernel_rfl)) h0_, fun h0_ => hof (hoff 13 (by kernel_rfl)) h0_, fun h0_ => hof (hoff 9 (by kernel_rfl)) h0_⟩
      refine sc rfl ?_ ?_
      ·rintro b a w' ⟨g9, v9, m9_, ha, Q_B, Q_C, Q_R, Q_D, Q_S1, Q_S2, Q_X9_⟩ hb_ hon hoff K hK
       have e38 := psn ha 3 rfl rfl (hon 5 (by kernel_rfl)) rfl
       replace ha := Am ha
       have B := Am (Q_B (hoff 10 (by kernel_rfl)))
       have hs : w'.cell? ⟨gx, 0, none⟩ = some (.int .u8 a0) := (blk_cell (B.out.blk HXB.out HNX.out) 0).trans HY0.out
       refine value_ (w1 := w') (v := .int .u8 a0) (by rfl) rfl ?_ ?_
       ·go_simp
        (try simp only [i64_w])
        try rfl
       refine hK.out _ _ ⟨g9, v9, m9_, (puk ha 4 hb_ rfl rfl rfl), Q_B, Q_C, Q_R, fun h0_ _ => hof (hoff 9 (by kernel_rfl)) h0_, fun h0_ _ => hof (hoff 10 (by kernel_rfl)) h0_, fun h0_ => hof (hoff 13 (by kernel_rfl)) h0_, fun h0_ => hof (hoff 9 (by kernel_rfl)) h0_⟩
      refine sc rfl ?_ ?_
      ·rintro b a w' ⟨g9, v9, m9_, ha, Q_B, Q_C, Q_R, Q_D, Q_S1, Q_S2, Q_X9_⟩ hb_ hon hoff K hK
       have e9 : a.tmps[9]? = some (.pointer (some ⟨gx, 0, none⟩)) := by rw [ha]; exact (putSel_off rfl).trans rfl
       replace ha := Am ha
       refine value_ (w1 := w') (v := .pointer (some ⟨gx, 1, none⟩)) (by rfl) rfl ?_ ?_
       ·go_simp
        (try simp only [i64_w])
        try rfl
       refine hK.out _ _ ⟨g9, v9, m9_, (puk ha 5 hb_ rfl rfl rfl), Q_B, Q_C, Q_R, fun h0_ _ => hof (hoff 9 (by kernel_rfl)) h0_, fun h0_ _ => hof (hoff 10 (by kernel_rfl)) h0_, fun h0_ => hof (hoff 13 (by kernel_rfl)) h0_, fun h0_ => hof (hoff 9 (by kernel_rfl)) h0_⟩
      refine sc rfl ?_ ?_
      ·rintro b a w' ⟨g9, v9, m9_, ha, Q_B, Q_C, Q_R, Q_D, Q_S1, Q_S2, Q_X9_⟩ hb_ hon hoff K hK
       have e40 := psn ha 5 rfl rfl (hon 7 (by kernel_rfl)) rfl
       replace ha := Am ha
       have B := Am (Q_B (hoff 10 (by kernel_rfl)))
       have hs : w'.cell? ⟨gx, 1, none⟩ = some (.int .u8 a1) := (blk_cell (B.out.blk HXB.out HNX.out) 1).trans HY1.out
       refine value_ (w1 := w') (v := .int .u8 a1) (by rfl) rfl ?_ ?_
       ·go_simp
        (try simp only [i64_w])
        try rfl
       refine hK.out _ _ ⟨g9, v9, m9_, (puk ha 6 hb_ rfl rfl rfl), Q_B, Q_C, Q_R, fun h0_ _ => hof (hoff 9 (by kernel_rfl)) h0_, fun h0_ _ => hof (hoff 10 (by kernel_rfl)) h0_, fun h0_ => hof (hoff 13 (by kernel_rfl)) h0_, fun h0_ => hof (hoff 9 (by kernel_rfl)) h0_⟩
      refine sc rfl ?_ ?_
      ·rintro b a w' ⟨g9, v9, m9_, ha, Q_B, Q_C, Q_R, Q_D, Q_S1, Q_S2, Q_X9_⟩ hb_ hon hoff K hK
       have e39 := psn ha 4 rfl rfl (hon 6 (by kernel_rfl)) rfl
       have e41 := psn ha 6 rfl rfl (hon 8 (by kernel_rfl)) rfl
       replace ha := Am ha
       have B := Am (Q_B (hoff 10 (by kernel_rfl)))
       have C := Am (Q_C (hoff 10 (by kernel_rfl)))
       have R := Am (Q_R (hoff 10 (by kernel_rfl)))
       refine value_ (w1 := w'.alloc (.cells #[.int .u8 a0, .int .u8 a1] 5)) (v := .slice (some ⟨w'.heap.size, 0, none⟩) 2 2) (by rfl) rfl (by go_simp; try rfl) ?_
       refine hK.out _ _ ⟨w'.heap.size, v9, (.slice (some ⟨w'.heap.size, 0, none⟩) 2 2), (puk ha 7 hb_ rfl rfl rfl), fun _ => B.out.alloc _, fun _ => blk_alloc C.out _, fun _ => Kd.R_alloc R.out _, fun _ _ => (by have := blk_lt C.out; exact row_lit (Kd.int .u8) rfl w' 5 [.int .u8 a0, .int .u8 a1] [a0, a1] rfl (by simp) (fun j v p hv hp => by rcases j with _ | _ | j <;> simp at hv hp <;> (subst hv; subst hp; rfl))), fun h0_ _ => hof (hoff 10 (by kernel_rfl)) h0_, fun h0_ => hof (hoff 13 (by kernel_rfl)) h0_, fun _ => rfl⟩
      refine sc rfl ?_ ?_
      ·rintro b a w' ⟨g9, v9, m9_, ha, Q_B, Q_C, Q_R, Q_D, Q_S1, Q_S2, Q_X9_⟩ hb_ hon hoff K hK
       have e37 := psn ha 2 rfl rfl (hon 4 (by kernel_rfl)) rfl
       have e42 := psn ha 7 rfl rfl (hon 9 (by kernel_rfl)) rfl
       rw [Q_X9_ (hon 9 (by kernel_rfl))] at e42
       replace ha := Am ha
       have B := Am (Q_B hb_)
       have C := Am (Q_C hb_)
       have R := Am (Q_R hb_)
       have D := Am (Q_D (hon 9 (by kernel_rfl)) hb_)
       refine Kd.R_append_rows_step (Kd.int .u8) (Rr := (Kd.int .u8).K w') (w0 := w') (W := w') (gw + 1) (by rfl) _ _ 27 5 _ 1 rfl Tryd.underlying27 info_u8 rfl (by decide) (by decide) (.slice Au xs.length cu) xs [a0, a1] (some ⟨g9, 0, none⟩) 2 2 okW (fun _ => False) (by simp [Act.eval, Array.getD_eq_getD_getElem?, e37]) (by simp [Act.eval, Array.getD_eq_getD_getElem?, e42]) R.out (D.out) (fun _ _ h => h) (fun _ h => h.elim) (fun k hk => HOK.out k (by have := B.out.size; omega)) (Below.refl _ _) (by have := blk_lt C.out; omega) (by have := HXL.out; simp; omega) ?_
       intro v1 w1 hR1 hB1 hG1 _
       refine hK.out _ _ ⟨g9, v1, m9_, (puk ha 8 hb_ rfl rfl rfl), fun h0_ => absurd ((up_self b 10).symm.trans h0_) (by decide), fun h0_ => absurd ((up_self b 10).symm.trans h0_) (by decide), fun h0_ => absurd ((up_self b 10).symm.trans h0_) (by decide), fun _ h1_ => absurd ((up_self b 10).symm.trans h1_) (by decide), fun _ _ => ⟨hR1, blk_grown C.out hG1 (fun e => HGO.out (R.out.1 _ e.symm)), B.out.grown hG1 (fun k _ e => Or.inr (R.out.1 k e))⟩, fun h0_ => hof (hoff 13 (by kernel_rfl)) h0_, Q_X9_⟩
      refine sc rfl ?_ ?_
      ·rintro b a w' ⟨g9, v9, m9_, ha, Q_B, Q_C, Q_R, Q_D, Q_S1, Q_S2, Q_X9_⟩ hb_ hon hoff K hK
       have e33 : a.tmps[33]? = some (.pointer (some ⟨gw, 0, none⟩)) := by rw [ha]; exact (putSel_off rfl).trans rfl
       replace ha := Am ha
       refine value_ (w1 := w') (v := .pointer (some ⟨gw, 0, none⟩)) (by rfl) rfl ?_ ?_
       ·go_simp
        (try simp only [i64_w])
        try rfl
       refine hK.out _ _ ⟨g9, v9, m9_, (puk ha 9 hb_ rfl rfl rfl), fun h0_ => absurd ((hon 10 (by kernel_rfl)).symm.trans h0_) (by decide), fun h0_ => absurd ((hon 10 (by kernel_rfl)).symm.trans h0_) (by decide), fun h0_ => absurd ((hon 10 (by kernel_rfl)).symm.trans h0_) (by decide), fun _ h1_ => absurd ((hon 10 (by kernel_rfl)).symm.trans h1_) (by decide), Q_S1, fun h0_ => hof (hoff 13 (by kernel_rfl)) h0_, Q_X9_⟩
      refine sc rfl ?_ ?_
      ·rintro b a w' ⟨g9, v9, m9_, ha, Q_B, Q_C, Q_R, Q_D, Q_S1, Q_S2, Q_X9_⟩ hb_ hon hoff K hK
       have e44 := psn ha 9 rfl rfl (hon 11 (by kernel_rfl)) rfl
       replace ha := Am ha
       refine value_ (w1 := w') (v := .pointer (some ⟨gw, 0, none⟩)) (by rfl) rfl ?_ ?_
       ·go_simp
        (try simp only [i64_w])
        try rfl
       refine hK.out _ _ ⟨g9, v9, m9_, (puk ha 10 hb_ rfl rfl rfl), fun h0_ => absurd ((hon 10 (by kernel_rfl)).symm.trans h0_) (by decide), fun h0_ => absurd ((hon 10 (by kernel_rfl)).symm.trans h0_) (by decide), fun h0_ => absurd ((hon 10 (by kernel_rfl)).symm.trans h0_) (by decide), fun _ h1_ => absurd ((hon 10 (by kernel_rfl)).symm.trans h1_) (by decide), Q_S1, fun h0_ => hof (hoff 13 (by kernel_rfl)) h0_, Q_X9_⟩
      refine sc rfl ?_ ?_
      ·rintro b a w' ⟨g9, v9, m9_, ha, Q_B, Q_C, Q_R, Q_D, Q_S1, Q_S2, Q_X9_⟩ hb_ hon hoff K hK
       have e45 := psn ha 10 rfl rfl (hon 12 (by kernel_rfl)) rfl
       have e43 := psn ha 8 rfl rfl (hon 10 (by kernel_rfl)) rfl
       replace ha := Am ha
       have S1 := Am (Q_S1 (hon 10 (by kernel_rfl)) hb_)
       obtain ⟨hR1, hC1, hF1⟩ := S1.out
       obtain ⟨A8, c8, hv9⟩ := Kd.R_slice hR1
       have hs := blk_cell hC1 0
       have hf := blk_frozen hC1 0
       refine skip_ (w1 := w'.setCell ⟨gw, 0, none⟩ v9) (by rfl) rfl (by generalize (xs ++ [a0, a1]).length = zl at hv9; rw [hv9] at e43 ⊢; go_simp; try rfl) ?_
       refine hK.out _ _ ⟨g9, v9, m9_, (by rw [ha.out]; exact putSel_none (v := undef) rfl), fun h0_ => absurd ((hon 10 (by kernel_rfl)).symm.trans h0_) (by decide), fun h0_ => absurd ((hon 10 (by kernel_rfl)).symm.trans h0_) (by decide), fun h0_ => absurd ((hon 10 (by kernel_rfl)).symm.trans h0_) (by decide), fun _ h1_ => absurd ((hon 10 (by kernel_rfl)).symm.trans h1_) (by decide), fun _ h1_ => absurd ((up_self b 13).symm.trans h1_) (by decide), fun _ => ⟨v9, blk_put hC1 0 v9 rfl, Kd.R_far hR1 (p := ⟨gw, 0, none⟩) (fun k hk (e : k = gw) => HGO.out (e ▸ hk)) v9, hF1.setCell (fun _ => Or.inl rfl) v9⟩, Q_X9_⟩
      exact steps_nil
     rintro b a w' hall ⟨g9, v9, m9_, ha, Q_B, Q_C, Q_R, Q_D, Q_S1, Q_S2, Q_X9_⟩
     clear B C R
     have hb2_ := hall 2 (by kernel_rfl)
     have hb3_ := hall 3 (by kernel_rfl)
     have hb4_ := hall 4 (by kernel_rfl)
     have hb5_ := hall 5 (by kernel_rfl)
     have hb6_ := hall 6 (by kernel_rfl)
     have hb7_ := hall 7 (by kernel_rfl)
     have hb8_ := hall 8 (by kernel_rfl)
     have hb9_ := hall 9 (by kernel_rfl)
     have hb10_ := hall 10 (by kernel_rfl)
     have hb11_ := hall 11 (by kernel_rfl)
     have hb12_ := hall 12 (by kernel_rfl)
     have hb13_ := hall 13 (by kernel_rfl)
     subst ha
     obtain rfl := Q_X9_ hb9_
     simp only [putSel, hb2_, hb3_, hb4_, hb5_, hb6_, hb7_, hb8_, hb9_, hb10_, hb11_, hb12_, hb13_, if_true, Act.put, List.setIfInBounds_toArray, List.set_cons_zero, List.set_cons_succ]
     clear Q_B
     clear Q_C
     clear Q_R
     clear Q_D
     clear Q_S1
     have S2 := Am (Q_S2 hb13_)
     clear Q_S2
     clear hall hb2_ hb3_ hb4_ hb5_ hb6_ hb7_ hb8_ hb9_ hb10_ hb11_ hb12_ hb13_
     obtain ⟨u, hg, hR, hF⟩ := S2.out
     clear S2 HC HR HY0 HY1 HXB HNX
     have HS := Lh (show WSo okW w' gw (xs ++ [a0, a1]) from ⟨u, hg, hR⟩)
     have HF := Lh hF
     clear hg hR hF
     clear u
     obtain ⟨q, hq⟩ : ∃ q, IntKind.u16.wrap (4 + (n : Int)) = q := ⟨_, rfl⟩
     have HQ := Lh (show IntKind.u16.wrap (wrap64 (4 + (n : Int))) = q by rw [show wrap64 (4 + (n : Int)) = 4 + (n : Int) by unfold wrap64; have := HVL.out; omega, hq])
     rw [hq] at HA2
     clear hq
     have HXL3 := Lh (show (xs ++ [a0, a1]).length + 2 * [q].length ≤ 140737488355328 by have := HXL.out; simp only [List.length_append, List.length_cons, List.length_nil]; omega)
     go_wp2_with fail
     rw [HQ.out]
     refine (wtwo_lit_o w' gw okW (fun k hk => HOK.out k (Nat.le_trans HF.out.size hk)) HGO.out (xs ++ [a0, a1]) [q] [.int .u16 q] 1 rfl rfl HS.out HXL3.out).mono ?_
     rintro e w4 ⟨rfl, hS4, hO4⟩
     have HF4 := Lh (HF.out.trans hO4 (fun k _ h => h))
     have hxl : (xs ++ [a0, a1] ++ twoL [q]).length ≤ 65540 := by have := HXL.out; simp [twoL_length]; omega
     have HXL4 := Lh hxl
     generalize xs ++ [a0, a1] ++ twoL [q] = ys at *
     obtain ⟨u, hg, hR⟩ := hS4
     obtain ⟨Au4, cu4, rfl⟩ := Kd.R_slice hR
     have k0 : w4.cell? ⟨gw, 0, none⟩ = some (.slice Au4 ys.length cu4) := blk_cell hg 0
     have HG4 := Lh hg
     have HR4 := Lh hR
     have HVC4 := Lh (HVC.out w4 HF4.out)
     clear hO4 hxl hg hR HS HF HQ HVC HXL HXL3
     go_wp2_with (at_builtin; go_must (refine Kd.R_append_row (Value.int .u8) (0 : Int) (w0 := w4) (W := w4) (gw + 1) rfl _ _ 27 5 _ 1 rfl Tryd.underlying27 info_u8 rfl (by decide) (.slice Au4 ys.length cu4) ys v Av n cv okW rfl rfl (fun k hk => HOK.out k (Nat.le_trans HF4.out.size hk)) HR4.out HVC4.out (Below.refl _ _) (by have := blk_lt HG4.out; omega) (by have := HXL4.out; have := HVL.out; have := HNV.out; omega) ?_); (intro v1 w1 hR1 hB1 hG1 _; have HR1 := Lh hR1; have HB1 := Lh hB1; have HGR := Lh hG1; clear hR1 hB1 hG1; refine RowKit.Hid.out ?_))
     refine Lh ?_
     obtain ⟨A7, c7, hv1⟩ := Kd.R_slice HR1.out
     subst hv1
     have hg1 := blk_grown HG4.out HGR.out (fun e => HGO.out (HR4.out.1 _ e.symm))
     have hs := blk_cell hg1 0
     have hf := blk_frozen hg1 0
     have HF5 := Lh ((HF4.out.grown HGR.out (fun k _ e => Or.inr (HR4.out.1 k e))).setCell (p := ⟨gw, 0, none⟩) (fun _ => Or.inl rfl) (.slice A7 (ys ++ v).length c7))
     have HR5 := Lh (Kd.R_far HR1.out (p := ⟨gw, 0, none⟩) (fun k hk (e : k = gw) => HGO.out (e ▸ hk)) (.slice A7 (ys ++ v).length c7))
     have HC5 := Lh (blk_put hg1 0 (.slice A7 (ys ++ v).length c7) rfl)
     have HXL5 := Lh (show (ys ++ v).length ≤ 131071 by have := HXL4.out; have := HVL.out; have := HNV.out; rw [List.length_append]; omega)
     clear hg1 HR1 HB1 HGR HG4 HR4 HVC4 HF4 HXL4 k0 HNV
     generalize hzl : (ys ++ v).length = zl at *
     go_upto_region 16 with (fail)
     generalize w1.setCell ⟨gw, 0, none⟩ (.slice A7 zl c7) = W5 at *
     subst hzl
     generalize ys ++ v = xs at *
     have HC := HC5
     have HR := HR5
     have HXL := HXL5
     have HM := HPL
     have HOK5 := Lh (show ∀ k, W5.heap.size ≤ k → okW k from fun k hk => HOK.out k (Nat.le_trans HF5.out.size hk))
     clear HC5 HR5 HXL5 HPL hs hf HOK
     have B := True.intro
     have C := True.intro
     have R := True.intro
     refine start_ (n := 15) (S := fun w' => True) (ds := []) #[false, false, false, false, false, false, false, false, false, false, false, false, false, false, false] (by kernel_rfl) rfl rfl trivial (fun hHeld => ?_)
     refine with_tabW encBtab16 encBbits16 (fun HT_ HW_ => ?_)
     refine pu 0 62 ?_ rfl rfl (any_of HT_.out (by kernel_rfl)) (fun _ _ _ h => h) (by rfl) ?_ ?_ ?_ ?_
     rotate_left
     ·intro w'
      go_simp
      with_reducible rfl
     rotate_left
     ·simp only [sL]
      rfl
     refine pu 1 63 ?_ rfl rfl (any_of HT_.out (by kernel_rfl)) (fun _ _ _ h => h) (by rfl) ?_ ?_ ?_ ?_
     rotate_left
     ·intro w'
      go_simp
      with_reducible rfl
     rotate_left
     ·simp only [sL]
      rfl
     refine pu 5 67 ?_ rfl rfl (any_of HT_.out (by kernel_rfl)) (fun _ _ _ h => h) (by rfl) ?_ ?_ ?_ ?_
     rotate_left
     ·intro w'
      go_simp
      with_reducible rfl
     rotate_left
     ·simp only [sL]
      rfl
     refine pu 8 70 ?_ rfl rfl (any_of HT_.out (by kernel_rfl)) (fun _ _ _ h => h) (by rfl) ?_ ?_ ?_ ?_
     rotate_left
     ·intro w'
      go_simp
      with_reducible rfl
     rotate_left
     ·simp only [sL]
      rfl
     refine inv_at [2, 3, 4, 6, 7, 9, 10, 11, 12, 13, 14] (fun a0_ b a w' => ∃ (v9 : Value), a = putSel a0_ b [(2, 64, .pointer (some ⟨gw, 0, none⟩)), (3, 65, .pointer (some ⟨gw, 0, none⟩)), (4, 66, .slice A7 xs.length c7), (6, 68, .int .i64 (n : Int)), (7, 69, .int .i64 (pn : Int)), (9, 71, .int .i64 (n : Int)), (10, 72, .int .i64 (pad : Int)), (11, 73, v9), (12, 74, .pointer (some ⟨gw, 0, none⟩)), (13, 75, .pointer (some ⟨gw, 0, none⟩))] ∧ (b 11 = false → Only (fun k => k = gw ∨ okW k) W5 w') ∧ (b 11 = false → w'.heap[gw]? = some (.cells #[.slice A7 xs.length c7] 87 (0, 0))) ∧ (b 11 = false → (Kd.int .u8).R 5 w' (gw + 1) okW (.slice A7 xs.length c7) (xs)) ∧ (b 11 = true → b 14 = false → (Kd.int .u8).R 5 w' (gw + 1) okW (v9) (xs ++ List.replicate pad 0) ∧ w'.heap[gw]? = some (.cells #[.slice A7 xs.length c7] 87 (0, 0)) ∧ Only (fun k => k = gw ∨ okW k) W5 w') ∧ (b 14 = true → ∃ u, w'.heap[gw]? = some (.cells #[u] 87 (0, 0)) ∧ (Kd.int .u8).R 5 w' (gw + 1) okW (u) (xs ++ List.replicate pad 0) ∧ Only (fun k => k = gw ∨ okW k) W5 w')) HT_.out HW_.out (by kernel_rfl) (by kernel_rfl) ?_ ?_ ?_
     ·exact ⟨.bool false, by simp only [putSel, Bool.false_eq_true, if_false], fun _ => (Only.refl _ _).drewN 1, fun _ => HC.out, fun _ => HR.out, fun h_ => absurd h_ (by decide), fun h_ => absurd h_ (by decide)⟩
     ·skip
      clear B C R
      refine sc rfl ?_ ?_
      ·rintro b a w' ⟨v9, ha, Q_B, Q_C, Q_R, Q_S1, Q_S2⟩ hb_ hon hoff K hK
       have e63 : a.tmps[63]? = some (.pointer (some ⟨gw, 0, none⟩)) := by rw [ha]; exact (putSel_off rfl).trans rfl
       replace ha := Am ha
       refine value_ (w1 := w') (v := .pointer (some ⟨gw, 0, none⟩)) (by rfl) rfl ?_ ?_
       ·go_simp
        (try simp only [i64_w])
        try rfl
       refine hK.out _ _ ⟨v9, (puk ha 0 hb_ rfl rfl rfl), Q_B, Q_C, Q_R, fun h0_ _ => hof (hoff 11 (by kernel_rfl)) h0_, fun h0_ => hof (hoff 14 (by kernel_rfl)) h0_⟩
      refine sc rfl ?_ ?_
      ·rintro b a w' ⟨v9, ha, Q_B, Q_C, Q_R, Q_S1, Q_S2⟩ hb_ hon hoff K hK
       have e64 := psn ha 0 rfl rfl (hon 2 (by kernel_rfl)) rfl
       replace ha := Am ha
       refine value_ (w1 := w') (v := .pointer (some ⟨gw, 0, none⟩)) (by rfl) rfl ?_ ?_
       ·go_simp
        (try simp only [i64_w])
        try rfl
       refine hK.out _ _ ⟨v9, (puk ha 1 hb_ rfl rfl rfl), Q_B, Q_C, Q_R, fun h0_ _ => hof (hoff 11 (by kernel_rfl)) h0_, fun h0_ => hof (hoff 14 (by kernel_rfl)) h0_⟩
      refine sc rfl ?_ ?_
      ·rintro b a w' ⟨v9, ha, Q_B, Q_C, Q_R, Q_S1, Q_S2⟩ hb_ hon hoff K hK
       have e65 := psn ha 1 rfl rfl (hon 3 (by kernel_rfl)) rfl
       replace ha := Am ha
       have C := Am (Q_C (hoff 11 (by kernel_rfl)))
       have hs := blk_cell C.out 0
       refine value_ (w1 := w') (v := .slice A7 xs.length c7) (by rfl) rfl ?_ ?_
       ·go_simp
        (try simp only [i64_w])
        try rfl
       refine hK.out _ _ ⟨v9, (puk ha 2 hb_ rfl rfl rfl), Q_B, Q_C, Q_R, fun h0_ _ => hof (hoff 11 (by kernel_rfl)) h0_, fun h0_ => hof (hoff 14 (by kernel_rfl)) h0_⟩
      refine sc rfl ?_ ?_
      ·rintro b a w' ⟨v9, ha, Q_B, Q_C, Q_R, Q_S1, Q_S2⟩ hb_ hon hoff K hK
       have e67 : a.tmps[67]? = some (.slice Av n cv) := by rw [ha]; exact (putSel_off rfl).trans rfl
       replace ha := Am ha
       refine value_ (w1 := w') (v := .int .i64 (n : Int)) (by rfl) rfl ?_ ?_
       ·go_simp
        (try simp only [i64_w])
        try rfl
       refine hK.out _ _ ⟨v9, (puk ha 3 hb_ rfl rfl rfl), Q_B, Q_C, Q_R, fun h0_ _ => hof (hoff 11 (by kernel_rfl)) h0_, fun h0_ => hof (hoff 14 (by kernel_rfl)) h0_⟩
      refine sc rfl ?_ ?_
      ·rintro b a w' ⟨v9, ha, Q_B, Q_C, Q_R, Q_S1, Q_S2⟩ hb_ hon hoff K hK
       have e68 := psn ha 3 rfl rfl (hon 6 (by kernel_rfl)) rfl
       replace ha := Am ha
       have B := Am (Q_B (hoff 11 (by kernel_rfl)))
       have C := Am (Q_C (hoff 11 (by kernel_rfl)))
       have R := Am (Q_R (hoff 11 (by kernel_rfl)))
       refine goes_ Tryd.func54 (by kernel_rfl) rfl #[.int .i64 (n : Int)] (by rfl) rfl rfl (by first | (simp only [List.map_toArray, List.map_cons, List.map_nil, Act.eval, Array.getD_eq_getD_getElem?, Option.getD_some, e68]; done) | (simp only [List.map_toArray, List.map_cons, List.map_nil, Act.eval, Array.getD_eq_getD_getElem?, Option.getD_some, e68]; rfl)) ?_
       refine (HPD.out w').mono ?_
       rintro e w1 ⟨rfl, hD1⟩
       refine ⟨_, rfl, ?_⟩
       refine hK.out _ _ ⟨v9, (puk ha 4 hb_ rfl rfl rfl), fun _ => B.out.trans (Only.of_below (S := fun _ => False) (drawn_below hD1)) (fun k _ h => h.elim), fun _ => blk_below C.out (drawn_below hD1), fun _ => R_only R.out (Only.of_below (S := fun _ => False) (drawn_below hD1)) (fun _ _ _ h => h), fun h0_ _ => hof (hoff 11 (by kernel_rfl)) h0_, fun h0_ => hof (hoff 14 (by kernel_rfl)) h0_⟩
      refine sc rfl ?_ ?_
      ·rintro b a w' ⟨v9, ha, Q_B, Q_C, Q_R, Q_S1, Q_S2⟩ hb_ hon hoff K hK
       have e70 : a.tmps[70]? = some (.slice Av n cv) := by rw [ha]; exact (putSel_off rfl).trans rfl
       replace ha := Am ha
       refine value_ (w1 := w') (v := .int .i64 (n : Int)) (by rfl) rfl ?_ ?_
       ·go_simp
        (try simp only [i64_w])
        try rfl
       refine hK.out _ _ ⟨v9, (puk ha 5 hb_ rfl rfl rfl), Q_B, Q_C, Q_R, fun h0_ _ => hof (hoff 11 (by kernel_rfl)) h0_, fun h0_ => hof (hoff 14 (by kernel_rfl)) h0_⟩
      refine sc rfl ?_ ?_
      ·rintro b a w' ⟨v9, ha, Q_B, Q_C, Q_R, Q_S1, Q_S2⟩ hb_ hon hoff K hK
       have e69 := psn ha 4 rfl rfl (hon 7 (by kernel_rfl)) rfl
       have e71 := psn ha 5 rfl rfl (hon 9 (by kernel_rfl)) rfl
       replace ha := Am ha
       have B := Am (Q_B (hoff 11 (by kernel_rfl)))
       have C := Am (Q_C (hoff 11 (by kernel_rfl)))
       have R := Am (Q_R (hoff 11 (by kernel_rfl)))
       have hs := HSUB.out
       refine value_ (w1 := w') (v := .int .i64 (pad : Int)) (by rfl) rfl (by go_simp; simp only [i64_w]; exact hs) ?_
       refine hK.out _ _ ⟨v9, (puk ha 6 hb_ rfl rfl rfl), fun _ => B.out, fun _ => C.out, fun _ => R.out, fun h0_ _ => hof (hoff 11 (by kernel_rfl)) h0_, fun h0_ => hof (hoff 14 (by kernel_rfl)) h0_⟩
      refine sc rfl ?_ ?_
      ·rintro b a w' ⟨v9, ha, Q_B, Q_C, Q_R, Q_S1, Q_S2⟩ hb_ hon hoff K hK
       have e66 := psn ha 2 rfl rfl (hon 4 (by kernel_rfl)) rfl
       have e72 := psn ha 6 rfl rfl (hon 10 (by kernel_rfl)) rfl
       replace ha := Am ha
       have B := Am (Q_B hb_)
       have C := Am (Q_C hb_)
       have R := Am (Q_R hb_)
       refine Kd.R_append_zeros_step (kx := .i64) (Kd.int .u8) (w0 := w') (W := w') (gw + 1) (by rfl) _ _ 27 3 5 (.int .u8 0) 1 rfl Tryd.underlying27 Tryd.underlying3 info_u8 rfl (by decide) (by decide) (.slice A7 xs.length c7) xs 0 (pad : Int) okW (by simp [Act.eval, Array.getD_eq_getD_getElem?, e66]) (by simp [Act.eval, Array.getD_eq_getD_getElem?, e72]) rfl (fun k hk => HOK5.out k (by have := B.out.size; omega)) R.out (by omega) (Below.refl _ _) (by have := blk_lt C.out; omega) (by have := HXL.out; have := HM.out; omega) ?_
       intro v1 w1 hR1 hB1 hG1 _
       rw [Int.toNat_natCast] at hR1
       refine hK.out _ _ ⟨v1, (puk ha 7 hb_ rfl rfl rfl), fun h0_ => absurd ((up_self b 11).symm.trans h0_) (by decide), fun h0_ => absurd ((up_self b 11).symm.trans h0_) (by decide), fun h0_ => absurd ((up_self b 11).symm.trans h0_) (by decide), fun _ _ => ⟨hR1, blk_grown C.out hG1 (fun e => HGO.out (R.out.1 _ e.symm)), B.out.grown hG1 (fun k _ e => Or.inr (R.out.1 k e))⟩, fun h0_ => hof (hoff 14 (by kernel_rfl)) h0_⟩
      refine sc rfl ?_ ?_
      ·rintro b a w' ⟨v9, ha, Q_B, Q_C, Q_R, Q_S1, Q_S2⟩ hb_ hon hoff K hK
       have e62 : a.tmps[62]? = some (.pointer (some ⟨gw, 0, none⟩)) := by rw [ha]; exact (putSel_off rfl).trans rfl
       replace ha := Am ha
       refine value_ (w1 := w') (v := .pointer (some ⟨gw, 0, none⟩)) (by rfl) rfl ?_ ?_
       ·go_simp
        (try simp only [i64_w])
        try rfl
       refine hK.out _ _ ⟨v9, (puk ha 8 hb_ rfl rfl rfl), fun h0_ => absurd ((hon 11 (by kernel_rfl)).symm.trans h0_) (by decide), fun h0_ => absurd ((hon 11 (by kernel_rfl)).symm.trans h0_) (by decide), fun h0_ => absurd ((hon 11 (by kernel_rfl)).symm.trans h0_) (by decide), Q_S1, fun h0_ => hof (hoff 14 (by kernel_rfl)) h0_⟩
      refine sc rfl ?_ ?_
      ·rintro b a w' ⟨v9, ha, Q_B, Q_C, Q_R, Q_S1, Q_S2⟩ hb_ hon hoff K hK
       have e74 := psn ha 8 rfl rfl (hon 12 (by kernel_rfl)) rfl
       replace ha := Am ha
       refine value_ (w1 := w') (v := .pointer (some ⟨gw, 0, none⟩)) (by rfl) rfl ?_ ?_
       ·go_simp
        (try simp only [i64_w])
        try rfl
       refine hK.out _ _ ⟨v9, (puk ha 9 hb_ rfl rfl rfl), fun h0_ => absurd ((hon 11 (by kernel_rfl)).symm.trans h0_) (by decide), fun h0_ => absurd ((hon 11 (by kernel_rfl)).symm.trans h0_) (by decide), fun h0_ => absurd ((hon 11 (by kernel_rfl)).symm.trans h0_) (by decide), Q_S1, fun h0_ => hof (hoff 14 (by kernel_rfl)) h0_⟩
      refine sc rfl ?_ ?_
      ·rintro b a w' ⟨v9, ha, Q_B, Q_C, Q_R, Q_S1, Q_S2⟩ hb_ hon hoff K hK
       have e75 := psn ha 9 rfl rfl (hon 13 (by kernel_rfl)) rfl
       have e73 := psn ha 7 rfl rfl (hon 11 (by kernel_rfl)) rfl
       replace ha := Am ha
       have S1 := Am (Q_S1 (hon 11 (by kernel_rfl)) hb_)
       obtain ⟨hR1, hC1, hF1⟩ := S1.out
       obtain ⟨A8, c8, hv9⟩ := Kd.R_slice hR1
       have hs := blk_cell hC1 0
       have hf := blk_frozen hC1 0
       refine skip_ (w1 := w'.setCell ⟨gw, 0, none⟩ v9) (by rfl) rfl (by generalize (xs ++ List.replicate pad 0).length = zl at hv9; rw [hv9] at e73 ⊢; go_simp; try rfl) ?_
       refine hK.out _ _ ⟨v9, (by rw [ha.out]; exact putSel_none (v := undef) rfl), fun h0_ => absurd ((hon 11 (by kernel_rfl)).symm.trans h0_) (by decide), fun h0_ => absurd ((hon 11 (by kernel_rfl)).symm.trans h0_) (by decide), fun h0_ => absurd ((hon 11 (by kernel_rfl)).symm.trans h0_) (by decide), fun _ h1_ => absurd ((up_self b 14).symm.trans h1_) (by decide), fun _ => ⟨v9, blk_put hC1 0 v9 rfl, Kd.R_far hR1 (p := ⟨gw, 0, none⟩) (fun k hk (e : k = gw) => HGO.out (e ▸ hk)) v9, hF1.setCell (fun _ => Or.inl rfl) v9⟩⟩
      exact steps_nil
     rintro b a w' hall ⟨v9, ha, Q_B, Q_C, Q_R, Q_S1, Q_S2⟩
     clear B C R
     have hb2_ := hall 2 (by kernel_rfl)
     have hb3_ := hall 3 (by kernel_rfl)
     have hb4_ := hall 4 (by kernel_rfl)
     have hb6_ := hall 6 (by kernel_rfl)
     have hb7_ := hall 7 (by kernel_rfl)
     have hb9_ := hall 9 (by kernel_rfl)
     have hb10_ := hall 10 (by kernel_rfl)
     have hb11_ := hall 11 (by kernel_rfl)
     have hb12_ := hall 12 (by kernel_rfl)
     have hb13_ := hall 13 (by kernel_rfl)
     have hb14_ := hall 14 (by kernel_rfl)
     subst ha
     simp only [putSel, hb2_, hb3_, hb4_, hb6_, hb7_, hb9_, hb10_, hb11_, hb12_, hb13_, hb14_, if_true, Act.put, List.setIfInBounds_toArray, List.set_cons_zero, List.set_cons_succ]
     clear Q_B
     clear Q_C
     clear Q_R
     clear Q_S1
     have S2 := Am (Q_S2 hb14_)
     clear Q_S2
     clear hall hb2_ hb3_ hb4_ hb6_ hb7_ hb9_ hb10_ hb11_ hb12_ hb13_ hb14_
     obtain ⟨u, hg, hR, hF⟩ := S2.out
     clear S2 HC HR HSUB HPD
     obtain ⟨A9, c9, rfl⟩ := Kd.R_slice hR
     have HB9 := Lh (HBW.out.trans ((HF5.out.trans hF (fun k _ h => h)).below HBW.out.size HBO.out))
     have HR9 := Lh (Kd.R_mono (ok' := fun k => k ≠ gw) hR (fun k hk (e : k = gw) => HGO.out (e ▸ hk)))
     have HC9 := Lh hg
     have k0 : w'.cell? ⟨gw, 0, none⟩ = some (.slice A9 (xs ++ List.replicate pad 0).length c9) := blk_cell hg 0
     have hxl : (xs ++ List.replicate pad (0 : Int)).length ≤ 131074 := by have := HXL.out; have := HM.out; simp; omega
     clear hg hR hF HF5 HOK5 HXL HM HGO HBO HBW
     generalize hacc : xs ++ List.replicate pad (0 : Int) = acc2 at *
     obtain ⟨nl, hnl⟩ : ∃ nl, acc2.length = nl := ⟨_, rfl⟩
     rw [hnl] at k0 hxl
     have HNL := Lh hnl
     have hA3 := HA2.out
     rw [hnl] at hA3
     by_cases hb : 65536 < nl
     ·rw [if_pos hb] at hA3
      subst hA3
      clear HA2 HR9 HC9 hnl HNL hacc
      go_wp2
      go_ret2
      exact ⟨_, rfl, Kd.R_nil _ _ _ _ _, HB9.out⟩
     ·rw [if_neg hb] at hA3
      have HA3 := Lh hA3
      clear HA2 hA3 hacc hnl
      go_wp2
      go_roundw
      case rel => exact ⟨i + 1, acc2, by omega, by go_num, HA3, (by have := HNL.out; show _ ≤ _; omega), ⟨_, HC9.out, HR9.out⟩, HB9⟩
      case measure => simp [intOf]; omega
    ·obtain rfl : i = l.length := by omega
     have hA := HA.out
     rw [List.drop_length, runE] at hA
     subst hA
     obtain ⟨u, hg, hR⟩ := HW.out
     obtain ⟨Au, cu, rfl⟩ := Kd.R_slice hR
     have k0 : wr.cell? ⟨gw, 0, none⟩ = some (.slice Au acc.length cu) := blk_cell hg 0
     have HR := Lh (Kd.R_mono (ok' := fun _ => True) (Kd.R_lower hR (base' := w.heap.size) (by have := HGW.out; omega)) (fun _ _ => trivial))
     clear HRE HW0 HBW HVAL HLC HA hg hR HW HAL
     generalize hnl : acc.length = nl at *
     go_wp2
     go_ret2
     exact ⟨_, rfl, HR.out, HB.out⟩
end Go.Proofs.YtdlamomabonkjaaDoor.Ch
end
section
namespace Go.Proofs.YtdlamomabonkjaaDoor.Ch
open Go.RowKit YtdlamomabonkjaaDoorW.PrintWords YtdlamomabonkjaaDoorW.PrintLast Base PCh ParDec ParEnc
theorem byte_of_int {w : World} {A : Option Addr} {l : List UInt8} (h : (Kd.int .u8).C w A (ints l).length (ints l)) : byte.C w A l.length l := by
 obtain ⟨h1, h2, h3⟩ := h
 rw [ints_length] at h2 h3
 refine ⟨rfl, h2, fun hn => ?_⟩
 obtain ⟨ad, e, hc⟩ := h3 hn
 refine ⟨ad, e, fun j p hj => ?_⟩
 exact hc j (p.toNat : Int) (by unfold ints; rw [List.getElem?_map, hj]; rfl)
theorem chk_row1 {w : World} {g : Nat} {x : Chk} {L : Lay} (hb : w.heap[g]? = some (.cells (CV x L) 41 (0, 0))) (hx : CR w x L) : Kd.C k41 w (some ⟨g, 0, none⟩) 1 [x] := by
 refine ⟨rfl, by simp, fun _ => ⟨_, rfl, fun j p hj => ?_⟩⟩
 rcases j with _ | j
 ·simp only [List.getElem?_cons_zero, Option.some.injEq] at hj
  subst hj
  refine ⟨(CV x L).toList, rfl, hx.K, fun i u hu => ?_⟩
  rw [Nat.zero_mul, Nat.zero_add]
  exact cells_of_blk hb i u hu
 ·simp at hj
theorem checkD_lists {x : Chk} (h : checkD x = 0) : x.f10.length ≤ 4096 ∧ x.f11.length ≤ 4096 ∧ x.f12.length ≤ 4096 := by
 unfold checkD at h
 split at h
 ·cases h
 ·split at h
  ·cases h
  ·split at h
   ·cases h
   ·split at h
    ·cases h
    ·omega
theorem check_any (w : World) (x : Chk) (L : Lay) (hx : CR w x L) (hl : x.f13.length ≤ 140737488355232) : Calls Tryd.prog 46 #[.agg (CV x L)] w fun e w' => e = .returned (.int .i64 (checkD x)) ∧ Below w.heap.size w w' :=
 check_calls w x L hx (fun W hW _ h10 h11 h12 _ => (value_calls W.heap.size W x L (Nat.le_refl _) (fun W' hB => hW.below hB) h10 h11 h12 hl).mono fun e w' h => h.P)
theorem encode_any (w : World) (A : Option Addr) (c : Nat) (l : List Chk) (hC : Kd.C k41 w A l.length l) (hl : ∀ x ∈ l, x.f13.length ≤ 140737488355232) :
  Calls Tryd.prog 28 #[.slice A l.length c] w fun e w' => ∃ v, e = .returned (.tuple #[v, .int .i64 (encD l).2]) ∧ (Kd.int .u8).R 5 w' w.heap.size (fun _ => True) v (encD l).1 ∧ Below w.heap.size w w' :=
 encode_chunks w A c l hC (fun x hx W L hW => check_any W x L hW (hl x hx)) (fun x hx hc W L hb hW => by
  have h := checkD_lists hc
  exact value_calls w.heap.size W x L hb hW h.1 h.2.1 h.2.2 (hl x hx))
end Go.Proofs.YtdlamomabonkjaaDoor.Ch
end
section
namespace Go.Proofs.YtdlamomabonkjaaDoor.Ch
open Go.RowKit YtdlamomabonkjaaDoorW.PrintWords YtdlamomabonkjaaDoorW.PrintLast Base PCh ParDec ParEnc
noncomputable def sizeD (x : Chk) : Nat := if checkD x = 0 then (chunkL x).length else 0
theorem padded_f (n : Nat) (h : n ≤ 140737488355328) : chunk_padded.f (n : Int) = some (((n + 3) / 4 * 4 : Nat) : Int) := by
 unfold chunk_padded.f
 have e : wrap64 ((n : Int) + 3) = ((n + 3 : Nat) : Int) := by unfold wrap64; omega
 rw [e, Int.tdiv_eq_ediv_of_nonneg (by omega)]
 congr 1
 unfold wrap64
 omega
set_option maxHeartbeats 4000000 in
theorem size_calls (w : World) (x : Chk) (L : Lay) (hx : CR w x L) (hl : x.f13.length ≤ 140737488351232) :
  Calls Tryd.prog 47 #[.agg (CV x L)] w fun e w' => e = .returned (.int .i64 (sizeD x : Int)) ∧ Below w.heap.size w w' := by
 have HC := Lh (fun (W : World) (h : Below w.heap.size w W) => check_any W x L (hx.below h) (by omega))
 have HV := Lh (fun (W : World) (h : Below w.heap.size w W) (hc : checkD x = 0) => (value_calls W.heap.size W x L (Nat.le_refl _) (fun W' hB => (hx.below h).below hB) (checkD_lists hc).1 (checkD_lists hc).2.1 (checkD_lists hc).2.2 (by omega)).mono fun e w' h => h.P)
 have HXS := Lh (show (Tryd.prog.info? 41).map (·.size) = some (CV x L).size by kernel_rfl)
 have HCL := Lh (chunkL_len x)
 have HLE := Lh (fun hc : checkD x = 0 => checkD_len hc)
 have X := B1.new w x L
 unfold sizeD
 obtain ⟨CD, hcd⟩ : ∃ CD, checkD x = CD := ⟨_, rfl⟩
 rw [hcd] at HC HV HLE ⊢
 clear hx hcd hl
 generalize (chunkL x).length = cl at *
 obtain ⟨SZ, hsz⟩ : ∃ SZ : Nat, (if CD = 0 then cl else 0) = SZ := ⟨_, rfl⟩
 rw [hsz]
 have HSZ := Lh hsz
 clear hsz
 go_enter Tryd.func47, Tryd.ntmps47
 go_upto_region 1 with (fail)
 refine wp_gen (B1 w x L) X ?_
 clear X
 intro W X
 go_wp2_with (with_reducible refine gate_dst (N := 3) rfl ?_; refine wpList_load_row rfl 41 (.tmp 1) rfl _ rfl 41 _ (0, 0) _ X.x0 Tryd.underlying41 rfl HXS.out ?_)
 refine (HC.out W X.x2).mono ?_
 rintro e w2 ⟨rfl, hB2⟩
 replace X := X.below hB2
 clear hB2 HC
 by_cases h0 : CD = 0
 ·subst h0
  have HV2 := Lh (HV.out w2 X.x2 rfl)
  have HL2 := Lh (HLE.out rfl)
  clear HV HLE
  unfold ValP at HV2
  go_wp2_with (with_reducible refine gate_dst (N := 6) rfl ?_; refine wpList_load_row rfl 41 (.tmp 1) rfl _ rfl 41 _ (0, 0) _ X.x0 Tryd.underlying41 rfl HXS.out ?_)
  refine HV2.out.mono ?_
  rintro e w5 ⟨A9, c9, rfl, hle9, hC9, hB5⟩
  replace X := X.below hB5
  clear hC9 hB5 hle9 HV2
  generalize (valueD x).length = vl at *
  have e4 : wrap64 (4 + (vl : Int)) = ((4 + vl : Nat) : Int) := by have := HL2.out; unfold wrap64; omega
  have HP := Lh (fun W => chunk_padded.calls ((4 + vl : Nat) : Int) _ W (padded_f (4 + vl) (by have := HL2.out; omega)))
  go_wp2_with fail
  rw [e4]
  refine (HP.out _).mono ?_
  rintro e w6 ⟨rfl, ⟨m6, rfl⟩⟩
  go_wp2
  go_ret
  have hz : ((4 + (vl : Int) + 3) / 4 * 4) = (SZ : Int) := by
   have h1 := HSZ.out
   have h2 := HCL.out
   simp only [if_true] at h1
   omega
  exact ⟨congrArg (fun z => Ending.returned (.int .i64 z)) hz, (X.drewN m6).x2⟩
 ·have q : (CD != 0) = true := by simp [h0]
  go_wp2
  go_ret
  have hz : (0 : Int) = (SZ : Int) := by
   have h1 := HSZ.out
   rw [if_neg h0] at h1
   omega
  exact ⟨congrArg (fun z => Ending.returned (.int .i64 z)) hz, X.x2⟩
end Go.Proofs.YtdlamomabonkjaaDoor.Ch
end
section
namespace Go.Proofs.YtdlamomabonkjaaDoor.Ch
open Go.RowKit YtdlamomabonkjaaDoorW.PrintWords YtdlamomabonkjaaDoorW.PrintLast Base PCh ParDec ParEnc
theorem z16 : in16 0 := by unfold in16; omega
theorem z32 : in32 0 := by unfold in32; omega
theorem nog : ∀ g ∈ ([] : List GapS), okG g := fun _ h => by cases h
theorem noi {P : Int → Prop} : ∀ g ∈ ([] : List Int), P g := fun _ h => by cases h
theorem nop : ∀ p ∈ ([] : List PrmS), okQ p := fun _ h => by cases h
theorem fourL_in (l : List Int) : ∀ b ∈ fourL l, inB b := by
 induction l with
 | nil => intro b h; cases h
 | cons n r ih =>
  intro b h
  unfold fourL at h
  rcases List.mem_append.1 h with h | h
  ·simp only [List.mem_cons, List.not_mem_nil, or_false] at h
   unfold inB
   omega
  ·exact ih b h
theorem twoL_in (l : List Int) : ∀ b ∈ twoL l, inB b := by
 induction l with
 | nil => intro b h; cases h
 | cons n r ih =>
  intro b h
  unfold twoL at h
  rcases List.mem_append.1 h with h | h
  ·simp only [List.mem_cons, List.not_mem_nil, or_false] at h
   unfold inB
   omega
  ·exact ih b h
theorem nil_in : ∀ b ∈ ([] : List Int), inB b := fun _ h => by cases h
theorem app_in {a b : List Int} (ha : ∀ x ∈ a, inB x) (hb : ∀ x ∈ b, inB x) : ∀ x ∈ a ++ b, inB x := fun x h => (List.mem_append.1 h).elim (ha x) (hb x)
theorem encP_in {ps : List PrmS} (h : ∀ p ∈ ps, okQ p) : ∀ b ∈ (encP ps).1, inB b := by
 unfold encP
 by_cases hl : ps.length > 256
 ·rw [if_pos hl]; exact nil_in
 rw [if_neg hl]
 by_cases hs : allShort ps
 ·rw [runB_short ps hs]
  exact fold_in ps [] nil_in (fun q hq => ⟨(h q hq).1.1, (h q hq).1.2, by have := hs q hq; omega, fun x hx => (h q hq).2 x hx⟩)
 ·rw [runB_long ps hs]; exact nil_in
theorem value_in {x : Chk} (h : OkC x) : ∀ b ∈ valueD x, inB b := by
 unfold valueD
 split
 ·unfold valData; exact app_in (app_in (app_in (fourL_in _) (twoL_in _)) (fourL_in _)) h.r13
 split
 ·exact app_in (app_in (app_in (fourL_in _) (twoL_in _)) (fourL_in _)) (encP_in h.r14)
 split
 ·exact app_in (app_in (app_in (fourL_in _) (twoL_in _)) (twoL_in _)) (fourL_in _)
 split
 ·exact app_in (app_in (app_in (app_in (fourL_in _) (twoL_in _)) (twoL_in _)) (twoL_in _)) (fourL_in _)
 split
 ·exact encP_in h.r14
 split
 ·exact fourL_in _
 split
 ·exact nil_in
 ·exact h.r13
theorem chunk_in {x : Chk} (h : OkC x) : ∀ b ∈ chunkL x, inB b := by
 unfold chunkL
 refine app_in (app_in (app_in ?_ (twoL_in _)) (value_in h)) ?_
 ·intro b hb
  simp only [List.mem_cons, List.not_mem_nil, or_false] at hb
  rcases hb with rfl | rfl
  ·exact h.r0
  ·exact h.r1
 ·intro b hb
  unfold padL at hb
  rw [(List.mem_replicate.1 hb).2]
  unfold inB
  omega
theorem flat_in (l : List Chk) (h : ∀ x ∈ l, OkC x) : ∀ b ∈ flatL l, inB b := by
 induction l with
 | nil => exact nil_in
 | cons x r ih => exact app_in (chunk_in (h x (List.mem_cons_self ..))) (ih (fun y hy => h y (List.mem_cons_of_mem _ hy)))
theorem enc_in {l : List Chk} (h : ∀ x ∈ l, OkC x) : ∀ b ∈ (encD l).1, inB b := by
 by_cases e : (encD l).2 = 0
 ·rw [(enc_good e).2.1]; exact flat_in l h
 ·rw [enc_bad e]; exact nil_in
end Go.Proofs.YtdlamomabonkjaaDoor.Ch
end
section
namespace Go.Proofs.YtdlamomabonkjaaDoor.Pk
open Go.RowKit YtdlamomabonkjaaDoorW.PrintWords YtdlamomabonkjaaDoorW.PrintLast Base PCh ParDec ParEnc Ch
def aloneK (k : Int) : Bool := k == 1 || k == 2 || k == 14
theorem alone_calls (k : Int) (w : World) : Calls Tryd.prog 18 #[.int .u8 k] w fun e w' => e = .returned (.bool (aloneK k)) ∧ Drawn0 w w' := by
 refine packet_Alone.calls k (aloneK k) w ?_
 unfold packet_Alone.f aloneK
 by_cases h1 : k = 1
 ·subst h1; rfl
 by_cases h2 : k = 2
 ·subst h2; rfl
 rw [if_neg h1, if_neg h2]
 have e1 : (k == 1) = false := by simp [h1]
 have e2 : (k == 2) = false := by simp [h2]
 rw [e1, e2]; rfl
def anyAlone (l : List Chk) : Bool := l.any fun x => aloneK x.f0
set_option maxHeartbeats 4000000 in
theorem apart1_calls (w : World) (x : Chk) (L : Lay) : Calls Tryd.prog 51 #[.agg (CV x L)] w fun e w' => e = .returned (.bool (aloneK x.f0)) ∧ Below w.heap.size w w' := by
 have HA := Lh (fun (W : World) => alone_calls x.f0 W)
 have HXS := Lh (show (Tryd.prog.info? 41).map (·.size) = some (CV x L).size by kernel_rfl)
 have HXZ := Lh (show (#[.int .u8 0, .int .u8 0, .int .u32 0, .int .u16 0, .int .u16 0, .int .u32 0, .int .u32 0, .int .u32 0, .int .u16 0, .int .u16 0, .slice none 0 0, .slice none 0 0, .slice none 0 0, .slice none 0 0, .slice none 0 0] : Array Value).size = (CV x L).size from rfl)
 have HXO := Lh (CV_one x L)
 have H0 : (CV x L)[0]? = some (.int .u8 x.f0) := rfl
 generalize x.f0 = k at *
 generalize CV x L = CX at *
 have H0 := Lh H0
 go_enter Tryd.func51, Tryd.ntmps51
 go_wp2_with fail
 refine (HA.out _).mono ?_
 rintro e w1 ⟨rfl, hD⟩
 have HB := Lh (below_then (below_alloc (Below.refl w.heap.size w) (.cells CX 41)) (by simp) hD.below)
 clear hD HA HXS HXZ HXO H0
 go_wp2
 go_ret
 exact ⟨rfl, HB.out⟩
def aloneI : Nat → List Chk → Int
 | _, [] => -1
 | i, x :: r => if aloneK x.f0 = true then (i : Int) else aloneI (i + 1) r
theorem aloneI_any (l : List Chk) : ∀ i, decide (0 ≤ aloneI i l) = anyAlone l := by
 induction l with
 | nil => intro i; rfl
 | cons x r ih =>
  intro i
  unfold aloneI anyAlone
  by_cases h : aloneK x.f0 = true
  ·rw [if_pos h, List.any_cons, h, Bool.true_or]; exact decide_eq_true (by omega)
  ·rw [if_neg h, ih (i + 1), List.any_cons, Bool.eq_false_iff.2 h, Bool.false_or]; rfl
set_option maxHeartbeats 4000000 in
theorem index_calls (w : World) (A : Option Addr) (c : Nat) (l : List Chk) (hl : Kd.C k41 w A l.length l) :
  Calls Tryd.prog 75 #[.slice A l.length c, .func (.func 51) #[] #[]] w fun e w' => e = .returned (.int .i64 (aloneI 0 l)) ∧ Below w.heap.size w w' := by
 have HLC := Lh (fun (W : World) (h : Below w.heap.size w W) => Kd.C_below hl h)
 have HMX := Lh hl.2.1
 clear hl
 go_enter Tryd.func75, Tryd.ntmps75
 have hm := HMX.out
 go_wp2
 go_loopw [8] (fun v8 w' => ∃ i : Nat, i ≤ l.length ∧ v8 = .int .i64 i ∧ Hid (aloneI 0 l = aloneI i (l.drop i)) ∧ Hid (Below w.heap.size w w')) (fun v8 _ => l.length - (intOf v8).toNat)
 case atStart => exact ⟨0, by omega, rfl, rfl, Below.refl _ _⟩
 case round =>
  obtain ⟨i, hi, rfl, HS, HB⟩ := hrel
  by_cases hlt : i < l.length
  ·obtain ⟨ad, x, L, rfl, hd, hxm, hcell, hx⟩ := chk_at (HLC.out wr HB.out) i hlt
   have hA := HS.out
   rw [hd, aloneI] at hA
   have HF := Lh (fun W => apart1_calls W x L)
   have HCL := Lh hcell
   have HXS := Lh (show (Tryd.prog.info? 41).map (·.size) = some (CV x L).size by kernel_rfl)
   clear hcell hd hxm HS
   generalize CV x L = CX at *
   clear hx
   generalize aloneK x.f0 = q at *
   have HA := Lh hA
   clear hA
   go_wp2_with (first | (with_reducible refine gate_dst (N := 15) rfl ?_; go_must (refine wpList_load_cells rfl 41 (.tmp 14) rfl rfl CX _ (fun j v hv => HCL.out j v hv) Tryd.underlying41 rfl HXS.out ?_)))
   refine (HF.out _).mono ?_
   rintro e w1 ⟨rfl, hB1⟩
   have HB2 := Lh (below_then HB.out HB.out.size hB1)
   clear hB1 HB HCL HF HXS
   cases q with
   | true =>
    have hA := HA.out
    rw [if_pos rfl] at hA
    clear HA
    have HA := Lh hA
    clear hA
    go_wp2
    go_ret
    exact ⟨by rw [HA.out]; rfl, HB2.out⟩
   | false =>
    have hA := HA.out
    rw [if_neg Bool.false_ne_true] at hA
    clear HA
    have HA := Lh hA
    clear hA
    go_wp2
    go_roundw
    case rel => exact ⟨i + 1, by omega, by go_num, HA, HB2⟩
    case measure => simp [intOf]; omega
  ·obtain rfl : i = l.length := by omega
   have HD := Lh (show aloneI 0 l = -1 by rw [HS.out, List.drop_length]; rfl)
   go_wp2
   go_ret
   exact ⟨by rw [HD.out]; rfl, HB.out⟩
set_option maxHeartbeats 4000000 in
theorem contains_calls (w : World) (A : Option Addr) (c : Nat) (l : List Chk) (hl : Kd.C k41 w A l.length l) :
  Calls Tryd.prog 50 #[.slice A l.length c, .func (.func 51) #[] #[]] w fun e w' => e = .returned (.bool (anyAlone l)) ∧ Below w.heap.size w w' := by
 have HX := Lh (index_calls w A c l hl)
 rw [← aloneI_any l 0]
 generalize aloneI 0 l = k at *
 go_enter Tryd.func50, Tryd.ntmps50
 go_wp2_with fail
 refine HX.out.mono ?_
 rintro e w1 ⟨rfl, hB⟩
 have HB := Lh hB
 clear hB HX hl
 go_wp2
 go_ret
 exact ⟨rfl, HB.out⟩
def apartB (l : List Chk) : Bool := decide (1 < l.length) && anyAlone l
set_option maxHeartbeats 4000000 in
theorem apart_calls (w : World) (A : Option Addr) (c : Nat) (l : List Chk) (hl : Kd.C k41 w A l.length l) :
  Calls Tryd.prog 27 #[.slice A l.length c] w fun e w' => e = .returned (.bool (apartB l)) ∧ Below w.heap.size w w' := by
 have HX := Lh (fun W (h : Below w.heap.size w W) => contains_calls W A c l (Kd.C_below hl h))
 clear hl
 unfold apartB
 by_cases h1 : 1 < l.length
 ·rw [decide_eq_true h1, Bool.true_and]
  generalize anyAlone l = q at *
  have h2 : (1 : Int) < (l.length : Int) := by omega
  generalize l.length = m at *
  go_enter Tryd.func27, Tryd.ntmps27
  go_wp2_with fail
  refine (HX.out w (Below.refl _ _)).mono ?_
  rintro e w1 ⟨rfl, hB⟩
  have HB := Lh hB
  clear hB HX
  go_wp2
  go_ret
  exact ⟨rfl, HB.out⟩
 ·rw [decide_eq_false h1, Bool.false_and]
  clear HX
  go_enter Tryd.func27, Tryd.ntmps27
  go_wp2
  go_ret
  exact ⟨rfl, Below.refl _ _⟩
end Go.Proofs.YtdlamomabonkjaaDoor.Pk
end
section
namespace Go.Proofs.YtdlamomabonkjaaDoor.Pk
open Go.RowKit YtdlamomabonkjaaDoorW.PrintWords YtdlamomabonkjaaDoorW.PrintLast Base PCh ParDec ParEnc Ch
theorem enc_ok (l : List Chk) (h : chkAll l = 0) (hl : (flatL l).length ≤ 65536) : encD l = (flatL l, 0) := by
 have key : ∀ (r : List Chk) (acc : List Int), (acc ++ flatL r).length ≤ 65536 → (runE acc r).2 = 0 := by
  intro r
  induction r with
  | nil => intro acc _; rfl
  | cons x r ih =>
   intro acc ha
   rw [flatL, ← List.append_assoc] at ha
   unfold runE
   rw [if_neg (by rw [List.length_append] at ha; omega)]
   exact ih _ ha
 have h2 := key l [] (by simpa using hl)
 have h3 : encD l = runE [] l := by unfold encD; rw [if_pos h]
 obtain ⟨h4, _⟩ := run_flat l [] h2
 rw [h3]
 exact Prod.ext (by rw [h4, List.nil_append]) h2
theorem chkAll_of {l : List Chk} (h : ∀ x ∈ l, checkD x = 0) : chkAll l = 0 := by
 induction l with
 | nil => rfl
 | cons x r ih =>
  unfold chkAll
  rw [if_pos (h x List.mem_cons_self)]
  exact ih fun y hy => h y (List.mem_cons_of_mem _ hy)
structure BS where
 D : List (List Chk)
 R : List Chk
 left : Nat
noncomputable def outB (s : BS) : List (List Chk) := if s.R.isEmpty = true then s.D else s.D ++ [s.R]
noncomputable def bstep (m : Nat) (s : BS) (x : Chk) : BS :=
 if s.R.isEmpty = true ∨ s.left < sizeD x ∨ apartB (s.R ++ [x]) = true then ⟨outB s, [x], m - 12 - sizeD x⟩ else ⟨s.D, s.R ++ [x], s.left - sizeD x⟩
noncomputable def rowsB (m : Nat) (l : List Chk) : BS := l.foldl (bstep m) ⟨[], [], 0⟩
noncomputable def bundD (mtu : Int) (l : List Chk) : List (List Chk) × Int :=
 if mtu < 100 ∨ 1500 < mtu then ([], 1) else if chkAll l = 0 then (if (∀ x ∈ l, 12 + sizeD x ≤ mtu.toNat) then (outB (rowsB mtu.toNat l), 0) else ([], 2)) else ([], chkAll l)
theorem flatL_app (a b : List Chk) : flatL (a ++ b) = flatL a ++ flatL b := by
 induction a with
 | nil => rfl
 | cons x r ih => rw [List.cons_append, flatL, flatL, ih, List.append_assoc]
theorem flatL_one (x : Chk) : flatL [x] = chunkL x := by rw [flatL, flatL, List.append_nil]
def SepB (m : Nat) (a b : List Chk) : Prop := ∃ y r, b = y :: r ∧ (apartB (a ++ [y]) = true ∨ m < 12 + (flatL (a ++ [y])).length)
def GoodB (m : Nat) (r : List Chk) : Prop := r ≠ [] ∧ apartB r = false ∧ 12 + (flatL r).length ≤ m
structure BInv (m : Nat) (s : BS) (l : List Chk) : Prop where
 fl : (s.D ++ [s.R]).flatten = l
 gd : ∀ r ∈ s.D, GoodB m r
 gr : s.R ≠ [] → GoodB m s.R ∧ s.left + 12 + (flatL s.R).length = m
 st : s.R = [] → s.D = []
 sep : ∀ i, i + 1 < s.D.length → SepB m (s.D.getD i []) (s.D.getD (i + 1) [])
 sepr : s.R ≠ [] → s.D ≠ [] → SepB m (s.D.getD (s.D.length - 1) []) s.R
theorem sep_app {m : Nat} {a b c : List Chk} (h : SepB m a b) : SepB m a (b ++ c) := by
 obtain ⟨y, r, rfl, h⟩ := h
 exact ⟨y, r ++ c, rfl, h⟩
theorem getD_app_lt {α : Type} (l r : List α) (d : α) (i : Nat) (h : i < l.length) : (l ++ r).getD i d = l.getD i d := by
 simp only [List.getD_eq_getElem?_getD]
 rw [List.getElem?_append_left h]
theorem getD_app_len {α : Type} (l : List α) (x d : α) : (l ++ [x]).getD l.length d = x := by
 simp [List.getD_eq_getElem?_getD]
theorem binv_step {m : Nat} {s : BS} {l : List Chk} (h : BInv m s l) (x : Chk) (hc : checkD x = 0) (hm : 12 + sizeD x ≤ m) : BInv m (bstep m s x) (l ++ [x]) ∧ (bstep m s x).R ≠ [] := by
 have hs : sizeD x = (chunkL x).length := by unfold sizeD; rw [if_pos hc]
 unfold bstep
 by_cases hR : s.R = []
 ·have hD := h.st hR
  rw [if_pos (Or.inl (by rw [hR]; rfl))]
  have ho : outB s = [] := by unfold outB; rw [if_pos (by rw [hR]; rfl), hD]
  refine ⟨⟨?_, ?_, ?_, ?_, ?_, ?_⟩, by simp⟩
  ·have := h.fl
   rw [hD, hR] at this
   rw [← this, ho]
   simp
  ·intro r hr; rw [ho] at hr; cases hr
  ·intro _
   exact ⟨⟨by simp, rfl, by rw [flatL_one]; omega⟩, by rw [flatL_one]; dsimp only; omega⟩
  ·intro e; simp at e
  ·intro i hi; rw [ho] at hi; simp at hi
  ·intro _ e; exact absurd ho e
 ·have hne : s.R.isEmpty = false := by cases hh : s.R with
   | nil => exact absurd hh hR
   | cons _ _ => rfl
  obtain ⟨hg, hl⟩ := h.gr hR
  have ho : outB s = s.D ++ [s.R] := by unfold outB; rw [if_neg (by rw [hne]; exact Bool.false_ne_true)]
  by_cases hn : s.left < sizeD x ∨ apartB (s.R ++ [x]) = true
  ·rw [if_pos (Or.inr hn)]
   refine ⟨⟨?_, ?_, ?_, ?_, ?_, ?_⟩, by simp⟩
   ·rw [ho, ← h.fl]; simp
   ·intro r hr
    rw [ho] at hr
    rcases List.mem_append.1 hr with hr | hr
    ·exact h.gd r hr
    ·rw [List.mem_singleton.1 hr]; exact hg
   ·intro _
    exact ⟨⟨by simp, rfl, by rw [flatL_one]; omega⟩, by rw [flatL_one]; dsimp only; omega⟩
   ·intro e; simp at e
   ·intro i hi
    rw [ho] at hi ⊢
    rw [List.length_append, List.length_singleton] at hi
    by_cases h2 : i + 1 < s.D.length
    ·rw [getD_app_lt _ _ _ _ (by omega), getD_app_lt _ _ _ _ h2]; exact h.sep i h2
    ·have e : i + 1 = s.D.length := by omega
     rw [getD_app_lt _ _ _ _ (by omega), e, getD_app_len, show i = s.D.length - 1 by omega]
     exact h.sepr hR (by intro e2; rw [e2] at e; simp at e)
   ·intro _ _
    rw [ho, List.length_append, List.length_singleton, Nat.add_sub_cancel, getD_app_len]
    refine ⟨x, [], rfl, ?_⟩
    rcases hn with hn | hn
    ·right; rw [flatL_app, flatL_one, List.length_append]; omega
    ·left; exact hn
  ·have hn1 : ¬ s.left < sizeD x := fun e => hn (Or.inl e)
   have hn2 : apartB (s.R ++ [x]) = false := Bool.eq_false_iff.2 fun e => hn (Or.inr e)
   rw [if_neg (fun e => e.elim (fun e => by rw [hne] at e; cases e) hn)]
   refine ⟨⟨?_, h.gd, ?_, ?_, h.sep, ?_⟩, by simp⟩
   ·rw [← h.fl]; simp
   ·intro _
    have hlen : (flatL (s.R ++ [x])).length = (flatL s.R).length + sizeD x := by rw [flatL_app, flatL_one, List.length_append, hs]
    exact ⟨⟨by simp, hn2, by rw [hlen]; omega⟩, by rw [hlen]; dsimp only; omega⟩
   ·intro e; simp at e
   ·intro _ hD
    exact sep_app (h.sepr hR hD)
theorem binv_rows {m : Nat} (l : List Chk) (hc : ∀ x ∈ l, checkD x = 0) (hm : ∀ x ∈ l, 12 + sizeD x ≤ m) : BInv m (rowsB m l) l ∧ (l ≠ [] → (rowsB m l).R ≠ []) := by
 have key : ∀ (r : List Chk) (s : BS) (a : List Chk), BInv m s a → (a ≠ [] → s.R ≠ []) → (∀ x ∈ r, checkD x = 0) → (∀ x ∈ r, 12 + sizeD x ≤ m) → BInv m (r.foldl (bstep m) s) (a ++ r) ∧ (a ++ r ≠ [] → (r.foldl (bstep m) s).R ≠ []) := by
  intro r
  induction r with
  | nil => intro s a h h2 _ _; rw [List.append_nil]; exact ⟨h, h2⟩
  | cons x r ih =>
   intro s a h _ h1 h2
   obtain ⟨h3, h4⟩ := binv_step h x (h1 x List.mem_cons_self) (h2 x List.mem_cons_self)
   have := ih (bstep m s x) (a ++ [x]) h3 (fun _ => h4) (fun y hy => h1 y (List.mem_cons_of_mem _ hy)) (fun y hy => h2 y (List.mem_cons_of_mem _ hy))
   rw [List.append_assoc, List.singleton_append] at this
   exact this
 have := key l ⟨[], [], 0⟩ [] ⟨rfl, fun r hr => by (cases hr), fun e => absurd rfl e, fun _ => rfl, fun i hi => by (simp at hi), fun e => absurd rfl e⟩ (fun e => absurd rfl e) hc hm
 rw [List.nil_append] at this
 exact this
structure RowsOk (m : Nat) (o : List (List Chk)) (l : List Chk) : Prop where
 fl : o.flatten = l
 gd : ∀ r ∈ o, GoodB m r
 sep : ∀ i, i + 1 < o.length → SepB m (o.getD i []) (o.getD (i + 1) [])
theorem rows_ok {m : Nat} {s : BS} {l : List Chk} (h : BInv m s l) : RowsOk m (outB s) l := by
 unfold outB
 by_cases hR : s.R = []
 ·rw [if_pos (by rw [hR]; rfl)]
  have := h.fl
  rw [h.st hR, hR] at this
  rw [h.st hR]
  exact ⟨by rw [← this]; rfl, fun r hr => by (cases hr), fun i hi => by (simp at hi)⟩
 ·have hne : s.R.isEmpty = false := by cases hh : s.R with
   | nil => exact absurd hh hR
   | cons _ _ => rfl
  rw [if_neg (by rw [hne]; exact Bool.false_ne_true)]
  refine ⟨h.fl, fun r hr => ?_, fun i hi => ?_⟩
  ·rcases List.mem_append.1 hr with hr | hr
   ·exact h.gd r hr
   ·rw [List.mem_singleton.1 hr]; exact (h.gr hR).1
  ·rw [List.length_append, List.length_singleton] at hi
   by_cases h2 : i + 1 < s.D.length
   ·rw [getD_app_lt _ _ _ _ (by omega), getD_app_lt _ _ _ _ h2]; exact h.sep i h2
   ·have e : i + 1 = s.D.length := by omega
    rw [getD_app_lt _ _ _ _ (by omega), e, getD_app_len, show i = s.D.length - 1 by omega]
    exact h.sepr hR (by intro e2; rw [e2] at e; simp at e)
theorem good_enc {m : Nat} {r : List Chk} (h : GoodB m r) (hm : m ≤ 1500) (hc : ∀ x ∈ r, checkD x = 0) : encD r = (flatL r, 0) ∧ r.length ≠ 0 ∧ apartB r = false ∧ 12 + (flatL r).length ≤ m := by
 refine ⟨enc_ok r (chkAll_of hc) (by have := h.2.2; omega), fun e => h.1 (List.eq_nil_of_length_eq_zero e), h.2.1, h.2.2⟩
theorem rows_mem {m : Nat} {o : List (List Chk)} {l : List Chk} (h : RowsOk m o l) {P : Chk → Prop} (hp : ∀ x ∈ l, P x) : ∀ r ∈ o, ∀ x ∈ r, P x := by
 intro r hr x hx
 exact hp x (by rw [← h.fl]; exact List.mem_flatten.2 ⟨r, hr, hx⟩)
theorem flatten_len {o : List (List Chk)} (h : ∀ r ∈ o, r ≠ []) : o.length ≤ o.flatten.length := by
 induction o with
 | nil => simp
 | cons r o ih =>
  rw [List.flatten_cons, List.length_append, List.length_cons]
  have h1 := ih fun x hx => h x (List.mem_cons_of_mem _ hx)
  have h2 : 0 < r.length := List.length_pos_iff.2 (h r List.mem_cons_self)
  omega
end Go.Proofs.YtdlamomabonkjaaDoor.Pk
end
section
namespace Go.Proofs.YtdlamomabonkjaaDoor.Base
open Go.RowKit YtdlamomabonkjaaDoorW.PrintWords YtdlamomabonkjaaDoorW.PrintLast
section
variable {P : Program} {ops : Array Oper} {Q : Exit → Act → World → Prop} {B O C : List Nat} {W : World} {I : Nat → Value → World → Prop} {u0 : Value} {L : (Nat → Value) → Sel} {a0 : Act} {i : Nat} {p : Tmp}
theorem gr_callc (i k m : Nat) {t : Tmp} {vals : List Value} {oi : Oper} {f : FuncId} {fn : Func} {ax : Array Operand} {ts : Array TypeId} (ho : ops[i]? = some oi) (hg : oi.guard = none) (hd : oi.dst = some t) (hm : C[m]? = some i) (hL : ∀ vs, (L vs)[k]? = some (i, t, vs (m + 1)))
  (hset : ∀ vs v', (L vs).set k (i, t, v') = L (fun j => if j = m + 1 then v' else vs j)) (hdist : ∀ vs, ((L vs).take k ++ (L vs).drop (k + 1)).all (fun e => !(e.1 == i) && !(e.2.1 == t)) = true) (hnd : (C.take m ++ C.drop (m + 1)).contains i = false) (hprev : (C.take m).all (fun q => O.contains q && (B.getD i 0).testBit q) = true)
  (hf : P.funcs[f]? = some fn) (hname : (fn.name == "runtime.NumGoroutine") = false) (hbd : fn.body.isSome = true) (hop : oi.op = .call { callee := .value (.func f), args := ax, argTypes := ts })
  (har : Ar O B i L a0 ax.toList vals) (hcall : ∀ u w, I m u w → Calls P f vals.toArray w fun e w' => ∃ v', e = .returned v' ∧ I (m + 1) v' w') : StepAt P ops Q B O (GrI C I u0 L a0) i := by
 rintro b a w hG hb hon hoff
 obtain ⟨vs, hu, ha, hI, hK2⟩ := gr_step i k m hm hL hset hdist hnd hprev hG hb hon
 refine ⟨oi, ho, fun K hK => ?_⟩
 rw [hd]
 have e2 := har b vs hon hoff
 refine goes_ hf hname hbd vals.toArray (wanted_none0 hg) hd hop ?_ ?_
 ·apply Array.toList_inj.1
  rw [Array.toList_map, ha, e2]
 ·refine (hcall (vs m) w hI).mono ?_
  rintro e w' ⟨v', rfl, hI'⟩
  exact ⟨v', rfl, hK.out _ _ (hK2 v' w' hI')⟩
end
end Go.Proofs.YtdlamomabonkjaaDoor.Base
end
section
namespace CrcMath
def poly : Nat := 2197175160
theorem poly_eq : poly = 2197175160 := rfl
attribute [irreducible] poly
def bitStep (n : Nat) : Nat := if n % 2 = 1 then (n / 2) ^^^ poly else n / 2
def bitSteps : Nat → Nat → Nat
 | 0, n => n
 | k + 1, n => bitSteps k (bitStep n)
theorem half_xor (a b : Nat) : (a ^^^ b) / 2 = a / 2 ^^^ b / 2 := by
 have := Nat.xor_div_two (a := a) (b := b)
 exact this
theorem bitStep_xor (a b : Nat) : bitStep (a ^^^ b) = bitStep a ^^^ bitStep b := by
 unfold bitStep
 have h : (a ^^^ b) % 2 = (a % 2 + b % 2) % 2 := by
  have := Nat.xor_mod_two_pow (a := a) (b := b) (n := 1)
  rcases Nat.mod_two_eq_zero_or_one a with ha | ha <;> rcases Nat.mod_two_eq_zero_or_one b with hb | hb <;> simp [ha, hb] at this ⊢ <;> omega
 rw [h, half_xor]
 generalize poly = p
 rcases Nat.mod_two_eq_zero_or_one a with ha | ha <;> rcases Nat.mod_two_eq_zero_or_one b with hb | hb <;> simp [ha, hb]
 ·exact (Nat.xor_assoc _ _ _)
 ·ac_rfl
 ·rw [show a / 2 ^^^ p ^^^ (b / 2 ^^^ p) = (a / 2 ^^^ b / 2) ^^^ (p ^^^ p) by ac_rfl, Nat.xor_self, Nat.xor_zero]
theorem bitSteps_xor (k a b : Nat) : bitSteps k (a ^^^ b) = bitSteps k a ^^^ bitSteps k b := by
 induction k generalizing a b with
 | zero => rfl
 | succ k ih => simp only [bitSteps, bitStep_xor, ih]
theorem bitSteps_add (j k n : Nat) : bitSteps (j + k) n = bitSteps k (bitSteps j n) := by
 induction j generalizing n with
 | zero => simp [bitSteps]
 | succ j ih => rw [Nat.succ_add]; simp only [bitSteps, ih]
theorem bitSteps_shift (k n : Nat) : bitSteps k (n <<< k) = n := by
 induction k generalizing n with
 | zero => simp [bitSteps]
 | succ k ih =>
  have : n <<< (k + 1) = 2 * (n <<< k) := by simp [Nat.shiftLeft_eq, Nat.pow_succ]; ac_rfl
  simp only [bitSteps, bitStep]
  rw [this, if_neg (by omega), Nat.mul_div_cancel_left _ (by decide)]
  exact ih n
theorem bitStep_lt {n : Nat} (h : n < 4294967296) : bitStep n < 4294967296 := by
 unfold bitStep
 have h1 : n / 2 < 4294967296 := by omega
 split
 ·exact Nat.xor_lt_two_pow (n := 32) h1 (by rw [poly_eq]; decide)
 ·exact h1
theorem bitSteps_lt {k n : Nat} (h : n < 4294967296) : bitSteps k n < 4294967296 := by
 induction k generalizing n with
 | zero => exact h
 | succ k ih => exact ih (bitStep_lt h)
def byteStep (r : Nat) (c : UInt8) : Nat := bitSteps 8 (r ^^^ c.toNat)
theorem byteStep_lt {r : Nat} (h : r < 4294967296) (c : UInt8) : byteStep r c < 4294967296 :=
 bitSteps_lt (Nat.xor_lt_two_pow (n := 32) h (by have := c.toNat_lt; omega))
theorem byteStep_eq (r : Nat) (c : UInt8) : byteStep r c = bitSteps 8 (r ^^^ c.toNat) := rfl
attribute [irreducible] byteStep
def ext (r : Nat) (l : List UInt8) : Nat := l.foldl byteStep r
theorem ext_append (r : Nat) (a b : List UInt8) : ext r (a ++ b) = ext (ext r a) b := List.foldl_append
theorem ext_lt {r : Nat} (h : r < 4294967296) (l : List UInt8) : ext r l < 4294967296 := by
 induction l generalizing r with
 | nil => exact h
 | cons c l ih => exact ih (byteStep_lt h c)
def nib : Nat → Nat := fun i => [0, 274646895, 549293790, 820201905, 1098587580, 1361435347, 1640403810, 1905808397, 2197175160, 2460548119, 2722870694, 2987750089, 3280807620, 3553878443, 3811616794, 4084100981].getD i 0
theorem nib_tab : ∀ i : Nat, i < 16 → bitSteps 4 i = nib i := by
 unfold bitSteps bitSteps bitSteps bitSteps bitSteps bitStep
 rw [poly_eq]
 decide +kernel
theorem split4 (r : Nat) : r = (r / 2 ^ 4) <<< 4 ^^^ (r % 2 ^ 4) := by
 apply Nat.eq_of_testBit_eq
 intro i
 rw [Nat.testBit_xor, Nat.testBit_shiftLeft, Nat.testBit_mod_two_pow, Nat.testBit_div_two_pow]
 by_cases h : i < 4
 ·simp [h, show ¬ 4 ≤ i by omega]
 ·simp [h, show 4 ≤ i by omega, show i - 4 + 4 = i by omega]
attribute [irreducible] nib bitSteps
theorem four' (r a b : Nat) (h1 : r = a <<< 4 ^^^ b) : bitSteps 4 r = a ^^^ bitSteps 4 b := by
 rw [h1, bitSteps_xor, bitSteps_shift]
theorem four (r : Nat) : bitSteps 4 r = r / 16 ^^^ nib (r % 16) :=
 (four' r _ _ (split4 r)).trans (congrArg (r / 16 ^^^ ·) (nib_tab _ (Nat.mod_lt _ (by decide))))
theorem eight (r : Nat) : bitSteps 8 r = (r / 16 ^^^ nib (r % 16)) / 16 ^^^ nib ((r / 16 ^^^ nib (r % 16)) % 16) := by
 rw [show (8 : Nat) = 4 + 4 from rfl, bitSteps_add, four (bitSteps 4 r), four r]
def sumL (l : List UInt8) : Nat := ext 4294967295 l ^^^ 4294967295
theorem sumL_eq (l : List UInt8) : sumL l = ext 4294967295 l ^^^ 4294967295 := rfl
theorem sumL_lt (l : List UInt8) : sumL l < 4294967296 := Nat.xor_lt_two_pow (n := 32) (ext_lt (by decide) l) (by decide)
def puts (l : List UInt8) (s : Nat) : Nat → List UInt8
 | 0 => l
 | i + 1 => (puts l s i).set (8 + i) (UInt8.ofNat (s >>> (8 * i)))
theorem puts_length (l : List UInt8) (s k : Nat) : (puts l s k).length = l.length := by
 induction k with
 | zero => rfl
 | succ k ih => simp [puts, ih]
def noSum (l : List UInt8) : List UInt8 := l.take 8 ++ [0, 0, 0, 0] ++ l.drop 12
theorem puts_four (l : List UInt8) (s : Nat) (h : 12 ≤ l.length) : puts l s 4 = l.take 8 ++ [UInt8.ofNat s, UInt8.ofNat (s >>> 8), UInt8.ofNat (s >>> 16), UInt8.ofNat (s >>> 24)] ++ l.drop 12 := by
 match l, h with
 | _ :: _ :: _ :: _ :: _ :: _ :: _ :: _ :: _ :: _ :: _ :: _ :: r, _ => rfl
theorem puts_again (l : List UInt8) (s t : Nat) (h : 12 ≤ l.length) : puts (puts l s 4) t 4 = puts l t 4 := by
 match l, h with
 | _ :: _ :: _ :: _ :: _ :: _ :: _ :: _ :: _ :: _ :: _ :: _ :: r, _ => rfl
theorem noSum_puts (l : List UInt8) (s : Nat) (h : 12 ≤ l.length) : noSum (puts l s 4) = noSum l := by
 match l, h with
 | _ :: _ :: _ :: _ :: _ :: _ :: _ :: _ :: _ :: _ :: _ :: _ :: r, _ => rfl
def putL (l : List UInt8) : List UInt8 := puts l (sumL (noSum l)) 4
theorem putL_eq (l : List UInt8) : putL l = puts l (sumL (noSum l)) 4 := rfl
theorem putL_length (l : List UInt8) : (putL l).length = l.length := puts_length _ _ _
def checkL (l : List UInt8) : Int := if l.length < 12 then 20 else if putL l = l then 0 else 21
theorem check_put (l : List UInt8) (h : 12 ≤ l.length) : checkL (putL l) = 0 := by
 have h1 : putL (putL l) = putL l := by
  rw [putL_eq (putL l), putL_eq l, noSum_puts _ _ h, puts_again _ _ _ h]
 rw [checkL, if_neg (by rw [putL_length]; omega), if_pos h1]
attribute [irreducible] sumL
end CrcMath
end
section
namespace Go.Proofs.YtdlamomabonkjaaDoor.Crc
open Go.RowKit YtdlamomabonkjaaDoorW.PrintWords Base CrcMath
structure Table (w : World) : Prop where mk :: (out : ∀ i : Nat, i < 16 → w.cell? ⟨0, i, none⟩ = some (.int .u32 (nib i : Int)))
theorem xor32 (a b : Nat) (ha : a < 4294967296) (hb : b < 4294967296) : bits .xor .u32 (a : Int) (b : Int) = ((a ^^^ b : Nat) : Int) := by
 have ha' : a % 2 ^ 32 = a := Nat.mod_eq_of_lt ha
 have hb' : b % 2 ^ 32 = b := Nat.mod_eq_of_lt hb
 have := Nat.xor_lt_two_pow (n := 32) ha hb
 have e : (BitVec.ofNat 32 a ^^^ BitVec.ofNat 32 b).toNat = a ^^^ b := by rw [BitVec.toNat_xor, BitVec.toNat_ofNat, BitVec.toNat_ofNat, ha', hb']
 have e2 : bits .xor .u32 (a : Int) (b : Int) = IntKind.u32.wrap ((BitVec.ofNat 32 a ^^^ BitVec.ofNat 32 b).toNat : Nat) := by
  rfl
 rw [e2, e, IntKind.wrap_u32]
 omega
theorem and15 (a : Nat) (ha : a < 4294967296) : bits .and .u32 (a : Int) 15 = ((a % 16 : Nat) : Int) := by
 have := bits_mask .u32 32 (by decide) (fun n h0 h1 => by rw [IntKind.wrap_u32]; omega) 4 (by decide) (a : Int) (by omega) (by omega)
 rw [show (2 : Int) ^ 4 - 1 = 15 from rfl] at this
 rw [this]
 rfl
theorem and15_lt (a : Nat) : a % 16 < 16 := Nat.mod_lt _ (by decide)
theorem nib_lt (i : Nat) (h : i < 16) : nib i < 4294967296 := by
 have : ∀ i : Nat, i < 16 → nib i < 4294967296 := by decide +kernel
 exact this i h
theorem byte_round {w : World} (ht : Table w) (r : Nat) (hr : r < 4294967296) (c : UInt8) : ∃ x i n y i2 n2 : Nat,
  bits .xor .u32 (r : Int) ((c.toNat : Int) % 4294967296) = (x : Int) ∧ bits .and .u32 (x : Int) 15 = (i : Int) ∧ i < 16 ∧ w.cell? ⟨0, i, none⟩ = some (.int .u32 (n : Int)) ∧
  bits .xor .u32 ((x : Int) / 16) (n : Int) = (y : Int) ∧ bits .and .u32 (y : Int) 15 = (i2 : Int) ∧ i2 < 16 ∧ w.cell? ⟨0, i2, none⟩ = some (.int .u32 (n2 : Int)) ∧
  bits .xor .u32 ((y : Int) / 16) (n2 : Int) = (byteStep r c : Nat) := by
 have hc : c.toNat < 4294967296 := by have := c.toNat_lt; omega
 have h1 : r ^^^ c.toNat < 4294967296 := Nat.xor_lt_two_pow (n := 32) hr hc
 have h2 : ∀ x : Nat, x < 4294967296 → x / 16 ^^^ nib (x % 16) < 4294967296 := fun x hx => Nat.xor_lt_two_pow (n := 32) (by omega) (nib_lt _ (and15_lt _))
 have h3 : ∀ x : Nat, x < 4294967296 → bits .xor .u32 ((x : Int) / 16) (nib (x % 16) : Int) = ((x / 16 ^^^ nib (x % 16) : Nat) : Int) := fun x hx => by
  rw [show ((x : Int) / 16) = ((x / 16 : Nat) : Int) from rfl]
  exact xor32 _ _ (by omega) (nib_lt _ (and15_lt _))
 refine ⟨_, _, _, _, _, _, by rw [Int.emod_eq_of_lt (by omega) (by omega)]; exact xor32 r c.toNat hr hc, and15 _ h1, and15_lt _, ht.out _ (and15_lt _), h3 _ h1, and15 _ (h2 _ h1), and15_lt _, ht.out _ (and15_lt _), ?_⟩
 rw [h3 _ (h2 _ h1), byteStep_eq, eight]
theorem ext_take_succ (r : Nat) (p : List UInt8) (j : Nat) (h : j < p.length) : ext r (p.take (j + 1)) = byteStep (ext r (p.take j)) (p.getD j 0) := by
 rw [List.take_succ_eq_append_getElem h, ext_append, getD_lt _ _ _ h]
 rfl
theorem flatten_take_succ (r : Nat) (l : List (List UInt8)) (k : Nat) (h : k < l.length) : ext r (l.take (k + 1)).flatten = ext (ext r (l.take k).flatten) (l.getD k []) := by
 rw [List.take_succ_eq_append_getElem h, List.flatten_append, ext_append, getD_lt _ _ _ h]
 simp
theorem extend_calls (r : Nat) (hr : r < 4294967296) (A : Option Addr) (c : Nat) (parts : List (List UInt8)) (w : World) (ht : Table w) (hp : bytesK.C w A parts.length parts) :
  Calls Tryd.prog 90 #[.int .u32 (r : Int), .slice A parts.length c] w fun e w' => e = .returned (.int .u32 (ext r parts.flatten : Nat)) ∧ w = w' := by
 have hlen := hp.2.1
 go_enter Tryd.func90, Tryd.ntmps90
 go_wp2
 go_loop [0, 11] (fun v0 v11 => ∃ k : Nat, k ≤ parts.length ∧ v11 = .int .i64 k ∧ v0 = .int .u32 (ext r (parts.take k).flatten : Nat)) (fun _ i => parts.length - (intOf i).toNat)
 case atStart => exact ⟨0, Nat.zero_le _, rfl, rfl⟩
 case round =>
  obtain ⟨k, hk, rfl, rfl⟩ := hrel
  by_cases hlt : k < parts.length
  ·obtain ⟨ad, A0, c0, rfl, hx, hl0, hb⟩ := bytes_at hp k hlt
   have hlen0 := hb.2.1
   generalize hP : parts.getD k [] = p at *
   have HP := Lh hP
   clear hP
   generalize hR : ext r (parts.take k).flatten = r0 at *
   have HR := Lh hR
   have hr0 : r0 < 4294967296 := hR ▸ ext_lt hr _
   clear hR
   go_wp2
   go_loop [0, 17] (fun v0 v17 => ∃ j : Nat, j ≤ p.length ∧ v17 = .int .i64 j ∧ v0 = .int .u32 (ext r0 (p.take j) : Nat)) (fun _ i => p.length - (intOf i).toNat)
   case atStart => exact ⟨0, Nat.zero_le _, rfl, rfl⟩
   case round =>
    obtain ⟨j, hj, rfl, rfl⟩ := hrel
    by_cases hjl : j < p.length
    ·obtain ⟨ad1, rfl, hy⟩ := byte_at hb j hjl
     generalize hR1 : ext r0 (p.take j) = r1 at *
     have hr1 : r1 < 4294967296 := hR1 ▸ ext_lt hr0 _
     have HR1 := Lh hR1
     clear hR1
     obtain ⟨x, i, n, y, i2, n2, e1, e2, l1, t1, e3, e4, l2, t2, e5⟩ := byte_round ht r1 hr1 (p.getD j 0)
     generalize hB : byteStep r1 (p.getD j 0) = b at *
     have HB := Lh hB
     clear hB
     generalize hC : (p.getD j 0).toNat = cn at *
     clear hC
     go_wp2
     go_round
     case rel => exact ⟨j + 1, by omega, by go_num, by rw [ext_take_succ _ _ _ hjl, HR1.out, HB.out]⟩
     case measure => simp [intOf]; omega
    ·obtain rfl : j = p.length := by omega
     go_wp2
     go_round
     case rel => exact ⟨k + 1, by omega, by go_num, by rw [flatten_take_succ _ _ _ hlt, HR.out, HP.out, List.take_length]⟩
     case measure => simp [intOf]; omega
  ·obtain rfl : k = parts.length := by omega
   go_wp2
   go_ret
   exact ⟨rfl, rfl⟩
end Go.Proofs.YtdlamomabonkjaaDoor.Crc
end
section
namespace Go.Proofs.YtdlamomabonkjaaDoor.Crc
open Go.RowKit YtdlamomabonkjaaDoorW.PrintWords Base CrcMath
theorem sum_calls (A : Option Addr) (c : Nat) (parts : List (List UInt8)) (w : World) (ht : Table w) (hp : bytesK.C w A parts.length parts) :
  Calls Tryd.prog 78 #[.slice A parts.length c] w fun e w' => e = .returned (.int .u32 (sumL parts.flatten : Nat)) ∧ w = w' := by
 have h := extend_calls 4294967295 (by decide) A c parts w ht hp
 have hx := ext_lt (r := 4294967295) (by decide) parts.flatten
 have hS := sumL_eq parts.flatten
 have hm : IntKind.u32.max = 4294967295 := rfl
 have hs : IntKind.u32.signed = false := rfl
 generalize ext 4294967295 parts.flatten = x at *
 have e1 : bits .xor .u32 4294967295 (x : Int) = ((sumL parts.flatten : Nat) : Int) := by rw [hS, Nat.xor_comm]; exact xor32 4294967295 x (by decide) hx
 clear hS
 generalize sumL parts.flatten = y at *
 go_enter Tryd.func78, Tryd.ntmps78
 go_wp2_with (go_at_call 90; refine h.mono ?_; rintro e w' ⟨rfl, rfl⟩)
 go_ret
 exact ⟨rfl, rfl⟩
theorem Table.below {w w1 : World} (ht : Table w) (hb : Below w.heap.size w w1) : Table w1 := ⟨fun i hi => pw_cell_below hb (ht.out i hi)⟩
end Go.Proofs.YtdlamomabonkjaaDoor.Crc
end
section
namespace Go.Proofs.YtdlamomabonkjaaDoor.Base
open Go.RowKit YtdlamomabonkjaaDoorW.PrintWords
theorem take_eq_succ {α : Type} (l l' : List α) (k : Nat) (h : k < l.length) (h' : k < l'.length) (ht : l.take k = l'.take k) (he : l[k] = l'[k]) : l.take (k + 1) = l'.take (k + 1) := by
 rw [List.take_succ_eq_append_getElem h, List.take_succ_eq_append_getElem h', ht, he]
theorem equal_calls (A A' : Option Addr) (c c' : Nat) (l l' : List UInt8) (w : World) (hb : byte.C w A l.length l) (hb' : byte.C w A' l'.length l') :
  Calls Tryd.prog 67 #[.slice A l.length c, .slice A' l'.length c'] w fun e w' => e = .returned (.bool (decide (l = l'))) ∧ Drawn0 w w' := by
 have hlen := hb.2.1
 have hlen' := hb'.2.1
 by_cases hL : l.length = l'.length
 ·have hne : (((l.length : Nat) : Int) != ((l'.length : Nat) : Int)) = false := by simp [hL]
  have HL := Lh hL
  clear hL
  go_enter Tryd.func67, Tryd.ntmps67
  go_wp2
  go_loopw [13] (fun v13 w' => ∃ k : Nat, k ≤ l.length ∧ v13 = .int .i64 k ∧ Hid (l.take k = l'.take k) ∧ Drawn0 w w') (fun v13 _ => l.length - (intOf v13).toNat)
  case atStart => exact ⟨0, by omega, rfl, rfl, Drawn0.refl _⟩
  case round =>
   obtain ⟨k, hk, rfl, hT, hD⟩ := hrel
   obtain ⟨⟨nd, rfl⟩⟩ := hD
   by_cases hlt : k < l.length
   ·have hlt' : k < l'.length := by rw [← HL.out]; exact hlt
    obtain ⟨ad, rfl, hx⟩ := byte_at hb k hlt
    obtain ⟨ad', rfl, hx'⟩ := byte_at hb' k hlt'
    have gx := getD_lt l 0 k hlt
    have gx' := getD_lt l' 0 k hlt'
    generalize l.getD k 0 = p at *
    generalize l'.getD k 0 = p' at *
    have GX := Lh gx
    have GX' := Lh gx'
    clear gx gx'
    by_cases hp : p = p'
    ·subst hp
     have ht : (((p.toNat : Nat) : Int) != ((p.toNat : Nat) : Int)) = false := by simp
     generalize ((p.toNat : Nat) : Int) = q at *
     go_wp2
     go_quiet (fail)
     go_wp2
     go_roundw
     case rel => exact ⟨k + 1, by omega, by go_num, take_eq_succ l l' k hlt hlt' hT.out (by rw [← GX.out, ← GX'.out]), drawn2 (by first | exact ⟨_, rfl⟩ | exact ⟨_, World.drewN_drewN ..⟩)⟩
     case measure => simp [intOf]; omega
    ·have ht : (((p.toNat : Nat) : Int) != ((p'.toNat : Nat) : Int)) = true := by
      simp only [bne_iff_ne, ne_eq, Int.natCast_inj, UInt8.toNat_inj]
      exact hp
     have HP := Lh hp
     clear hp
     generalize hq : ((p.toNat : Nat) : Int) = q at *
     generalize hq' : ((p'.toNat : Nat) : Int) = q' at *
     clear hq hq'
     go_wp2
     go_quiet (fail)
     go_wp2
     go_ret
     exact ⟨ret_bool (decide_eq_false (fun h => HP.out (by rw [GX.out, GX'.out]; simp [h]))).symm, drawn2 (by first | exact ⟨_, rfl⟩ | exact ⟨_, World.drewN_drewN ..⟩)⟩
   ·obtain rfl : k = l.length := by omega
    go_wp2
    go_ret
    refine ⟨ret_bool (decide_eq_true ?_).symm, Drawn0.mk ⟨nd, rfl⟩⟩
    have := hT.out
    rwa [List.take_length, HL.out, List.take_length] at this
 ·have hne : (((l.length : Nat) : Int) != ((l'.length : Nat) : Int)) = true := by simp; omega
  have HL := Lh hL
  clear hL
  go_enter Tryd.func67, Tryd.ntmps67
  go_wp2
  go_ret
  exact ⟨ret_bool (decide_eq_false (fun h => HL.out (congrArg List.length h))).symm, Drawn0.refl _⟩
end Go.Proofs.YtdlamomabonkjaaDoor.Base
end
section
namespace Go.Proofs.YtdlamomabonkjaaDoor.Crc
open Go.RowKit YtdlamomabonkjaaDoorW.PrintWords Base CrcMath
theorem call3 {w : World} (ht : Table w) {lits : Array Value} {n1 : Nat} {A0 A1 A2 : Option Addr} {c0 c1 c2 : Nat} {p0 p1 p2 : List UInt8}
  (h0 : byte.C w A0 p0.length p0) (k0 : p0.length ≤ c0) (h1 : byte.C (w.alloc (.cells lits 5)) A1 n1 p1) (k1 : n1 ≤ c1) (h2 : byte.C w A2 p2.length p2) (k2 : p2.length ≤ c2) :
  Calls Tryd.prog 78 #[.slice (some ⟨w.heap.size + 1, 0, none⟩) 3 3]
   ((w.alloc (.cells lits 5)).alloc (.cells #[.slice A0 p0.length c0, .slice A1 n1 c1, .slice A2 p2.length c2] 27)).drew
   fun e w' => e = .returned (.int .u32 (sumL [p0, p1, p2].flatten : Nat)) ∧ Below w.heap.size w w' := by
 have hn : p1.length = n1 := h1.1
 have hz : (w.alloc (.cells lits 5)).heap.size = w.heap.size + 1 := by simp
 have hrow : bytesK.C ((w.alloc (.cells lits 5)).alloc (.cells [.slice A0 p0.length c0, .slice A1 n1 c1, .slice A2 p2.length c2].toArray 27)) (some ⟨(w.alloc (.cells lits 5)).heap.size, 0, none⟩) 3 [p0, p1, p2] := by
  refine row_lit bytesK rfl _ _ [.slice A0 p0.length c0, .slice A1 n1 c1, .slice A2 p2.length c2] [p0, p1, p2] rfl (by simp) ?_
  intro j v p hv hp
  match j, hv, hp with
  | 0, hv, hp => obtain rfl := Option.some.inj hv; obtain rfl := Option.some.inj hp; exact K_bytes (Kd.C_alloc h0 _) k0
  | 1, hv, hp => obtain rfl := Option.some.inj hv; obtain rfl := Option.some.inj hp; subst hn; exact K_bytes h1 k1
  | 2, hv, hp => obtain rfl := Option.some.inj hv; obtain rfl := Option.some.inj hp; exact K_bytes (Kd.C_alloc h2 _) k2
  | j + 3, hv, hp => cases hv
 have hB : Below w.heap.size w ((w.alloc (.cells lits 5)).alloc (.cells #[.slice A0 p0.length c0, .slice A1 n1 c1, .slice A2 p2.length c2] 27)).drew :=
  (((Below.refl _ _).alloc (Nat.le_refl _) _).alloc (by simp) _).drew
 rw [hz] at hrow
 refine (sum_calls _ 3 [p0, p1, p2] _ (ht.below hB) (Kd.C_drew hrow)).mono ?_
 rintro e w' ⟨rfl, rfl⟩
 exact ⟨rfl, hB⟩
theorem low_calls (A : Option Addr) (c : Nat) (l : List UInt8) (w : World) (ht : Table w) (hb : byte.C w A l.length l) (hc : l.length ≤ c) (hl : 12 ≤ l.length) :
  Calls Tryd.prog 56 #[.slice A l.length c] w fun e w' => e = .returned (.int .u32 (sumL (noSum l) : Nat)) ∧ Below w.heap.size w w' := by
 have hlen := hb.2.1
 obtain ⟨s1, b1, c1⟩ := take_bytes hb hc 8 8 rfl (by omega)
 obtain ⟨A2, s2, b2, c2⟩ := drop_bytes hb hc 12 12 rfl hl
 have hB : noSum l = [l.take 8, [0, 0, 0, 0], l.drop 12].flatten := by simp [noSum]
 rw [hB]
 clear hB
 generalize l.take 8 = l1 at *
 generalize l.drop 12 = l2 at *
 have b0 : byte.C (w.alloc (.cells #[.int .u8 0, .int .u8 0, .int .u8 0, .int .u8 0] 5)) (some ⟨w.heap.size, 0, none⟩) 4 [0, 0, 0, 0] :=
  row_lit byte rfl w 5 [.int .u8 0, .int .u8 0, .int .u8 0, .int .u8 0] [0, 0, 0, 0] rfl (by decide) (lit_byte _ _ (by rfl))
 have h := call3 ht (lits := #[.int .u8 0, .int .u8 0, .int .u8 0, .int .u8 0]) b1 c1 b0 (Nat.le_refl 4) b2 c2
 clear ht hb b1 b2 b0
 generalize sumL [l1, [0, 0, 0, 0], l2].flatten = s at *
 go_enter Tryd.func56, Tryd.ntmps56
 go_wp2
 go_region_with (go_at_call 78; refine h.mono ?_; rintro e w' ⟨rfl, hB⟩)
 all_goals
  go_wp2
  go_ret
  exact ⟨rfl, hB⟩
def PutDone (l : List UInt8) (w : World) (e : Ending) (w' : World) : Prop := ∃ v, e = .returned (.tuple #[v, .int .i64 0]) ∧ byte.R 5 w' w.heap.size (fun _ => True) v l ∧ Below w.heap.size w w'
theorem ofNat_shr (s k : Nat) : ((UInt8.ofNat (s >>> k)).toNat : Int) = (s : Int) / (2 ^ k : Nat) % 256 := by
 rw [UInt8.toNat_ofNat', Nat.shiftRight_eq_div_pow]
 omega
theorem put_brief (A : Option Addr) (c : Nat) (l : List UInt8) (w : World) (hl : l.length < 12) :
  Calls Tryd.prog 30 #[.slice A l.length c] w fun e w' => e = .returned (.tuple #[.slice none 0 0, .int .i64 20]) ∧ w = w' := by
 go_enter Tryd.func30, Tryd.ntmps30
 go_wp2
 go_ret2
 exact ⟨rfl, rfl⟩
theorem put_calls (A : Option Addr) (c : Nat) (l : List UInt8) (w : World) (ht : Table w) (hb : byte.C w A l.length l) (hc : l.length ≤ c) (hm : l.length ≤ 140737488355328) (hl : 12 ≤ l.length) :
  Calls Tryd.prog 30 #[.slice A l.length c] w (PutDone (puts l (sumL (noSum l)) 4) w) := by
 have hcl := clone_calls A c l w hb hm
 have hlow := fun (w1 : World) (h : Below w.heap.size w w1) => low_calls A c l w1 (ht.below h) (Kd.C_below hb h) hc hl
 have hs : sumL (noSum l) < 4294967296 := sumL_lt _
 generalize sumL (noSum l) = s at *
 go_enter Tryd.func30, Tryd.ntmps30
 go_wp2_with fail
 refine hcl.mono ?_
 rintro e w1 ⟨v, rfl, hR, hB⟩
 obtain ⟨g, cap, rfl, hg, hg1⟩ := (Kd.R_own hR).elim fun _ h => h.form (by omega)
 clear hcl hb ht
 go_wp2_with fail
 refine (hlow w1 hB).mono ?_
 rintro e w2 ⟨rfl, hB2⟩
 have hR2 := Kd.R_below hR hB2
 have hB3 : Below w.heap.size w w2 := below_then hB hB.size hB2
 clear hlow hR hB hB2 hg1
 go_wp2
 go_loopw [14] (fun v14 w' => ∃ k : Nat, k ≤ 4 ∧ v14 = .int .i64 k ∧ byte.R 5 w' w.heap.size (fun _ => True) (.slice (some ⟨g, 0, none⟩) l.length cap) (puts l s k) ∧ Below w.heap.size w w') (fun v14 _ => 4 - (intOf v14).toNat)
 case atStart => exact ⟨0, by omega, rfl, hR2, hB3⟩
 case round =>
  obtain ⟨k, hk, rfl, hR, hB⟩ := hrel
  have hpl := puts_length l s k
  rcases (by omega : k = 0 ∨ k = 1 ∨ k = 2 ∨ k = 3 ∨ k = 4) with rfl | rfl | rfl | rfl | rfl
  ·obtain ⟨hcl, hfr⟩ := byte_cell hR 8 (by omega)
   go_wp2
   go_roundw
   case rel => exact ⟨1, by omega, rfl, byte_put hR 8 _ _ (by rw [show (8 * 0) = 0 from rfl, ofNat_shr, show ((2 ^ 0 : Nat) : Int) = 1 from rfl]; omega), hB.setCell hg _⟩
   case measure => simp [intOf]
  ·obtain ⟨hcl, hfr⟩ := byte_cell hR 9 (by omega)
   go_wp2
   go_roundw
   case rel => exact ⟨2, by omega, rfl, byte_put hR 9 _ _ (by rw [show (8 * 1) = 8 from rfl, ofNat_shr, show ((2 ^ 8 : Nat) : Int) = 256 from rfl]), hB.setCell hg _⟩
   case measure => simp [intOf]
  ·obtain ⟨hcl, hfr⟩ := byte_cell hR 10 (by omega)
   go_wp2
   go_roundw
   case rel => exact ⟨3, by omega, rfl, byte_put hR 10 _ _ (by rw [show (8 * 2) = 16 from rfl, ofNat_shr, show ((2 ^ 16 : Nat) : Int) = 65536 from rfl]), hB.setCell hg _⟩
   case measure => simp [intOf]
  ·obtain ⟨hcl, hfr⟩ := byte_cell hR 11 (by omega)
   go_wp2
   go_roundw
   case rel => exact ⟨4, by omega, rfl, byte_put hR 11 _ _ (by rw [show (8 * 3) = 24 from rfl, ofNat_shr, show ((2 ^ 24 : Nat) : Int) = 16777216 from rfl]; omega), hB.setCell hg _⟩
   case measure => simp [intOf]
  ·go_wp2
   go_ret2
   exact ⟨_, rfl, hR, hB⟩
theorem check_calls (A : Option Addr) (c : Nat) (l : List UInt8) (w : World) (ht : Table w) (hb : byte.C w A l.length l) (hc : l.length ≤ c) (hm : l.length ≤ 140737488355328) :
  Calls Tryd.prog 79 #[.slice A l.length c] w fun e w' => e = .returned (.int .i64 (checkL l)) ∧ Below w.heap.size w w' := by
 by_cases hl : l.length < 12
 ·have h := put_brief A c l w hl
  have hL : checkL l = 20 := if_pos hl
  rw [hL]
  go_enter Tryd.func79, Tryd.ntmps79
  go_wp2_with fail
  refine h.mono ?_
  rintro e w' ⟨rfl, rfl⟩
  go_wp2
  go_ret
  exact ⟨rfl, Below.refl _ _⟩
 ·have h := put_calls A c l w ht hb hc hm (by omega)
  have hL : checkL l = if putL l = l then 0 else 21 := if_neg hl
  rw [hL]
  have hlen := puts_length l (sumL (noSum l)) 4
  have hP : puts l (sumL (noSum l)) 4 = putL l := rfl
  rw [hP] at h hlen
  generalize putL l = q at *
  by_cases hq : q = l
  ·rw [if_pos hq]
   have HQ := Lh hq
   have HL := Lh hlen
   clear hq hlen hP hL
   go_enter Tryd.func79, Tryd.ntmps79
   go_wp2_with fail
   refine h.mono ?_
   rintro e w1 ⟨v, rfl, hR, hB⟩
   obtain ⟨A1, c1, rfl, hle, hC⟩ := Kd.R_reads hR
   have he := equal_calls A1 A c1 c q l w1 hC (Kd.C_below hb hB)
   rw [decide_eq_true HQ.out] at he
   clear h hR hb
   go_wp2_with fail
   refine he.mono ?_
   rintro e w' ⟨rfl, hD⟩
   go_wp2
   go_ret
   exact ⟨rfl, below_then hB hB.size hD.below⟩
  ·rw [if_neg hq]
   have HQ := Lh hq
   have HL := Lh hlen
   clear hq hlen hP hL
   go_enter Tryd.func79, Tryd.ntmps79
   go_wp2_with fail
   refine h.mono ?_
   rintro e w1 ⟨v, rfl, hR, hB⟩
   obtain ⟨A1, c1, rfl, hle, hC⟩ := Kd.R_reads hR
   have he := equal_calls A1 A c1 c q l w1 hC (Kd.C_below hb hB)
   rw [decide_eq_false HQ.out] at he
   clear h hR hb
   go_wp2_with fail
   refine he.mono ?_
   rintro e w' ⟨rfl, hD⟩
   go_wp2
   go_ret
   exact ⟨rfl, below_then hB hB.size hD.below⟩
end Go.Proofs.YtdlamomabonkjaaDoor.Crc
end
section
namespace Go.Proofs.YtdlamomabonkjaaDoor.Pk
open Go.RowKit YtdlamomabonkjaaDoorW.PrintWords YtdlamomabonkjaaDoorW.PrintLast Base PCh ParDec ParEnc Ch Crc CrcMath
structure PX (w1 : World) (ys : List Int) (v : Value) (W : World) : Prop where
 bl : Below w1.heap.size w1 W
 r : (Kd.int .u8).R 5 W w1.heap.size (fun _ => True) v ys
theorem PX.nil {w1 W : World} (h : Below w1.heap.size w1 W) : PX w1 [] (.slice none 0 0) W := ⟨h, Kd.R_nil _ _ _ _ _⟩
theorem pu32 (n : Int) : IntKind.u32.wrap n = n % 4294967296 := by simp [IntKind.wrap, IntKind.bits, IntKind.signed]
theorem two32 (n : Int) : twoL [IntKind.u32.wrap n] = twoL [n] := by
 rw [pu32]
 simp only [twoL, List.append_nil, List.cons.injEq, and_true]
 omega
theorem put_two (l : List Int) (n : Int) (hl : l.length ≤ 140737488355000) : packet_put.f 3 l n 2 = some (l ++ twoL [n]) := by
 have e1 : shr .u32 n (wrap64 (8 * 1)) % 256 = n / 256 % 256 := by simp [shr, wrap64, IntKind.wrap, IntKind.bits, IntKind.signed]
 have e0 : shr .u32 n (wrap64 (8 * 0)) % 256 = n % 256 := by simp [shr, wrap64, IntKind.wrap, IntKind.bits, IntKind.signed]
 unfold packet_put.f
 rw [show wrap64 (2 - 1) = 1 by unfold wrap64; omega, packet_put.l0, if_pos (by decide), if_pos (by unfold wrap64; omega), if_pos (by omega), e1, show wrap64 (1 - 1) = 0 by unfold wrap64; omega, packet_put.l0, if_pos (by decide), if_pos (by unfold wrap64; omega), if_pos (by rw [List.length_append]; simp; omega), e0, show wrap64 (0 - 1) = -1 by unfold wrap64; omega, packet_put.l0, if_neg (by decide)]
 simp [twoL]
theorem put_four (l : List Int) (n : Int) (hl : l.length ≤ 140737488355000) : packet_put.f 5 l n 4 = some (l ++ fourL [n]) := by
 have e3 : shr .u32 n (wrap64 (8 * 3)) % 256 = n / 16777216 % 256 := by simp [shr, wrap64, IntKind.wrap, IntKind.bits, IntKind.signed]
 have e2 : shr .u32 n (wrap64 (8 * 2)) % 256 = n / 65536 % 256 := by simp [shr, wrap64, IntKind.wrap, IntKind.bits, IntKind.signed]
 have e1 : shr .u32 n (wrap64 (8 * 1)) % 256 = n / 256 % 256 := by simp [shr, wrap64, IntKind.wrap, IntKind.bits, IntKind.signed]
 have e0 : shr .u32 n (wrap64 (8 * 0)) % 256 = n % 256 := by simp [shr, wrap64, IntKind.wrap, IntKind.bits, IntKind.signed]
 unfold packet_put.f
 rw [show wrap64 (4 - 1) = 3 by unfold wrap64; omega, packet_put.l0, if_pos (by decide), if_pos (by unfold wrap64; omega), if_pos (by omega), e3, show wrap64 (3 - 1) = 2 by unfold wrap64; omega, packet_put.l0, if_pos (by decide), if_pos (by unfold wrap64; omega), if_pos (by rw [List.length_append]; simp; omega), e2, show wrap64 (2 - 1) = 1 by unfold wrap64; omega, packet_put.l0, if_pos (by decide), if_pos (by unfold wrap64; omega), if_pos (by simp only [List.length_append, List.length_cons, List.length_nil]; omega), e1, show wrap64 (1 - 1) = 0 by unfold wrap64; omega, packet_put.l0, if_pos (by decide), if_pos (by unfold wrap64; omega), if_pos (by simp only [List.length_append, List.length_cons, List.length_nil]; omega), e0, show wrap64 (0 - 1) = -1 by unfold wrap64; omega, packet_put.l0, if_neg (by decide)]
 simp [fourL]
theorem PX.put {w1 W : World} {ys zs : List Int} {v : Value} (h : PX w1 ys v W) (k : Nat) (n m : Int) (hf : packet_put.f k ys n m = some zs) :
  Calls Tryd.prog 29 #[v, .int .u32 n, .int .i64 m] W fun e w' => ∃ v', e = .returned v' ∧ PX w1 zs v' w' :=
 (packet_put.calls k (fun _ => True) v ys n m zs w1 W h.bl h.r hf).mono fun e w' ⟨v', h1, h2, h3, _⟩ => ⟨v', h1, h3, Kd.R_mono h2 (fun _ _ => trivial)⟩
theorem PX.two {w1 W : World} {ys : List Int} {v : Value} (h : PX w1 ys v W) (n : Int) (t : List Int) (ht : twoL [n] = t) (hl : ys.length ≤ 140737488355000) :
  Calls Tryd.prog 29 #[v, .int .u32 n, .int .i64 2] W fun e w' => ∃ v', e = .returned v' ∧ PX w1 (ys ++ t) v' w' := by
 subst ht
 exact h.put 3 n 2 (put_two ys n hl)
theorem PX.four {w1 W : World} {ys : List Int} {v : Value} (h : PX w1 ys v W) (n : Int) (hl : ys.length ≤ 140737488355000) :
  Calls Tryd.prog 29 #[v, .int .u32 n, .int .i64 4] W fun e w' => ∃ v', e = .returned v' ∧ PX w1 (ys ++ fourL [n]) v' w' := h.put 5 n 4 (put_four ys n hl)
def headL (f t q : Int) : List Int := twoL [f] ++ twoL [t] ++ fourL [q] ++ fourL [0]
theorem headL_length (f t q : Int) : (headL f t q).length = 12 := rfl
theorem head_in (f t q : Int) : ∀ b ∈ headL f t q, inB b := by
 intro b hb
 have h : ∀ x ∈ twoL [f], inB x := fun x hx => by simp [twoL] at hx; rcases hx with h | h <;> (subst h; unfold inB; omega)
 have h2 : ∀ x ∈ twoL [t], inB x := fun x hx => by simp [twoL] at hx; rcases hx with h | h <;> (subst h; unfold inB; omega)
 have h3 : ∀ n, ∀ x ∈ fourL [n], inB x := fun n x hx => by simp [fourL] at hx; rcases hx with h | h | h | h <;> (subst h; unfold inB; omega)
 unfold headL at hb
 simp only [List.mem_append] at hb
 rcases hb with ((hb | hb) | hb) | hb
 ·exact h b hb
 ·exact h2 b hb
 ·exact h3 q b hb
 ·exact h3 0 b hb
noncomputable def pencD (f t q : Int) (l : List Chk) : List UInt8 × Int :=
 if (decide (0 < f) && decide (0 < t)) = false then ([], 72) else if l.length = 0 then ([], 73) else if apartB l = true then ([], 74)
 else if (encD l).2 = 0 then (if 65536 < 12 + (encD l).1.length then ([], 2) else (putL (bytesOf (headL f t q ++ (encD l).1)), 0)) else ([], (encD l).2)
theorem ports_ok (f t q : Int) (l : List Chk) : packet_ports.f f t q l = some (decide (0 < f) && decide (0 < t)) := by
 unfold packet_ports.f
 by_cases h : f > 0
 ·rw [if_pos h, decide_eq_true (show 0 < f from h), Bool.true_and]
 ·rw [if_neg h, decide_eq_false (show ¬ 0 < f from h), Bool.false_and]
def pkeT12 : Bool × List (List Nat × List Nat) := (true, [([], []), ([0], [0]), ([1], [1]), ([2], [2]), ([], []), ([4], [4]), ([5], [5]), ([3, 6, 3], [3, 6]), ([], []), ([8], [8]), ([7, 9, 7], [7, 9]), ([10, 10, 0, 1, 2, 3, 4, 5, 6, 7, 8, 9, 10], [10])])
def pkeB12 : List Nat := [0, 1, 3, 7, 0, 16, 48, 127, 0, 256, 1023, 2047]
theorem pketab12 : Go.Proofs.YtdlamomabonkjaaDoorW.PrintLast.rtab .any (Go.Proofs.YtdlamomabonkjaaDoorW.PrintLast.opsOf Tryd.f10 12) = pkeT12 := by kernel_rfl
theorem pkebits12 : Go.Proofs.YtdlamomabonkjaaDoorW.PrintLast.waitsOk pkeT12.2 pkeB12 = true := by kernel_rfl
set_option maxHeartbeats 4000000 in
theorem pencode_calls (w : World) (f t q : Int) (A : Option Addr) (c : Nat) (l : List Chk) (hT : Table w) (hl : Kd.C k41 w A l.length l) (hc : l.length ≤ c) (h13 : ∀ x ∈ l, x.f13.length ≤ 140737488355232) (hin : ∀ b ∈ (encD l).1, inB b) (hen : (encD l).2 = 0 → (encD l).1.length ≤ 65536) :
  Calls Tryd.prog 10 #[.agg #[.int .u16 f, .int .u16 t, .int .u32 q, .slice A l.length c]] w fun e w' => ∃ v, e = .returned (.tuple #[v, .int .i64 (pencD f t q l).2]) ∧ byte.R 5 w' w.heap.size (fun _ => True) v (pencD f t q l).1 ∧ Below w.heap.size w w' := by
 have HP := Lh (fun (W : World) (hW : Below w.heap.size w W) => packet_ports.calls f t q A c l _ W (Kd.C_below hl hW) hc (ports_ok f t q l))
 have HA := Lh (fun (W : World) (hW : Below w.heap.size w W) => apart_calls W A c l (Kd.C_below hl hW))
 have HE := Lh (fun (W : World) (hW : Below w.heap.size w W) => encode_any W A c l (Kd.C_below hl hW) h13)
 have HT := Lh (fun (W : World) (hW : Below w.heap.size w W) => hT.below hW)
 obtain ⟨D, hD⟩ : ∃ D, pencD f t q l = D := ⟨_, rfl⟩
 rw [hD]
 unfold pencD at hD
 obtain ⟨g, hg⟩ : ∃ g, w.heap.size = g := ⟨_, rfl⟩
 have HG := Lh hg
 generalize (decide (0 < f) && decide (0 < t)) = pb at *
 generalize apartB l = ab at *
 have HIN := Lh hin
 have HEN := Lh hen
 clear hin hen
 generalize (encD l).2 = ec at *
 generalize (encD l).1 = eb at *
 have hln : ((l.length : Int) = 0) = (l.length = 0) := by simp
 have HLN := Lh hln
 clear hl hc h13 hT hln hg
 have HD := Lh hD
 clear hD
 go_enter Tryd.func10, Tryd.ntmps10
 go_upto_region 1 with (fail)
 refine wp_gen (fun W => Below w.heap.size w W ∧ W.heap[w.heap.size]? = some (.cells #[.int .u16 f, .int .u16 t, .int .u32 q, .slice A l.length c] 26 (0, 0))) ⟨below_alloc (Below.refl _ _) _, blk_new w _⟩ ?_
 rintro W0 ⟨hB0, hb0⟩
 have HB0 := Lh hB0
 have k0 : W0.cell? ⟨w.heap.size, 0, none⟩ = some (.int .u16 f) := blk_cell hb0 0
 have k1 : W0.cell? ⟨w.heap.size, 1, none⟩ = some (.int .u16 t) := blk_cell hb0 1
 have k2 : W0.cell? ⟨w.heap.size, 2, none⟩ = some (.int .u32 q) := blk_cell hb0 2
 have k3 : W0.cell? ⟨w.heap.size, 3, none⟩ = some (.slice A l.length c) := blk_cell hb0 3
 have HBK := Lh (fun (W : World) (h : Below W0.heap.size W0 W) => blk_below hb0 h)
 clear hb0 hB0
 go_wp2_with fail
 refine (HP.out W0 HB0.out).mono ?_
 rintro e W1 ⟨rfl, hB1⟩
 have H1 := Lh hB1
 clear hB1 HP k0 k1 k2 k3
 cases pb with
 | false =>
  have hd := HD.out
  rw [if_pos rfl] at hd
  have HD1 := Lh hd
  clear hd HD HA HE HEN HIN HT
  go_wp2
  go_ret2
  rw [← HD1.out]
  exact ⟨_, rfl, Kd.R_nil _ _ _ _ _, below_then HB0.out HB0.out.size H1.out⟩
 | true =>
  have hd := HD.out
  rw [if_neg (by decide)] at hd
  clear HD
  have k3 : W1.cell? ⟨w.heap.size, 3, none⟩ = some (.slice A l.length c) := blk_cell (HBK.out _ H1.out) 3
  by_cases hl0 : l.length = 0
  ·rw [if_pos hl0] at hd
   have hz : (((l.length : Nat) : Int) == 0) = true := by simp [hl0]
   have HD1 := Lh hd
   clear hd HA HE HEN HIN HT hl0
   go_wp2
   go_ret2
   rw [← HD1.out]
   exact ⟨_, rfl, Kd.R_nil _ _ _ _ _, below_then HB0.out HB0.out.size H1.out⟩
  have hz : (((l.length : Nat) : Int) == 0) = false := by simp [hl0]
  rw [if_neg hl0] at hd
  have HD := Lh hd
  clear hd hl0
  go_wp2_with fail
  refine (HA.out W1 (below_then HB0.out HB0.out.size H1.out)).mono ?_
  rintro e W2 ⟨rfl, hB2⟩
  have H2 := Lh (below_then H1.out H1.out.size hB2)
  clear hB2 HA k3 H1
  have k3 : W2.cell? ⟨w.heap.size, 3, none⟩ = some (.slice A l.length c) := blk_cell (HBK.out _ H2.out) 3
  cases ab with
  | true =>
   have hd := HD.out
   rw [if_pos rfl] at hd
   have HD1 := Lh hd
   clear hd HD HE HEN HIN HT
   go_wp2
   go_ret2
   rw [← HD1.out]
   exact ⟨_, rfl, Kd.R_nil _ _ _ _ _, below_then HB0.out HB0.out.size H2.out⟩
  | false =>
   have hd := HD.out
   rw [if_neg (by decide)] at hd
   clear HD
   have HD := Lh hd
   clear hd
   go_wp2_with fail
   refine (HE.out W2 (below_then HB0.out HB0.out.size H2.out)).mono ?_
   rintro e w2 ⟨v, rfl, hR, hB2⟩
   obtain ⟨A1, c1, rfl, hle, hC1⟩ := Kd.R_reads hR
   have H3 := Lh (below_then H2.out H2.out.size hB2)
   have HBW := Lh (below_then HB0.out HB0.out.size H3.out)
   have HC1 := Lh hC1
   have HLE := Lh hle
   clear hB2 HE k3 H2 hR hC1 hle
   by_cases hec : ec = 0
   ·subst hec
    have hd := HD.out
    rw [if_pos rfl] at hd
    clear HD
    have HN1 := Lh (HEN.out rfl)
    have hw : wrap64 (12 + ((eb.length : Nat) : Int)) = ((12 + eb.length : Nat) : Int) := by have := HN1.out; unfold wrap64; omega
    by_cases hl6 : 65536 < 12 + eb.length
    ·rw [if_pos hl6] at hd
     have hz2 : decide ((65536 : Int) < ((12 + eb.length : Nat) : Int)) = true := decide_eq_true (by omega)
     have HD1 := Lh hd
     clear hd HEN HIN HT hl6
     generalize ((12 + eb.length : Nat) : Int) = n12 at *
     generalize eb.length = ebl at *
     go_wp2
     go_ret2
     rw [← HD1.out]
     exact ⟨_, rfl, Kd.R_nil _ _ _ _ _, HBW.out⟩
    ·rw [if_neg hl6] at hd
     have hz2 : decide ((65536 : Int) < ((12 + eb.length : Nat) : Int)) = false := decide_eq_false (by omega)
     have HD1 := Lh hd
     clear hd
     generalize ((12 + eb.length : Nat) : Int) = n12 at *
     go_upto_region 12 with (fail)
     clear hw hz2 n12
     have HBG := Lh (HBK.out _ H3.out)
     rw [HG.out] at HBG ⊢
     clear HBK
     refine grow_region (B := pkeB12) [0, 1, 2, 3, 4, 5, 6, 7, 8, 9, 10, 11] [3, 7, 10, 11] (fun s v W => match s with | 0 => Below w2.heap.size w2 W | 1 => PX w2 ([] ++ twoL [f]) v W | 2 => PX w2 ([] ++ twoL [f] ++ twoL [t]) v W | _ => PX w2 ([] ++ twoL [f] ++ twoL [t] ++ fourL [q]) v W) (.slice none 0 0) (fun vs => [(0, 33, .pointer (some ⟨g, 0, none⟩)), (1, 34, .int .u16 f), (2, 35, .int .u32 (IntKind.u32.wrap f)), (3, 36, vs 1), (4, 37, .pointer (some ⟨g, 1, none⟩)), (5, 38, .int .u16 t), (6, 39, .int .u32 (IntKind.u32.wrap t)), (7, 40, vs 2), (8, 41, .pointer (some ⟨g, 2, none⟩)), (9, 42, .int .u32 q), (10, 43, vs 3), (11, 6, vs 4)]) (by kernel_rfl) rfl (l := #[false, false, false, false, false, false, false, false, false, false, false, false]) rfl pketab12 pkebits12 (by kernel_rfl) (by kernel_rfl) (fun _ => rfl) rfl ?_ ?_ ?_
     ·exact pw_below_drewN (Below.refl _ _) 1
     ·exact steps_cons (gr_op (p := 1) (fun w => Below w2.heap.size w2 w) 0 0 rfl rfl rfl (fun _ => rfl) (fun _ => rfl) rfl (u := .pointer (some ⟨g, 0, none⟩)) (rd_off (p := 1) (fun _ => rfl) rfl) (fun s x w h => by match s, h with | 0, h => exact h | 1, h => exact h.bl | 2, h => exact h.bl | _ + 3, h => exact h.bl) (fun a w hJ e => by go_simp)) (steps_cons (gr_op (p := 33) (fun w => Below w2.heap.size w2 w) 1 1 rfl rfl rfl (fun _ => rfl) (fun _ => rfl) rfl (u := .pointer (some ⟨g, 0, none⟩)) (rd_on (p := 33) 0 0 (fun _ => rfl) (fun _ => rfl) (by kernel_rfl) rfl) (fun s x w h => by match s, h with | 0, h => exact h | 1, h => exact h.bl | 2, h => exact h.bl | _ + 3, h => exact h.bl) (fun a w hJ e => by have hs : w.cell? ⟨g, 0, none⟩ = some (.int .u16 f) := blk_cell (blk_below HBG.out hJ) 0; go_simp)) (steps_cons (gr_op (p := 34) (fun w => Below w2.heap.size w2 w) 2 2 rfl rfl rfl (fun _ => rfl) (fun _ => rfl) rfl (u := .int .u16 f) (rd_on (p := 34) 1 1 (fun _ => rfl) (fun _ => rfl) (by kernel_rfl) rfl) (fun s x w h => by match s, h with | 0, h => exact h | 1, h => exact h.bl | 2, h => exact h.bl | _ + 3, h => exact h.bl) (fun a w hJ e => by go_simp)) (steps_cons (gr_callc (vals := [.slice none 0 0, .int .u32 (IntKind.u32.wrap f), .int .i64 2]) 3 3 0 rfl rfl rfl rfl (fun _ => rfl) (fun _ _ => rfl) (fun _ => rfl) rfl (by kernel_rfl) Tryd.func29 (by kernel_rfl) rfl rfl (ar_c (.slice none 0 0) (ar_t (rd_on (p := 35) 2 2 (fun _ => rfl) (fun _ => rfl) (by kernel_rfl) rfl) (ar_c (.int .i64 2) (ar_n)))) (fun u w h => by have h := (PX.nil h).two (IntKind.u32.wrap f) _ (two32 f) (by simp); exact h)) (steps_cons (gr_op (p := 1) (fun w => Below w2.heap.size w2 w) 4 4 rfl rfl rfl (fun _ => rfl) (fun _ => rfl) rfl (u := .pointer (some ⟨g, 0, none⟩)) (rd_off (p := 1) (fun _ => rfl) rfl) (fun s x w h => by match s, h with | 0, h => exact h | 1, h => exact h.bl | 2, h => exact h.bl | _ + 3, h => exact h.bl) (fun a w hJ e => by go_simp)) (steps_cons (gr_op (p := 37) (fun w => Below w2.heap.size w2 w) 5 5 rfl rfl rfl (fun _ => rfl) (fun _ => rfl) rfl (u := .pointer (some ⟨g, 1, none⟩)) (rd_on (p := 37) 4 4 (fun _ => rfl) (fun _ => rfl) (by kernel_rfl) rfl) (fun s x w h => by match s, h with | 0, h => exact h | 1, h => exact h.bl | 2, h => exact h.bl | _ + 3, h => exact h.bl) (fun a w hJ e => by have hs : w.cell? ⟨g, 1, none⟩ = some (.int .u16 t) := blk_cell (blk_below HBG.out hJ) 1; go_simp)) (steps_cons (gr_op (p := 38) (fun w => Below w2.heap.size w2 w) 6 6 rfl rfl rfl (fun _ => rfl) (fun _ => rfl) rfl (u := .int .u16 t) (rd_on (p := 38) 5 5 (fun _ => rfl) (fun _ => rfl) (by kernel_rfl) rfl) (fun s x w h => by match s, h with | 0, h => exact h | 1, h => exact h.bl | 2, h => exact h.bl | _ + 3, h => exact h.bl) (fun a w hJ e => by go_simp)) (steps_cons (gr_call (vals := [.int .u32 (IntKind.u32.wrap t), .int .i64 2]) 7 7 1 rfl rfl rfl rfl (fun _ => rfl) (fun _ _ => rfl) (fun _ => rfl) rfl (by kernel_rfl) Tryd.func29 (by kernel_rfl) rfl rfl rfl (fv := fun vs => vs 1) (rd_on (p := 36) 3 3 (fun _ => rfl) (fun _ => rfl) (by kernel_rfl) rfl) (fun _ _ => rfl) (ar_t (rd_on (p := 39) 6 6 (fun _ => rfl) (fun _ => rfl) (by kernel_rfl) rfl) (ar_c (.int .i64 2) (ar_n))) (fun u w h => h.two (IntKind.u32.wrap t) _ (two32 t) (by simp [twoL_length]))) (steps_cons (gr_op (p := 1) (fun w => Below w2.heap.size w2 w) 8 8 rfl rfl rfl (fun _ => rfl) (fun _ => rfl) rfl (u := .pointer (some ⟨g, 0, none⟩)) (rd_off (p := 1) (fun _ => rfl) rfl) (fun s x w h => by match s, h with | 0, h => exact h | 1, h => exact h.bl | 2, h => exact h.bl | _ + 3, h => exact h.bl) (fun a w hJ e => by go_simp)) (steps_cons (gr_op (p := 41) (fun w => Below w2.heap.size w2 w) 9 9 rfl rfl rfl (fun _ => rfl) (fun _ => rfl) rfl (u := .pointer (some ⟨g, 2, none⟩)) (rd_on (p := 41) 8 8 (fun _ => rfl) (fun _ => rfl) (by kernel_rfl) rfl) (fun s x w h => by match s, h with | 0, h => exact h | 1, h => exact h.bl | 2, h => exact h.bl | _ + 3, h => exact h.bl) (fun a w hJ e => by have hs : w.cell? ⟨g, 2, none⟩ = some (.int .u32 q) := blk_cell (blk_below HBG.out hJ) 2; go_simp)) (steps_cons (gr_call (vals := [.int .u32 q, .int .i64 4]) 10 10 2 rfl rfl rfl rfl (fun _ => rfl) (fun _ _ => rfl) (fun _ => rfl) rfl (by kernel_rfl) Tryd.func29 (by kernel_rfl) rfl rfl rfl (fv := fun vs => vs 2) (rd_on (p := 40) 7 7 (fun _ => rfl) (fun _ => rfl) (by kernel_rfl) rfl) (fun _ _ => rfl) (ar_t (rd_on (p := 42) 9 9 (fun _ => rfl) (fun _ => rfl) (by kernel_rfl) rfl) (ar_c (.int .i64 4) (ar_n))) (fun u w h => h.four q (by simp [twoL_length]))) (steps_cons (gr_last 11 11 3 rfl rfl rfl rfl (fun _ => rfl) (fun _ _ => rfl) (fun _ => rfl) rfl (by kernel_rfl) (fv := fun vs => vs 3) (rd_on (p := 43) 10 10 (fun _ => rfl) (fun _ => rfl) (by kernel_rfl) rfl) (fun _ _ => rfl) (fun a w u e => by go_simp) (fun _ _ h => h)) steps_nil)))))))))))
     intro vs1 W4 hX9
     have HX := Lh hX9
     clear hX9
     simp only [putSel, if_true, Act.put, List.setIfInBounds_toArray, List.set_cons_zero, List.set_cons_succ]
     obtain ⟨u1_, hu⟩ : ∃ u, vs1 4 = u := ⟨_, rfl⟩
     replace HX := Lh (show PX w2 ([] ++ twoL [f] ++ twoL [t] ++ fourL [q]) (vs1 4) W4 from HX.out)
     rw [hu] at HX ⊢
     clear hu
     go_wp2_with fail
     have HF := HX.out.four 0 (by simp [twoL_length, fourL_length])
     rw [show ([] ++ twoL [f] ++ twoL [t] ++ fourL [q] ++ fourL [0] : List Int) = headL f t q from rfl] at HF
     have HYL := Lh (headL_length f t q)
     have HYI := Lh (head_in f t q)
     generalize headL f t q = ys at *
     refine HF.mono ?_
     clear HF HX
     rintro e W4 ⟨v4, rfl, hX9⟩
     obtain ⟨Au, cu, hu⟩ := Kd.R_slice hX9.r
     subst hu
     have HX4 := Lh hX9
     clear hX9
     go_wp2_with (at_builtin; go_must (refine Kd.R_append_row (Value.int .u8) (0 : Int) (w0 := w2) (W := W4) w2.heap.size rfl _ _ 27 5 _ 1 rfl Tryd.underlying27 info_u8 rfl (by decide) (.slice Au ys.length cu) ys eb A1 _ c1 (fun _ => True) rfl rfl (fun _ _ => trivial) HX4.out.r (Kd.C_below HC1.out HX4.out.bl) HX4.out.bl HX4.out.bl.size (by have := HYL.out; have := HN1.out; omega) ?_); (intro v1 w1 hR1 hB1 hG1 _; have HR1 := Lh hR1; have HB1 := Lh hB1; clear hR1 hB1 hG1; refine RowKit.Hid.out ?_))
     refine Lh ?_
     obtain ⟨A5, c5, hv5, hle5, hC5⟩ := Kd.R_reads HR1.out
     subst hv5
     have hin5 : ∀ b ∈ ys ++ eb, inB b := fun b hb => by
      rcases List.mem_append.1 hb with h | h
      ·exact HYI.out b h
      ·exact HIN.out b h
     have hlen : (ys ++ eb).length = 12 + eb.length := by rw [List.length_append, HYL.out]
     obtain ⟨bs, hbs⟩ : ∃ bs, bytesOf (ys ++ eb) = bs := ⟨_, rfl⟩
     have hbi : ints bs = ys ++ eb := by rw [← hbs]; exact ints_bytesOf _ hin5
     have hbl : (ys ++ eb).length = bs.length := by rw [← hbi, ints_length]
     rw [hbs] at HD1
     have HC5 := byte_of_int (by rw [hbi]; exact hC5 : (Kd.int .u8).C w1 A5 (ints bs).length (ints bs))
     have HPUT := Lh (Crc.put_calls A5 c5 bs w1 (HT.out w1 (below_then HBW.out HBW.out.size HB1.out)) HC5 (by rw [← hbl]; exact hle5) (by have := HN1.out; omega) (by omega))
     unfold PutDone at HPUT
     rw [← putL_eq] at HPUT
     have HB5 := Lh (below_then HBW.out HBW.out.size HB1.out)
     rw [hbl]
     clear hbl hbi hin5 hlen HC5 hC5 hle5 hbs HR1 HB1 HX4 HIN HEN HT HC1
     generalize bs.length = bl at *
     generalize putL bs = pl at *
     go_wp2_with fail
     refine HPUT.out.mono ?_
     rintro e W6 ⟨v6, rfl, hR6, hB6⟩
     have HR6 := Lh hR6
     have HB6 := Lh hB6
     clear hR6 hB6 HPUT
     go_wp2
     go_ret2
     rw [← HD1.out]
     exact ⟨_, rfl, Kd.R_lower HR6.out HB5.out.size, below_then HB5.out HB5.out.size HB6.out⟩
   ·have hd := HD.out
    rw [if_neg hec] at hd
    have hz : (ec == 0) = false := by simp [hec]
    have HD1 := Lh hd
    clear hd HD HEN HIN HT
    go_wp2
    go_ret2
    rw [← HD1.out]
    exact ⟨_, rfl, Kd.R_nil _ _ _ _ _, HBW.out⟩
end Go.Proofs.YtdlamomabonkjaaDoor.Pk
end
section
namespace Go.Proofs.YtdlamomabonkjaaDoor.Pk
open Go.RowKit YtdlamomabonkjaaDoorW.PrintWords YtdlamomabonkjaaDoorW.PrintLast Base PCh ParDec Ch
def errP (at_ code : Int) : Ending := .panicked [{ v := .iface 93 (.agg #[.int .i64 at_, .int .i64 code]), recovered := false }]
theorem must_ok (w : World) (a c : Int) : Calls Tryd.prog 59 #[.bool true, .int .i64 a, .int .i64 c] w fun e w' => e = .returned (.tuple #[]) ∧ w' = w := by
 go_enter Tryd.func59, Tryd.ntmps59
 go_wp2
 exact ⟨rfl, _, results_none rfl _ _ _, rfl, rfl⟩
theorem must_bad (w : World) (a c : Int) : Calls Tryd.prog 59 #[.bool false, .int .i64 a, .int .i64 c] w fun e w' => e = errP a c ∧ w' = w := by
 unfold errP
 go_enter Tryd.func59, Tryd.ntmps59
 go_wp2
 exact ⟨rfl, rfl, rfl⟩
def PS (w0 w : World) (g : Nat) (v : List UInt8) (f t q : Int) (CH : Value) : Prop := ∃ A c, w.heap[g]? = some (.cells #[.slice A v.length c, .int .u16 f, .int .u16 t, .int .u32 q, CH] 99 (0, 0)) ∧ v.length ≤ c ∧ byte.C w0 A v.length v
theorem or24 (x y : Nat) (hx : x < 16777216) (hy : y < 256) : bits .or .u32 ((x : Int) * 256) (y : Int) = ((x * 256 + y : Nat) : Int) := by
 have h := (bits_nat .u32 32 (by decide) (fun n h0 h1 => by simp [IntKind.wrap, IntKind.bits, IntKind.signed]; omega) (x * 256) y (by omega) (by omega)).2
 have e : x * 256 ||| y = x * 256 + y := by
  have := Nat.shiftLeft_add_eq_or_of_lt (i := 8) (b := y) (by omega) x
  rw [Nat.shiftLeft_eq] at this
  exact this.symm
 rw [e] at h
 rw [show ((x : Int) * 256) = ((x * 256 : Nat) : Int) from (Int.natCast_mul x 256).symm]
 exact h
theorem u32_small (n : Int) (h : 0 ≤ n) (h2 : n < 4294967296) : IntKind.u32.wrap n = n := by simp only [IntKind.wrap, IntKind.bits, IntKind.signed]; simp; omega
theorem be_snoc (l : List UInt8) (b : UInt8) : be (l ++ [b]) = be l * 256 + b.toNat := by simp [be]
theorem fold_lt (l : List UInt8) : ∀ a : Nat, l.foldl (fun a b => a * 256 + b.toNat) a < (a + 1) * 256 ^ l.length := by
 induction l with
 | nil => intro a; simp
 | cons b l ih =>
  intro a
  rw [List.foldl_cons, List.length_cons, Nat.pow_succ]
  have h := ih (a * 256 + b.toNat)
  have hb := b.toNat_lt
  have h2 : (a * 256 + b.toNat + 1) * 256 ^ l.length ≤ ((a + 1) * 256) * 256 ^ l.length := Nat.mul_le_mul_right _ (by omega)
  calc _ < _ := h
   _ ≤ _ := h2
   _ = (a + 1) * (256 ^ l.length * 256) := by rw [Nat.mul_assoc, Nat.mul_comm 256]
theorem be_lt3 (l : List UInt8) (h : l.length ≤ 3) : be l < 16777216 := by
 have h1 := fold_lt l 0
 have h2 : 256 ^ l.length ≤ 256 ^ 3 := Nat.pow_le_pow_right (by decide) h
 unfold be
 omega
set_option maxHeartbeats 4000000 in
theorem number_calls (w0 w : World) (g n : Nat) (v : List UInt8) (f t q : Int) (CH : Value) (hs : PS w0 w g v f t q CH) (hB : Below w0.heap.size w0 w) (hg : w0.heap.size ≤ g) (hn : n ≤ v.length) (h4 : n ≤ 4) (hv : v.length ≤ 140737488355328) :
  Calls Tryd.prog 80 #[.pointer (some ⟨g, 0, none⟩), .int .i64 (n : Int)] w fun e w' => e = .returned (.int .u32 (be (v.take n) : Nat)) ∧ PS w0 w' g (v.drop n) f t q CH ∧ Only (· = g) w w' := by
 obtain ⟨A, c, hb, hc, hC⟩ := hs
 have k0 : w.cell? ⟨g, 0, none⟩ = some (.slice A v.length c) := blk_cell hb 0
 have HBK := Lh (fun (W : World) (h : Below w.heap.size w W) => blk_below hb h)
 have HC := Lh (fun (W : World) (h : Below w.heap.size w W) => Kd.C_below hC (below_then hB hB.size h))
 have HC0 := Lh hC
 have hnc : n ≤ c := Nat.le_trans hn hc
 obtain ⟨ht1, ht2, ht3⟩ := take_bytes hC hc n (n : Int) rfl hn
 obtain ⟨A2, hd1, hd2, hd3⟩ := drop_bytes hC hc n (n : Int) rfl hn
 have HP := Lh (fun (W : World) (h : Below w.heap.size w W) => (⟨⟨A2, c - n, blk_put (blk_below hb h) 0 _ rfl, hd3, hd2⟩, (Only.setCell (S := (· = g)) (Only.of_below h) (fun _ => rfl) _)⟩ : PS w0 (W.setCell ⟨g, 0, none⟩ (.slice A2 (v.drop n).length (c - n))) g (v.drop n) f t q CH ∧ Only (· = g) w (W.setCell ⟨g, 0, none⟩ (.slice A2 (v.drop n).length (c - n)))))
 have HF := Lh (fun (W : World) (h : Below w.heap.size w W) => blk_frozen (blk_below hb h) 0)
 clear ht2 ht3 hd2 hd3 hb hC
 have hlt1 : (v.take n).length = n := by rw [List.length_take]; omega
 rw [hlt1] at ht1
 clear hlt1
 generalize c - n = c2 at *
 generalize (v.drop n).length = n2 at *
 go_enter Tryd.func80, Tryd.ntmps80
 go_wp2
 go_loopw [5, 15] (fun v5 v15 W => ∃ i : Nat, i ≤ n ∧ v5 = .int .u32 (be (v.take i) : Nat) ∧ v15 = .int .i64 i ∧ Hid (Below w.heap.size w W)) (fun _ v15 _ => n - (intOf v15).toNat)
 case atStart => exact ⟨0, by omega, rfl, rfl, Below.refl _ _⟩
 case round =>
  obtain ⟨i, hi, rfl, rfl, HB⟩ := hrel
  by_cases hlt : i < n
  ·obtain ⟨ad, rfl, x0⟩ := byte_at (HC.out wr HB.out) i (by omega)
   have ht : v.take (i + 1) = v.take i ++ [v.getD i 0] := by
    rw [List.take_succ_eq_append_getElem (by omega)]
    congr 2
    simp [List.getD_eq_getElem?_getD, show i < v.length by omega]
   have hbe : be (v.take (i + 1)) = be (v.take i) * 256 + (v.getD i 0).toNat := by rw [ht, be_snoc]
   have hx : be (v.take i) < 16777216 := be_lt3 _ (by rw [List.length_take]; omega)
   have hy : (v.getD i 0).toNat < 256 := (v.getD i 0).toNat_lt
   have hor := or24 _ _ hx hy
   rw [← hbe] at hor
   have HBE := Lh (show ∃ z : Nat, be (v.take (i + 1)) = z ∧ True from ⟨_, rfl, trivial⟩)
   have hw1 : IntKind.u32.wrap ((v.getD i 0).toNat : Int) = ((v.getD i 0).toNat : Int) := u32_small _ (by omega) (by omega)
   have hw3 : IntKind.u32.wrap ((be (v.take i) : Int) * 256) = (be (v.take i) : Int) * 256 := u32_small _ (by omega) (by omega)
   clear ht hbe HBK HC HC0 HBE HP HF
   obtain ⟨z, hz⟩ : ∃ z, be (v.take (i + 1)) = z := ⟨_, rfl⟩
   have HZ := Lh hz
   rw [hz] at hor
   clear hz
   generalize be (v.take i) = x at *
   generalize (v.getD i 0).toNat = y at *
   go_wp2
   go_roundw
   case rel => exact ⟨i + 1, by omega, by rw [HZ.out], by go_num, HB⟩
   case measure => simp [intOf]; omega
  ·have hin : i = n := by omega
   have hbk := HBK.out wr HB.out
   have k0 : wr.cell? ⟨g, 0, none⟩ = some (.slice A v.length c) := blk_cell hbk 0
   have f0 := HF.out wr HB.out
   have HP1 := Lh (HP.out wr HB.out)
   clear hbk HBK HP HF HC HC0
   subst hin
   go_wp2
   go_ret
   exact ⟨rfl, HP1.out⟩
end Go.Proofs.YtdlamomabonkjaaDoor.Pk
end
section
namespace Go.Proofs.YtdlamomabonkjaaDoor.Base
open Go.RowKit YtdlamomabonkjaaDoorW.PrintWords YtdlamomabonkjaaDoorW.PrintLast
def GrK (C : List Nat) (I : Nat → World → Prop) (L : Sel) (a0 : Act) (b : Nat → Bool) (a : Act) (w : World) : Prop :=
 ∃ s, s ≤ C.length ∧ (∀ j c, C[j]? = some c → (j < s → b c = true) ∧ (s ≤ j → b c = false)) ∧ a = putSel a0 b L ∧ I s w
theorem putSel_skip {b : Nat → Bool} {i : Nat} {L : Sel} {a : Act} (h : L.all (fun e => !(e.1 == i)) = true) : putSel a (up b i) L = putSel a b L :=
 putSel_congr (fun e he => up_ne (by have := List.all_eq_true.1 h e he; simpa using this))
section
variable {P : Program} {ops : Array Oper} {Q : Exit → Act → World → Prop} {B O C : List Nat} {W : World} {I : Nat → World → Prop} {L : Sel} {a0 : Act} {i : Nat} {p : Tmp}
theorem gk_op (J : World → Prop) (i k : Nat) {t : Tmp} {u v : Value} {oi : Oper} (ho : ops[i]? = some oi) (hg : oi.guard = none) (hd : oi.dst = some t) (hL : L[k]? = some (i, t, v))
  (hdist : (L.take k ++ L.drop (k + 1)).all (fun e => !(e.1 == i) && !(e.2.1 == t)) = true) (hC : C.contains i = false) (hr : Rd O B i (fun _ => L) a0 p (fun _ => u)) (hJ : ∀ s w, I s w → J w)
  (hrun : ∀ (a : Act) (w : World), J w → a.tmps[p]? = some u → (execOp a.eval oi).run P w = .ok (.value v) w) : StepAt P ops Q B O (GrK C I L a0) i := by
 rintro b a w ⟨s, h0, h1, ha, hI⟩ hb hon hoff
 refine ⟨oi, ho, fun K hK => ?_⟩
 rw [hd]
 refine value_ (w1 := w) (v := v) (wanted_none0 hg) hd (hrun a w (hJ _ _ hI) (by rw [ha]; exact hr b (fun _ => undef) hon hoff)) (hK.out _ _ ⟨s, h0, fun j c hc => ?_, ?_, hI⟩)
 ·have hne : c ≠ i := fun e => by
   rw [e] at hc
   have := List.mem_of_getElem? hc
   rw [List.contains_iff_mem.2 this] at hC
   cases hC
  rw [up_ne hne]
  exact h1 j c hc
 ·rw [ha]
  exact putSel_upk k hb hL (set_same hL) hdist
theorem gk_step (i m : Nat) (hm : C[m]? = some i) (hnd : (C.take m ++ C.drop (m + 1)).contains i = false) (hprev : (C.take m).all (fun q => O.contains q && (B.getD i 0).testBit q) = true)
  {b : Nat → Bool} {a : Act} {w : World} (hI : GrK C I L a0 b a w) (hb : b i = false) (hon : ∀ j, (O.contains j && (B.getD i 0).testBit j) = true → b j = true) :
  a = putSel a0 b L ∧ I m w ∧ ∀ a' w', a' = putSel a0 (up b i) L → I (m + 1) w' → GrK C I L a0 (up b i) a' w' := by
 obtain ⟨s, h0, h1, ha, hI⟩ := hI
 have hs : s = m := by
  have e1 := h1 m i hm
  rcases Nat.lt_trichotomy s m with h | h | h
  ·have hlt : s < C.length := by
    have := (List.getElem?_eq_some_iff.1 hm).1
    omega
   have hc := List.getElem?_eq_getElem hlt
   have e2 := (h1 s _ hc).2 (Nat.le_refl _)
   have e3 := List.all_eq_true.1 hprev C[s] (List.mem_take_iff_getElem.2 ⟨s, by omega, rfl⟩)
   rw [hon _ e3] at e2
   cases e2
  ·exact h
  ·rw [e1.1 h] at hb
   cases hb
 subst hs
 refine ⟨ha, hI, fun a' w' ha' hI' => ⟨s + 1, ?_, fun j c hc => ?_, ha', hI'⟩⟩
 ·have := (List.getElem?_eq_some_iff.1 hm).1
  omega
 ·by_cases hj : j = s
  ·subst hj
   rw [hm] at hc
   injection hc with hc
   subst hc
   exact ⟨fun _ => up_self _ _, fun h => absurd h (by omega)⟩
  ·have hne : c ≠ i := fun e => by
    subst e
    have hmem : c ∈ C.take s ++ C.drop (s + 1) := by
     rw [List.mem_append]
     have hl := (List.getElem?_eq_some_iff.1 hc)
     obtain ⟨hl1, hl2⟩ := hl
     by_cases h : j < s
     ·exact Or.inl (List.mem_take_iff_getElem.2 ⟨j, by omega, hl2⟩)
     ·refine Or.inr (List.mem_drop_iff_getElem.2 ⟨j - (s + 1), by omega, ?_⟩)
      rw [← hl2]
      congr 1
      omega
    rw [List.contains_iff_mem.2 hmem] at hnd
    cases hnd
   rw [up_ne hne]
   have := h1 j c hc
   exact ⟨fun h => this.1 (by omega), fun h => this.2 (by omega)⟩
theorem gk_call (i k m : Nat) {t : Tmp} {v : Value} {vals : List Value} {oi : Oper} {f : FuncId} {fn : Func} {ax : Array Operand} {ts : Array TypeId} (ho : ops[i]? = some oi) (hg : oi.guard = none) (hd : oi.dst = some t) (hm : C[m]? = some i) (hL : L[k]? = some (i, t, v))
  (hdist : (L.take k ++ L.drop (k + 1)).all (fun e => !(e.1 == i) && !(e.2.1 == t)) = true) (hnd : (C.take m ++ C.drop (m + 1)).contains i = false) (hprev : (C.take m).all (fun q => O.contains q && (B.getD i 0).testBit q) = true)
  (hf : P.funcs[f]? = some fn) (hname : (fn.name == "runtime.NumGoroutine") = false) (hbd : fn.body.isSome = true) (hop : oi.op = .call { callee := .value (.func f), args := ax, argTypes := ts })
  (har : Ar O B i (fun _ => L) a0 ax.toList vals) (hcall : ∀ w, I m w → Calls P f vals.toArray w fun e w' => e = .returned v ∧ I (m + 1) w') : StepAt P ops Q B O (GrK C I L a0) i := by
 rintro b a w hG hb hon hoff
 obtain ⟨ha, hI, hK2⟩ := gk_step i m hm hnd hprev hG hb hon
 refine ⟨oi, ho, fun K hK => ?_⟩
 rw [hd]
 have e2 := har b (fun _ => undef) hon hoff
 refine goes_ hf hname hbd vals.toArray (wanted_none0 hg) hd hop ?_ ?_
 ·apply Array.toList_inj.1
  rw [Array.toList_map, ha, e2]
 ·refine (hcall w hI).mono ?_
  rintro e w' ⟨rfl, hI'⟩
  exact ⟨v, rfl, hK.out _ _ (hK2 _ w' (by rw [ha]; exact putSel_upk k hb hL (set_same hL) hdist) hI')⟩
theorem gk_store (i m : Nat) {s : Tmp} {u v : Value} {f : World → World} {oi : Oper} (ho : ops[i]? = some oi) (hg : oi.guard = none) (hd : oi.dst = none) (hm : C[m]? = some i) (hL : L.all (fun e => !(e.1 == i)) = true)
  (hnd : (C.take m ++ C.drop (m + 1)).contains i = false) (hprev : (C.take m).all (fun q => O.contains q && (B.getD i 0).testBit q) = true) (hp : Rd O B i (fun _ => L) a0 p (fun _ => u)) (hs : Rd O B i (fun _ => L) a0 s (fun _ => v))
  (hrun : ∀ (a : Act) (w : World), I m w → a.tmps[p]? = some u → a.tmps[s]? = some v → (execOp a.eval oi).run P w = .ok .skip (f w)) (hI : ∀ w, I m w → I (m + 1) (f w)) : StepAt P ops Q B O (GrK C I L a0) i := by
 rintro b a w hG hb hon hoff
 obtain ⟨ha, hIm, hK2⟩ := gk_step i m hm hnd hprev hG hb hon
 refine ⟨oi, ho, fun K hK => ?_⟩
 rw [hd]
 refine skip_ (w1 := f w) (wanted_none0 hg) hd (hrun a w hIm (by rw [ha]; exact hp b (fun _ => undef) hon hoff) (by rw [ha]; exact hs b (fun _ => undef) hon hoff)) (hK.out _ _ (hK2 _ _ ?_ (hI w hIm)))
 show a = _
 rw [ha]
 exact (putSel_skip hL).symm
theorem grow_known {id : Nat} (O C : List Nat) (I : Nat → World → Prop) (L : Sel) {n : Nat} {l : Array Bool} {Tb : Bool × List (List Nat × List Nat)} (hm : P.follows .mixedOrders = true) (hn : ops.size = n) (hl : Array.replicate n false = l) (hT : rtab .any ops = Tb) (hw : waitsOk Tb.2 B = true) (hk : baseOk Tb.2 O = true) (hl2 : (lof Tb.2.length O (fun _ => false) == l.toList && O.length == n) = true)
  (hLO : L.all (fun e => O.contains e.1) = true) (hCO : (C.all fun e => O.contains e) = true) (h0 : I 0 W.drew) (hs : ∀ i ∈ O, StepAt P ops Q B O (GrK C I L a0) i)
  (hend : ∀ (w : World), I C.length w → Q .normal (putSel a0 (fun _ => true) L) w) : Code.wp P (Code.region id ops true) Q a0 W := by
 refine start_ (S := fun _ => True) (ds := []) l hm hn hl trivial (fun _ => ?_)
 refine inv_at O (fun a0 => GrK C I L a0) hT hw hk hl2 ⟨0, Nat.zero_le _, fun j c _ => ⟨fun h => absurd h (Nat.not_lt_zero _), fun _ => rfl⟩, ?_, h0⟩ hs ?_
 ·clear hLO hs hend
  induction L with
  | nil => rfl
  | cons e r ih => unfold putSel; exact ih
 ·rintro b a w hall ⟨s, hs1, h1, ha, hI⟩
  have e1 : putSel a0 b L = putSel a0 (fun _ => true) L := putSel_congr (fun e he => hall _ (List.all_eq_true.1 (hLO) e he))
  have e2 : s = C.length := by
   rcases Nat.lt_or_ge s C.length with h | h
   ·have hc := List.getElem?_eq_getElem h
    have e2 := (h1 s _ hc).2 (Nat.le_refl _)
    rw [hall _ (List.all_eq_true.1 hCO _ (List.getElem_mem h))] at e2
    cases e2
   ·omega
  rw [ha, e1]
  rw [e2] at hI
  exact hend w hI
end
end Go.Proofs.YtdlamomabonkjaaDoor.Base
end
