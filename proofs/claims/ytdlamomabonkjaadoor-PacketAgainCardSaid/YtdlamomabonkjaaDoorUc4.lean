/- The texts of one proof, merged: part 4. -/
import Derived.Test.YtdlamomabonkjaaDoorUc3
import Derived.Defers
import Derived.Recover
import Derived.Laws.Pointers
import Derived.Laws.Rows
import Derived.Laws.Tables
import Derived.Deep.WholeRow
set_option maxRecDepth 100000
set_option linter.unusedVariables false
set_option linter.unusedSimpArgs false
section
namespace Go.Proofs.YtdlamomabonkjaaDoor.Ch
open Go.RowKit YtdlamomabonkjaaDoorW.PrintWords YtdlamomabonkjaaDoorW.PrintLast YtdlamomabonkjaaDoorW.PrintMore Base PCh ParDec
attribute [local go_sem] max2_int max_two max_three
def listsD (nr : Bool) (v : List UInt8) : Except Int (Nat × Nat × List GapS × List GapS × List Int) :=
 if v.length < (if nr then 16 else 12) then .error 61
 else if 4096 < be ((v.drop 8).take 2) ∨ 4096 < (if nr then be ((v.drop 10).take 2) else 0) ∨ 4096 < be ((v.drop (if nr then 12 else 10)).take 2) then .error 3
 else if v.length ≠ (if nr then 16 else 12) + 4 * (be ((v.drop 8).take 2) + (if nr then be ((v.drop 10).take 2) else 0) + be ((v.drop (if nr then 12 else 10)).take 2)) then .error 61
 else .ok (be (v.take 4), be ((v.drop 4).take 4), gapsD (be ((v.drop 8).take 2)) (v.drop (if nr then 16 else 12)), gapsD (if nr then be ((v.drop 10).take 2) else 0) (v.drop ((if nr then 16 else 12) + 4 * be ((v.drop 8).take 2))),
  dupsD (be ((v.drop (if nr then 12 else 10)).take 2)) (v.drop ((if nr then 16 else 12) + 4 * (be ((v.drop 8).take 2) + (if nr then be ((v.drop 10).take 2) else 0)))))
theorem only_then3 {S : Nat → Prop} {w W W' : World} (h : Only S w W) (hb : Below w.heap.size W W') : Only S w W' := Only.then_ h hb
def listsT14 : Bool × List (List Nat × List Nat) := (true, [([], []), ([], []), ([1], [1]), ([2], [2]), ([3], [3]), ([], []), ([5], [5]), ([6], [6]), ([4, 7, 6], [4, 7]), ([0, 0, 1, 2, 3, 4, 5, 6, 7, 8], [0]), ([9, 0, 1, 2, 3, 4, 5, 6, 7, 8], [9]), ([10, 8, 8, 0, 1, 2, 3, 4, 5, 6, 7, 8], [8, 10])])
def listsB14 : List Nat := [0, 0, 2, 6, 14, 0, 32, 96, 254, 511, 1023, 2047]
theorem liststab14 : Go.Proofs.YtdlamomabonkjaaDoorW.PrintLast.rtab .any (Go.Proofs.YtdlamomabonkjaaDoorW.PrintLast.opsOf Tryd.f100 14) = listsT14 := by kernel_rfl
theorem listsbits14 : Go.Proofs.YtdlamomabonkjaaDoorW.PrintLast.waitsOk listsT14.2 listsB14 = true := by kernel_rfl
theorem be_two_lt (l : List UInt8) : be (l.take 2) < 65536 := by
 match l with
 | [] => simp [be]
 | [a] => have := a.toNat_lt; simp [be]; omega
 | a :: b :: r => have := a.toNat_lt; have := b.toNat_lt; simp [be]; omega
def ListP (w0 w : World) (g gc : Nat) (kd fl : Int) (r : Except Int (Nat × Nat × List GapS × List GapS × List Int)) (e : Ending) (w' : World) : Prop :=
 match r with
 | .error code => e = errE code ∧ (∃ x0, w'.heap[gc]? = some (.cells x0 41 (0, 0)) ∧ x0.size = 15) ∧ Only (fun k => k = g ∨ k = gc) w w'
 | .ok (t1, t2, G, N, D) => e = .returned (.tuple #[]) ∧ ∃ vg vn vd, w'.heap[gc]? = some (.cells #[.int .u8 kd, .int .u8 fl, .int .u32 (t1 : Int), .int .u16 0, .int .u16 0, .int .u32 0, .int .u32 0, .int .u32 (t2 : Int), .int .u16 0, .int .u16 0, vg, vn, vd, .slice none 0 0, .slice none 0 0] 41 (0, 0)) ∧ Kd.R k117 117 w' w.heap.size (fun _ => True) vg G ∧ Kd.R k117 117 w' w.heap.size (fun _ => True) vn N ∧ (Kd.int .u32).R 23 w' w.heap.size (fun _ => True) vd D ∧ RS w0 w' g [] ∧ Only (fun k => k = g ∨ k = gc) w w'
set_option maxHeartbeats 4000000 in
theorem lists_sack (w0 w : World) (g gc : Nat) (v : List UInt8) (fl : Int) (hs : RS w0 w g v) (hc : w.heap[gc]? = some (.cells #[.int .u8 3, .int .u8 fl, .int .u32 0, .int .u16 0, .int .u16 0, .int .u32 0, .int .u32 0, .int .u32 0, .int .u16 0, .int .u16 0, .slice none 0 0, .slice none 0 0, .slice none 0 0, .slice none 0 0, .slice none 0 0] 41 (0, 0))) (hB : Below w0.heap.size w0 w) (hg : w0.heap.size ≤ g) (hgc : w0.heap.size ≤ gc) (hne : g ≠ gc) (hv : v.length ≤ 140737488355328) :
  Calls Tryd.prog 100 #[.pointer (some ⟨g, 0, none⟩), .pointer (some ⟨gc, 0, none⟩)] w (ListP w0 w g gc 3 fl (listsD false v)) := by
 have HGL := Lh (show g < w.heap.size ∧ gc < w.heap.size from ⟨hs.lt, blk_lt hc⟩)
 have HBW := Lh (fun (W : World) (h : Only (fun k => k = g ∨ k = gc) w W) => hB.trans (h.below hB.size (fun k hk => by omega)))
 have HNE := Lh (show ¬ gc = g from fun e => hne e.symm)
 have HNE2 := Lh (show ¬ g = gc from hne)
 have HF := Lh (fun (W : World) (u : List UInt8) (h : RS w0 W g u) (hO : Only (fun k => k = g ∨ k = gc) w W) (h4 : 4 ≤ u.length) (hu : u.length ≤ 140737488355328) => four_ok w0 W g u h (HBW.out W hO) hg h4 hu)
 have HFB := Lh (fun (W : World) (u : List UInt8) (h : RS w0 W g u) (hO : Only (fun k => k = g ∨ k = gc) w W) (h4 : u.length < 4) (hu : u.length ≤ 140737488355328) => four_bad w0 W g u h (HBW.out W hO) hg h4 hu)
 have HC := Lh (fun (W : World) (u : List UInt8) (h : RS w0 W g u) (hO : Only (fun k => k = g ∨ k = gc) w W) (hu : u.length ≤ 140737488355328) => counts_calls w0 W g u 2 (by decide) h (HBW.out W hO) hg hu)
 have HGP := Lh (fun (W : World) (u : List UInt8) (k : Nat) (h : RS w0 W g u) (hO : Only (fun k => k = g ∨ k = gc) w W) (hu : u.length ≤ 140737488355328) (hk : k ≤ 4096) (hl : 4 * k ≤ u.length) => rgaps_ok w0 W g u k hk h (HBW.out W hO) hg hu hl)
 have HS := Lh hs
 have HCC := Lh hc
 have hwg : w0.heap.size ≤ g := hg
 unfold CntP errE at HC
 unfold errE at HFB
 clear hs hc hB hg hgc hne
 by_cases h4 : 4 ≤ v.length
 ·have H1 := Lh (HF.out w v HS.out (Only.refl _ _) h4 hv)
  by_cases h8 : 8 ≤ v.length
  ·have H2 := Lh (fun (W : World) (h : RS w0 W g (v.drop 4)) (hO : Only (· = g) w W) => HF.out W (v.drop 4) h (hO.mono (fun k _ h => Or.inl h)) (by rw [List.length_drop]; omega) (by rw [List.length_drop]; omega))
   have H3 := Lh (fun (W : World) (h : RS w0 W g (v.drop 8)) (hO : Only (fun k => k = g ∨ k = gc) w W) => HC.out W (v.drop 8) h hO (by rw [List.length_drop]; omega))
   rw [List.drop_drop] at H2
   obtain ⟨t1, ht1⟩ : ∃ t1, be (v.take 4) = t1 := ⟨_, rfl⟩
   obtain ⟨t2, ht2⟩ : ∃ t2, be ((v.drop 4).take 4) = t2 := ⟨_, rfl⟩
   rw [ht1] at H1
   rw [ht2] at H2
   have HT1 := Lh ht1
   have HT2 := Lh ht2
   clear ht1 ht2
   go_enter Tryd.func100, Tryd.ntmps100
   go_wp2_with fail
   refine H1.out.mono ?_
   rintro e w1 ⟨rfl, hRS, hO1⟩
   have HRS := Lh hRS
   have HO1 := Lh hO1
   clear hRS hO1 H1
   go_wp2_with fail
   refine (H2.out w1 HRS.out HO1.out).mono ?_
   rintro e w2 ⟨rfl, hRS, hO2⟩
   have hO12 := HO1.out.trans hO2 (fun k _ h => h)
   have hc2 := hO12.blk HCC.out HNE.out
   have k2 : w2.cell? ⟨gc, 2, none⟩ = some (.int .u32 0) := blk_cell hc2 2
   have k7 : w2.cell? ⟨gc, 7, none⟩ = some (.int .u32 0) := blk_cell hc2 7
   have f2 := blk_frozen hc2 2
   have f7 := blk_frozen hc2 7
   have HC3 := Lh (blk_put (blk_put hc2 2 (.int .u32 (t1 : Int)) rfl) 7 (.int .u32 (t2 : Int)) (show _ = #[.int .u8 3, .int .u8 fl, .int .u32 (t1 : Int), .int .u16 0, .int .u16 0, .int .u32 0, .int .u32 0, .int .u32 (t2 : Int), .int .u16 0, .int .u16 0, .slice none 0 0, .slice none 0 0, .slice none 0 0, .slice none 0 0, .slice none 0 0] from rfl))
   have HO3 := Lh (((hO12.mono (S' := fun k => k = g ∨ k = gc) (fun k _ h => Or.inl h)).setCell (p := ⟨gc, 2, none⟩) (fun _ => Or.inr rfl) (.int .u32 (t1 : Int))).setCell (p := ⟨gc, 7, none⟩) (fun _ => Or.inr rfl) (.int .u32 (t2 : Int)))
   have HRS3 := Lh (hRS.only ((Only.refl (· = gc) w2).setCell (p := ⟨gc, 2, none⟩) (fun _ => rfl) (.int .u32 (t1 : Int)) |>.setCell (p := ⟨gc, 7, none⟩) (fun _ => rfl) (.int .u32 (t2 : Int))) HNE2.out)
   clear hRS hO2 H2 hO12 hc2 HRS HO1
   go_upto_region 1 with (fail)
   clear f2 f7 k2 k7
   generalize (w2.setCell ⟨gc, 2, none⟩ (.int .u32 (t1 : Int))).setCell ⟨gc, 7, none⟩ (.int .u32 (t2 : Int)) = W3 at *
   have k0 := blk_cell HC3.out 0
   replace k0 : W3.cell? ⟨gc, 0, none⟩ = some (.int .u8 3) := k0
   go_wp2_with fail
   refine (H3.out W3 HRS3.out HO3.out).mono ?_
   by_cases h12 : 12 ≤ v.length
   ·rintro e w4 hP
    rw [if_pos (by rw [List.length_drop]; omega)] at hP
    obtain ⟨u, rfl, hU, hRS, hO4⟩ := hP
    have hcnt : cntD 2 (v.drop 8) = [(be ((v.drop 8).take 2) : Int), (be ((v.drop 10).take 2) : Int)] := by simp only [cntD, List.drop_drop]
    rw [hcnt] at hU
    obtain ⟨A4, c4, rfl, hle4, hC4⟩ := Kd.R_reads hU
    rw [List.drop_drop, show 8 + 2 * 2 = 12 from rfl] at hRS
    have HO4 := Lh (HO3.out.trans (hO4.mono (S' := fun k => k = g ∨ k = gc) (fun k _ h => Or.inl h)) (fun k _ h => h))
    have HC4 := Lh (hO4.blk HC3.out HNE.out)
    have HRS4 := Lh hRS
    obtain ⟨Ar, cr, hbr, hcr, hCr⟩ := hRS
    have kr : w4.cell? ⟨g, 0, none⟩ = some (.slice Ar (v.drop 12).length cr) := blk_cell hbr 0
    obtain ⟨ad, rfl, x0⟩ := int_at hC4 0 (by simp)
    obtain ⟨ad', e', x1⟩ := int_at hC4 1 (by simp)
    cases e'
    replace x0 : w4.cell? ad = some (.int .u16 (be ((v.drop 8).take 2) : Int)) := x0
    replace x1 : w4.cell? ⟨ad.block, ad.off + 1, none⟩ = some (.int .u16 (be ((v.drop 10).take 2) : Int)) := by
     rw [show ad.add 1 = ad.add (0 + 1) from rfl, add_field _ _ 1 (by omega)] at x1
     exact x1
    have hlen : (v.drop 12).length = v.length - 12 := List.length_drop
    have ba := be_two_lt (v.drop 8)
    have bd := be_two_lt (v.drop 10)
    rw [show [(be ((v.drop 8).take 2) : Int), (be ((v.drop 10).take 2) : Int)].length = 2 from rfl] at hle4 hC4 ⊢
    have HLD := Lh (show listsD false v = _ from by unfold listsD; rw [if_neg (by simp; omega)])
    simp only [if_true, if_false, Bool.false_eq_true] at HLD
    clear hU hcnt hO4 HC3 HO3 HRS3 hbr hcr hCr hC4 k0 H3
    generalize be ((v.drop 8).take 2) = a at *
    generalize be ((v.drop 10).take 2) = d at *
    generalize hL : (v.drop 12).length = LL at *
    by_cases hbig : 4096 < a ∨ 4096 < 0 ∨ 4096 < d
    ·rw [if_pos hbig] at HLD
     clear kr HGP HF HFB HC HRS4 hlen
     go_wp2
     go_quiet (fail)
     go_wp2
     all_goals (first | (exfalso; omega) | (refine ⟨rfl, ?_⟩; unfold ListP; rw [HLD.out]; exact ⟨rfl, ⟨_, by first | exact blk_drewN HC4.out _ | exact HC4.out, rfl⟩, by first | exact HO4.out.drewN _ | exact HO4.out⟩))
    ·rw [if_neg hbig] at HLD
     have hb1 : ¬ (4096 : Int) < (a : Int) := by omega
     have hb2 : ¬ (4096 : Int) < (d : Int) := by omega
     by_cases hlen2 : v.length ≠ 12 + 4 * (a + 0 + d)
     ·rw [if_pos hlen2] at HLD
      clear HGP HF HFB HC HRS4
      go_wp2
      go_quiet (fail)
      go_wp2
      all_goals (first | (exfalso; omega) | (refine ⟨rfl, ?_⟩; unfold ListP; rw [HLD.out]; exact ⟨rfl, ⟨_, by first | exact blk_drewN HC4.out _ | exact HC4.out, rfl⟩, by first | exact HO4.out.drewN _ | exact HO4.out⟩))
     ·rw [if_neg hlen2] at HLD
      have hlen3 : v.length = 12 + 4 * (a + 0 + d) := Decidable.byContradiction fun h => hlen2 h
      have HLL := Lh hL
      have HL3 := Lh hlen3
      obtain ⟨m2, hm2, hb5⟩ : ∃ m2 : Int, (if a < d then (d : Int) else (a : Int)) = m2 ∧ m2 ≤ 4096 := ⟨_, rfl, by split <;> omega⟩
      have hm3 : ¬ 4096 < m2 := by omega
      have hLL : (4 : Int) * ((a : Int) + (d : Int)) = (LL : Int) := by omega
      have HRS4' := Lh (fun n : Nat => RS.only HRS4.out ((Only.refl (fun _ => False) w4).drewN n) id)
      have HO4' := Lh (fun n : Nat => HO4.out.drewN n)
      have HC4' := Lh (fun n : Nat => blk_drewN HC4.out n)
      clear HRS4 HO4 HC4 hlen3 hlen2 hL hbig hlen hv
      go_wp2
      go_quiet (fail)
      go_wp2_with fail
      refine (HGP.out (w4.drewN nq) (v.drop 12) a (HRS4'.out nq) (HO4'.out nq) (by have := HL3.out; have := HLL.out; omega) (by omega) (by have := HL3.out; have := HLL.out; rw [List.length_drop]; omega)).mono ?_
      rintro e w5 ⟨vg, rfl, hG, hRS, hO⟩
      have HO5 := Lh ((HO4'.out nq).trans (hO.mono (S' := fun k => k = g ∨ k = gc) (fun k _ h => Or.inl h)) (fun k _ h => h))
      have HC5 := Lh (hO.blk (HC4'.out nq) HNE.out)
      have HG5 := Lh (Kd.R_lower hG (HO4'.out nq).size)
      have HRS5 := Lh hRS
      rw [List.drop_drop] at HRS5
      clear hG hRS hO HRS4' HO4' HC4' kr x0 x1
      generalize w4.drewN nq = W4 at *
      go_wp2_with fail
      refine (HGP.out w5 (v.drop (12 + 4 * a)) 0 HRS5.out HO5.out (by have := HL3.out; rw [List.length_drop]; omega) (by omega) (by have := HL3.out; rw [List.length_drop]; omega)).mono ?_
      rintro e w6 ⟨vn, rfl, hN, hRS, hO⟩
      have hO6 := HO5.out.trans (hO.mono (S' := fun k => k = g ∨ k = gc) (fun k _ h => Or.inl h)) (fun k _ h => h)
      have hc6 := hO.blk HC5.out HNE.out
      have hG6 := R_only HG5.out hO (fun k hk _ e => by have := HGL.out.1; omega)
      have hN6 := Kd.R_lower hN HO5.out.size
      rw [List.drop_drop] at hRS
      obtain ⟨Ag, cg, hvg⟩ := Kd.R_slice hG6
      obtain ⟨An, cn, hvn⟩ := Kd.R_slice hN6
      have k10 : w6.cell? ⟨gc, 10, none⟩ = some (.slice none 0 0) := blk_cell hc6 10
      have k11 : w6.cell? ⟨gc, 11, none⟩ = some (.slice none 0 0) := blk_cell hc6 11
      have f10 := blk_frozen hc6 10
      have f11 := blk_frozen hc6 11
      have HC7 := Lh (blk_put (blk_put hc6 10 vg rfl) 11 vn (show _ = #[.int .u8 3, .int .u8 fl, .int .u32 (t1 : Int), .int .u16 0, .int .u16 0, .int .u32 0, .int .u32 0, .int .u32 (t2 : Int), .int .u16 0, .int .u16 0, vg, vn, .slice none 0 0, .slice none 0 0, .slice none 0 0] from rfl))
      have HO7 := Lh ((hO6.setCell (p := ⟨gc, 10, none⟩) (fun _ => Or.inr rfl) vg).setCell (p := ⟨gc, 11, none⟩) (fun _ => Or.inr rfl) vn)
      have hfar := ((Only.refl (· = gc) w6).setCell (p := ⟨gc, 10, none⟩) (fun _ => rfl) vg).setCell (p := ⟨gc, 11, none⟩) (fun _ => rfl) vn
      have HRS7 := Lh (hRS.only hfar HNE2.out)
      have HG7 := Lh (R_only hG6 hfar (fun k hk _ e => by have := HGL.out.2; omega))
      have HN7 := Lh (R_only hN6 hfar (fun k hk _ e => by have := HGL.out.2; omega))
      clear hN hRS hO hO6 hc6 hG6 hN6 hfar HO5 HC5 HG5 HRS5
      generalize (gapsD a (v.drop 12)).length = gl at hvg
      generalize (gapsD 0 (v.drop (12 + 4 * a))).length = nl at hvn
      subst hvg hvn
      go_upto_region 12 with (fail)
      clear f10 f11 k10 k11 HGP
      generalize Value.slice Ag gl cg = vg at *
      generalize Value.slice An nl cn = vn at *
      generalize (w6.setCell ⟨gc, 10, none⟩ vg).setCell ⟨gc, 11, none⟩ vn = W0 at *
      have hvv : (v.drop (12 + 4 * a + 4 * 0)) = v.drop (12 + 4 * (a + 0)) := by first | rfl | (congr 1; omega)
      rw [hvv] at HRS7
      clear hvv
      have hvl : (v.drop (12 + 4 * (a + 0))).length = 4 * d := by have := HL3.out; rw [List.length_drop]; omega
      generalize v.drop (12 + 4 * (a + 0)) = vv0 at *
      have HGL0 := Lh (show ∀ k, w.heap.size ≤ k → (k = g ∨ k = gc) → False from fun k hk e => by have := HGL.out; omega)
      have HGL2 := Lh (show g < W0.heap.size ∧ gc < W0.heap.size from ⟨by have := HGL.out; have := HO7.out.size; omega, by have := HGL.out; have := HO7.out.size; omega⟩)
      have HFW := Lh (fun (W : World) (u : List UInt8) (h : RS w0 W g u) (hO : Only (fun k => k = g ∨ k = gc) W0 W) (h4 : 4 ≤ u.length) (hu : u.length ≤ 140737488355328) => HF.out W u h (HO7.out.trans hO (fun k _ h => h)) h4 hu)
      replace HGL := Lh (show ∀ k, W0.heap.size ≤ k → (k = g ∨ k = gc) → False from fun k hk e => by have := HGL2.out; omega)
      clear HF HFB HC HBW hb1 hb2 hb5 hm3 hLL
      go_wp2
      go_loopw [79] (fun v79 wr => ∃ (i : Nat) (xs : List Int) (vd : Value), i ≤ d ∧ v79 = .int .u16 (i : Int) ∧ Hid ((Kd.int .u32).R 23 wr W0.heap.size (fun _ => True) vd xs) ∧ Hid (xs ++ dupsD (d - i) (vv0.drop (4 * i)) = dupsD d vv0) ∧ Hid (RS w0 wr g (vv0.drop (4 * i))) ∧ Hid (wr.heap[gc]? = some (.cells #[.int .u8 3, .int .u8 fl, .int .u32 (t1 : Int), .int .u16 0, .int .u16 0, .int .u32 0, .int .u32 0, .int .u32 (t2 : Int), .int .u16 0, .int .u16 0, vg, vn, vd, .slice none 0 0, .slice none 0 0] 41 (0, 0))) ∧ Hid (Only (fun k => k = g ∨ k = gc) W0 wr)) (fun v79 _ => d - (intOf v79).toNat)
      case atStart => exact ⟨0, [], .slice none 0 0, Nat.zero_le _, rfl, Kd.R_nil _ _ _ _ _, rfl, HRS7.out, HC7.out, Only.refl _ _⟩
      case round =>
       obtain ⟨i, xs, vd, hi, rfl, HR, HE, HRS, HC, HO⟩ := hrel
       obtain ⟨Av, cv, rfl⟩ := Kd.R_slice HR.out
       have hxl : xs.length ≤ 4096 := by
        have := congrArg List.length HE.out
        rw [List.length_append, dupsD_length, dupsD_length] at this
        omega
       have HXL := Lh hxl
       by_cases hlt : i < d
       ·have hE := HE.out
        rw [show d - i = (d - (i + 1)) + 1 by omega, dupsD] at hE
        have e4 : (vv0.drop (4 * i)).drop 4 = vv0.drop (4 * (i + 1)) := by rw [List.drop_drop]; congr 1
        have hE2 : (xs ++ [(be ((vv0.drop (4 * i)).take 4) : Int)]) ++ dupsD (d - (i + 1)) (vv0.drop (4 * (i + 1))) = dupsD d vv0 := by rw [List.append_assoc, ← e4]; exact hE
        have HF := Lh (fun (W : World) (h : RS w0 W g (vv0.drop (4 * i))) (hO : Only (fun k => k = g ∨ k = gc) W0 W) => HFW.out W (vv0.drop (4 * i)) h hO (by rw [List.length_drop]; omega) (by rw [List.length_drop]; omega))
        have hw : IntKind.u16.wrap ((i : Int) + 1) = ((i + 1 : Nat) : Int) := by simp [IntKind.wrap, IntKind.bits, IntKind.signed]; omega
        generalize be ((vv0.drop (4 * i)).take 4) = q at *
        have HE2 := Lh hE2
        have HE4 := Lh e4
        have HW := Lh hw
        generalize vv0.drop (4 * i) = vv at *
        clear hE hE2 e4 HE hw HFW hvl hxl
        go_upto_region 14 with (fail)
        have B := True.intro
        have C := True.intro
        have R := True.intro
        have D := True.intro
        refine start_ (n := 12) (S := fun w' => True) (ds := []) #[false, false, false, false, false, false, false, false, false, false, false, false] (by kernel_rfl) rfl rfl trivial (fun hHeld => ?_)
        refine with_tabW liststab14 listsbits14 (fun HT_ HW_ => ?_)
        refine pure_ (i := 0) (N := some 81) (v := ?_) (a' := ?_) #[true, false, false, false, false, false, false, false, false, false, false, false] rfl rfl (any_of HT_.out (by kernel_rfl)) (fun _ _ _ h => h) (Or.inl ⟨by rfl, ?_⟩) ?_ ?_
        rotate_left
        ·intro w'
         go_simp
         with_reducible rfl
        rotate_left
        ·simp only [Act.put, List.setIfInBounds_toArray, List.set_cons_zero, List.set_cons_succ, i64_w, i32_w]
         rfl
        refine pure_ (i := 1) (N := some 82) (v := ?_) (a' := ?_) #[true, true, false, false, false, false, false, false, false, false, false, false] rfl rfl (any_of HT_.out (by kernel_rfl)) (fun _ _ _ h => h) (Or.inl ⟨by rfl, ?_⟩) ?_ ?_
        rotate_left
        ·intro w'
         go_simp
         with_reducible rfl
        rotate_left
        ·simp only [Act.put, List.setIfInBounds_toArray, List.set_cons_zero, List.set_cons_succ, i64_w, i32_w]
         rfl
        refine pure_ (i := 5) (N := some 86) (v := ?_) (a' := ?_) #[true, true, false, false, false, true, false, false, false, false, false, false] rfl rfl (any_of HT_.out (by kernel_rfl)) (fun _ _ _ h => h) (Or.inl ⟨by rfl, ?_⟩) ?_ ?_
        rotate_left
        ·intro w'
         go_simp
         with_reducible rfl
        rotate_left
        ·simp only [Act.put, List.setIfInBounds_toArray, List.set_cons_zero, List.set_cons_succ, i64_w, i32_w]
         rfl
        refine inv_at [2, 3, 4, 6, 7, 8, 9, 10, 11] (fun a0_ b a w' => ∃ (g9 : Nat) (v9 : Value) (m7_ : Value), a = putSel a0_ b [(2, 83, .pointer (some ⟨gc, 0, none⟩)), (3, 84, .pointer (some ⟨gc, 12, none⟩)), (4, 85, .slice Av xs.length cv), (6, 87, .int .u32 (q : Int)), (7, 88, m7_), (8, 89, v9), (9, 90, .pointer (some ⟨gc, 0, none⟩)), (10, 91, .pointer (some ⟨gc, 12, none⟩))] ∧ (b 8 = false → Only (fun k => k = g ∨ k = gc) W0 w') ∧ (b 8 = false → w'.heap[gc]? = some (.cells #[.int .u8 3, .int .u8 fl, .int .u32 (t1 : Int), .int .u16 0, .int .u16 0, .int .u32 0, .int .u32 0, .int .u32 (t2 : Int), .int .u16 0, .int .u16 0, vg, vn, .slice Av xs.length cv, .slice none 0 0, .slice none 0 0] 41 (0, 0))) ∧ (b 8 = false → (Kd.int .u32).R 23 w' W0.heap.size (fun _ => True) (.slice Av xs.length cv) xs) ∧ (b 6 = false → RS w0 w' g vv) ∧ (b 6 = true → b 8 = false → RS w0 w' g (vv.drop 4)) ∧ (b 7 = true → b 8 = false → ∃ w2, w' = w2.alloc (.cells #[.int .u32 (q : Int)] 23) ∧ g9 = w2.heap.size ∧ Only (fun k => k = g ∨ k = gc) W0 w2 ∧ w2.heap[gc]? = some (.cells #[.int .u8 3, .int .u8 fl, .int .u32 (t1 : Int), .int .u16 0, .int .u16 0, .int .u32 0, .int .u32 0, .int .u32 (t2 : Int), .int .u16 0, .int .u16 0, vg, vn, .slice Av xs.length cv, .slice none 0 0, .slice none 0 0] 41 (0, 0)) ∧ (Kd.int .u32).R 23 w2 W0.heap.size (fun _ => True) (.slice Av xs.length cv) xs ∧ RS w0 w2 g (vv.drop 4)) ∧ (b 8 = true → b 11 = false → (Kd.int .u32).R 23 w' W0.heap.size (fun _ => True) v9 (xs ++ [(q : Int)]) ∧ w'.heap[gc]? = some (.cells #[.int .u8 3, .int .u8 fl, .int .u32 (t1 : Int), .int .u16 0, .int .u16 0, .int .u32 0, .int .u32 0, .int .u32 (t2 : Int), .int .u16 0, .int .u16 0, vg, vn, .slice Av xs.length cv, .slice none 0 0, .slice none 0 0] 41 (0, 0)) ∧ RS w0 w' g (vv.drop 4) ∧ Only (fun k => k = g ∨ k = gc) W0 w') ∧ (b 11 = true → (Kd.int .u32).R 23 w' W0.heap.size (fun _ => True) v9 (xs ++ [(q : Int)]) ∧ w'.heap[gc]? = some (.cells #[.int .u8 3, .int .u8 fl, .int .u32 (t1 : Int), .int .u16 0, .int .u16 0, .int .u32 0, .int .u32 0, .int .u32 (t2 : Int), .int .u16 0, .int .u16 0, vg, vn, v9, .slice none 0 0, .slice none 0 0] 41 (0, 0)) ∧ RS w0 w' g (vv.drop 4) ∧ Only (fun k => k = g ∨ k = gc) W0 w') ∧ (b 7 = true → (m7_ : Value) = .slice (some ⟨g9, 0, none⟩) 1 1)) HT_.out HW_.out (by kernel_rfl) (by kernel_rfl) ?_ ?_ ?_
        ·exact ⟨0, undef, .bool false, by simp only [putSel, Bool.false_eq_true, if_false], fun _ => HO.out.drew, fun _ => HC.out, fun _ => HR.out, fun _ => HRS.out, fun h_ => absurd h_ (by decide), fun h_ => absurd h_ (by decide), fun h_ => absurd h_ (by decide), fun h_ => absurd h_ (by decide), fun h_ => absurd h_ (by decide)⟩
        ·skip
         clear B C D R
         refine steps_cons ?_ ?_
         ·rintro b a w' ⟨g9, v9, m7_, ha, Q_B, Q_C, Q_R, Q_D, Q_E, Q_W2, Q_S1, Q_S2, Q_X7_⟩ hb_ hon hoff
          refine ⟨_, rfl, fun K hK => ?_⟩
          have e82 : a.tmps[82]? = some (.pointer (some ⟨gc, 0, none⟩)) := by rw [ha]; exact (putSel_off rfl).trans rfl
          replace ha := Am ha
          refine value_ (w1 := w') (v := .pointer (some ⟨gc, 0, none⟩)) (by rfl) rfl ?_ ?_
          ·go_simp
           (try simp only [i64_w])
           try rfl
          refine hK.out _ _ ⟨g9, v9, m7_, (puk ha 0 hb_ rfl rfl rfl), Q_B, Q_C, Q_R, Q_D, Q_E, Q_W2, fun h0_ _ => hof (hoff 8 (by kernel_rfl)) h0_, fun h0_ => hof (hoff 11 (by kernel_rfl)) h0_, Q_X7_⟩
         refine steps_cons ?_ ?_
         ·rintro b a w' ⟨g9, v9, m7_, ha, Q_B, Q_C, Q_R, Q_D, Q_E, Q_W2, Q_S1, Q_S2, Q_X7_⟩ hb_ hon hoff
          refine ⟨_, rfl, fun K hK => ?_⟩
          have e83 := psn ha 0 rfl rfl (hon 2 (by kernel_rfl)) rfl
          replace ha := Am ha
          refine value_ (w1 := w') (v := .pointer (some ⟨gc, 12, none⟩)) (by rfl) rfl ?_ ?_
          ·go_simp
           (try simp only [i64_w])
           try rfl
          refine hK.out _ _ ⟨g9, v9, m7_, (puk ha 1 hb_ rfl rfl rfl), Q_B, Q_C, Q_R, Q_D, Q_E, Q_W2, fun h0_ _ => hof (hoff 8 (by kernel_rfl)) h0_, fun h0_ => hof (hoff 11 (by kernel_rfl)) h0_, Q_X7_⟩
         refine steps_cons ?_ ?_
         ·rintro b a w' ⟨g9, v9, m7_, ha, Q_B, Q_C, Q_R, Q_D, Q_E, Q_W2, Q_S1, Q_S2, Q_X7_⟩ hb_ hon hoff
          refine ⟨_, rfl, fun K hK => ?_⟩
          have e84 := psn ha 1 rfl rfl (hon 3 (by kernel_rfl)) rfl
          replace ha := Am ha
          have C := Am (Q_C (hoff 8 (by kernel_rfl)))
          have hs := blk_cell C.out 12
          refine value_ (w1 := w') (v := .slice Av xs.length cv) (by rfl) rfl ?_ ?_
          ·go_simp
           (try simp only [i64_w])
           try rfl
          refine hK.out _ _ ⟨g9, v9, m7_, (puk ha 2 hb_ rfl rfl rfl), Q_B, Q_C, Q_R, Q_D, Q_E, Q_W2, fun h0_ _ => hof (hoff 8 (by kernel_rfl)) h0_, fun h0_ => hof (hoff 11 (by kernel_rfl)) h0_, Q_X7_⟩
         refine steps_cons ?_ ?_
         ·rintro b a w' ⟨g9, v9, m7_, ha, Q_B, Q_C, Q_R, Q_D, Q_E, Q_W2, Q_S1, Q_S2, Q_X7_⟩ hb_ hon hoff
          refine ⟨_, rfl, fun K hK => ?_⟩
          have e86 : a.tmps[86]? = some (.pointer (some ⟨g, 0, none⟩)) := by rw [ha]; exact (putSel_off rfl).trans rfl
          replace ha := Am ha
          have B := Am (Q_B (hoff 8 (by kernel_rfl)))
          have C := Am (Q_C (hoff 8 (by kernel_rfl)))
          have R := Am (Q_R (hoff 8 (by kernel_rfl)))
          have D := Am (Q_D hb_)
          refine goes_ Tryd.func96 (by kernel_rfl) rfl #[.pointer (some ⟨g, 0, none⟩)] (by rfl) rfl rfl (by first | (simp only [List.map_toArray, List.map_cons, List.map_nil, Act.eval, Array.getD_eq_getD_getElem?, Option.getD_some, e86]; done) | (simp only [List.map_toArray, List.map_cons, List.map_nil, Act.eval, Array.getD_eq_getD_getElem?, Option.getD_some, e86]; rfl)) ?_
          refine (HF.out w' D.out B.out).mono ?_
          rintro e w1 ⟨rfl, hRS1, hO1⟩
          refine ⟨_, rfl, ?_⟩
          refine hK.out _ _ ⟨g9, v9, m7_, (puk ha 3 hb_ rfl rfl rfl), fun _ => B.out.trans hO1 (fun k _ h => Or.inl h), fun _ => hO1.blk C.out HNE.out, fun _ => R_only R.out hO1 (fun k hk _ e => HGL.out k hk (Or.inl e)), fun h0_ => absurd ((up_self b 6).symm.trans h0_) (by decide), fun _ _ => hRS1, fun h0_ _ => hof (hoff 7 (by kernel_rfl)) h0_, fun h0_ _ => hof (hoff 8 (by kernel_rfl)) h0_, fun h0_ => hof (hoff 11 (by kernel_rfl)) h0_, fun h0_ => hof (hoff 7 (by kernel_rfl)) h0_⟩
         refine steps_cons ?_ ?_
         ·rintro b a w' ⟨g9, v9, m7_, ha, Q_B, Q_C, Q_R, Q_D, Q_E, Q_W2, Q_S1, Q_S2, Q_X7_⟩ hb_ hon hoff
          refine ⟨_, rfl, fun K hK => ?_⟩
          have e87 := psn ha 3 rfl rfl (hon 6 (by kernel_rfl)) rfl
          replace ha := Am ha
          have B := Am (Q_B (hoff 8 (by kernel_rfl)))
          have C := Am (Q_C (hoff 8 (by kernel_rfl)))
          have R := Am (Q_R (hoff 8 (by kernel_rfl)))
          have E := Am (Q_E (hon 6 (by kernel_rfl)) (hoff 8 (by kernel_rfl)))
          refine value_ (w1 := w'.alloc (.cells #[.int .u32 (q : Int)] 23)) (v := .slice (some ⟨w'.heap.size, 0, none⟩) 1 1) (by rfl) rfl (by go_simp; try rfl) ?_
          refine hK.out _ _ ⟨w'.heap.size, v9, (.slice (some ⟨w'.heap.size, 0, none⟩) 1 1), (puk ha 4 hb_ rfl rfl rfl), fun _ => B.out.alloc _, fun _ => blk_alloc C.out _, fun _ => Kd.R_alloc R.out _, fun h0_ => absurd ((hon 6 (by kernel_rfl)).symm.trans h0_) (by decide), fun _ _ => E.out.only ((Only.refl (fun _ => False) _).alloc _) id, fun _ _ => ⟨w', rfl, rfl, B.out, C.out, R.out, E.out⟩, fun h0_ _ => hof (hoff 8 (by kernel_rfl)) h0_, fun h0_ => hof (hoff 11 (by kernel_rfl)) h0_, fun _ => rfl⟩
         refine steps_cons ?_ ?_
         ·rintro b a w' ⟨g9, v9, m7_, ha, Q_B, Q_C, Q_R, Q_D, Q_E, Q_W2, Q_S1, Q_S2, Q_X7_⟩ hb_ hon hoff
          refine ⟨_, rfl, fun K hK => ?_⟩
          have e85 := psn ha 2 rfl rfl (hon 4 (by kernel_rfl)) rfl
          have e88 := psn ha 4 rfl rfl (hon 7 (by kernel_rfl)) rfl
          rw [Q_X7_ (hon 7 (by kernel_rfl))] at e88
          replace ha := Am ha
          have W2 := Am (Q_W2 (hon 7 (by kernel_rfl)) hb_)
          obtain ⟨w2, rfl, hg9, hB2, hC2, hR2, hE2⟩ := W2.out
          rw [hg9] at e88
          refine Kd.R_append_step (Kd.int .u32) (w0 := w2) (W := w2) W0.heap.size (by rfl) _ _ 38 23 _ 4 rfl Tryd.underlying38 info23 rfl (by decide) (by decide) (.slice Av xs.length cv) xs (q : Int) [.int .u32 (q : Int)] (fun _ => True) (fun _ => False) (by simp [Act.eval, Array.getD_eq_getD_getElem?, e85]) (by simp [Act.eval, Array.getD_eq_getD_getElem?, e88]) rfl (fun _ h => h.elim) (fun _ _ => trivial) hR2 (Below.refl _ _) hB2.size (by have := HXL.out; omega) ?_
          intro v1 w1 hR1 hB1 hG1 hat1
          have hC3 := (hB1.block gc (HGL2.out.2)).trans hC2
          have hE3 := hE2.below hB1 HGL2.out.1
          have hO3 := only_then3 hB2 hB1
          refine hK.out _ _ ⟨g9, v1, m7_, (puk ha 5 hb_ rfl rfl rfl), fun h0_ => absurd ((up_self b 8).symm.trans h0_) (by decide), fun h0_ => absurd ((up_self b 8).symm.trans h0_) (by decide), fun h0_ => absurd ((up_self b 8).symm.trans h0_) (by decide), fun h0_ => absurd ((hon 6 (by kernel_rfl)).symm.trans h0_) (by decide), fun _ h1_ => absurd ((up_self b 8).symm.trans h1_) (by decide), fun _ h1_ => absurd ((up_self b 8).symm.trans h1_) (by decide), fun _ _ => ⟨hR1, hC3, hE3, hO3⟩, fun h0_ => hof (hoff 11 (by kernel_rfl)) h0_, Q_X7_⟩
         refine steps_cons ?_ ?_
         ·rintro b a w' ⟨g9, v9, m7_, ha, Q_B, Q_C, Q_R, Q_D, Q_E, Q_W2, Q_S1, Q_S2, Q_X7_⟩ hb_ hon hoff
          refine ⟨_, rfl, fun K hK => ?_⟩
          have e81 : a.tmps[81]? = some (.pointer (some ⟨gc, 0, none⟩)) := by rw [ha]; exact (putSel_off rfl).trans rfl
          replace ha := Am ha
          refine value_ (w1 := w') (v := .pointer (some ⟨gc, 0, none⟩)) (by rfl) rfl ?_ ?_
          ·go_simp
           (try simp only [i64_w])
           try rfl
          refine hK.out _ _ ⟨g9, v9, m7_, (puk ha 6 hb_ rfl rfl rfl), fun h0_ => absurd ((hon 8 (by kernel_rfl)).symm.trans h0_) (by decide), fun h0_ => absurd ((hon 8 (by kernel_rfl)).symm.trans h0_) (by decide), fun h0_ => absurd ((hon 8 (by kernel_rfl)).symm.trans h0_) (by decide), fun h0_ => absurd ((hon 6 (by kernel_rfl)).symm.trans h0_) (by decide), fun _ h1_ => absurd ((hon 8 (by kernel_rfl)).symm.trans h1_) (by decide), fun _ h1_ => absurd ((hon 8 (by kernel_rfl)).symm.trans h1_) (by decide), Q_S1, fun h0_ => hof (hoff 11 (by kernel_rfl)) h0_, Q_X7_⟩
         refine steps_cons ?_ ?_
         ·rintro b a w' ⟨g9, v9, m7_, ha, Q_B, Q_C, Q_R, Q_D, Q_E, Q_W2, Q_S1, Q_S2, Q_X7_⟩ hb_ hon hoff
          refine ⟨_, rfl, fun K hK => ?_⟩
          have e90 := psn ha 6 rfl rfl (hon 9 (by kernel_rfl)) rfl
          replace ha := Am ha
          refine value_ (w1 := w') (v := .pointer (some ⟨gc, 12, none⟩)) (by rfl) rfl ?_ ?_
          ·go_simp
           (try simp only [i64_w])
           try rfl
          refine hK.out _ _ ⟨g9, v9, m7_, (puk ha 7 hb_ rfl rfl rfl), fun h0_ => absurd ((hon 8 (by kernel_rfl)).symm.trans h0_) (by decide), fun h0_ => absurd ((hon 8 (by kernel_rfl)).symm.trans h0_) (by decide), fun h0_ => absurd ((hon 8 (by kernel_rfl)).symm.trans h0_) (by decide), fun h0_ => absurd ((hon 6 (by kernel_rfl)).symm.trans h0_) (by decide), fun _ h1_ => absurd ((hon 8 (by kernel_rfl)).symm.trans h1_) (by decide), fun _ h1_ => absurd ((hon 8 (by kernel_rfl)).symm.trans h1_) (by decide), Q_S1, fun h0_ => hof (hoff 11 (by kernel_rfl)) h0_, Q_X7_⟩
         refine steps_cons ?_ ?_
         ·rintro b a w' ⟨g9, v9, m7_, ha, Q_B, Q_C, Q_R, Q_D, Q_E, Q_W2, Q_S1, Q_S2, Q_X7_⟩ hb_ hon hoff
          refine ⟨_, rfl, fun K hK => ?_⟩
          have e91 := psn ha 7 rfl rfl (hon 10 (by kernel_rfl)) rfl
          have e89 := psn ha 5 rfl rfl (hon 8 (by kernel_rfl)) rfl
          replace ha := Am ha
          have S1 := Am (Q_S1 (hon 8 (by kernel_rfl)) hb_)
          obtain ⟨hR1, hC1, hE1, hO1⟩ := S1.out
          obtain ⟨A7, c7, hv9⟩ := Kd.R_slice hR1
          have hs := blk_cell hC1 12
          have hf := blk_frozen hC1 12
          refine skip_ (w1 := w'.setCell ⟨gc, 12, none⟩ v9) (by rfl) rfl (by generalize (xs ++ [(q : Int)]).length = zl at hv9; rw [hv9] at e89 ⊢; go_simp; try rfl) ?_
          refine hK.out _ _ ⟨g9, v9, m7_, (by rw [ha.out]; exact putSel_none (v := undef) rfl), fun h0_ => absurd ((hon 8 (by kernel_rfl)).symm.trans h0_) (by decide), fun h0_ => absurd ((hon 8 (by kernel_rfl)).symm.trans h0_) (by decide), fun h0_ => absurd ((hon 8 (by kernel_rfl)).symm.trans h0_) (by decide), fun h0_ => absurd ((hon 6 (by kernel_rfl)).symm.trans h0_) (by decide), fun _ h1_ => absurd ((hon 8 (by kernel_rfl)).symm.trans h1_) (by decide), fun _ h1_ => absurd ((hon 8 (by kernel_rfl)).symm.trans h1_) (by decide), fun _ h1_ => absurd ((up_self b 11).symm.trans h1_) (by decide), fun _ => ⟨R_only hR1 ((Only.refl (· = gc) w').setCell (fun _ => rfl) v9) (fun k hk _ e => HGL.out k hk (Or.inr e)), blk_put hC1 12 v9 rfl, hE1.only ((Only.refl (· = gc) w').setCell (fun _ => rfl) v9) HNE2.out, hO1.setCell (fun _ => Or.inr rfl) v9⟩, Q_X7_⟩
         exact steps_nil
        rintro b a w' hall ⟨g9, v9, m7_, ha, Q_B, Q_C, Q_R, Q_D, Q_E, Q_W2, Q_S1, Q_S2, Q_X7_⟩
        clear B C D R
        have hb2_ := hall 2 (by kernel_rfl)
        have hb3_ := hall 3 (by kernel_rfl)
        have hb4_ := hall 4 (by kernel_rfl)
        have hb6_ := hall 6 (by kernel_rfl)
        have hb7_ := hall 7 (by kernel_rfl)
        have hb8_ := hall 8 (by kernel_rfl)
        have hb9_ := hall 9 (by kernel_rfl)
        have hb10_ := hall 10 (by kernel_rfl)
        have hb11_ := hall 11 (by kernel_rfl)
        subst ha
        obtain rfl := Q_X7_ hb7_
        simp only [putSel, hb2_, hb3_, hb4_, hb6_, hb7_, hb8_, hb9_, hb10_, hb11_, if_true, Act.put, List.setIfInBounds_toArray, List.set_cons_zero, List.set_cons_succ]
        clear Q_B
        clear Q_C
        clear Q_R
        clear Q_D
        clear Q_E
        clear Q_W2
        clear Q_S1
        have S2 := Am (Q_S2 hb11_)
        clear Q_S2
        clear hall hb2_ hb3_ hb4_ hb6_ hb7_ hb8_ hb9_ hb10_ hb11_
        obtain ⟨hR9, hC9, hE9, hO9⟩ := S2.out
        have HR9 := Lh hR9
        have HC9 := Lh hC9
        have HE9 := Lh hE9
        have HO9 := Lh hO9
        clear hR9 hC9 hE9 hO9 S2
        rw [HE4.out] at HE9
        have hw := HW.out
        clear HW HE4 HF HRS HC HO HR
        go_wp2
        go_roundw
        case rel => exact ⟨i + 1, xs ++ [(q : Int)], v9, by omega, by first | go_num | exact congrArg _ hw, HR9, HE2, HE9, HC9, HO9⟩
        case measure => simp [intOf]; omega
       ·obtain rfl : i = d := by omega
        have hE := HE.out
        rw [Nat.sub_self, dupsD, List.append_nil] at hE
        have HE2 := Lh hE
        have hv4 : vv0.drop (4 * i) = [] := List.drop_eq_nil_of_le (by omega)
        rw [hv4] at HRS
        clear hE HE hv4 HFW
        go_wp2
        go_end0
        unfold ListP
        rw [HLD.out]
        refine ⟨rfl, vg, vn, _, by rw [HT1.out, HT2.out]; exact HC.out, R_only HG7.out HO.out (fun k hk _ e => HGL0.out k hk e), R_only HN7.out HO.out (fun k hk _ e => HGL0.out k hk e), ?_, HRS.out, HO7.out.trans HO.out (fun k _ h => h)⟩
        rw [← HE2.out]
        exact Kd.R_lower HR.out HO7.out.size
   ·rintro e w4 hP
    rw [if_neg (by rw [List.length_drop]; omega)] at hP
    obtain ⟨rfl, hO4⟩ := hP
    have hE : listsD false v = .error 61 := by unfold listsD; rw [if_pos (by simp; omega)]
    refine ⟨rfl, ?_⟩
    unfold ListP
    rw [hE]
    exact ⟨rfl, ⟨_, hO4.blk HC3.out HNE.out, rfl⟩, HO3.out.trans (hO4.mono (S' := fun k => k = g ∨ k = gc) (fun k _ h => Or.inl h)) (fun k _ h => h)⟩
  ·have H2 := Lh (fun (W : World) (h : RS w0 W g (v.drop 4)) (hO : Only (· = g) w W) => HFB.out W (v.drop 4) h (hO.mono (fun k _ h => Or.inl h)) (by rw [List.length_drop]; omega) (by rw [List.length_drop]; omega))
   have hE : listsD false v = .error 61 := by unfold listsD; rw [if_pos (by simp; omega)]
   rw [hE]
   unfold ListP errE
   generalize be (v.take 4) = t1 at *
   go_enter Tryd.func100, Tryd.ntmps100
   go_wp2_with fail
   refine H1.out.mono ?_
   rintro e w1 ⟨rfl, hRS, hO1⟩
   have HRS := Lh hRS
   have HO1 := Lh hO1
   clear hRS hO1 H1
   go_wp2_with fail
   refine (H2.out w1 HRS.out HO1.out).mono ?_
   rintro e w2 ⟨rfl, hO2⟩
   exact ⟨rfl, rfl, ⟨_, (HO1.out.trans hO2 (fun k _ h => h)).blk HCC.out HNE.out, rfl⟩, (HO1.out.trans hO2 (fun k _ h => h)).mono (fun k _ h => Or.inl h)⟩
 ·have H1 := Lh (HFB.out w v HS.out (Only.refl _ _) (by omega) hv)
  have hE : listsD false v = .error 61 := by unfold listsD; rw [if_pos (by simp; omega)]
  rw [hE]
  unfold ListP errE
  go_enter Tryd.func100, Tryd.ntmps100
  go_wp2_with fail
  refine H1.out.mono ?_
  rintro e w1 ⟨rfl, hO1⟩
  exact ⟨rfl, rfl, ⟨_, hO1.blk HCC.out HNE.out, rfl⟩, hO1.mono (fun k _ h => Or.inl h)⟩
set_option maxHeartbeats 4000000 in
theorem lists_nr (w0 w : World) (g gc : Nat) (v : List UInt8) (fl : Int) (hs : RS w0 w g v) (hc : w.heap[gc]? = some (.cells #[.int .u8 16, .int .u8 fl, .int .u32 0, .int .u16 0, .int .u16 0, .int .u32 0, .int .u32 0, .int .u32 0, .int .u16 0, .int .u16 0, .slice none 0 0, .slice none 0 0, .slice none 0 0, .slice none 0 0, .slice none 0 0] 41 (0, 0))) (hB : Below w0.heap.size w0 w) (hg : w0.heap.size ≤ g) (hgc : w0.heap.size ≤ gc) (hne : g ≠ gc) (hv : v.length ≤ 140737488355328) :
  Calls Tryd.prog 100 #[.pointer (some ⟨g, 0, none⟩), .pointer (some ⟨gc, 0, none⟩)] w (ListP w0 w g gc 16 fl (listsD true v)) := by
 have HGL := Lh (show g < w.heap.size ∧ gc < w.heap.size from ⟨hs.lt, blk_lt hc⟩)
 have HBW := Lh (fun (W : World) (h : Only (fun k => k = g ∨ k = gc) w W) => hB.trans (h.below hB.size (fun k hk => by omega)))
 have HNE := Lh (show ¬ gc = g from fun e => hne e.symm)
 have HNE2 := Lh (show ¬ g = gc from hne)
 have HF := Lh (fun (W : World) (u : List UInt8) (h : RS w0 W g u) (hO : Only (fun k => k = g ∨ k = gc) w W) (h4 : 4 ≤ u.length) (hu : u.length ≤ 140737488355328) => four_ok w0 W g u h (HBW.out W hO) hg h4 hu)
 have HFB := Lh (fun (W : World) (u : List UInt8) (h : RS w0 W g u) (hO : Only (fun k => k = g ∨ k = gc) w W) (h4 : u.length < 4) (hu : u.length ≤ 140737488355328) => four_bad w0 W g u h (HBW.out W hO) hg h4 hu)
 have HC := Lh (fun (W : World) (u : List UInt8) (h : RS w0 W g u) (hO : Only (fun k => k = g ∨ k = gc) w W) (hu : u.length ≤ 140737488355328) => counts_calls w0 W g u 4 (by decide) h (HBW.out W hO) hg hu)
 have HGP := Lh (fun (W : World) (u : List UInt8) (k : Nat) (h : RS w0 W g u) (hO : Only (fun k => k = g ∨ k = gc) w W) (hu : u.length ≤ 140737488355328) (hk : k ≤ 4096) (hl : 4 * k ≤ u.length) => rgaps_ok w0 W g u k hk h (HBW.out W hO) hg hu hl)
 have HS := Lh hs
 have HCC := Lh hc
 have hwg : w0.heap.size ≤ g := hg
 unfold CntP errE at HC
 unfold errE at HFB
 clear hs hc hB hg hgc hne
 by_cases h4 : 4 ≤ v.length
 ·have H1 := Lh (HF.out w v HS.out (Only.refl _ _) h4 hv)
  by_cases h8 : 8 ≤ v.length
  ·have H2 := Lh (fun (W : World) (h : RS w0 W g (v.drop 4)) (hO : Only (· = g) w W) => HF.out W (v.drop 4) h (hO.mono (fun k _ h => Or.inl h)) (by rw [List.length_drop]; omega) (by rw [List.length_drop]; omega))
   have H3 := Lh (fun (W : World) (h : RS w0 W g (v.drop 8)) (hO : Only (fun k => k = g ∨ k = gc) w W) => HC.out W (v.drop 8) h hO (by rw [List.length_drop]; omega))
   rw [List.drop_drop] at H2
   obtain ⟨t1, ht1⟩ : ∃ t1, be (v.take 4) = t1 := ⟨_, rfl⟩
   obtain ⟨t2, ht2⟩ : ∃ t2, be ((v.drop 4).take 4) = t2 := ⟨_, rfl⟩
   rw [ht1] at H1
   rw [ht2] at H2
   have HT1 := Lh ht1
   have HT2 := Lh ht2
   clear ht1 ht2
   go_enter Tryd.func100, Tryd.ntmps100
   go_wp2_with fail
   refine H1.out.mono ?_
   rintro e w1 ⟨rfl, hRS, hO1⟩
   have HRS := Lh hRS
   have HO1 := Lh hO1
   clear hRS hO1 H1
   go_wp2_with fail
   refine (H2.out w1 HRS.out HO1.out).mono ?_
   rintro e w2 ⟨rfl, hRS, hO2⟩
   have hO12 := HO1.out.trans hO2 (fun k _ h => h)
   have hc2 := hO12.blk HCC.out HNE.out
   have k2 : w2.cell? ⟨gc, 2, none⟩ = some (.int .u32 0) := blk_cell hc2 2
   have k7 : w2.cell? ⟨gc, 7, none⟩ = some (.int .u32 0) := blk_cell hc2 7
   have f2 := blk_frozen hc2 2
   have f7 := blk_frozen hc2 7
   have HC3 := Lh (blk_put (blk_put hc2 2 (.int .u32 (t1 : Int)) rfl) 7 (.int .u32 (t2 : Int)) (show _ = #[.int .u8 16, .int .u8 fl, .int .u32 (t1 : Int), .int .u16 0, .int .u16 0, .int .u32 0, .int .u32 0, .int .u32 (t2 : Int), .int .u16 0, .int .u16 0, .slice none 0 0, .slice none 0 0, .slice none 0 0, .slice none 0 0, .slice none 0 0] from rfl))
   have HO3 := Lh (((hO12.mono (S' := fun k => k = g ∨ k = gc) (fun k _ h => Or.inl h)).setCell (p := ⟨gc, 2, none⟩) (fun _ => Or.inr rfl) (.int .u32 (t1 : Int))).setCell (p := ⟨gc, 7, none⟩) (fun _ => Or.inr rfl) (.int .u32 (t2 : Int)))
   have HRS3 := Lh (hRS.only ((Only.refl (· = gc) w2).setCell (p := ⟨gc, 2, none⟩) (fun _ => rfl) (.int .u32 (t1 : Int)) |>.setCell (p := ⟨gc, 7, none⟩) (fun _ => rfl) (.int .u32 (t2 : Int))) HNE2.out)
   clear hRS hO2 H2 hO12 hc2 HRS HO1
   go_upto_region 1 with (fail)
   clear f2 f7 k2 k7
   generalize (w2.setCell ⟨gc, 2, none⟩ (.int .u32 (t1 : Int))).setCell ⟨gc, 7, none⟩ (.int .u32 (t2 : Int)) = W3 at *
   have k0 := blk_cell HC3.out 0
   replace k0 : W3.cell? ⟨gc, 0, none⟩ = some (.int .u8 16) := k0
   go_wp2_with fail
   refine (H3.out W3 HRS3.out HO3.out).mono ?_
   by_cases h12 : 16 ≤ v.length
   ·rintro e w4 hP
    rw [if_pos (by rw [List.length_drop]; omega)] at hP
    obtain ⟨u, rfl, hU, hRS, hO4⟩ := hP
    have hcnt : cntD 4 (v.drop 8) = [(be ((v.drop 8).take 2) : Int), (be ((v.drop 10).take 2) : Int), (be ((v.drop 12).take 2) : Int), (be ((v.drop 14).take 2) : Int)] := by simp only [cntD, List.drop_drop]
    rw [hcnt] at hU
    obtain ⟨A4, c4, rfl, hle4, hC4⟩ := Kd.R_reads hU
    rw [List.drop_drop, show 8 + 2 * 4 = 16 from rfl] at hRS
    have HO4 := Lh (HO3.out.trans (hO4.mono (S' := fun k => k = g ∨ k = gc) (fun k _ h => Or.inl h)) (fun k _ h => h))
    have HC4 := Lh (hO4.blk HC3.out HNE.out)
    have HRS4 := Lh hRS
    obtain ⟨Ar, cr, hbr, hcr, hCr⟩ := hRS
    have kr : w4.cell? ⟨g, 0, none⟩ = some (.slice Ar (v.drop 16).length cr) := blk_cell hbr 0
    obtain ⟨ad, rfl, x0⟩ := int_at hC4 0 (by simp)
    obtain ⟨ad', e', x1⟩ := int_at hC4 1 (by simp)
    cases e'
    obtain ⟨ad', e', x2⟩ := int_at hC4 2 (by simp)
    cases e'
    replace x2 : w4.cell? ⟨ad.block, ad.off + 2, none⟩ = some (.int .u16 (be ((v.drop 12).take 2) : Int)) := by
     rw [show ad.add 2 = ad.add (0 + 2) from rfl, add_field _ _ 2 (by omega)] at x2
     exact x2
    replace x0 : w4.cell? ad = some (.int .u16 (be ((v.drop 8).take 2) : Int)) := x0
    replace x1 : w4.cell? ⟨ad.block, ad.off + 1, none⟩ = some (.int .u16 (be ((v.drop 10).take 2) : Int)) := by
     rw [show ad.add 1 = ad.add (0 + 1) from rfl, add_field _ _ 1 (by omega)] at x1
     exact x1
    have hlen : (v.drop 16).length = v.length - 16 := List.length_drop
    have ba := be_two_lt (v.drop 8)
    have bd := be_two_lt (v.drop 12)
    have bn := be_two_lt (v.drop 10)
    rw [show [(be ((v.drop 8).take 2) : Int), (be ((v.drop 10).take 2) : Int), (be ((v.drop 12).take 2) : Int), (be ((v.drop 14).take 2) : Int)].length = 4 from rfl] at hle4 hC4 ⊢
    have HLD := Lh (show listsD true v = _ from by unfold listsD; rw [if_neg (by simp; omega)])
    simp only [if_true, if_false, Bool.false_eq_true] at HLD
    clear hU hcnt hO4 HC3 HO3 HRS3 hbr hcr hCr hC4 k0 H3
    generalize be ((v.drop 8).take 2) = a at *
    generalize be ((v.drop 12).take 2) = d at *
    generalize be ((v.drop 10).take 2) = n at *
    generalize hL : (v.drop 16).length = LL at *
    by_cases hbig : 4096 < a ∨ 4096 < n ∨ 4096 < d
    ·rw [if_pos hbig] at HLD
     clear kr HGP HF HFB HC HRS4 hlen
     go_wp2
     go_quiet (fail)
     go_wp2
     all_goals (first | (exfalso; omega) | (refine ⟨rfl, ?_⟩; unfold ListP; rw [HLD.out]; exact ⟨rfl, ⟨_, by first | exact blk_drewN HC4.out _ | exact HC4.out, rfl⟩, by first | exact HO4.out.drewN _ | exact HO4.out⟩))
    ·rw [if_neg hbig] at HLD
     have hb1 : ¬ (4096 : Int) < (a : Int) := by omega
     have hb2 : ¬ (4096 : Int) < (d : Int) := by omega
     have hb3 : ¬ (4096 : Int) < (n : Int) := by omega
     by_cases hlen2 : v.length ≠ 16 + 4 * (a + n + d)
     ·rw [if_pos hlen2] at HLD
      clear HGP HF HFB HC HRS4
      go_wp2
      go_quiet (fail)
      go_wp2
      all_goals (first | (exfalso; omega) | (refine ⟨rfl, ?_⟩; unfold ListP; rw [HLD.out]; exact ⟨rfl, ⟨_, by first | exact blk_drewN HC4.out _ | exact HC4.out, rfl⟩, by first | exact HO4.out.drewN _ | exact HO4.out⟩))
     ·rw [if_neg hlen2] at HLD
      have hlen3 : v.length = 16 + 4 * (a + n + d) := Decidable.byContradiction fun h => hlen2 h
      have HLL := Lh hL
      have HL3 := Lh hlen3
      obtain ⟨m1, hm1, hb4⟩ : ∃ m1 : Int, (if a < n then (n : Int) else (a : Int)) = m1 ∧ m1 ≤ 4096 := ⟨_, rfl, by split <;> omega⟩
      obtain ⟨m2, hm2, hb5⟩ : ∃ m2 : Int, (if m1 < (d : Int) then (d : Int) else m1) = m2 ∧ m2 ≤ 4096 := ⟨_, rfl, by split <;> omega⟩
      have hm3 : ¬ 4096 < m2 := by omega
      have hLL : (4 : Int) * ((a : Int) + (n : Int) + (d : Int)) = (LL : Int) := by omega
      have HRS4' := Lh (fun n : Nat => RS.only HRS4.out ((Only.refl (fun _ => False) w4).drewN n) id)
      have HO4' := Lh (fun n : Nat => HO4.out.drewN n)
      have HC4' := Lh (fun n : Nat => blk_drewN HC4.out n)
      clear HRS4 HO4 HC4 hlen3 hlen2 hL hbig hlen hv
      go_wp2
      go_quiet (fail)
      go_wp2_with fail
      refine (HGP.out (w4.drewN nq) (v.drop 16) a (HRS4'.out nq) (HO4'.out nq) (by have := HL3.out; have := HLL.out; omega) (by omega) (by have := HL3.out; have := HLL.out; rw [List.length_drop]; omega)).mono ?_
      rintro e w5 ⟨vg, rfl, hG, hRS, hO⟩
      have HO5 := Lh ((HO4'.out nq).trans (hO.mono (S' := fun k => k = g ∨ k = gc) (fun k _ h => Or.inl h)) (fun k _ h => h))
      have HC5 := Lh (hO.blk (HC4'.out nq) HNE.out)
      have HG5 := Lh (Kd.R_lower hG (HO4'.out nq).size)
      have HRS5 := Lh hRS
      rw [List.drop_drop] at HRS5
      clear hG hRS hO HRS4' HO4' HC4' kr x0 x1 x2
      generalize w4.drewN nq = W4 at *
      go_wp2_with fail
      refine (HGP.out w5 (v.drop (16 + 4 * a)) n HRS5.out HO5.out (by have := HL3.out; rw [List.length_drop]; omega) (by omega) (by have := HL3.out; rw [List.length_drop]; omega)).mono ?_
      rintro e w6 ⟨vn, rfl, hN, hRS, hO⟩
      have hO6 := HO5.out.trans (hO.mono (S' := fun k => k = g ∨ k = gc) (fun k _ h => Or.inl h)) (fun k _ h => h)
      have hc6 := hO.blk HC5.out HNE.out
      have hG6 := R_only HG5.out hO (fun k hk _ e => by have := HGL.out.1; omega)
      have hN6 := Kd.R_lower hN HO5.out.size
      rw [List.drop_drop] at hRS
      obtain ⟨Ag, cg, hvg⟩ := Kd.R_slice hG6
      obtain ⟨An, cn, hvn⟩ := Kd.R_slice hN6
      have k10 : w6.cell? ⟨gc, 10, none⟩ = some (.slice none 0 0) := blk_cell hc6 10
      have k11 : w6.cell? ⟨gc, 11, none⟩ = some (.slice none 0 0) := blk_cell hc6 11
      have f10 := blk_frozen hc6 10
      have f11 := blk_frozen hc6 11
      have HC7 := Lh (blk_put (blk_put hc6 10 vg rfl) 11 vn (show _ = #[.int .u8 16, .int .u8 fl, .int .u32 (t1 : Int), .int .u16 0, .int .u16 0, .int .u32 0, .int .u32 0, .int .u32 (t2 : Int), .int .u16 0, .int .u16 0, vg, vn, .slice none 0 0, .slice none 0 0, .slice none 0 0] from rfl))
      have HO7 := Lh ((hO6.setCell (p := ⟨gc, 10, none⟩) (fun _ => Or.inr rfl) vg).setCell (p := ⟨gc, 11, none⟩) (fun _ => Or.inr rfl) vn)
      have hfar := ((Only.refl (· = gc) w6).setCell (p := ⟨gc, 10, none⟩) (fun _ => rfl) vg).setCell (p := ⟨gc, 11, none⟩) (fun _ => rfl) vn
      have HRS7 := Lh (hRS.only hfar HNE2.out)
      have HG7 := Lh (R_only hG6 hfar (fun k hk _ e => by have := HGL.out.2; omega))
      have HN7 := Lh (R_only hN6 hfar (fun k hk _ e => by have := HGL.out.2; omega))
      clear hN hRS hO hO6 hc6 hG6 hN6 hfar HO5 HC5 HG5 HRS5
      generalize (gapsD a (v.drop 16)).length = gl at hvg
      generalize (gapsD n (v.drop (16 + 4 * a))).length = nl at hvn
      subst hvg hvn
      go_upto_region 12 with (fail)
      clear f10 f11 k10 k11 HGP
      generalize Value.slice Ag gl cg = vg at *
      generalize Value.slice An nl cn = vn at *
      generalize (w6.setCell ⟨gc, 10, none⟩ vg).setCell ⟨gc, 11, none⟩ vn = W0 at *
      have hvv : (v.drop (16 + 4 * a + 4 * n)) = v.drop (16 + 4 * (a + n)) := by first | rfl | (congr 1; omega)
      rw [hvv] at HRS7
      clear hvv
      have hvl : (v.drop (16 + 4 * (a + n))).length = 4 * d := by have := HL3.out; rw [List.length_drop]; omega
      generalize v.drop (16 + 4 * (a + n)) = vv0 at *
      have HGL0 := Lh (show ∀ k, w.heap.size ≤ k → (k = g ∨ k = gc) → False from fun k hk e => by have := HGL.out; omega)
      have HGL2 := Lh (show g < W0.heap.size ∧ gc < W0.heap.size from ⟨by have := HGL.out; have := HO7.out.size; omega, by have := HGL.out; have := HO7.out.size; omega⟩)
      have HFW := Lh (fun (W : World) (u : List UInt8) (h : RS w0 W g u) (hO : Only (fun k => k = g ∨ k = gc) W0 W) (h4 : 4 ≤ u.length) (hu : u.length ≤ 140737488355328) => HF.out W u h (HO7.out.trans hO (fun k _ h => h)) h4 hu)
      replace HGL := Lh (show ∀ k, W0.heap.size ≤ k → (k = g ∨ k = gc) → False from fun k hk e => by have := HGL2.out; omega)
      clear HF HFB HC HBW hb1 hb2 hb5 hm3 hLL
      go_wp2
      go_loopw [79] (fun v79 wr => ∃ (i : Nat) (xs : List Int) (vd : Value), i ≤ d ∧ v79 = .int .u16 (i : Int) ∧ Hid ((Kd.int .u32).R 23 wr W0.heap.size (fun _ => True) vd xs) ∧ Hid (xs ++ dupsD (d - i) (vv0.drop (4 * i)) = dupsD d vv0) ∧ Hid (RS w0 wr g (vv0.drop (4 * i))) ∧ Hid (wr.heap[gc]? = some (.cells #[.int .u8 16, .int .u8 fl, .int .u32 (t1 : Int), .int .u16 0, .int .u16 0, .int .u32 0, .int .u32 0, .int .u32 (t2 : Int), .int .u16 0, .int .u16 0, vg, vn, vd, .slice none 0 0, .slice none 0 0] 41 (0, 0))) ∧ Hid (Only (fun k => k = g ∨ k = gc) W0 wr)) (fun v79 _ => d - (intOf v79).toNat)
      case atStart => exact ⟨0, [], .slice none 0 0, Nat.zero_le _, rfl, Kd.R_nil _ _ _ _ _, rfl, HRS7.out, HC7.out, Only.refl _ _⟩
      case round =>
       obtain ⟨i, xs, vd, hi, rfl, HR, HE, HRS, HC, HO⟩ := hrel
       obtain ⟨Av, cv, rfl⟩ := Kd.R_slice HR.out
       have hxl : xs.length ≤ 4096 := by
        have := congrArg List.length HE.out
        rw [List.length_append, dupsD_length, dupsD_length] at this
        omega
       have HXL := Lh hxl
       by_cases hlt : i < d
       ·have hE := HE.out
        rw [show d - i = (d - (i + 1)) + 1 by omega, dupsD] at hE
        have e4 : (vv0.drop (4 * i)).drop 4 = vv0.drop (4 * (i + 1)) := by rw [List.drop_drop]; congr 1
        have hE2 : (xs ++ [(be ((vv0.drop (4 * i)).take 4) : Int)]) ++ dupsD (d - (i + 1)) (vv0.drop (4 * (i + 1))) = dupsD d vv0 := by rw [List.append_assoc, ← e4]; exact hE
        have HF := Lh (fun (W : World) (h : RS w0 W g (vv0.drop (4 * i))) (hO : Only (fun k => k = g ∨ k = gc) W0 W) => HFW.out W (vv0.drop (4 * i)) h hO (by rw [List.length_drop]; omega) (by rw [List.length_drop]; omega))
        have hw : IntKind.u16.wrap ((i : Int) + 1) = ((i + 1 : Nat) : Int) := by simp [IntKind.wrap, IntKind.bits, IntKind.signed]; omega
        generalize be ((vv0.drop (4 * i)).take 4) = q at *
        have HE2 := Lh hE2
        have HE4 := Lh e4
        have HW := Lh hw
        generalize vv0.drop (4 * i) = vv at *
        clear hE hE2 e4 HE hw HFW hvl hxl
        go_upto_region 14 with (fail)
        have B := True.intro
        have C := True.intro
        have R := True.intro
        have D := True.intro
        refine start_ (n := 12) (S := fun w' => True) (ds := []) #[false, false, false, false, false, false, false, false, false, false, false, false] (by kernel_rfl) rfl rfl trivial (fun hHeld => ?_)
        refine with_tabW liststab14 listsbits14 (fun HT_ HW_ => ?_)
        refine pure_ (i := 0) (N := some 81) (v := ?_) (a' := ?_) #[true, false, false, false, false, false, false, false, false, false, false, false] rfl rfl (any_of HT_.out (by kernel_rfl)) (fun _ _ _ h => h) (Or.inl ⟨by rfl, ?_⟩) ?_ ?_
        rotate_left
        ·intro w'
         go_simp
         with_reducible rfl
        rotate_left
        ·simp only [Act.put, List.setIfInBounds_toArray, List.set_cons_zero, List.set_cons_succ, i64_w, i32_w]
         rfl
        refine pure_ (i := 1) (N := some 82) (v := ?_) (a' := ?_) #[true, true, false, false, false, false, false, false, false, false, false, false] rfl rfl (any_of HT_.out (by kernel_rfl)) (fun _ _ _ h => h) (Or.inl ⟨by rfl, ?_⟩) ?_ ?_
        rotate_left
        ·intro w'
         go_simp
         with_reducible rfl
        rotate_left
        ·simp only [Act.put, List.setIfInBounds_toArray, List.set_cons_zero, List.set_cons_succ, i64_w, i32_w]
         rfl
        refine pure_ (i := 5) (N := some 86) (v := ?_) (a' := ?_) #[true, true, false, false, false, true, false, false, false, false, false, false] rfl rfl (any_of HT_.out (by kernel_rfl)) (fun _ _ _ h => h) (Or.inl ⟨by rfl, ?_⟩) ?_ ?_
        rotate_left
        ·intro w'
         go_simp
         with_reducible rfl
        rotate_left
        ·simp only [Act.put, List.setIfInBounds_toArray, List.set_cons_zero, List.set_cons_succ, i64_w, i32_w]
         rfl
        refine inv_at [2, 3, 4, 6, 7, 8, 9, 10, 11] (fun a0_ b a w' => ∃ (g9 : Nat) (v9 : Value) (m7_ : Value), a = putSel a0_ b [(2, 83, .pointer (some ⟨gc, 0, none⟩)), (3, 84, .pointer (some ⟨gc, 12, none⟩)), (4, 85, .slice Av xs.length cv), (6, 87, .int .u32 (q : Int)), (7, 88, m7_), (8, 89, v9), (9, 90, .pointer (some ⟨gc, 0, none⟩)), (10, 91, .pointer (some ⟨gc, 12, none⟩))] ∧ (b 8 = false → Only (fun k => k = g ∨ k = gc) W0 w') ∧ (b 8 = false → w'.heap[gc]? = some (.cells #[.int .u8 16, .int .u8 fl, .int .u32 (t1 : Int), .int .u16 0, .int .u16 0, .int .u32 0, .int .u32 0, .int .u32 (t2 : Int), .int .u16 0, .int .u16 0, vg, vn, .slice Av xs.length cv, .slice none 0 0, .slice none 0 0] 41 (0, 0))) ∧ (b 8 = false → (Kd.int .u32).R 23 w' W0.heap.size (fun _ => True) (.slice Av xs.length cv) xs) ∧ (b 6 = false → RS w0 w' g vv) ∧ (b 6 = true → b 8 = false → RS w0 w' g (vv.drop 4)) ∧ (b 7 = true → b 8 = false → ∃ w2, w' = w2.alloc (.cells #[.int .u32 (q : Int)] 23) ∧ g9 = w2.heap.size ∧ Only (fun k => k = g ∨ k = gc) W0 w2 ∧ w2.heap[gc]? = some (.cells #[.int .u8 16, .int .u8 fl, .int .u32 (t1 : Int), .int .u16 0, .int .u16 0, .int .u32 0, .int .u32 0, .int .u32 (t2 : Int), .int .u16 0, .int .u16 0, vg, vn, .slice Av xs.length cv, .slice none 0 0, .slice none 0 0] 41 (0, 0)) ∧ (Kd.int .u32).R 23 w2 W0.heap.size (fun _ => True) (.slice Av xs.length cv) xs ∧ RS w0 w2 g (vv.drop 4)) ∧ (b 8 = true → b 11 = false → (Kd.int .u32).R 23 w' W0.heap.size (fun _ => True) v9 (xs ++ [(q : Int)]) ∧ w'.heap[gc]? = some (.cells #[.int .u8 16, .int .u8 fl, .int .u32 (t1 : Int), .int .u16 0, .int .u16 0, .int .u32 0, .int .u32 0, .int .u32 (t2 : Int), .int .u16 0, .int .u16 0, vg, vn, .slice Av xs.length cv, .slice none 0 0, .slice none 0 0] 41 (0, 0)) ∧ RS w0 w' g (vv.drop 4) ∧ Only (fun k => k = g ∨ k = gc) W0 w') ∧ (b 11 = true → (Kd.int .u32).R 23 w' W0.heap.size (fun _ => True) v9 (xs ++ [(q : Int)]) ∧ w'.heap[gc]? = some (.cells #[.int .u8 16, .int .u8 fl, .int .u32 (t1 : Int), .int .u16 0, .int .u16 0, .int .u32 0, .int .u32 0, .int .u32 (t2 : Int), .int .u16 0, .int .u16 0, vg, vn, v9, .slice none 0 0, .slice none 0 0] 41 (0, 0)) ∧ RS w0 w' g (vv.drop 4) ∧ Only (fun k => k = g ∨ k = gc) W0 w') ∧ (b 7 = true → (m7_ : Value) = .slice (some ⟨g9, 0, none⟩) 1 1)) HT_.out HW_.out (by kernel_rfl) (by kernel_rfl) ?_ ?_ ?_
        ·exact ⟨0, undef, .bool false, by simp only [putSel, Bool.false_eq_true, if_false], fun _ => HO.out.drew, fun _ => HC.out, fun _ => HR.out, fun _ => HRS.out, fun h_ => absurd h_ (by decide), fun h_ => absurd h_ (by decide), fun h_ => absurd h_ (by decide), fun h_ => absurd h_ (by decide), fun h_ => absurd h_ (by decide)⟩
        ·skip
         clear B C D R
         refine steps_cons ?_ ?_
         ·rintro b a w' ⟨g9, v9, m7_, ha, Q_B, Q_C, Q_R, Q_D, Q_E, Q_W2, Q_S1, Q_S2, Q_X7_⟩ hb_ hon hoff
          refine ⟨_, rfl, fun K hK => ?_⟩
          have e82 : a.tmps[82]? = some (.pointer (some ⟨gc, 0, none⟩)) := by rw [ha]; exact (putSel_off rfl).trans rfl
          replace ha := Am ha
          refine value_ (w1 := w') (v := .pointer (some ⟨gc, 0, none⟩)) (by rfl) rfl ?_ ?_
          ·go_simp
           (try simp only [i64_w])
           try rfl
          refine hK.out _ _ ⟨g9, v9, m7_, (puk ha 0 hb_ rfl rfl rfl), Q_B, Q_C, Q_R, Q_D, Q_E, Q_W2, fun h0_ _ => hof (hoff 8 (by kernel_rfl)) h0_, fun h0_ => hof (hoff 11 (by kernel_rfl)) h0_, Q_X7_⟩
         refine steps_cons ?_ ?_
         ·rintro b a w' ⟨g9, v9, m7_, ha, Q_B, Q_C, Q_R, Q_D, Q_E, Q_W2, Q_S1, Q_S2, Q_X7_⟩ hb_ hon hoff
          refine ⟨_, rfl, fun K hK => ?_⟩
          have e83 := psn ha 0 rfl rfl (hon 2 (by kernel_rfl)) rfl
          replace ha := Am ha
          refine value_ (w1 := w') (v := .pointer (some ⟨gc, 12, none⟩)) (by rfl) rfl ?_ ?_
          ·go_simp
           (try simp only [i64_w])
           try rfl
          refine hK.out _ _ ⟨g9, v9, m7_, (puk ha 1 hb_ rfl rfl rfl), Q_B, Q_C, Q_R, Q_D, Q_E, Q_W2, fun h0_ _ => hof (hoff 8 (by kernel_rfl)) h0_, fun h0_ => hof (hoff 11 (by kernel_rfl)) h0_, Q_X7_⟩
         refine steps_cons ?_ ?_
         ·rintro b a w' ⟨g9, v9, m7_, ha, Q_B, Q_C, Q_R, Q_D, Q_E, Q_W2, Q_S1, Q_S2, Q_X7_⟩ hb_ hon hoff
          refine ⟨_, rfl, fun K hK => ?_⟩
          have e84 := psn ha 1 rfl rfl (hon 3 (by kernel_rfl)) rfl
          replace ha := Am ha
          have C := Am (Q_C (hoff 8 (by kernel_rfl)))
          have hs := blk_cell C.out 12
          refine value_ (w1 := w') (v := .slice Av xs.length cv) (by rfl) rfl ?_ ?_
          ·go_simp
           (try simp only [i64_w])
           try rfl
          refine hK.out _ _ ⟨g9, v9, m7_, (puk ha 2 hb_ rfl rfl rfl), Q_B, Q_C, Q_R, Q_D, Q_E, Q_W2, fun h0_ _ => hof (hoff 8 (by kernel_rfl)) h0_, fun h0_ => hof (hoff 11 (by kernel_rfl)) h0_, Q_X7_⟩
         refine steps_cons ?_ ?_
         ·rintro b a w' ⟨g9, v9, m7_, ha, Q_B, Q_C, Q_R, Q_D, Q_E, Q_W2, Q_S1, Q_S2, Q_X7_⟩ hb_ hon hoff
          refine ⟨_, rfl, fun K hK => ?_⟩
          have e86 : a.tmps[86]? = some (.pointer (some ⟨g, 0, none⟩)) := by rw [ha]; exact (putSel_off rfl).trans rfl
          replace ha := Am ha
          have B := Am (Q_B (hoff 8 (by kernel_rfl)))
          have C := Am (Q_C (hoff 8 (by kernel_rfl)))
          have R := Am (Q_R (hoff 8 (by kernel_rfl)))
          have D := Am (Q_D hb_)
          refine goes_ Tryd.func96 (by kernel_rfl) rfl #[.pointer (some ⟨g, 0, none⟩)] (by rfl) rfl rfl (by first | (simp only [List.map_toArray, List.map_cons, List.map_nil, Act.eval, Array.getD_eq_getD_getElem?, Option.getD_some, e86]; done) | (simp only [List.map_toArray, List.map_cons, List.map_nil, Act.eval, Array.getD_eq_getD_getElem?, Option.getD_some, e86]; rfl)) ?_
          refine (HF.out w' D.out B.out).mono ?_
          rintro e w1 ⟨rfl, hRS1, hO1⟩
          refine ⟨_, rfl, ?_⟩
          refine hK.out _ _ ⟨g9, v9, m7_, (puk ha 3 hb_ rfl rfl rfl), fun _ => B.out.trans hO1 (fun k _ h => Or.inl h), fun _ => hO1.blk C.out HNE.out, fun _ => R_only R.out hO1 (fun k hk _ e => HGL.out k hk (Or.inl e)), fun h0_ => absurd ((up_self b 6).symm.trans h0_) (by decide), fun _ _ => hRS1, fun h0_ _ => hof (hoff 7 (by kernel_rfl)) h0_, fun h0_ _ => hof (hoff 8 (by kernel_rfl)) h0_, fun h0_ => hof (hoff 11 (by kernel_rfl)) h0_, fun h0_ => hof (hoff 7 (by kernel_rfl)) h0_⟩
         refine steps_cons ?_ ?_
         ·rintro b a w' ⟨g9, v9, m7_, ha, Q_B, Q_C, Q_R, Q_D, Q_E, Q_W2, Q_S1, Q_S2, Q_X7_⟩ hb_ hon hoff
          refine ⟨_, rfl, fun K hK => ?_⟩
          have e87 := psn ha 3 rfl rfl (hon 6 (by kernel_rfl)) rfl
          replace ha := Am ha
          have B := Am (Q_B (hoff 8 (by kernel_rfl)))
          have C := Am (Q_C (hoff 8 (by kernel_rfl)))
          have R := Am (Q_R (hoff 8 (by kernel_rfl)))
          have E := Am (Q_E (hon 6 (by kernel_rfl)) (hoff 8 (by kernel_rfl)))
          refine value_ (w1 := w'.alloc (.cells #[.int .u32 (q : Int)] 23)) (v := .slice (some ⟨w'.heap.size, 0, none⟩) 1 1) (by rfl) rfl (by go_simp; try rfl) ?_
          refine hK.out _ _ ⟨w'.heap.size, v9, (.slice (some ⟨w'.heap.size, 0, none⟩) 1 1), (puk ha 4 hb_ rfl rfl rfl), fun _ => B.out.alloc _, fun _ => blk_alloc C.out _, fun _ => Kd.R_alloc R.out _, fun h0_ => absurd ((hon 6 (by kernel_rfl)).symm.trans h0_) (by decide), fun _ _ => E.out.only ((Only.refl (fun _ => False) _).alloc _) id, fun _ _ => ⟨w', rfl, rfl, B.out, C.out, R.out, E.out⟩, fun h0_ _ => hof (hoff 8 (by kernel_rfl)) h0_, fun h0_ => hof (hoff 11 (by kernel_rfl)) h0_, fun _ => rfl⟩
         refine steps_cons ?_ ?_
         ·rintro b a w' ⟨g9, v9, m7_, ha, Q_B, Q_C, Q_R, Q_D, Q_E, Q_W2, Q_S1, Q_S2, Q_X7_⟩ hb_ hon hoff
          refine ⟨_, rfl, fun K hK => ?_⟩
          have e85 := psn ha 2 rfl rfl (hon 4 (by kernel_rfl)) rfl
          have e88 := psn ha 4 rfl rfl (hon 7 (by kernel_rfl)) rfl
          rw [Q_X7_ (hon 7 (by kernel_rfl))] at e88
          replace ha := Am ha
          have W2 := Am (Q_W2 (hon 7 (by kernel_rfl)) hb_)
          obtain ⟨w2, rfl, hg9, hB2, hC2, hR2, hE2⟩ := W2.out
          rw [hg9] at e88
          refine Kd.R_append_step (Kd.int .u32) (w0 := w2) (W := w2) W0.heap.size (by rfl) _ _ 38 23 _ 4 rfl Tryd.underlying38 info23 rfl (by decide) (by decide) (.slice Av xs.length cv) xs (q : Int) [.int .u32 (q : Int)] (fun _ => True) (fun _ => False) (by simp [Act.eval, Array.getD_eq_getD_getElem?, e85]) (by simp [Act.eval, Array.getD_eq_getD_getElem?, e88]) rfl (fun _ h => h.elim) (fun _ _ => trivial) hR2 (Below.refl _ _) hB2.size (by have := HXL.out; omega) ?_
          intro v1 w1 hR1 hB1 hG1 hat1
          have hC3 := (hB1.block gc (HGL2.out.2)).trans hC2
          have hE3 := hE2.below hB1 HGL2.out.1
          have hO3 := only_then3 hB2 hB1
          refine hK.out _ _ ⟨g9, v1, m7_, (puk ha 5 hb_ rfl rfl rfl), fun h0_ => absurd ((up_self b 8).symm.trans h0_) (by decide), fun h0_ => absurd ((up_self b 8).symm.trans h0_) (by decide), fun h0_ => absurd ((up_self b 8).symm.trans h0_) (by decide), fun h0_ => absurd ((hon 6 (by kernel_rfl)).symm.trans h0_) (by decide), fun _ h1_ => absurd ((up_self b 8).symm.trans h1_) (by decide), fun _ h1_ => absurd ((up_self b 8).symm.trans h1_) (by decide), fun _ _ => ⟨hR1, hC3, hE3, hO3⟩, fun h0_ => hof (hoff 11 (by kernel_rfl)) h0_, Q_X7_⟩
         refine steps_cons ?_ ?_
         ·rintro b a w' ⟨g9, v9, m7_, ha, Q_B, Q_C, Q_R, Q_D, Q_E, Q_W2, Q_S1, Q_S2, Q_X7_⟩ hb_ hon hoff
          refine ⟨_, rfl, fun K hK => ?_⟩
          have e81 : a.tmps[81]? = some (.pointer (some ⟨gc, 0, none⟩)) := by rw [ha]; exact (putSel_off rfl).trans rfl
          replace ha := Am ha
          refine value_ (w1 := w') (v := .pointer (some ⟨gc, 0, none⟩)) (by rfl) rfl ?_ ?_
          ·go_simp
           (try simp only [i64_w])
           try rfl
          refine hK.out _ _ ⟨g9, v9, m7_, (puk ha 6 hb_ rfl rfl rfl), fun h0_ => absurd ((hon 8 (by kernel_rfl)).symm.trans h0_) (by decide), fun h0_ => absurd ((hon 8 (by kernel_rfl)).symm.trans h0_) (by decide), fun h0_ => absurd ((hon 8 (by kernel_rfl)).symm.trans h0_) (by decide), fun h0_ => absurd ((hon 6 (by kernel_rfl)).symm.trans h0_) (by decide), fun _ h1_ => absurd ((hon 8 (by kernel_rfl)).symm.trans h1_) (by decide), fun _ h1_ => absurd ((hon 8 (by kernel_rfl)).symm.trans h1_) (by decide), Q_S1, fun h0_ => hof (hoff 11 (by kernel_rfl)) h0_, Q_X7_⟩
         refine steps_cons ?_ ?_
         ·rintro b a w' ⟨g9, v9, m7_, ha, Q_B, Q_C, Q_R, Q_D, Q_E, Q_W2, Q_S1, Q_S2, Q_X7_⟩ hb_ hon hoff
          refine ⟨_, rfl, fun K hK => ?_⟩
          have e90 := psn ha 6 rfl rfl (hon 9 (by kernel_rfl)) rfl
          replace ha := Am ha
          refine value_ (w1 := w') (v := .pointer (some ⟨gc, 12, none⟩)) (by rfl) rfl ?_ ?_
          ·go_simp
           (try simp only [i64_w])
           try rfl
          refine hK.out _ _ ⟨g9, v9, m7_, (puk ha 7 hb_ rfl rfl rfl), fun h0_ => absurd ((hon 8 (by kernel_rfl)).symm.trans h0_) (by decide), fun h0_ => absurd ((hon 8 (by kernel_rfl)).symm.trans h0_) (by decide), fun h0_ => absurd ((hon 8 (by kernel_rfl)).symm.trans h0_) (by decide), fun h0_ => absurd ((hon 6 (by kernel_rfl)).symm.trans h0_) (by decide), fun _ h1_ => absurd ((hon 8 (by kernel_rfl)).symm.trans h1_) (by decide), fun _ h1_ => absurd ((hon 8 (by kernel_rfl)).symm.trans h1_) (by decide), Q_S1, fun h0_ => hof (hoff 11 (by kernel_rfl)) h0_, Q_X7_⟩
         refine steps_cons ?_ ?_
         ·rintro b a w' ⟨g9, v9, m7_, ha, Q_B, Q_C, Q_R, Q_D, Q_E, Q_W2, Q_S1, Q_S2, Q_X7_⟩ hb_ hon hoff
          refine ⟨_, rfl, fun K hK => ?_⟩
          have e91 := psn ha 7 rfl rfl (hon 10 (by kernel_rfl)) rfl
          have e89 := psn ha 5 rfl rfl (hon 8 (by kernel_rfl)) rfl
          replace ha := Am ha
          have S1 := Am (Q_S1 (hon 8 (by kernel_rfl)) hb_)
          obtain ⟨hR1, hC1, hE1, hO1⟩ := S1.out
          obtain ⟨A7, c7, hv9⟩ := Kd.R_slice hR1
          have hs := blk_cell hC1 12
          have hf := blk_frozen hC1 12
          refine skip_ (w1 := w'.setCell ⟨gc, 12, none⟩ v9) (by rfl) rfl (by generalize (xs ++ [(q : Int)]).length = zl at hv9; rw [hv9] at e89 ⊢; go_simp; try rfl) ?_
          refine hK.out _ _ ⟨g9, v9, m7_, (by rw [ha.out]; exact putSel_none (v := undef) rfl), fun h0_ => absurd ((hon 8 (by kernel_rfl)).symm.trans h0_) (by decide), fun h0_ => absurd ((hon 8 (by kernel_rfl)).symm.trans h0_) (by decide), fun h0_ => absurd ((hon 8 (by kernel_rfl)).symm.trans h0_) (by decide), fun h0_ => absurd ((hon 6 (by kernel_rfl)).symm.trans h0_) (by decide), fun _ h1_ => absurd ((hon 8 (by kernel_rfl)).symm.trans h1_) (by decide), fun _ h1_ => absurd ((hon 8 (by kernel_rfl)).symm.trans h1_) (by decide), fun _ h1_ => absurd ((up_self b 11).symm.trans h1_) (by decide), fun _ => ⟨R_only hR1 ((Only.refl (· = gc) w').setCell (fun _ => rfl) v9) (fun k hk _ e => HGL.out k hk (Or.inr e)), blk_put hC1 12 v9 rfl, hE1.only ((Only.refl (· = gc) w').setCell (fun _ => rfl) v9) HNE2.out, hO1.setCell (fun _ => Or.inr rfl) v9⟩, Q_X7_⟩
         exact steps_nil
        rintro b a w' hall ⟨g9, v9, m7_, ha, Q_B, Q_C, Q_R, Q_D, Q_E, Q_W2, Q_S1, Q_S2, Q_X7_⟩
        clear B C D R
        have hb2_ := hall 2 (by kernel_rfl)
        have hb3_ := hall 3 (by kernel_rfl)
        have hb4_ := hall 4 (by kernel_rfl)
        have hb6_ := hall 6 (by kernel_rfl)
        have hb7_ := hall 7 (by kernel_rfl)
        have hb8_ := hall 8 (by kernel_rfl)
        have hb9_ := hall 9 (by kernel_rfl)
        have hb10_ := hall 10 (by kernel_rfl)
        have hb11_ := hall 11 (by kernel_rfl)
        subst ha
        obtain rfl := Q_X7_ hb7_
        simp only [putSel, hb2_, hb3_, hb4_, hb6_, hb7_, hb8_, hb9_, hb10_, hb11_, if_true, Act.put, List.setIfInBounds_toArray, List.set_cons_zero, List.set_cons_succ]
        clear Q_B
        clear Q_C
        clear Q_R
        clear Q_D
        clear Q_E
        clear Q_W2
        clear Q_S1
        have S2 := Am (Q_S2 hb11_)
        clear Q_S2
        clear hall hb2_ hb3_ hb4_ hb6_ hb7_ hb8_ hb9_ hb10_ hb11_
        obtain ⟨hR9, hC9, hE9, hO9⟩ := S2.out
        have HR9 := Lh hR9
        have HC9 := Lh hC9
        have HE9 := Lh hE9
        have HO9 := Lh hO9
        clear hR9 hC9 hE9 hO9 S2
        rw [HE4.out] at HE9
        have hw := HW.out
        clear HW HE4 HF HRS HC HO HR
        go_wp2
        go_roundw
        case rel => exact ⟨i + 1, xs ++ [(q : Int)], v9, by omega, by first | go_num | exact congrArg _ hw, HR9, HE2, HE9, HC9, HO9⟩
        case measure => simp [intOf]; omega
       ·obtain rfl : i = d := by omega
        have hE := HE.out
        rw [Nat.sub_self, dupsD, List.append_nil] at hE
        have HE2 := Lh hE
        have hv4 : vv0.drop (4 * i) = [] := List.drop_eq_nil_of_le (by omega)
        rw [hv4] at HRS
        clear hE HE hv4 HFW
        go_wp2
        go_end0
        unfold ListP
        rw [HLD.out]
        refine ⟨rfl, vg, vn, _, by rw [HT1.out, HT2.out]; exact HC.out, R_only HG7.out HO.out (fun k hk _ e => HGL0.out k hk e), R_only HN7.out HO.out (fun k hk _ e => HGL0.out k hk e), ?_, HRS.out, HO7.out.trans HO.out (fun k _ h => h)⟩
        rw [← HE2.out]
        exact Kd.R_lower HR.out HO7.out.size
   ·rintro e w4 hP
    rw [if_neg (by rw [List.length_drop]; omega)] at hP
    obtain ⟨rfl, hO4⟩ := hP
    have hE : listsD true v = .error 61 := by unfold listsD; rw [if_pos (by simp; omega)]
    refine ⟨rfl, ?_⟩
    unfold ListP
    rw [hE]
    exact ⟨rfl, ⟨_, hO4.blk HC3.out HNE.out, rfl⟩, HO3.out.trans (hO4.mono (S' := fun k => k = g ∨ k = gc) (fun k _ h => Or.inl h)) (fun k _ h => h)⟩
  ·have H2 := Lh (fun (W : World) (h : RS w0 W g (v.drop 4)) (hO : Only (· = g) w W) => HFB.out W (v.drop 4) h (hO.mono (fun k _ h => Or.inl h)) (by rw [List.length_drop]; omega) (by rw [List.length_drop]; omega))
   have hE : listsD true v = .error 61 := by unfold listsD; rw [if_pos (by simp; omega)]
   rw [hE]
   unfold ListP errE
   generalize be (v.take 4) = t1 at *
   go_enter Tryd.func100, Tryd.ntmps100
   go_wp2_with fail
   refine H1.out.mono ?_
   rintro e w1 ⟨rfl, hRS, hO1⟩
   have HRS := Lh hRS
   have HO1 := Lh hO1
   clear hRS hO1 H1
   go_wp2_with fail
   refine (H2.out w1 HRS.out HO1.out).mono ?_
   rintro e w2 ⟨rfl, hO2⟩
   exact ⟨rfl, rfl, ⟨_, (HO1.out.trans hO2 (fun k _ h => h)).blk HCC.out HNE.out, rfl⟩, (HO1.out.trans hO2 (fun k _ h => h)).mono (fun k _ h => Or.inl h)⟩
 ·have H1 := Lh (HFB.out w v HS.out (Only.refl _ _) (by omega) hv)
  have hE : listsD true v = .error 61 := by unfold listsD; rw [if_pos (by simp; omega)]
  rw [hE]
  unfold ListP errE
  go_enter Tryd.func100, Tryd.ntmps100
  go_wp2_with fail
  refine H1.out.mono ?_
  rintro e w1 ⟨rfl, hO1⟩
  exact ⟨rfl, rfl, ⟨_, hO1.blk HCC.out HNE.out, rfl⟩, hO1.mono (fun k _ h => Or.inl h)⟩
end Go.Proofs.YtdlamomabonkjaaDoor.Ch
end
section
namespace Go.Proofs.YtdlamomabonkjaaDoor.Ch
open Go.RowKit YtdlamomabonkjaaDoorW.PrintWords Base PCh ParDec
def intsL (l : List UInt8) : List Int := l.map fun b => (b.toNat : Int)
def chk0 (kd fl : Int) : Chk := ⟨kd, fl, 0, 0, 0, 0, 0, 0, 0, 0, [], [], [], [], []⟩
def prmsD (v : List UInt8) : Except Int (List PrmS) := if (decD v).2.2 = 0 then .ok (decD v).1 else .error (decD v).2.2
def beatB (ps : List PrmS) : Bool := match ps with
 | [p] => decide (p.f0 = 1)
 | _ => false
def readData (kd fl : Int) (v : List UInt8) : Except Int Chk :=
 if v.length < 12 then .error 61 else if v.length = 12 then .error 62 else .ok ⟨kd, fl, (be (v.take 4) : Nat), (be ((v.drop 4).take 2) : Nat), (be ((v.drop 6).take 2) : Nat), (be ((v.drop 8).take 4) : Nat), 0, 0, 0, 0, [], [], [], intsL (v.drop 12), []⟩
def readInit (kd fl : Int) (v : List UInt8) : Except Int Chk :=
 if v.length < 16 then .error 61 else match prmsD (v.drop 16) with
 | .error c => .error c
 | .ok ps => .ok ⟨kd, fl, (be ((v.drop 12).take 4) : Nat), 0, 0, 0, (be (v.take 4) : Nat), (be ((v.drop 4).take 4) : Nat), (be ((v.drop 8).take 2) : Nat), (be ((v.drop 10).take 2) : Nat), [], [], [], [], ps⟩
def readLists (nr : Bool) (kd fl : Int) (v : List UInt8) : Except Int Chk :=
 match listsD nr v with
 | .error c => .error c
 | .ok (t1, t2, G, N, D) => .ok ⟨kd, fl, (t1 : Nat), 0, 0, 0, 0, (t2 : Nat), 0, 0, G, N, D, [], []⟩
def readPrms (beat : Bool) (kd fl : Int) (v : List UInt8) : Except Int Chk :=
 match prmsD v with
 | .error c => .error c
 | .ok ps => if beat && !beatB ps then .error 61 else .ok ⟨kd, fl, 0, 0, 0, 0, 0, 0, 0, 0, [], [], [], [], ps⟩
def readShut (kd fl : Int) (v : List UInt8) : Except Int Chk := if v.length = 4 then .ok ⟨kd, fl, (be v : Nat), 0, 0, 0, 0, 0, 0, 0, [], [], [], [], []⟩ else .error 61
def readNone (kd fl : Int) (v : List UInt8) : Except Int Chk := if v.length = 0 then .ok (chk0 kd fl) else .error 61
def readBody (kd fl : Int) (v : List UInt8) : Except Int Chk := .ok ⟨kd, fl, 0, 0, 0, 0, 0, 0, 0, 0, [], [], [], intsL v, []⟩
def readD (kd fl : Int) (v : List UInt8) : Except Int Chk :=
 if kd = 0 then readData kd fl v
 else if kd = 1 ∨ kd = 2 then readInit kd fl v
 else if kd = 3 then readLists false kd fl v
 else if kd = 16 then readLists true kd fl v
 else if kd = 4 ∨ kd = 5 then readPrms true kd fl v
 else if kd = 6 ∨ kd = 9 then readPrms false kd fl v
 else if kd = 7 then readShut kd fl v
 else if kd = 8 ∨ kd = 11 ∨ kd = 14 then readNone kd fl v
 else readBody kd fl v
def freshV (kd fl : Int) : Array Value := #[.int .u8 kd, .int .u8 fl, .int .u32 0, .int .u16 0, .int .u16 0, .int .u32 0, .int .u32 0, .int .u32 0, .int .u16 0, .int .u16 0, .slice none 0 0, .slice none 0 0, .slice none 0 0, .slice none 0 0, .slice none 0 0]
def ReadP (w : World) (g gc : Nat) (r : Except Int Chk) (e : Ending) (w' : World) : Prop :=
 match r with
 | .error code => e = errE code ∧ (∃ x0, w'.heap[gc]? = some (.cells x0 41 (0, 0)) ∧ x0.size = 15) ∧ Only (fun k => k = g ∨ k = gc) w w'
 | .ok d => e = .returned (.tuple #[]) ∧ ∃ cs, w'.heap[gc]? = some (.cells cs 41 (0, 0)) ∧ k41.M w' w.heap.size (fun _ => True) d cs.toList ∧ Only (fun k => k = g ∨ k = gc) w w'
theorem ReadP.bad {w : World} {g gc : Nat} {r : Except Int Chk} {code : Int} {w' : World} {x0 : Array Value} (h : r = .error code) (hc : w'.heap[gc]? = some (.cells x0 41 (0, 0))) (hx : x0.size = 15) (ho : Only (fun k => k = g ∨ k = gc) w w') : ReadP w g gc r (errE code) w' := by
 rw [h]
 exact ⟨rfl, ⟨_, hc, hx⟩, ho⟩
theorem ReadP.good {w : World} {g gc : Nat} {r : Except Int Chk} {d : Chk} {cs : Array Value} {w' : World} (h : r = .ok d) (hc : w'.heap[gc]? = some (.cells cs 41 (0, 0))) (hm : k41.M w' w.heap.size (fun _ => True) d cs.toList) (ho : Only (fun k => k = g ∨ k = gc) w w') : ReadP w g gc r (.returned (.tuple #[])) w' := by
 rw [h]
 exact ⟨rfl, cs, hc, hm, ho⟩
theorem int_of_byte' {w : World} {base : Nat} {ok : Nat → Prop} {u : Value} {l : List UInt8} (h : byte.R 5 w base ok u l) : (Kd.int .u8).R 5 w base ok u (intsL l) := int_of_byte h
end Go.Proofs.YtdlamomabonkjaaDoor.Ch
end
section
namespace Go.Proofs.YtdlamomabonkjaaDoor.Ch
open Go.RowKit YtdlamomabonkjaaDoorW.PrintWords Base PCh ParDec
set_option maxHeartbeats 4000000 in
theorem read_data (w0 w : World) (g gc : Nat) (v : List UInt8) (fl : Int) (hs : RS w0 w g v) (hc : w.heap[gc]? = some (.cells (freshV 0 fl) 41 (0, 0))) (hB : Below w0.heap.size w0 w) (hg : w0.heap.size ≤ g) (hgc : w0.heap.size ≤ gc) (hne : g ≠ gc) (hv : v.length ≤ 140737488355328) :
  Calls Tryd.prog 92 #[.pointer (some ⟨g, 0, none⟩), .pointer (some ⟨gc, 0, none⟩)] w (ReadP w g gc (readData 0 fl v)) := by
 have HGL := Lh (show g < w.heap.size ∧ gc < w.heap.size from ⟨hs.lt, blk_lt hc⟩)
 have HBW := Lh (fun (W : World) (h : Only (fun k => k = g ∨ k = gc) w W) => hB.trans (h.below hB.size (fun k hk => by omega)))
 have HNE := Lh (show ¬ gc = g from fun e => hne e.symm)
 have HNE2 := Lh (show ¬ g = gc from hne)
 have HG := Lh hg
 have HRS := Lh hs
 unfold freshV at hc
 have HC := Lh hc
 have k0 : w.cell? ⟨gc, 0, none⟩ = some (.int .u8 0) := blk_cell hc 0
 have HO := Lh (Only.refl (fun k => k = g ∨ k = gc) w)
 clear hs hc hB hg hgc hne
 by_cases h0 : 4 ≤ v.length
 ·skip
  by_cases h1 : 6 ≤ v.length
  ·skip
   by_cases h2 : 8 ≤ v.length
   ·skip
    by_cases h3 : 12 ≤ v.length
    ·skip
     have H0 := Lh (fun (W : World) (h : RS w0 W g v) (hO : Only (fun k => k = g ∨ k = gc) w W) => four_ok w0 W g v h (HBW.out W hO) HG.out (by omega) hv)
     obtain ⟨t0, ht0⟩ : ∃ t, be (v.take 4) = t := ⟨_, rfl⟩
     rw [ht0] at H0
     have HT0 := Lh ht0
     clear ht0
     have H1 := Lh (fun (W : World) (h : RS w0 W g (v.drop 4)) (hO : Only (fun k => k = g ∨ k = gc) w W) => two_ok w0 W g (v.drop 4) h (HBW.out W hO) HG.out (by rw [List.length_drop]; omega) (by rw [List.length_drop]; omega))
     obtain ⟨t1, ht1⟩ : ∃ t, be ((v.drop 4).take 2) = t := ⟨_, rfl⟩
     rw [ht1] at H1
     have HT1 := Lh ht1
     clear ht1
     have H2 := Lh (fun (W : World) (h : RS w0 W g (v.drop 6)) (hO : Only (fun k => k = g ∨ k = gc) w W) => two_ok w0 W g (v.drop 6) h (HBW.out W hO) HG.out (by rw [List.length_drop]; omega) (by rw [List.length_drop]; omega))
     obtain ⟨t2, ht2⟩ : ∃ t, be ((v.drop 6).take 2) = t := ⟨_, rfl⟩
     rw [ht2] at H2
     have HT2 := Lh ht2
     clear ht2
     have H3 := Lh (fun (W : World) (h : RS w0 W g (v.drop 8)) (hO : Only (fun k => k = g ∨ k = gc) w W) => four_ok w0 W g (v.drop 8) h (HBW.out W hO) HG.out (by rw [List.length_drop]; omega) (by rw [List.length_drop]; omega))
     obtain ⟨t3, ht3⟩ : ∃ t, be ((v.drop 8).take 4) = t := ⟨_, rfl⟩
     rw [ht3] at H3
     have HT3 := Lh ht3
     clear ht3
     go_enter Tryd.func92, Tryd.ntmps92
     go_wp2_with fail
     refine (H0.out w HRS.out HO.out).mono ?_
     rintro e w1 ⟨rfl, hRS, hO⟩
     replace HRS := Lh (show RS w0 w1 g (v.drop 4) from by exact hRS)
     replace HC := Lh (hO.blk HC.out HNE.out)
     replace HO := Lh (HO.out.trans (hO.mono (S' := fun k => k = g ∨ k = gc) (fun k _ h => Or.inl h)) (fun k _ h => h))
     clear hRS hO H0
     go_wp2_with fail
     refine (H1.out w1 HRS.out HO.out).mono ?_
     rintro e w2 ⟨rfl, hRS, hO⟩
     replace HRS := Lh (show RS w0 w2 g (v.drop 6) from by rw [List.drop_drop] at hRS; exact hRS)
     replace HC := Lh (hO.blk HC.out HNE.out)
     replace HO := Lh (HO.out.trans (hO.mono (S' := fun k => k = g ∨ k = gc) (fun k _ h => Or.inl h)) (fun k _ h => h))
     clear hRS hO H1
     go_wp2_with fail
     refine (H2.out w2 HRS.out HO.out).mono ?_
     rintro e w3 ⟨rfl, hRS, hO⟩
     replace HRS := Lh (show RS w0 w3 g (v.drop 8) from by rw [List.drop_drop] at hRS; exact hRS)
     replace HC := Lh (hO.blk HC.out HNE.out)
     replace HO := Lh (HO.out.trans (hO.mono (S' := fun k => k = g ∨ k = gc) (fun k _ h => Or.inl h)) (fun k _ h => h))
     clear hRS hO H2
     go_wp2_with fail
     refine (H3.out w3 HRS.out HO.out).mono ?_
     rintro e w4 ⟨rfl, hRS, hO⟩
     replace HRS := Lh (show RS w0 w4 g (v.drop 12) from by rw [List.drop_drop] at hRS; exact hRS)
     replace HC := Lh (hO.blk HC.out HNE.out)
     replace HO := Lh (HO.out.trans (hO.mono (S' := fun k => k = g ∨ k = gc) (fun k _ h => Or.inl h)) (fun k _ h => h))
     clear hRS hO H3
     have k2 : w4.cell? ⟨gc, 2, none⟩ = some (.int .u32 0) := blk_cell HC.out 2
     have f2 := blk_frozen HC.out 2
     have k3 : w4.cell? ⟨gc, 3, none⟩ = some (.int .u16 0) := blk_cell HC.out 3
     have f3 := blk_frozen HC.out 3
     have k4 : w4.cell? ⟨gc, 4, none⟩ = some (.int .u16 0) := blk_cell HC.out 4
     have f4 := blk_frozen HC.out 4
     have k5 : w4.cell? ⟨gc, 5, none⟩ = some (.int .u32 0) := blk_cell HC.out 5
     have f5 := blk_frozen HC.out 5
     replace HC := Lh (blk_put (blk_put (blk_put (blk_put HC.out 2 (.int .u32 (t0 : Int)) rfl) 3 (.int .u16 (t1 : Int)) rfl) 4 (.int .u16 (t2 : Int)) rfl) 5 (.int .u32 (t3 : Int)) (show _ = #[.int .u8 0, .int .u8 fl, .int .u32 (t0 : Int), .int .u16 (t1 : Int), .int .u16 (t2 : Int), .int .u32 (t3 : Int), .int .u32 0, .int .u32 0, .int .u16 0, .int .u16 0, .slice none 0 0, .slice none 0 0, .slice none 0 0, .slice none 0 0, .slice none 0 0] from rfl))
     replace HO := Lh (((((HO.out.setCell (p := ⟨gc, 2, none⟩) (fun _ => Or.inr rfl) (.int .u32 (t0 : Int))).setCell (p := ⟨gc, 3, none⟩) (fun _ => Or.inr rfl) (.int .u16 (t1 : Int))).setCell (p := ⟨gc, 4, none⟩) (fun _ => Or.inr rfl) (.int .u16 (t2 : Int))).setCell (p := ⟨gc, 5, none⟩) (fun _ => Or.inr rfl) (.int .u32 (t3 : Int))))
     have HFAR := Lh ((((((Only.refl (· = gc) w4).setCell (p := ⟨gc, 2, none⟩) (fun _ => rfl) (.int .u32 (t0 : Int))).setCell (p := ⟨gc, 3, none⟩) (fun _ => rfl) (.int .u16 (t1 : Int))).setCell (p := ⟨gc, 4, none⟩) (fun _ => rfl) (.int .u16 (t2 : Int))).setCell (p := ⟨gc, 5, none⟩) (fun _ => rfl) (.int .u32 (t3 : Int))))
     replace HRS := Lh (HRS.out.only HFAR.out HNE2.out)
     go_upto_region 4 with (fail)
     clear k2 f2 k3 f3 k4 f4 k5 f5
     generalize ((((w4.setCell ⟨gc, 2, none⟩ (.int .u32 (t0 : Int))).setCell ⟨gc, 3, none⟩ (.int .u16 (t1 : Int))).setCell ⟨gc, 4, none⟩ (.int .u16 (t2 : Int))).setCell ⟨gc, 5, none⟩ (.int .u32 (t3 : Int))) = W5 at *
     obtain ⟨Ar, cr, hbr, hcr, hCr⟩ := HRS.out
     have kr : W5.cell? ⟨g, 0, none⟩ = some (.slice Ar (v.drop 12).length cr) := blk_cell hbr 0
     clear hbr hcr hCr
     by_cases h12 : v.length = 12
     ·have hl : (v.drop 12).length = 0 := by rw [List.length_drop]; omega
      rw [hl] at kr
      have HR := Lh (show readData 0 fl v = .error 62 from by unfold readData; rw [if_neg (by omega), if_pos h12])
      go_wp2
      exact ⟨rfl, ReadP.bad HR.out HC.out rfl HO.out⟩
     ·have hl : ((v.drop 12).length : Int) ≠ 0 := by rw [List.length_drop]; omega
      have hlb : (((v.drop 12).length : Int) == 0) = false := by simpa using hl
      have HR := Lh (show readData 0 fl v = .ok ⟨0, fl, (t0 : Int), (t1 : Int), (t2 : Int), (t3 : Int), 0, 0, 0, 0, [], [], [], intsL (v.drop 12), []⟩ from by unfold readData; rw [if_neg (by omega), if_neg h12, HT0.out, HT1.out, HT2.out, HT3.out])
      have HA := Lh (all_calls w0 W5 g (v.drop 12) HRS.out (HBW.out W5 HO.out) HG.out (by rw [List.length_drop]; omega))
      generalize (v.drop 12).length = nn at *
      go_wp2_with fail
      refine HA.out.mono ?_
      rintro e w6 ⟨u, rfl, hU, hRS, hO⟩
      obtain ⟨Au, cu, hu⟩ := Kd.R_slice hU
      replace HRS := Lh hRS
      replace HC := Lh (hO.blk HC.out HNE.out)
      have HU := Lh (Kd.R_lower (int_of_byte' hU) HO.out.size)
      replace HO := Lh (HO.out.trans (hO.mono (S' := fun k => k = g ∨ k = gc) (fun k _ h => Or.inl h)) (fun k _ h => h))
      clear hRS hO hU HA kr
      generalize (v.drop 12).length = nu at hu
      subst hu
      have k13 : w6.cell? ⟨gc, 13, none⟩ = some (.slice none 0 0) := blk_cell HC.out 13
      have f13 := blk_frozen HC.out 13
      replace HC := Lh (blk_put HC.out 13 (.slice Au nu cu) (show _ = #[.int .u8 0, .int .u8 fl, .int .u32 (t0 : Int), .int .u16 (t1 : Int), .int .u16 (t2 : Int), .int .u32 (t3 : Int), .int .u32 0, .int .u32 0, .int .u16 0, .int .u16 0, .slice none 0 0, .slice none 0 0, .slice none 0 0, .slice Au nu cu, .slice none 0 0] from rfl))
      replace HO := Lh ((HO.out.setCell (p := ⟨gc, 13, none⟩) (fun _ => Or.inr rfl) (.slice Au nu cu)))
      have HFAR := Lh (((Only.refl (· = gc) w6).setCell (p := ⟨gc, 13, none⟩) (fun _ => rfl) (.slice Au nu cu)))
      replace HRS := Lh (HRS.out.only HFAR.out HNE2.out)
      go_upto_region 27 with (fail)
      clear k13 f13
      generalize (w6.setCell ⟨gc, 13, none⟩ (.slice Au nu cu)) = W7 at *
      have HU2 := Lh (R_only HU.out HFAR.out (fun k hk _ e => by have := HGL.out.2; omega))
      obtain ⟨Ar, cr, hbr, hcr, hCr⟩ := HRS.out
      have kr : W7.cell? ⟨g, 0, none⟩ = some (.slice Ar 0 cr) := blk_cell hbr 0
      clear hbr hcr hCr
      go_wp2
      go_end0
      exact ReadP.good HR.out HC.out (k41_mkM _ _ _ (⟨0, fl, (t0 : Int), (t1 : Int), (t2 : Int), (t3 : Int), 0, 0, 0, 0, [], [], [], intsL (v.drop 12), []⟩) (Kd.R_nil _ _ _ _ _) (Kd.R_nil _ _ _ _ _) (Kd.R_nil _ _ _ _ _) HU2.out (Kd.R_nil _ _ _ _ _)) HO.out
    ·skip
     have HR := Lh (show readData 0 fl v = .error 61 from by unfold readData; rw [if_pos (by omega)])
     have H0 := Lh (fun (W : World) (h : RS w0 W g v) (hO : Only (fun k => k = g ∨ k = gc) w W) => four_ok w0 W g v h (HBW.out W hO) HG.out (by omega) hv)
     obtain ⟨t0, ht0⟩ : ∃ t, be (v.take 4) = t := ⟨_, rfl⟩
     rw [ht0] at H0
     have HT0 := Lh ht0
     clear ht0
     have H1 := Lh (fun (W : World) (h : RS w0 W g (v.drop 4)) (hO : Only (fun k => k = g ∨ k = gc) w W) => two_ok w0 W g (v.drop 4) h (HBW.out W hO) HG.out (by rw [List.length_drop]; omega) (by rw [List.length_drop]; omega))
     obtain ⟨t1, ht1⟩ : ∃ t, be ((v.drop 4).take 2) = t := ⟨_, rfl⟩
     rw [ht1] at H1
     have HT1 := Lh ht1
     clear ht1
     have H2 := Lh (fun (W : World) (h : RS w0 W g (v.drop 6)) (hO : Only (fun k => k = g ∨ k = gc) w W) => two_ok w0 W g (v.drop 6) h (HBW.out W hO) HG.out (by rw [List.length_drop]; omega) (by rw [List.length_drop]; omega))
     obtain ⟨t2, ht2⟩ : ∃ t, be ((v.drop 6).take 2) = t := ⟨_, rfl⟩
     rw [ht2] at H2
     have HT2 := Lh ht2
     clear ht2
     have H3 := Lh (fun (W : World) (h : RS w0 W g (v.drop 8)) (hO : Only (fun k => k = g ∨ k = gc) w W) => four_bad w0 W g (v.drop 8) h (HBW.out W hO) HG.out (by rw [List.length_drop]; omega) (by rw [List.length_drop]; omega))
     unfold errE at H3
     go_enter Tryd.func92, Tryd.ntmps92
     go_wp2_with fail
     refine (H0.out w HRS.out HO.out).mono ?_
     rintro e w1 ⟨rfl, hRS, hO⟩
     replace HRS := Lh (show RS w0 w1 g (v.drop 4) from by exact hRS)
     replace HC := Lh (hO.blk HC.out HNE.out)
     replace HO := Lh (HO.out.trans (hO.mono (S' := fun k => k = g ∨ k = gc) (fun k _ h => Or.inl h)) (fun k _ h => h))
     clear hRS hO H0
     go_wp2_with fail
     refine (H1.out w1 HRS.out HO.out).mono ?_
     rintro e w2 ⟨rfl, hRS, hO⟩
     replace HRS := Lh (show RS w0 w2 g (v.drop 6) from by rw [List.drop_drop] at hRS; exact hRS)
     replace HC := Lh (hO.blk HC.out HNE.out)
     replace HO := Lh (HO.out.trans (hO.mono (S' := fun k => k = g ∨ k = gc) (fun k _ h => Or.inl h)) (fun k _ h => h))
     clear hRS hO H1
     go_wp2_with fail
     refine (H2.out w2 HRS.out HO.out).mono ?_
     rintro e w3 ⟨rfl, hRS, hO⟩
     replace HRS := Lh (show RS w0 w3 g (v.drop 8) from by rw [List.drop_drop] at hRS; exact hRS)
     replace HC := Lh (hO.blk HC.out HNE.out)
     replace HO := Lh (HO.out.trans (hO.mono (S' := fun k => k = g ∨ k = gc) (fun k _ h => Or.inl h)) (fun k _ h => h))
     clear hRS hO H2
     go_wp2_with fail
     refine (H3.out w3 HRS.out HO.out).mono ?_
     rintro e w4 ⟨rfl, hO⟩
     refine ⟨rfl, ReadP.bad HR.out (hO.blk HC.out HNE.out) rfl (HO.out.trans (hO.mono (S' := fun k => k = g ∨ k = gc) (fun k _ h => Or.inl h)) (fun k _ h => h))⟩
   ·skip
    have HR := Lh (show readData 0 fl v = .error 61 from by unfold readData; rw [if_pos (by omega)])
    have H0 := Lh (fun (W : World) (h : RS w0 W g v) (hO : Only (fun k => k = g ∨ k = gc) w W) => four_ok w0 W g v h (HBW.out W hO) HG.out (by omega) hv)
    obtain ⟨t0, ht0⟩ : ∃ t, be (v.take 4) = t := ⟨_, rfl⟩
    rw [ht0] at H0
    have HT0 := Lh ht0
    clear ht0
    have H1 := Lh (fun (W : World) (h : RS w0 W g (v.drop 4)) (hO : Only (fun k => k = g ∨ k = gc) w W) => two_ok w0 W g (v.drop 4) h (HBW.out W hO) HG.out (by rw [List.length_drop]; omega) (by rw [List.length_drop]; omega))
    obtain ⟨t1, ht1⟩ : ∃ t, be ((v.drop 4).take 2) = t := ⟨_, rfl⟩
    rw [ht1] at H1
    have HT1 := Lh ht1
    clear ht1
    have H2 := Lh (fun (W : World) (h : RS w0 W g (v.drop 6)) (hO : Only (fun k => k = g ∨ k = gc) w W) => two_bad w0 W g (v.drop 6) h (by rw [List.length_drop]; omega) (by rw [List.length_drop]; omega))
    unfold errE at H2
    go_enter Tryd.func92, Tryd.ntmps92
    go_wp2_with fail
    refine (H0.out w HRS.out HO.out).mono ?_
    rintro e w1 ⟨rfl, hRS, hO⟩
    replace HRS := Lh (show RS w0 w1 g (v.drop 4) from by exact hRS)
    replace HC := Lh (hO.blk HC.out HNE.out)
    replace HO := Lh (HO.out.trans (hO.mono (S' := fun k => k = g ∨ k = gc) (fun k _ h => Or.inl h)) (fun k _ h => h))
    clear hRS hO H0
    go_wp2_with fail
    refine (H1.out w1 HRS.out HO.out).mono ?_
    rintro e w2 ⟨rfl, hRS, hO⟩
    replace HRS := Lh (show RS w0 w2 g (v.drop 6) from by rw [List.drop_drop] at hRS; exact hRS)
    replace HC := Lh (hO.blk HC.out HNE.out)
    replace HO := Lh (HO.out.trans (hO.mono (S' := fun k => k = g ∨ k = gc) (fun k _ h => Or.inl h)) (fun k _ h => h))
    clear hRS hO H1
    go_wp2_with fail
    refine (H2.out w2 HRS.out HO.out).mono ?_
    rintro e w3 ⟨rfl, rfl⟩
    exact ⟨rfl, ReadP.bad HR.out HC.out rfl HO.out⟩
  ·skip
   have HR := Lh (show readData 0 fl v = .error 61 from by unfold readData; rw [if_pos (by omega)])
   have H0 := Lh (fun (W : World) (h : RS w0 W g v) (hO : Only (fun k => k = g ∨ k = gc) w W) => four_ok w0 W g v h (HBW.out W hO) HG.out (by omega) hv)
   obtain ⟨t0, ht0⟩ : ∃ t, be (v.take 4) = t := ⟨_, rfl⟩
   rw [ht0] at H0
   have HT0 := Lh ht0
   clear ht0
   have H1 := Lh (fun (W : World) (h : RS w0 W g (v.drop 4)) (hO : Only (fun k => k = g ∨ k = gc) w W) => two_bad w0 W g (v.drop 4) h (by rw [List.length_drop]; omega) (by rw [List.length_drop]; omega))
   unfold errE at H1
   go_enter Tryd.func92, Tryd.ntmps92
   go_wp2_with fail
   refine (H0.out w HRS.out HO.out).mono ?_
   rintro e w1 ⟨rfl, hRS, hO⟩
   replace HRS := Lh (show RS w0 w1 g (v.drop 4) from by exact hRS)
   replace HC := Lh (hO.blk HC.out HNE.out)
   replace HO := Lh (HO.out.trans (hO.mono (S' := fun k => k = g ∨ k = gc) (fun k _ h => Or.inl h)) (fun k _ h => h))
   clear hRS hO H0
   go_wp2_with fail
   refine (H1.out w1 HRS.out HO.out).mono ?_
   rintro e w2 ⟨rfl, rfl⟩
   exact ⟨rfl, ReadP.bad HR.out HC.out rfl HO.out⟩
 ·skip
  have HR := Lh (show readData 0 fl v = .error 61 from by unfold readData; rw [if_pos (by omega)])
  have H0 := Lh (fun (W : World) (h : RS w0 W g v) (hO : Only (fun k => k = g ∨ k = gc) w W) => four_bad w0 W g v h (HBW.out W hO) HG.out (by omega) hv)
  unfold errE at H0
  go_enter Tryd.func92, Tryd.ntmps92
  go_wp2_with fail
  refine (H0.out w HRS.out HO.out).mono ?_
  rintro e w1 ⟨rfl, hO⟩
  refine ⟨rfl, ReadP.bad HR.out (hO.blk HC.out HNE.out) rfl (HO.out.trans (hO.mono (S' := fun k => k = g ∨ k = gc) (fun k _ h => Or.inl h)) (fun k _ h => h))⟩
end Go.Proofs.YtdlamomabonkjaaDoor.Ch
end
section
namespace Go.Proofs.YtdlamomabonkjaaDoor.Ch
open Go.RowKit YtdlamomabonkjaaDoorW.PrintWords Base PCh ParDec
set_option maxHeartbeats 4000000 in
theorem read_init (w0 w : World) (g gc : Nat) (v : List UInt8) (kd fl : Int) (hs : RS w0 w g v) (hc : w.heap[gc]? = some (.cells (freshV kd fl) 41 (0, 0))) (hB : Below w0.heap.size w0 w) (hg : w0.heap.size ≤ g) (hgc : w0.heap.size ≤ gc) (hne : g ≠ gc) (hv : v.length ≤ 140737488355328) (hk : kd = 1 ∨ kd = 2) :
  Calls Tryd.prog 92 #[.pointer (some ⟨g, 0, none⟩), .pointer (some ⟨gc, 0, none⟩)] w (ReadP w g gc (readInit kd fl v)) := by
 have hb : ((kd == 0) = false ∧ (kd == 1) = true) ∨ ((kd == 0) = false ∧ (kd == 1) = false ∧ (kd == 2) = true) := by rcases hk with rfl | rfl <;> decide
 clear hk
 rcases hb with ⟨b0, b1⟩ | ⟨b0, b1, b2⟩
 all_goals
  have HGL := Lh (show g < w.heap.size ∧ gc < w.heap.size from ⟨hs.lt, blk_lt hc⟩)
  have HBW := Lh (fun (W : World) (h : Only (fun k => k = g ∨ k = gc) w W) => hB.trans (h.below hB.size (fun k hk => by omega)))
  have HNE := Lh (show ¬ gc = g from fun e => hne e.symm)
  have HNE2 := Lh (show ¬ g = gc from hne)
  have HG := Lh hg
  have HRS := Lh hs
  unfold freshV at hc
  have HC := Lh hc
  have k0 : w.cell? ⟨gc, 0, none⟩ = some (.int .u8 kd) := blk_cell hc 0
  have HO := Lh (Only.refl (fun k => k = g ∨ k = gc) w)
  clear hs hc hB hg hgc hne
  by_cases h0 : 4 ≤ v.length
  ·skip
   by_cases h1 : 8 ≤ v.length
   ·skip
    by_cases h2 : 10 ≤ v.length
    ·skip
     by_cases h3 : 12 ≤ v.length
     ·skip
      by_cases h4 : 16 ≤ v.length
      ·skip
       have H0 := Lh (fun (W : World) (h : RS w0 W g v) (hO : Only (fun k => k = g ∨ k = gc) w W) => four_ok w0 W g v h (HBW.out W hO) HG.out (by omega) hv)
       obtain ⟨t0, ht0⟩ : ∃ t, be (v.take 4) = t := ⟨_, rfl⟩
       rw [ht0] at H0
       have HT0 := Lh ht0
       clear ht0
       have H1 := Lh (fun (W : World) (h : RS w0 W g (v.drop 4)) (hO : Only (fun k => k = g ∨ k = gc) w W) => four_ok w0 W g (v.drop 4) h (HBW.out W hO) HG.out (by rw [List.length_drop]; omega) (by rw [List.length_drop]; omega))
       obtain ⟨t1, ht1⟩ : ∃ t, be ((v.drop 4).take 4) = t := ⟨_, rfl⟩
       rw [ht1] at H1
       have HT1 := Lh ht1
       clear ht1
       have H2 := Lh (fun (W : World) (h : RS w0 W g (v.drop 8)) (hO : Only (fun k => k = g ∨ k = gc) w W) => two_ok w0 W g (v.drop 8) h (HBW.out W hO) HG.out (by rw [List.length_drop]; omega) (by rw [List.length_drop]; omega))
       obtain ⟨t2, ht2⟩ : ∃ t, be ((v.drop 8).take 2) = t := ⟨_, rfl⟩
       rw [ht2] at H2
       have HT2 := Lh ht2
       clear ht2
       have H3 := Lh (fun (W : World) (h : RS w0 W g (v.drop 10)) (hO : Only (fun k => k = g ∨ k = gc) w W) => two_ok w0 W g (v.drop 10) h (HBW.out W hO) HG.out (by rw [List.length_drop]; omega) (by rw [List.length_drop]; omega))
       obtain ⟨t3, ht3⟩ : ∃ t, be ((v.drop 10).take 2) = t := ⟨_, rfl⟩
       rw [ht3] at H3
       have HT3 := Lh ht3
       clear ht3
       have H4 := Lh (fun (W : World) (h : RS w0 W g (v.drop 12)) (hO : Only (fun k => k = g ∨ k = gc) w W) => four_ok w0 W g (v.drop 12) h (HBW.out W hO) HG.out (by rw [List.length_drop]; omega) (by rw [List.length_drop]; omega))
       obtain ⟨t4, ht4⟩ : ∃ t, be ((v.drop 12).take 4) = t := ⟨_, rfl⟩
       rw [ht4] at H4
       have HT4 := Lh ht4
       clear ht4
       go_enter Tryd.func92, Tryd.ntmps92
       go_wp2_with fail
       refine (H0.out w HRS.out HO.out).mono ?_
       rintro e w1 ⟨rfl, hRS, hO⟩
       replace HRS := Lh (show RS w0 w1 g (v.drop 4) from by exact hRS)
       replace HC := Lh (hO.blk HC.out HNE.out)
       replace HO := Lh (HO.out.trans (hO.mono (S' := fun k => k = g ∨ k = gc) (fun k _ h => Or.inl h)) (fun k _ h => h))
       clear hRS hO H0
       go_wp2_with fail
       refine (H1.out w1 HRS.out HO.out).mono ?_
       rintro e w2 ⟨rfl, hRS, hO⟩
       replace HRS := Lh (show RS w0 w2 g (v.drop 8) from by rw [List.drop_drop] at hRS; exact hRS)
       replace HC := Lh (hO.blk HC.out HNE.out)
       replace HO := Lh (HO.out.trans (hO.mono (S' := fun k => k = g ∨ k = gc) (fun k _ h => Or.inl h)) (fun k _ h => h))
       clear hRS hO H1
       go_wp2_with fail
       refine (H2.out w2 HRS.out HO.out).mono ?_
       rintro e w3 ⟨rfl, hRS, hO⟩
       replace HRS := Lh (show RS w0 w3 g (v.drop 10) from by rw [List.drop_drop] at hRS; exact hRS)
       replace HC := Lh (hO.blk HC.out HNE.out)
       replace HO := Lh (HO.out.trans (hO.mono (S' := fun k => k = g ∨ k = gc) (fun k _ h => Or.inl h)) (fun k _ h => h))
       clear hRS hO H2
       go_wp2_with fail
       refine (H3.out w3 HRS.out HO.out).mono ?_
       rintro e w4 ⟨rfl, hRS, hO⟩
       replace HRS := Lh (show RS w0 w4 g (v.drop 12) from by rw [List.drop_drop] at hRS; exact hRS)
       replace HC := Lh (hO.blk HC.out HNE.out)
       replace HO := Lh (HO.out.trans (hO.mono (S' := fun k => k = g ∨ k = gc) (fun k _ h => Or.inl h)) (fun k _ h => h))
       clear hRS hO H3
       go_wp2_with fail
       refine (H4.out w4 HRS.out HO.out).mono ?_
       rintro e w5 ⟨rfl, hRS, hO⟩
       replace HRS := Lh (show RS w0 w5 g (v.drop 16) from by rw [List.drop_drop] at hRS; exact hRS)
       replace HC := Lh (hO.blk HC.out HNE.out)
       replace HO := Lh (HO.out.trans (hO.mono (S' := fun k => k = g ∨ k = gc) (fun k _ h => Or.inl h)) (fun k _ h => h))
       clear hRS hO H4
       have k6 : w5.cell? ⟨gc, 6, none⟩ = some (.int .u32 0) := blk_cell HC.out 6
       have f6 := blk_frozen HC.out 6
       have k7 : w5.cell? ⟨gc, 7, none⟩ = some (.int .u32 0) := blk_cell HC.out 7
       have f7 := blk_frozen HC.out 7
       have k8 : w5.cell? ⟨gc, 8, none⟩ = some (.int .u16 0) := blk_cell HC.out 8
       have f8 := blk_frozen HC.out 8
       have k9 : w5.cell? ⟨gc, 9, none⟩ = some (.int .u16 0) := blk_cell HC.out 9
       have f9 := blk_frozen HC.out 9
       have k2 : w5.cell? ⟨gc, 2, none⟩ = some (.int .u32 0) := blk_cell HC.out 2
       have f2 := blk_frozen HC.out 2
       replace HC := Lh (blk_put (blk_put (blk_put (blk_put (blk_put HC.out 6 (.int .u32 (t0 : Int)) rfl) 7 (.int .u32 (t1 : Int)) rfl) 8 (.int .u16 (t2 : Int)) rfl) 9 (.int .u16 (t3 : Int)) rfl) 2 (.int .u32 (t4 : Int)) (show _ = #[.int .u8 kd, .int .u8 fl, .int .u32 (t4 : Int), .int .u16 0, .int .u16 0, .int .u32 0, .int .u32 (t0 : Int), .int .u32 (t1 : Int), .int .u16 (t2 : Int), .int .u16 (t3 : Int), .slice none 0 0, .slice none 0 0, .slice none 0 0, .slice none 0 0, .slice none 0 0] from rfl))
       replace HO := Lh ((((((HO.out.setCell (p := ⟨gc, 6, none⟩) (fun _ => Or.inr rfl) (.int .u32 (t0 : Int))).setCell (p := ⟨gc, 7, none⟩) (fun _ => Or.inr rfl) (.int .u32 (t1 : Int))).setCell (p := ⟨gc, 8, none⟩) (fun _ => Or.inr rfl) (.int .u16 (t2 : Int))).setCell (p := ⟨gc, 9, none⟩) (fun _ => Or.inr rfl) (.int .u16 (t3 : Int))).setCell (p := ⟨gc, 2, none⟩) (fun _ => Or.inr rfl) (.int .u32 (t4 : Int))))
       have HFAR := Lh (((((((Only.refl (· = gc) w5).setCell (p := ⟨gc, 6, none⟩) (fun _ => rfl) (.int .u32 (t0 : Int))).setCell (p := ⟨gc, 7, none⟩) (fun _ => rfl) (.int .u32 (t1 : Int))).setCell (p := ⟨gc, 8, none⟩) (fun _ => rfl) (.int .u16 (t2 : Int))).setCell (p := ⟨gc, 9, none⟩) (fun _ => rfl) (.int .u16 (t3 : Int))).setCell (p := ⟨gc, 2, none⟩) (fun _ => rfl) (.int .u32 (t4 : Int))))
       replace HRS := Lh (HRS.out.only HFAR.out HNE2.out)
       go_upto_region 10 with (fail)
       clear k6 f6 k7 f7 k8 f8 k9 f9 k2 f2
       generalize (((((w5.setCell ⟨gc, 6, none⟩ (.int .u32 (t0 : Int))).setCell ⟨gc, 7, none⟩ (.int .u32 (t1 : Int))).setCell ⟨gc, 8, none⟩ (.int .u16 (t2 : Int))).setCell ⟨gc, 9, none⟩ (.int .u16 (t3 : Int))).setCell ⟨gc, 2, none⟩ (.int .u32 (t4 : Int))) = W6 at *
       by_cases hcode : (decD (v.drop 16)).2.2 = 0
       ·have HP := Lh (params_ok w0 W6 g (v.drop 16) HRS.out (HBW.out W6 HO.out) HG.out (by rw [List.length_drop]; omega) hcode)
        go_wp2_with fail
        refine HP.out.mono ?_
        rintro e w7 ⟨u, rfl, hU, hRS, hO⟩
        obtain ⟨Au, cu, hu⟩ := Kd.R_slice hU
        have hUr := Kd.R_reads hU
        replace HRS := Lh hRS
        replace HC := Lh (hO.blk HC.out HNE.out)
        have HU := Lh (Kd.R_lower hU HO.out.size)
        replace HO := Lh (HO.out.trans (hO.mono (S' := fun k => k = g ∨ k = gc) (fun k _ h => Or.inl h)) (fun k _ h => h))
        clear hRS hO hU HP
        obtain ⟨nu, hnu⟩ : ∃ nu, (decD (v.drop 16)).1.length = nu := ⟨_, rfl⟩
        rw [hnu] at hu
        subst hu
        have k14 : w7.cell? ⟨gc, 14, none⟩ = some (.slice none 0 0) := blk_cell HC.out 14
        have f14 := blk_frozen HC.out 14
        replace HC := Lh (blk_put HC.out 14 (.slice Au nu cu) (show _ = #[.int .u8 kd, .int .u8 fl, .int .u32 (t4 : Int), .int .u16 0, .int .u16 0, .int .u32 0, .int .u32 (t0 : Int), .int .u32 (t1 : Int), .int .u16 (t2 : Int), .int .u16 (t3 : Int), .slice none 0 0, .slice none 0 0, .slice none 0 0, .slice none 0 0, .slice Au nu cu] from rfl))
        replace HO := Lh ((HO.out.setCell (p := ⟨gc, 14, none⟩) (fun _ => Or.inr rfl) (.slice Au nu cu)))
        have HFAR := Lh (((Only.refl (· = gc) w7).setCell (p := ⟨gc, 14, none⟩) (fun _ => rfl) (.slice Au nu cu)))
        replace HRS := Lh (HRS.out.only HFAR.out HNE2.out)
        go_upto_region 27 with (fail)
        clear k14 f14
        generalize (w7.setCell ⟨gc, 14, none⟩ (.slice Au nu cu)) = W8 at *
        have HU2 := Lh (R_only HU.out HFAR.out (fun k hk _ e => by have := HGL.out.2; omega))
        have HR := Lh (show readInit kd fl v = .ok ⟨kd, fl, (t4 : Int), 0, 0, 0, (t0 : Int), (t1 : Int), (t2 : Int), (t3 : Int), [], [], [], [], (decD (v.drop 16)).1⟩ from by unfold readInit prmsD; rw [if_neg (by omega), if_pos hcode, HT0.out, HT1.out, HT2.out, HT3.out, HT4.out])
        obtain ⟨Ar, cr, hbr, hcr, hCr⟩ := HRS.out
        have kr : W8.cell? ⟨g, 0, none⟩ = some (.slice Ar 0 cr) := blk_cell hbr 0
        clear hbr hcr hCr
        go_wp2
        go_end0
        exact ReadP.good HR.out HC.out (k41_mkM _ _ _ (⟨kd, fl, (t4 : Int), 0, 0, 0, (t0 : Int), (t1 : Int), (t2 : Int), (t3 : Int), [], [], [], [], (decD (v.drop 16)).1⟩) (Kd.R_nil _ _ _ _ _) (Kd.R_nil _ _ _ _ _) (Kd.R_nil _ _ _ _ _) (Kd.R_nil _ _ _ _ _) HU2.out) HO.out
       ·have HP := Lh (params_bad w0 W6 g (v.drop 16) HRS.out (HBW.out W6 HO.out) HG.out (by rw [List.length_drop]; omega) hcode)
        have HR := Lh (show readInit kd fl v = .error (decD (v.drop 16)).2.2 from by unfold readInit prmsD; rw [if_neg (by omega), if_neg hcode])
        unfold errE at HP
        generalize (decD (v.drop 16)).2.2 = code at *
        go_wp2_with fail
        refine HP.out.mono ?_
        rintro e w7 ⟨rfl, hO⟩
        refine ⟨rfl, ReadP.bad HR.out (hO.blk HC.out HNE.out) rfl (HO.out.trans (hO.mono (S' := fun k => k = g ∨ k = gc) (fun k _ h => Or.inl h)) (fun k _ h => h))⟩
      ·skip
       have HR := Lh (show readInit kd fl v = .error 61 from by unfold readInit; rw [if_pos (by omega)])
       have H0 := Lh (fun (W : World) (h : RS w0 W g v) (hO : Only (fun k => k = g ∨ k = gc) w W) => four_ok w0 W g v h (HBW.out W hO) HG.out (by omega) hv)
       obtain ⟨t0, ht0⟩ : ∃ t, be (v.take 4) = t := ⟨_, rfl⟩
       rw [ht0] at H0
       have HT0 := Lh ht0
       clear ht0
       have H1 := Lh (fun (W : World) (h : RS w0 W g (v.drop 4)) (hO : Only (fun k => k = g ∨ k = gc) w W) => four_ok w0 W g (v.drop 4) h (HBW.out W hO) HG.out (by rw [List.length_drop]; omega) (by rw [List.length_drop]; omega))
       obtain ⟨t1, ht1⟩ : ∃ t, be ((v.drop 4).take 4) = t := ⟨_, rfl⟩
       rw [ht1] at H1
       have HT1 := Lh ht1
       clear ht1
       have H2 := Lh (fun (W : World) (h : RS w0 W g (v.drop 8)) (hO : Only (fun k => k = g ∨ k = gc) w W) => two_ok w0 W g (v.drop 8) h (HBW.out W hO) HG.out (by rw [List.length_drop]; omega) (by rw [List.length_drop]; omega))
       obtain ⟨t2, ht2⟩ : ∃ t, be ((v.drop 8).take 2) = t := ⟨_, rfl⟩
       rw [ht2] at H2
       have HT2 := Lh ht2
       clear ht2
       have H3 := Lh (fun (W : World) (h : RS w0 W g (v.drop 10)) (hO : Only (fun k => k = g ∨ k = gc) w W) => two_ok w0 W g (v.drop 10) h (HBW.out W hO) HG.out (by rw [List.length_drop]; omega) (by rw [List.length_drop]; omega))
       obtain ⟨t3, ht3⟩ : ∃ t, be ((v.drop 10).take 2) = t := ⟨_, rfl⟩
       rw [ht3] at H3
       have HT3 := Lh ht3
       clear ht3
       have H4 := Lh (fun (W : World) (h : RS w0 W g (v.drop 12)) (hO : Only (fun k => k = g ∨ k = gc) w W) => four_bad w0 W g (v.drop 12) h (HBW.out W hO) HG.out (by rw [List.length_drop]; omega) (by rw [List.length_drop]; omega))
       unfold errE at H4
       go_enter Tryd.func92, Tryd.ntmps92
       go_wp2_with fail
       refine (H0.out w HRS.out HO.out).mono ?_
       rintro e w1 ⟨rfl, hRS, hO⟩
       replace HRS := Lh (show RS w0 w1 g (v.drop 4) from by exact hRS)
       replace HC := Lh (hO.blk HC.out HNE.out)
       replace HO := Lh (HO.out.trans (hO.mono (S' := fun k => k = g ∨ k = gc) (fun k _ h => Or.inl h)) (fun k _ h => h))
       clear hRS hO H0
       go_wp2_with fail
       refine (H1.out w1 HRS.out HO.out).mono ?_
       rintro e w2 ⟨rfl, hRS, hO⟩
       replace HRS := Lh (show RS w0 w2 g (v.drop 8) from by rw [List.drop_drop] at hRS; exact hRS)
       replace HC := Lh (hO.blk HC.out HNE.out)
       replace HO := Lh (HO.out.trans (hO.mono (S' := fun k => k = g ∨ k = gc) (fun k _ h => Or.inl h)) (fun k _ h => h))
       clear hRS hO H1
       go_wp2_with fail
       refine (H2.out w2 HRS.out HO.out).mono ?_
       rintro e w3 ⟨rfl, hRS, hO⟩
       replace HRS := Lh (show RS w0 w3 g (v.drop 10) from by rw [List.drop_drop] at hRS; exact hRS)
       replace HC := Lh (hO.blk HC.out HNE.out)
       replace HO := Lh (HO.out.trans (hO.mono (S' := fun k => k = g ∨ k = gc) (fun k _ h => Or.inl h)) (fun k _ h => h))
       clear hRS hO H2
       go_wp2_with fail
       refine (H3.out w3 HRS.out HO.out).mono ?_
       rintro e w4 ⟨rfl, hRS, hO⟩
       replace HRS := Lh (show RS w0 w4 g (v.drop 12) from by rw [List.drop_drop] at hRS; exact hRS)
       replace HC := Lh (hO.blk HC.out HNE.out)
       replace HO := Lh (HO.out.trans (hO.mono (S' := fun k => k = g ∨ k = gc) (fun k _ h => Or.inl h)) (fun k _ h => h))
       clear hRS hO H3
       go_wp2_with fail
       refine (H4.out w4 HRS.out HO.out).mono ?_
       rintro e w5 ⟨rfl, hO⟩
       refine ⟨rfl, ReadP.bad HR.out (hO.blk HC.out HNE.out) rfl (HO.out.trans (hO.mono (S' := fun k => k = g ∨ k = gc) (fun k _ h => Or.inl h)) (fun k _ h => h))⟩
     ·skip
      have HR := Lh (show readInit kd fl v = .error 61 from by unfold readInit; rw [if_pos (by omega)])
      have H0 := Lh (fun (W : World) (h : RS w0 W g v) (hO : Only (fun k => k = g ∨ k = gc) w W) => four_ok w0 W g v h (HBW.out W hO) HG.out (by omega) hv)
      obtain ⟨t0, ht0⟩ : ∃ t, be (v.take 4) = t := ⟨_, rfl⟩
      rw [ht0] at H0
      have HT0 := Lh ht0
      clear ht0
      have H1 := Lh (fun (W : World) (h : RS w0 W g (v.drop 4)) (hO : Only (fun k => k = g ∨ k = gc) w W) => four_ok w0 W g (v.drop 4) h (HBW.out W hO) HG.out (by rw [List.length_drop]; omega) (by rw [List.length_drop]; omega))
      obtain ⟨t1, ht1⟩ : ∃ t, be ((v.drop 4).take 4) = t := ⟨_, rfl⟩
      rw [ht1] at H1
      have HT1 := Lh ht1
      clear ht1
      have H2 := Lh (fun (W : World) (h : RS w0 W g (v.drop 8)) (hO : Only (fun k => k = g ∨ k = gc) w W) => two_ok w0 W g (v.drop 8) h (HBW.out W hO) HG.out (by rw [List.length_drop]; omega) (by rw [List.length_drop]; omega))
      obtain ⟨t2, ht2⟩ : ∃ t, be ((v.drop 8).take 2) = t := ⟨_, rfl⟩
      rw [ht2] at H2
      have HT2 := Lh ht2
      clear ht2
      have H3 := Lh (fun (W : World) (h : RS w0 W g (v.drop 10)) (hO : Only (fun k => k = g ∨ k = gc) w W) => two_bad w0 W g (v.drop 10) h (by rw [List.length_drop]; omega) (by rw [List.length_drop]; omega))
      unfold errE at H3
      go_enter Tryd.func92, Tryd.ntmps92
      go_wp2_with fail
      refine (H0.out w HRS.out HO.out).mono ?_
      rintro e w1 ⟨rfl, hRS, hO⟩
      replace HRS := Lh (show RS w0 w1 g (v.drop 4) from by exact hRS)
      replace HC := Lh (hO.blk HC.out HNE.out)
      replace HO := Lh (HO.out.trans (hO.mono (S' := fun k => k = g ∨ k = gc) (fun k _ h => Or.inl h)) (fun k _ h => h))
      clear hRS hO H0
      go_wp2_with fail
      refine (H1.out w1 HRS.out HO.out).mono ?_
      rintro e w2 ⟨rfl, hRS, hO⟩
      replace HRS := Lh (show RS w0 w2 g (v.drop 8) from by rw [List.drop_drop] at hRS; exact hRS)
      replace HC := Lh (hO.blk HC.out HNE.out)
      replace HO := Lh (HO.out.trans (hO.mono (S' := fun k => k = g ∨ k = gc) (fun k _ h => Or.inl h)) (fun k _ h => h))
      clear hRS hO H1
      go_wp2_with fail
      refine (H2.out w2 HRS.out HO.out).mono ?_
      rintro e w3 ⟨rfl, hRS, hO⟩
      replace HRS := Lh (show RS w0 w3 g (v.drop 10) from by rw [List.drop_drop] at hRS; exact hRS)
      replace HC := Lh (hO.blk HC.out HNE.out)
      replace HO := Lh (HO.out.trans (hO.mono (S' := fun k => k = g ∨ k = gc) (fun k _ h => Or.inl h)) (fun k _ h => h))
      clear hRS hO H2
      go_wp2_with fail
      refine (H3.out w3 HRS.out HO.out).mono ?_
      rintro e w4 ⟨rfl, rfl⟩
      exact ⟨rfl, ReadP.bad HR.out HC.out rfl HO.out⟩
    ·skip
     have HR := Lh (show readInit kd fl v = .error 61 from by unfold readInit; rw [if_pos (by omega)])
     have H0 := Lh (fun (W : World) (h : RS w0 W g v) (hO : Only (fun k => k = g ∨ k = gc) w W) => four_ok w0 W g v h (HBW.out W hO) HG.out (by omega) hv)
     obtain ⟨t0, ht0⟩ : ∃ t, be (v.take 4) = t := ⟨_, rfl⟩
     rw [ht0] at H0
     have HT0 := Lh ht0
     clear ht0
     have H1 := Lh (fun (W : World) (h : RS w0 W g (v.drop 4)) (hO : Only (fun k => k = g ∨ k = gc) w W) => four_ok w0 W g (v.drop 4) h (HBW.out W hO) HG.out (by rw [List.length_drop]; omega) (by rw [List.length_drop]; omega))
     obtain ⟨t1, ht1⟩ : ∃ t, be ((v.drop 4).take 4) = t := ⟨_, rfl⟩
     rw [ht1] at H1
     have HT1 := Lh ht1
     clear ht1
     have H2 := Lh (fun (W : World) (h : RS w0 W g (v.drop 8)) (hO : Only (fun k => k = g ∨ k = gc) w W) => two_bad w0 W g (v.drop 8) h (by rw [List.length_drop]; omega) (by rw [List.length_drop]; omega))
     unfold errE at H2
     go_enter Tryd.func92, Tryd.ntmps92
     go_wp2_with fail
     refine (H0.out w HRS.out HO.out).mono ?_
     rintro e w1 ⟨rfl, hRS, hO⟩
     replace HRS := Lh (show RS w0 w1 g (v.drop 4) from by exact hRS)
     replace HC := Lh (hO.blk HC.out HNE.out)
     replace HO := Lh (HO.out.trans (hO.mono (S' := fun k => k = g ∨ k = gc) (fun k _ h => Or.inl h)) (fun k _ h => h))
     clear hRS hO H0
     go_wp2_with fail
     refine (H1.out w1 HRS.out HO.out).mono ?_
     rintro e w2 ⟨rfl, hRS, hO⟩
     replace HRS := Lh (show RS w0 w2 g (v.drop 8) from by rw [List.drop_drop] at hRS; exact hRS)
     replace HC := Lh (hO.blk HC.out HNE.out)
     replace HO := Lh (HO.out.trans (hO.mono (S' := fun k => k = g ∨ k = gc) (fun k _ h => Or.inl h)) (fun k _ h => h))
     clear hRS hO H1
     go_wp2_with fail
     refine (H2.out w2 HRS.out HO.out).mono ?_
     rintro e w3 ⟨rfl, rfl⟩
     exact ⟨rfl, ReadP.bad HR.out HC.out rfl HO.out⟩
   ·skip
    have HR := Lh (show readInit kd fl v = .error 61 from by unfold readInit; rw [if_pos (by omega)])
    have H0 := Lh (fun (W : World) (h : RS w0 W g v) (hO : Only (fun k => k = g ∨ k = gc) w W) => four_ok w0 W g v h (HBW.out W hO) HG.out (by omega) hv)
    obtain ⟨t0, ht0⟩ : ∃ t, be (v.take 4) = t := ⟨_, rfl⟩
    rw [ht0] at H0
    have HT0 := Lh ht0
    clear ht0
    have H1 := Lh (fun (W : World) (h : RS w0 W g (v.drop 4)) (hO : Only (fun k => k = g ∨ k = gc) w W) => four_bad w0 W g (v.drop 4) h (HBW.out W hO) HG.out (by rw [List.length_drop]; omega) (by rw [List.length_drop]; omega))
    unfold errE at H1
    go_enter Tryd.func92, Tryd.ntmps92
    go_wp2_with fail
    refine (H0.out w HRS.out HO.out).mono ?_
    rintro e w1 ⟨rfl, hRS, hO⟩
    replace HRS := Lh (show RS w0 w1 g (v.drop 4) from by exact hRS)
    replace HC := Lh (hO.blk HC.out HNE.out)
    replace HO := Lh (HO.out.trans (hO.mono (S' := fun k => k = g ∨ k = gc) (fun k _ h => Or.inl h)) (fun k _ h => h))
    clear hRS hO H0
    go_wp2_with fail
    refine (H1.out w1 HRS.out HO.out).mono ?_
    rintro e w2 ⟨rfl, hO⟩
    refine ⟨rfl, ReadP.bad HR.out (hO.blk HC.out HNE.out) rfl (HO.out.trans (hO.mono (S' := fun k => k = g ∨ k = gc) (fun k _ h => Or.inl h)) (fun k _ h => h))⟩
  ·skip
   have HR := Lh (show readInit kd fl v = .error 61 from by unfold readInit; rw [if_pos (by omega)])
   have H0 := Lh (fun (W : World) (h : RS w0 W g v) (hO : Only (fun k => k = g ∨ k = gc) w W) => four_bad w0 W g v h (HBW.out W hO) HG.out (by omega) hv)
   unfold errE at H0
   go_enter Tryd.func92, Tryd.ntmps92
   go_wp2_with fail
   refine (H0.out w HRS.out HO.out).mono ?_
   rintro e w1 ⟨rfl, hO⟩
   refine ⟨rfl, ReadP.bad HR.out (hO.blk HC.out HNE.out) rfl (HO.out.trans (hO.mono (S' := fun k => k = g ∨ k = gc) (fun k _ h => Or.inl h)) (fun k _ h => h))⟩
end Go.Proofs.YtdlamomabonkjaaDoor.Ch
end
section
namespace Go.Proofs.YtdlamomabonkjaaDoor.Ch
open Go.RowKit YtdlamomabonkjaaDoorW.PrintWords Base PCh ParDec
set_option maxHeartbeats 4000000 in
theorem read_lists3 (w0 w : World) (g gc : Nat) (v : List UInt8) (fl : Int) (hs : RS w0 w g v) (hc : w.heap[gc]? = some (.cells (freshV 3 fl) 41 (0, 0))) (hB : Below w0.heap.size w0 w) (hg : w0.heap.size ≤ g) (hgc : w0.heap.size ≤ gc) (hne : g ≠ gc) (hv : v.length ≤ 140737488355328) :
  Calls Tryd.prog 92 #[.pointer (some ⟨g, 0, none⟩), .pointer (some ⟨gc, 0, none⟩)] w (ReadP w g gc (readLists false 3 fl v)) := by
 have HGL := Lh (show g < w.heap.size ∧ gc < w.heap.size from ⟨hs.lt, blk_lt hc⟩)
 have HBW := Lh (fun (W : World) (h : Only (fun k => k = g ∨ k = gc) w W) => hB.trans (h.below hB.size (fun k hk => by omega)))
 have HNE := Lh (show ¬ gc = g from fun e => hne e.symm)
 have HNE2 := Lh (show ¬ g = gc from hne)
 have HG := Lh hg
 have HGC := Lh hgc
 have HRS := Lh hs
 unfold freshV at hc
 have HC := Lh hc
 have k0 : w.cell? ⟨gc, 0, none⟩ = some (.int .u8 3) := blk_cell hc 0
 have HO := Lh (Only.refl (fun k => k = g ∨ k = gc) w)
 clear hs hc hB hg hgc hne
 have HL := Lh (fun (W : World) (h1 : RS w0 W g v) (h2 : W.heap[gc]? = some (.cells #[.int .u8 3, .int .u8 fl, .int .u32 0, .int .u16 0, .int .u16 0, .int .u32 0, .int .u32 0, .int .u32 0, .int .u16 0, .int .u16 0, .slice none 0 0, .slice none 0 0, .slice none 0 0, .slice none 0 0, .slice none 0 0] 41 (0, 0))) (hO : Only (fun k => k = g ∨ k = gc) w W) => lists_sack w0 W g gc v fl h1 h2 (HBW.out W hO) HG.out (by have := HG.out; exact HGC.out) HNE2.out hv)
 unfold ListP errE at HL
 cases hl : listsD false v with
 | error code =>
  rw [hl] at HL
  have HR := Lh (show readLists false 3 fl v = .error code from by unfold readLists; rw [hl])
  clear hl
  go_enter Tryd.func92, Tryd.ntmps92
  go_wp2_with fail
  refine (HL.out w HRS.out HC.out HO.out).mono ?_
  rintro e w1 ⟨rfl, ⟨x0, hx0, hxs⟩, hO⟩
  exact ⟨rfl, ReadP.bad HR.out hx0 hxs hO⟩
 | ok p =>
  obtain ⟨t1, t2, G, N, D⟩ := p
  rw [hl] at HL
  have HR := Lh (show readLists false 3 fl v = .ok ⟨3, fl, (t1 : Int), 0, 0, 0, 0, (t2 : Int), 0, 0, G, N, D, [], []⟩ from by unfold readLists; rw [hl])
  clear hl
  go_enter Tryd.func92, Tryd.ntmps92
  go_wp2_with fail
  refine (HL.out w HRS.out HC.out HO.out).mono ?_
  rintro e w1 ⟨rfl, vg, vn, vd, hC, hG, hN, hD, hRS, hO⟩
  have HG1 := Lh hG
  have HN1 := Lh hN
  have HD1 := Lh hD
  replace HC := Lh hC
  replace HRS := Lh hRS
  replace HO := Lh hO
  clear hC hG hN hD hRS hO HL
  obtain ⟨Ar, cr, hbr, hcr, hCr⟩ := HRS.out
  have kr : w1.cell? ⟨g, 0, none⟩ = some (.slice Ar 0 cr) := blk_cell hbr 0
  clear hbr hcr hCr
  go_wp2
  go_end0
  exact ReadP.good HR.out HC.out (k41_mkM _ _ _ (⟨3, fl, (t1 : Int), 0, 0, 0, 0, (t2 : Int), 0, 0, G, N, D, [], []⟩) HG1.out HN1.out HD1.out (Kd.R_nil _ _ _ _ _) (Kd.R_nil _ _ _ _ _)) HO.out
set_option maxHeartbeats 4000000 in
theorem read_lists16 (w0 w : World) (g gc : Nat) (v : List UInt8) (fl : Int) (hs : RS w0 w g v) (hc : w.heap[gc]? = some (.cells (freshV 16 fl) 41 (0, 0))) (hB : Below w0.heap.size w0 w) (hg : w0.heap.size ≤ g) (hgc : w0.heap.size ≤ gc) (hne : g ≠ gc) (hv : v.length ≤ 140737488355328) :
  Calls Tryd.prog 92 #[.pointer (some ⟨g, 0, none⟩), .pointer (some ⟨gc, 0, none⟩)] w (ReadP w g gc (readLists true 16 fl v)) := by
 have HGL := Lh (show g < w.heap.size ∧ gc < w.heap.size from ⟨hs.lt, blk_lt hc⟩)
 have HBW := Lh (fun (W : World) (h : Only (fun k => k = g ∨ k = gc) w W) => hB.trans (h.below hB.size (fun k hk => by omega)))
 have HNE := Lh (show ¬ gc = g from fun e => hne e.symm)
 have HNE2 := Lh (show ¬ g = gc from hne)
 have HG := Lh hg
 have HGC := Lh hgc
 have HRS := Lh hs
 unfold freshV at hc
 have HC := Lh hc
 have k0 : w.cell? ⟨gc, 0, none⟩ = some (.int .u8 16) := blk_cell hc 0
 have HO := Lh (Only.refl (fun k => k = g ∨ k = gc) w)
 clear hs hc hB hg hgc hne
 have HL := Lh (fun (W : World) (h1 : RS w0 W g v) (h2 : W.heap[gc]? = some (.cells #[.int .u8 16, .int .u8 fl, .int .u32 0, .int .u16 0, .int .u16 0, .int .u32 0, .int .u32 0, .int .u32 0, .int .u16 0, .int .u16 0, .slice none 0 0, .slice none 0 0, .slice none 0 0, .slice none 0 0, .slice none 0 0] 41 (0, 0))) (hO : Only (fun k => k = g ∨ k = gc) w W) => lists_nr w0 W g gc v fl h1 h2 (HBW.out W hO) HG.out (by have := HG.out; exact HGC.out) HNE2.out hv)
 unfold ListP errE at HL
 cases hl : listsD true v with
 | error code =>
  rw [hl] at HL
  have HR := Lh (show readLists true 16 fl v = .error code from by unfold readLists; rw [hl])
  clear hl
  go_enter Tryd.func92, Tryd.ntmps92
  go_wp2_with fail
  refine (HL.out w HRS.out HC.out HO.out).mono ?_
  rintro e w1 ⟨rfl, ⟨x0, hx0, hxs⟩, hO⟩
  exact ⟨rfl, ReadP.bad HR.out hx0 hxs hO⟩
 | ok p =>
  obtain ⟨t1, t2, G, N, D⟩ := p
  rw [hl] at HL
  have HR := Lh (show readLists true 16 fl v = .ok ⟨16, fl, (t1 : Int), 0, 0, 0, 0, (t2 : Int), 0, 0, G, N, D, [], []⟩ from by unfold readLists; rw [hl])
  clear hl
  go_enter Tryd.func92, Tryd.ntmps92
  go_wp2_with fail
  refine (HL.out w HRS.out HC.out HO.out).mono ?_
  rintro e w1 ⟨rfl, vg, vn, vd, hC, hG, hN, hD, hRS, hO⟩
  have HG1 := Lh hG
  have HN1 := Lh hN
  have HD1 := Lh hD
  replace HC := Lh hC
  replace HRS := Lh hRS
  replace HO := Lh hO
  clear hC hG hN hD hRS hO HL
  obtain ⟨Ar, cr, hbr, hcr, hCr⟩ := HRS.out
  have kr : w1.cell? ⟨g, 0, none⟩ = some (.slice Ar 0 cr) := blk_cell hbr 0
  clear hbr hcr hCr
  go_wp2
  go_end0
  exact ReadP.good HR.out HC.out (k41_mkM _ _ _ (⟨16, fl, (t1 : Int), 0, 0, 0, 0, (t2 : Int), 0, 0, G, N, D, [], []⟩) HG1.out HN1.out HD1.out (Kd.R_nil _ _ _ _ _) (Kd.R_nil _ _ _ _ _)) HO.out
end Go.Proofs.YtdlamomabonkjaaDoor.Ch
end
section
namespace Go.Proofs.YtdlamomabonkjaaDoor.Ch
open Go.RowKit YtdlamomabonkjaaDoorW.PrintWords Base PCh ParDec
theorem beat_f (a0 a1 a2 a3 a4 a5 a6 a7 a8 a9 : Int) (l10 l11 : List GapS) (l12 l13 : List Int) (ps : List PrmS) : chunk_beat.f a0 a1 a2 a3 a4 a5 a6 a7 a8 a9 l10 l11 l12 l13 ps = some (beatB ps) := by
 unfold chunk_beat.f beatB
 match ps with
 | [] => rfl
 | [p] => simp [rd_T72]; rfl
 | p :: q :: r => rw [if_neg (by simp only [List.length_cons]; omega)]
set_option maxHeartbeats 4000000 in
theorem read_prms (w0 w : World) (g gc : Nat) (v : List UInt8) (kd fl : Int) (hs : RS w0 w g v) (hc : w.heap[gc]? = some (.cells (freshV kd fl) 41 (0, 0))) (hB : Below w0.heap.size w0 w) (hg : w0.heap.size ≤ g) (hgc : w0.heap.size ≤ gc) (hne : g ≠ gc) (hv : v.length ≤ 140737488355328) (hk : kd = 6 ∨ kd = 9) :
  Calls Tryd.prog 92 #[.pointer (some ⟨g, 0, none⟩), .pointer (some ⟨gc, 0, none⟩)] w (ReadP w g gc (readPrms false kd fl v)) := by
 have hb : ((kd == 0) = false ∧ (kd == 1) = false ∧ (kd == 2) = false ∧ (kd == 3) = false ∧ (kd == 16) = false ∧ (kd == 4) = false ∧ (kd == 5) = false ∧ (kd == 6) = true) ∨ ((kd == 0) = false ∧ (kd == 1) = false ∧ (kd == 2) = false ∧ (kd == 3) = false ∧ (kd == 16) = false ∧ (kd == 4) = false ∧ (kd == 5) = false ∧ (kd == 6) = false ∧ (kd == 9) = true) := by rcases hk with rfl | rfl <;> decide
 clear hk
 rcases hb with ⟨b0, b1, b2, b3, b16, b4, b5, b6⟩ | ⟨b0, b1, b2, b3, b16, b4, b5, b6, b9⟩
 all_goals
  have HGL := Lh (show g < w.heap.size ∧ gc < w.heap.size from ⟨hs.lt, blk_lt hc⟩)
  have HBW := Lh (fun (W : World) (h : Only (fun k => k = g ∨ k = gc) w W) => hB.trans (h.below hB.size (fun k hk => by omega)))
  have HNE := Lh (show ¬ gc = g from fun e => hne e.symm)
  have HNE2 := Lh (show ¬ g = gc from hne)
  have HG := Lh hg
  have HRS := Lh hs
  unfold freshV at hc
  have HC := Lh hc
  have k0 : w.cell? ⟨gc, 0, none⟩ = some (.int .u8 kd) := blk_cell hc 0
  have HO := Lh (Only.refl (fun k => k = g ∨ k = gc) w)
  clear hs hc hB hg hgc hne
  go_enter Tryd.func92, Tryd.ntmps92
  by_cases hcode : (decD v).2.2 = 0
  ·have HP := Lh (params_ok w0 w g v HRS.out (HBW.out w HO.out) HG.out hv hcode)
   go_wp2_with fail
   refine HP.out.mono ?_
   rintro e w1 ⟨u, rfl, hU, hRS, hO⟩
   obtain ⟨Au, cu, hu⟩ := Kd.R_slice hU
   have hUr := Kd.R_reads hU
   replace HRS := Lh hRS
   replace HC := Lh (hO.blk HC.out HNE.out)
   have HU := Lh (Kd.R_lower hU HO.out.size)
   replace HO := Lh (HO.out.trans (hO.mono (S' := fun k => k = g ∨ k = gc) (fun k _ h => Or.inl h)) (fun k _ h => h))
   clear hRS hO hU HP
   obtain ⟨nu, hnu⟩ : ∃ nu, (decD v).1.length = nu := ⟨_, rfl⟩
   rw [hnu] at hu
   subst hu
   have k14 : w1.cell? ⟨gc, 14, none⟩ = some (.slice none 0 0) := blk_cell HC.out 14
   have f14 := blk_frozen HC.out 14
   replace HC := Lh (blk_put HC.out 14 (.slice Au nu cu) (show _ = #[.int .u8 kd, .int .u8 fl, .int .u32 0, .int .u16 0, .int .u16 0, .int .u32 0, .int .u32 0, .int .u32 0, .int .u16 0, .int .u16 0, .slice none 0 0, .slice none 0 0, .slice none 0 0, .slice none 0 0, .slice Au nu cu] from rfl))
   replace HO := Lh ((HO.out.setCell (p := ⟨gc, 14, none⟩) (fun _ => Or.inr rfl) (.slice Au nu cu)))
   have HFAR := Lh (((Only.refl (· = gc) w1).setCell (p := ⟨gc, 14, none⟩) (fun _ => rfl) (.slice Au nu cu)))
   replace HRS := Lh (HRS.out.only HFAR.out HNE2.out)
   go_upto_region 27 with (fail)
   clear k14 f14
   generalize (w1.setCell ⟨gc, 14, none⟩ (.slice Au nu cu)) = W2 at *
   have HU2 := Lh (R_only HU.out HFAR.out (fun k hk _ e => by have := HGL.out.2; omega))
   have HR := Lh (show readPrms false kd fl v = .ok ⟨kd, fl, 0, 0, 0, 0, 0, 0, 0, 0, [], [], [], [], (decD v).1⟩ from by unfold readPrms prmsD; rw [if_pos hcode]; rfl)
   obtain ⟨Ar, cr, hbr, hcr, hCr⟩ := HRS.out
   have kr : W2.cell? ⟨g, 0, none⟩ = some (.slice Ar 0 cr) := blk_cell hbr 0
   clear hbr hcr hCr
   go_wp2
   go_end0
   exact ReadP.good HR.out HC.out (k41_mkM _ _ _ (⟨kd, fl, 0, 0, 0, 0, 0, 0, 0, 0, [], [], [], [], (decD v).1⟩) (Kd.R_nil _ _ _ _ _) (Kd.R_nil _ _ _ _ _) (Kd.R_nil _ _ _ _ _) (Kd.R_nil _ _ _ _ _) HU2.out) HO.out
  ·have HP := Lh (params_bad w0 w g v HRS.out (HBW.out w HO.out) HG.out hv hcode)
   have HR := Lh (show readPrms false kd fl v = .error (decD v).2.2 from by unfold readPrms prmsD; rw [if_neg hcode])
   unfold errE at HP
   generalize (decD v).2.2 = code at *
   go_wp2_with fail
   refine HP.out.mono ?_
   rintro e w1 ⟨rfl, hO⟩
   refine ⟨rfl, ReadP.bad HR.out (hO.blk HC.out HNE.out) rfl (HO.out.trans (hO.mono (S' := fun k => k = g ∨ k = gc) (fun k _ h => Or.inl h)) (fun k _ h => h))⟩
set_option maxHeartbeats 4000000 in
theorem read_beat (w0 w : World) (g gc : Nat) (v : List UInt8) (kd fl : Int) (hs : RS w0 w g v) (hc : w.heap[gc]? = some (.cells (freshV kd fl) 41 (0, 0))) (hB : Below w0.heap.size w0 w) (hg : w0.heap.size ≤ g) (hgc : w0.heap.size ≤ gc) (hne : g ≠ gc) (hv : v.length ≤ 140737488355328) (hk : kd = 4 ∨ kd = 5) :
  Calls Tryd.prog 92 #[.pointer (some ⟨g, 0, none⟩), .pointer (some ⟨gc, 0, none⟩)] w (ReadP w g gc (readPrms true kd fl v)) := by
 have hb : ((kd == 0) = false ∧ (kd == 1) = false ∧ (kd == 2) = false ∧ (kd == 3) = false ∧ (kd == 16) = false ∧ (kd == 4) = true) ∨ ((kd == 0) = false ∧ (kd == 1) = false ∧ (kd == 2) = false ∧ (kd == 3) = false ∧ (kd == 16) = false ∧ (kd == 4) = false ∧ (kd == 5) = true) := by rcases hk with rfl | rfl <;> decide
 clear hk
 rcases hb with ⟨b0, b1, b2, b3, b16, b4⟩ | ⟨b0, b1, b2, b3, b16, b4, b5⟩
 all_goals
  have HGL := Lh (show g < w.heap.size ∧ gc < w.heap.size from ⟨hs.lt, blk_lt hc⟩)
  have HBW := Lh (fun (W : World) (h : Only (fun k => k = g ∨ k = gc) w W) => hB.trans (h.below hB.size (fun k hk => by omega)))
  have HNE := Lh (show ¬ gc = g from fun e => hne e.symm)
  have HNE2 := Lh (show ¬ g = gc from hne)
  have HG := Lh hg
  have HRS := Lh hs
  unfold freshV at hc
  have HC := Lh hc
  have k0 : w.cell? ⟨gc, 0, none⟩ = some (.int .u8 kd) := blk_cell hc 0
  have HO := Lh (Only.refl (fun k => k = g ∨ k = gc) w)
  clear hs hc hB hg hgc hne
  go_enter Tryd.func92, Tryd.ntmps92
  by_cases hcode : (decD v).2.2 = 0
  ·have HP := Lh (params_ok w0 w g v HRS.out (HBW.out w HO.out) HG.out hv hcode)
   go_wp2_with fail
   refine HP.out.mono ?_
   rintro e w1 ⟨u, rfl, hU, hRS, hO⟩
   obtain ⟨Au, cu, hu⟩ := Kd.R_slice hU
   have hUr := Kd.R_reads hU
   replace HRS := Lh hRS
   replace HC := Lh (hO.blk HC.out HNE.out)
   have HU := Lh (Kd.R_lower hU HO.out.size)
   replace HO := Lh (HO.out.trans (hO.mono (S' := fun k => k = g ∨ k = gc) (fun k _ h => Or.inl h)) (fun k _ h => h))
   clear hRS hO hU HP
   obtain ⟨nu, hnu⟩ : ∃ nu, (decD v).1.length = nu := ⟨_, rfl⟩
   rw [hnu] at hu
   subst hu
   have k14 : w1.cell? ⟨gc, 14, none⟩ = some (.slice none 0 0) := blk_cell HC.out 14
   have f14 := blk_frozen HC.out 14
   replace HC := Lh (blk_put HC.out 14 (.slice Au nu cu) (show _ = #[.int .u8 kd, .int .u8 fl, .int .u32 0, .int .u16 0, .int .u16 0, .int .u32 0, .int .u32 0, .int .u32 0, .int .u16 0, .int .u16 0, .slice none 0 0, .slice none 0 0, .slice none 0 0, .slice none 0 0, .slice Au nu cu] from rfl))
   replace HO := Lh ((HO.out.setCell (p := ⟨gc, 14, none⟩) (fun _ => Or.inr rfl) (.slice Au nu cu)))
   have HFAR := Lh (((Only.refl (· = gc) w1).setCell (p := ⟨gc, 14, none⟩) (fun _ => rfl) (.slice Au nu cu)))
   replace HRS := Lh (HRS.out.only HFAR.out HNE2.out)
   go_upto_region 17 with (fail)
   clear k14 f14
   generalize (w1.setCell ⟨gc, 14, none⟩ (.slice Au nu cu)) = W2 at *
   have HU2 := Lh (R_only HU.out HFAR.out (fun k hk _ e => by have := HGL.out.2; omega))
   obtain ⟨A8, c8, hu8, hle8, hC8⟩ := Kd.R_reads HU2.out
   rw [hnu] at hu8
   injection hu8 with e1 e2 e3
   subst e1 e3
   have HBT := Lh (chunk_beat.calls kd fl 0 0 0 0 0 0 0 0 none 0 [] none 0 [] none 0 [] none 0 [] Au cu (decD v).1 (beatB (decD v).1) W2 (Kd.C_nil _ _) (Nat.le_refl _) (Kd.C_nil _ _) (Nat.le_refl _) (Kd.C_nil _ _) (Nat.le_refl _) (Kd.C_nil _ _) (Nat.le_refl _) hC8 hle8 (beat_f ..))
   rw [hnu] at HBT
   clear hC8 hle8
   have k0 : W2.cell? ⟨gc, 0, none⟩ = some (.int .u8 kd) := blk_cell HC.out 0
   cases hbt : beatB (decD v).1 with
   | false =>
    have HR := Lh (show readPrms true kd fl v = .error 61 from by unfold readPrms prmsD; rw [if_pos hcode]; show (if (true && !beatB (decD v).1) = true then _ else _) = _; rw [hbt]; rfl)
    rw [hbt] at HBT
    go_wp2_with (refine wpList_load_row rfl 41 _ rfl gc rfl 41 #[.int .u8 kd, .int .u8 fl, .int .u32 0, .int .u16 0, .int .u16 0, .int .u32 0, .int .u32 0, .int .u32 0, .int .u16 0, .int .u16 0, .slice none 0 0, .slice none 0 0, .slice none 0 0, .slice none 0 0, .slice Au nu cu] (0, 0) _ HC.out Tryd.underlying41 rfl (by kernel_rfl) ?_)
    refine HBT.out.mono ?_
    rintro e w3 ⟨rfl, hB3⟩
    go_wp2
    exact ⟨rfl, ReadP.bad HR.out (blk_below HC.out hB3) rfl (Only.then_ HO.out (hB3.mono HO.out.size))⟩
   | true =>
    have HR := Lh (show readPrms true kd fl v = .ok ⟨kd, fl, 0, 0, 0, 0, 0, 0, 0, 0, [], [], [], [], (decD v).1⟩ from by unfold readPrms prmsD; rw [if_pos hcode]; show (if (true && !beatB (decD v).1) = true then _ else _) = _; rw [hbt]; rfl)
    rw [hbt] at HBT
    go_wp2_with (refine wpList_load_row rfl 41 _ rfl gc rfl 41 #[.int .u8 kd, .int .u8 fl, .int .u32 0, .int .u16 0, .int .u16 0, .int .u32 0, .int .u32 0, .int .u32 0, .int .u16 0, .int .u16 0, .slice none 0 0, .slice none 0 0, .slice none 0 0, .slice none 0 0, .slice Au nu cu] (0, 0) _ HC.out Tryd.underlying41 rfl (by kernel_rfl) ?_)
    refine HBT.out.mono ?_
    rintro e w3 ⟨rfl, hB3⟩
    replace HC := Lh (blk_below HC.out hB3)
    replace HRS := Lh (HRS.out.only (Only.of_below (S := fun _ => False) hB3) id)
    replace HU2 := Lh (Kd.R_below HU2.out hB3)
    replace HO := Lh (Only.then_ HO.out (hB3.mono HO.out.size))
    clear hB3 HBT k0
    obtain ⟨Ar, cr, hbr, hcr, hCr⟩ := HRS.out
    have kr : w3.cell? ⟨g, 0, none⟩ = some (.slice Ar 0 cr) := blk_cell hbr 0
    clear hbr hcr hCr
    go_wp2
    go_end0
    exact ReadP.good HR.out HC.out (k41_mkM _ _ _ (⟨kd, fl, 0, 0, 0, 0, 0, 0, 0, 0, [], [], [], [], (decD v).1⟩) (Kd.R_nil _ _ _ _ _) (Kd.R_nil _ _ _ _ _) (Kd.R_nil _ _ _ _ _) (Kd.R_nil _ _ _ _ _) HU2.out) HO.out
  ·have HP := Lh (params_bad w0 w g v HRS.out (HBW.out w HO.out) HG.out hv hcode)
   have HR := Lh (show readPrms true kd fl v = .error (decD v).2.2 from by unfold readPrms prmsD; rw [if_neg hcode])
   unfold errE at HP
   generalize (decD v).2.2 = code at *
   go_wp2_with fail
   refine HP.out.mono ?_
   rintro e w1 ⟨rfl, hO⟩
   refine ⟨rfl, ReadP.bad HR.out (hO.blk HC.out HNE.out) rfl (HO.out.trans (hO.mono (S' := fun k => k = g ∨ k = gc) (fun k _ h => Or.inl h)) (fun k _ h => h))⟩
end Go.Proofs.YtdlamomabonkjaaDoor.Ch
end
section
namespace Go.Proofs.YtdlamomabonkjaaDoor.Ch
open Go.RowKit YtdlamomabonkjaaDoorW.PrintWords Base PCh ParDec
set_option maxHeartbeats 4000000 in
theorem read_shut (w0 w : World) (g gc : Nat) (v : List UInt8) (fl : Int) (hs : RS w0 w g v) (hc : w.heap[gc]? = some (.cells (freshV 7 fl) 41 (0, 0))) (hB : Below w0.heap.size w0 w) (hg : w0.heap.size ≤ g) (hgc : w0.heap.size ≤ gc) (hne : g ≠ gc) (hv : v.length ≤ 140737488355328) :
  Calls Tryd.prog 92 #[.pointer (some ⟨g, 0, none⟩), .pointer (some ⟨gc, 0, none⟩)] w (ReadP w g gc (readShut 7 fl v)) := by
 have HGL := Lh (show g < w.heap.size ∧ gc < w.heap.size from ⟨hs.lt, blk_lt hc⟩)
 have HBW := Lh (fun (W : World) (h : Only (fun k => k = g ∨ k = gc) w W) => hB.trans (h.below hB.size (fun k hk => by omega)))
 have HNE := Lh (show ¬ gc = g from fun e => hne e.symm)
 have HNE2 := Lh (show ¬ g = gc from hne)
 have HG := Lh hg
 have HRS := Lh hs
 unfold freshV at hc
 have HC := Lh hc
 have k0 : w.cell? ⟨gc, 0, none⟩ = some (.int .u8 7) := blk_cell hc 0
 have HO := Lh (Only.refl (fun k => k = g ∨ k = gc) w)
 clear hs hc hB hg hgc hne
 by_cases h0 : 4 ≤ v.length
 ·skip
  have H0 := Lh (fun (W : World) (h : RS w0 W g v) (hO : Only (fun k => k = g ∨ k = gc) w W) => four_ok w0 W g v h (HBW.out W hO) HG.out (by omega) hv)
  obtain ⟨t0, ht0⟩ : ∃ t, be (v.take 4) = t := ⟨_, rfl⟩
  rw [ht0] at H0
  have HT0 := Lh ht0
  clear ht0
  go_enter Tryd.func92, Tryd.ntmps92
  go_wp2_with fail
  refine (H0.out w HRS.out HO.out).mono ?_
  rintro e w1 ⟨rfl, hRS, hO⟩
  replace HRS := Lh (show RS w0 w1 g (v.drop 4) from by exact hRS)
  replace HC := Lh (hO.blk HC.out HNE.out)
  replace HO := Lh (HO.out.trans (hO.mono (S' := fun k => k = g ∨ k = gc) (fun k _ h => Or.inl h)) (fun k _ h => h))
  clear hRS hO H0
  have k2 : w1.cell? ⟨gc, 2, none⟩ = some (.int .u32 0) := blk_cell HC.out 2
  have f2 := blk_frozen HC.out 2
  replace HC := Lh (blk_put HC.out 2 (.int .u32 (t0 : Int)) (show _ = #[.int .u8 7, .int .u8 fl, .int .u32 (t0 : Int), .int .u16 0, .int .u16 0, .int .u32 0, .int .u32 0, .int .u32 0, .int .u16 0, .int .u16 0, .slice none 0 0, .slice none 0 0, .slice none 0 0, .slice none 0 0, .slice none 0 0] from rfl))
  replace HO := Lh ((HO.out.setCell (p := ⟨gc, 2, none⟩) (fun _ => Or.inr rfl) (.int .u32 (t0 : Int))))
  have HFAR := Lh (((Only.refl (· = gc) w1).setCell (p := ⟨gc, 2, none⟩) (fun _ => rfl) (.int .u32 (t0 : Int))))
  replace HRS := Lh (HRS.out.only HFAR.out HNE2.out)
  go_upto_region 27 with (fail)
  clear k2 f2
  generalize (w1.setCell ⟨gc, 2, none⟩ (.int .u32 (t0 : Int))) = W2 at *
  obtain ⟨Ar, cr, hbr, hcr, hCr⟩ := HRS.out
  have kr : W2.cell? ⟨g, 0, none⟩ = some (.slice Ar (v.drop 4).length cr) := blk_cell hbr 0
  clear hbr hcr hCr
  by_cases h4 : v.length = 4
  ·have hl : (v.drop 4).length = 0 := by rw [List.length_drop]; omega
   rw [hl] at kr
   have ht := HT0.out
   rw [List.take_of_length_le (by omega)] at ht
   have HR := Lh (show readShut 7 fl v = .ok ⟨7, fl, (t0 : Int), 0, 0, 0, 0, 0, 0, 0, [], [], [], [], []⟩ from by unfold readShut; rw [if_pos h4, ht])
   go_wp2
   go_end0
   exact ReadP.good HR.out HC.out (k41_mkM _ _ _ (⟨7, fl, (t0 : Int), 0, 0, 0, 0, 0, 0, 0, [], [], [], [], []⟩) (Kd.R_nil _ _ _ _ _) (Kd.R_nil _ _ _ _ _) (Kd.R_nil _ _ _ _ _) (Kd.R_nil _ _ _ _ _) (Kd.R_nil _ _ _ _ _)) HO.out
  ·have hl : 0 < (v.drop 4).length := by rw [List.length_drop]; omega
   have hli : (0 : Int) < ((v.drop 4).length : Int) := by omega
   have HR := Lh (show readShut 7 fl v = .error 61 from by unfold readShut; rw [if_neg (by omega)])
   generalize (v.drop 4).length = nn at *
   go_wp2
   exact ⟨rfl, ReadP.bad HR.out HC.out rfl HO.out⟩
 ·skip
  have HR := Lh (show readShut 7 fl v = .error 61 from by unfold readShut; rw [if_neg (by omega)])
  have H0 := Lh (fun (W : World) (h : RS w0 W g v) (hO : Only (fun k => k = g ∨ k = gc) w W) => four_bad w0 W g v h (HBW.out W hO) HG.out (by omega) hv)
  unfold errE at H0
  go_enter Tryd.func92, Tryd.ntmps92
  go_wp2_with fail
  refine (H0.out w HRS.out HO.out).mono ?_
  rintro e w1 ⟨rfl, hO⟩
  refine ⟨rfl, ReadP.bad HR.out (hO.blk HC.out HNE.out) rfl (HO.out.trans (hO.mono (S' := fun k => k = g ∨ k = gc) (fun k _ h => Or.inl h)) (fun k _ h => h))⟩
set_option maxHeartbeats 4000000 in
theorem read_none (w0 w : World) (g gc : Nat) (v : List UInt8) (kd fl : Int) (hs : RS w0 w g v) (hc : w.heap[gc]? = some (.cells (freshV kd fl) 41 (0, 0))) (hB : Below w0.heap.size w0 w) (hg : w0.heap.size ≤ g) (hgc : w0.heap.size ≤ gc) (hne : g ≠ gc) (hv : v.length ≤ 140737488355328) (hk : kd = 8 ∨ kd = 11 ∨ kd = 14) :
  Calls Tryd.prog 92 #[.pointer (some ⟨g, 0, none⟩), .pointer (some ⟨gc, 0, none⟩)] w (ReadP w g gc (readNone kd fl v)) := by
 have hb : ((kd == 0) = false ∧ (kd == 1) = false ∧ (kd == 2) = false ∧ (kd == 3) = false ∧ (kd == 16) = false ∧ (kd == 4) = false ∧ (kd == 5) = false ∧ (kd == 6) = false ∧ (kd == 9) = false ∧ (kd == 7) = false ∧ (kd == 8) = true) ∨ ((kd == 0) = false ∧ (kd == 1) = false ∧ (kd == 2) = false ∧ (kd == 3) = false ∧ (kd == 16) = false ∧ (kd == 4) = false ∧ (kd == 5) = false ∧ (kd == 6) = false ∧ (kd == 9) = false ∧ (kd == 7) = false ∧ (kd == 8) = false ∧ (kd == 11) = true) ∨ ((kd == 0) = false ∧ (kd == 1) = false ∧ (kd == 2) = false ∧ (kd == 3) = false ∧ (kd == 16) = false ∧ (kd == 4) = false ∧ (kd == 5) = false ∧ (kd == 6) = false ∧ (kd == 9) = false ∧ (kd == 7) = false ∧ (kd == 8) = false ∧ (kd == 11) = false ∧ (kd == 14) = true) := by rcases hk with rfl | rfl | rfl <;> decide
 clear hk
 rcases hb with ⟨b0, b1, b2, b3, b16, b4, b5, b6, b9, b7, b8⟩ | ⟨b0, b1, b2, b3, b16, b4, b5, b6, b9, b7, b8, b11⟩ | ⟨b0, b1, b2, b3, b16, b4, b5, b6, b9, b7, b8, b11, b14⟩
 all_goals
  have HGL := Lh (show g < w.heap.size ∧ gc < w.heap.size from ⟨hs.lt, blk_lt hc⟩)
  have HBW := Lh (fun (W : World) (h : Only (fun k => k = g ∨ k = gc) w W) => hB.trans (h.below hB.size (fun k hk => by omega)))
  have HNE := Lh (show ¬ gc = g from fun e => hne e.symm)
  have HNE2 := Lh (show ¬ g = gc from hne)
  have HG := Lh hg
  have HRS := Lh hs
  unfold freshV at hc
  have HC := Lh hc
  have k0 : w.cell? ⟨gc, 0, none⟩ = some (.int .u8 kd) := blk_cell hc 0
  have HO := Lh (Only.refl (fun k => k = g ∨ k = gc) w)
  clear hs hc hB hg hgc hne
  obtain ⟨Ar, cr, hbr, hcr, hCr⟩ := HRS.out
  have kr : w.cell? ⟨g, 0, none⟩ = some (.slice Ar v.length cr) := blk_cell hbr 0
  clear hbr hcr hCr
  by_cases h0 : v.length = 0
  ·have HR := Lh (show readNone kd fl v = .ok (chk0 kd fl) from by unfold readNone; rw [if_pos h0])
   rw [h0] at kr
   go_enter Tryd.func92, Tryd.ntmps92
   go_wp2
   go_end0
   exact ReadP.good HR.out HC.out (k41_mkM _ _ _ (chk0 kd fl) (Kd.R_nil _ _ _ _ _) (Kd.R_nil _ _ _ _ _) (Kd.R_nil _ _ _ _ _) (Kd.R_nil _ _ _ _ _) (Kd.R_nil _ _ _ _ _)) HO.out
  ·have HR := Lh (show readNone kd fl v = .error 61 from by unfold readNone; rw [if_neg h0])
   have hli : (0 : Int) < (v.length : Int) := by omega
   generalize v.length = nn at *
   go_enter Tryd.func92, Tryd.ntmps92
   go_wp2
   exact ⟨rfl, ReadP.bad HR.out HC.out rfl HO.out⟩
set_option maxHeartbeats 4000000 in
theorem read_body (w0 w : World) (g gc : Nat) (v : List UInt8) (kd fl : Int) (hs : RS w0 w g v) (hc : w.heap[gc]? = some (.cells (freshV kd fl) 41 (0, 0))) (hB : Below w0.heap.size w0 w) (hg : w0.heap.size ≤ g) (hgc : w0.heap.size ≤ gc) (hne : g ≠ gc) (hv : v.length ≤ 140737488355328) (hk : ∀ c ∈ ([0, 1, 2, 3, 16, 4, 5, 6, 9, 7, 8, 11, 14] : List Int), kd ≠ c) :
  Calls Tryd.prog 92 #[.pointer (some ⟨g, 0, none⟩), .pointer (some ⟨gc, 0, none⟩)] w (ReadP w g gc (readBody kd fl v)) := by
 have HGL := Lh (show g < w.heap.size ∧ gc < w.heap.size from ⟨hs.lt, blk_lt hc⟩)
 have HBW := Lh (fun (W : World) (h : Only (fun k => k = g ∨ k = gc) w W) => hB.trans (h.below hB.size (fun k hk => by omega)))
 have HNE := Lh (show ¬ gc = g from fun e => hne e.symm)
 have HNE2 := Lh (show ¬ g = gc from hne)
 have HG := Lh hg
 have HRS := Lh hs
 unfold freshV at hc
 have HC := Lh hc
 have k0 : w.cell? ⟨gc, 0, none⟩ = some (.int .u8 kd) := blk_cell hc 0
 have HO := Lh (Only.refl (fun k => k = g ∨ k = gc) w)
 clear hs hc hB hg hgc hne
 have HR := Lh (show readBody kd fl v = .ok ⟨kd, fl, 0, 0, 0, 0, 0, 0, 0, 0, [], [], [], intsL v, []⟩ from rfl)
 have HA := Lh (all_calls w0 w g v HRS.out (HBW.out w HO.out) HG.out hv)
 have q0 : (kd == 0) = false := by simpa using hk 0 (by decide)
 have q1 : (kd == 1) = false := by simpa using hk 1 (by decide)
 have q2 : (kd == 2) = false := by simpa using hk 2 (by decide)
 have q3 : (kd == 3) = false := by simpa using hk 3 (by decide)
 have q16 : (kd == 16) = false := by simpa using hk 16 (by decide)
 have q4 : (kd == 4) = false := by simpa using hk 4 (by decide)
 have q5 : (kd == 5) = false := by simpa using hk 5 (by decide)
 have q6 : (kd == 6) = false := by simpa using hk 6 (by decide)
 have q9 : (kd == 9) = false := by simpa using hk 9 (by decide)
 have q7 : (kd == 7) = false := by simpa using hk 7 (by decide)
 have q8 : (kd == 8) = false := by simpa using hk 8 (by decide)
 have q11 : (kd == 11) = false := by simpa using hk 11 (by decide)
 have q14 : (kd == 14) = false := by simpa using hk 14 (by decide)
 go_enter Tryd.func92, Tryd.ntmps92
 go_wp2_with fail
 refine HA.out.mono ?_
 rintro e w1 ⟨u, rfl, hU, hRS, hO⟩
 obtain ⟨Au, cu, hu⟩ := Kd.R_slice hU
 replace HRS := Lh hRS
 replace HC := Lh (hO.blk HC.out HNE.out)
 have HU := Lh (Kd.R_lower (int_of_byte' hU) HO.out.size)
 replace HO := Lh (HO.out.trans (hO.mono (S' := fun k => k = g ∨ k = gc) (fun k _ h => Or.inl h)) (fun k _ h => h))
 clear hRS hO hU HA
 generalize v.length = nu at hu
 subst hu
 have k13 : w1.cell? ⟨gc, 13, none⟩ = some (.slice none 0 0) := blk_cell HC.out 13
 have f13 := blk_frozen HC.out 13
 replace HC := Lh (blk_put HC.out 13 (.slice Au nu cu) (show _ = #[.int .u8 kd, .int .u8 fl, .int .u32 0, .int .u16 0, .int .u16 0, .int .u32 0, .int .u32 0, .int .u32 0, .int .u16 0, .int .u16 0, .slice none 0 0, .slice none 0 0, .slice none 0 0, .slice Au nu cu, .slice none 0 0] from rfl))
 replace HO := Lh ((HO.out.setCell (p := ⟨gc, 13, none⟩) (fun _ => Or.inr rfl) (.slice Au nu cu)))
 have HFAR := Lh (((Only.refl (· = gc) w1).setCell (p := ⟨gc, 13, none⟩) (fun _ => rfl) (.slice Au nu cu)))
 replace HRS := Lh (HRS.out.only HFAR.out HNE2.out)
 go_upto_region 27 with (fail)
 clear k13 f13
 generalize (w1.setCell ⟨gc, 13, none⟩ (.slice Au nu cu)) = W2 at *
 have HU2 := Lh (R_only HU.out HFAR.out (fun k hk _ e => by have := HGL.out.2; omega))
 obtain ⟨Ar, cr, hbr, hcr, hCr⟩ := HRS.out
 have kr : W2.cell? ⟨g, 0, none⟩ = some (.slice Ar 0 cr) := blk_cell hbr 0
 clear hbr hcr hCr
 go_wp2
 go_end0
 exact ReadP.good HR.out HC.out (k41_mkM _ _ _ (⟨kd, fl, 0, 0, 0, 0, 0, 0, 0, 0, [], [], [], intsL v, []⟩) (Kd.R_nil _ _ _ _ _) (Kd.R_nil _ _ _ _ _) (Kd.R_nil _ _ _ _ _) HU2.out (Kd.R_nil _ _ _ _ _)) HO.out
end Go.Proofs.YtdlamomabonkjaaDoor.Ch
end
section
namespace Go.Proofs.YtdlamomabonkjaaDoor.Ch
open Go.RowKit YtdlamomabonkjaaDoorW.PrintWords Base PCh ParDec
theorem read_calls (w0 w : World) (g gc : Nat) (v : List UInt8) (kd fl : Int) (hs : RS w0 w g v) (hc : w.heap[gc]? = some (.cells (freshV kd fl) 41 (0, 0))) (hB : Below w0.heap.size w0 w) (hg : w0.heap.size ≤ g) (hgc : w0.heap.size ≤ gc) (hne : g ≠ gc) (hv : v.length ≤ 140737488355328) :
  Calls Tryd.prog 92 #[.pointer (some ⟨g, 0, none⟩), .pointer (some ⟨gc, 0, none⟩)] w (ReadP w g gc (readD kd fl v)) := by
 by_cases h0 : kd = 0
 ·subst h0; exact read_data w0 w g gc v fl hs hc hB hg hgc hne hv
 by_cases h1 : kd = 1
 ·subst h1; exact read_init w0 w g gc v 1 fl hs hc hB hg hgc hne hv (Or.inl rfl)
 by_cases h2 : kd = 2
 ·subst h2; exact read_init w0 w g gc v 2 fl hs hc hB hg hgc hne hv (Or.inr rfl)
 by_cases h3 : kd = 3
 ·subst h3; exact read_lists3 w0 w g gc v fl hs hc hB hg hgc hne hv
 by_cases h16 : kd = 16
 ·subst h16; exact read_lists16 w0 w g gc v fl hs hc hB hg hgc hne hv
 by_cases h4 : kd = 4
 ·subst h4; exact read_beat w0 w g gc v 4 fl hs hc hB hg hgc hne hv (Or.inl rfl)
 by_cases h5 : kd = 5
 ·subst h5; exact read_beat w0 w g gc v 5 fl hs hc hB hg hgc hne hv (Or.inr rfl)
 by_cases h6 : kd = 6
 ·subst h6; exact read_prms w0 w g gc v 6 fl hs hc hB hg hgc hne hv (Or.inl rfl)
 by_cases h9 : kd = 9
 ·subst h9; exact read_prms w0 w g gc v 9 fl hs hc hB hg hgc hne hv (Or.inr rfl)
 by_cases h7 : kd = 7
 ·subst h7; exact read_shut w0 w g gc v fl hs hc hB hg hgc hne hv
 by_cases h8 : kd = 8
 ·subst h8; exact read_none w0 w g gc v 8 fl hs hc hB hg hgc hne hv (Or.inl rfl)
 by_cases h11 : kd = 11
 ·subst h11; exact read_none w0 w g gc v 11 fl hs hc hB hg hgc hne hv (Or.inr (Or.inl rfl))
 by_cases h14 : kd = 14
 ·subst h14; exact read_none w0 w g gc v 14 fl hs hc hB hg hgc hne hv (Or.inr (Or.inr rfl))
 have e : readD kd fl v = readBody kd fl v := by
  unfold readD
  rw [if_neg h0, if_neg (by omega), if_neg h3, if_neg h16, if_neg (by omega), if_neg (by omega), if_neg h7, if_neg (by omega)]
 rw [e]
 exact read_body w0 w g gc v kd fl hs hc hB hg hgc hne hv (by intro c hc'; simp only [List.mem_cons, List.not_mem_nil, or_false] at hc'; omega)
def maskD (kd : Int) : Int := if kd = 0 then 7 else if kd = 6 ∨ kd = 14 then 1 else if kd ≤ 11 ∨ kd = 16 then 0 else 255
theorem mask_f (kd : Int) : chunk_mask.f 1 kd = some (maskD kd) := by
 by_cases h0 : kd = 0
 ·simp [chunk_mask.f, maskD, h0]
 by_cases h6 : kd = 6
 ·simp [chunk_mask.f, chunk_mask.j0, maskD, h6, chunk_plain.f]
 by_cases h14 : kd = 14
 ·simp [chunk_mask.f, chunk_mask.j0, maskD, h14]
 by_cases h11 : kd ≤ 11
 ·simp [chunk_mask.f, chunk_mask.j0, maskD, h0, h6, h14, h11, chunk_plain.f]
 by_cases h16 : kd = 16
 ·simp [chunk_mask.f, chunk_mask.j0, maskD, h16, chunk_plain.f]
 ·simp [chunk_mask.f, chunk_mask.j0, maskD, h0, h6, h14, h11, h16, chunk_plain.f]
theorem mask_calls (kd : Int) (w : World) : Calls Tryd.prog 88 #[.int .u8 kd] w fun e w' => e = .returned (.int .u8 (maskD kd)) ∧ Drawn0 w w' := chunk_mask.calls 1 kd _ w (mask_f kd)
theorem padded_calls (n : Nat) (hn : n ≤ 140737488355328) (w : World) : Calls Tryd.prog 54 #[.int .i64 (n : Int)] w fun e w' => e = .returned (.int .i64 (((n + 3) / 4 * 4 : Nat) : Int)) ∧ Drawn0 w w' := by
 refine chunk_padded.calls (n : Int) (((n + 3) / 4 * 4 : Nat) : Int) w ?_
 unfold chunk_padded.f
 congr 1
 have e1 : wrap64 ((n : Int) + 3) = ((n + 3 : Nat) : Int) := by unfold wrap64; omega
 rw [e1, show Int.tdiv ((n + 3 : Nat) : Int) 4 = (((n + 3) / 4 : Nat) : Int) from rfl]
 have e2 : wrap64 (((n + 3) / 4 : Nat) : Int) = (((n + 3) / 4 : Nat) : Int) := by unfold wrap64; omega
 rw [e2]
 have e3 : (((n + 3) / 4 : Nat) : Int) * 4 = (((n + 3) / 4 * 4 : Nat) : Int) := by omega
 rw [e3]
 unfold wrap64
 omega
theorem catch_idle (a b c : Addr) (w : World) :
  CallsD Tryd.prog 91 #[.pointer (some a), .pointer (some b), .pointer (some c)] .returning w fun e u' w' => e = .returned (.tuple #[]) ∧ u' = .returning ∧ w' = w := by
 refine callsD_of_wpS Tryd.func91 rfl fun c₀ cs hu => ?_
 apply wpS_seq
 apply wpS_region
 simp [wpOpsS, go_sem, recoverD, hu, Tryd.ntmps91, Exit.thenS]
 have ht : (#[Value.pointer (some a), Value.pointer (some b), Value.pointer (some c)] ++ ((Array.replicate 16 undef).setIfInBounds 3 Value.nilIface).setIfInBounds 0 Value.nilIface) = #[.pointer (some a), .pointer (some b), .pointer (some c), .nilIface, undef, undef, .nilIface, undef, undef, undef, undef, undef, undef, undef, undef, undef, undef, undef, undef] := by kernel_rfl
 rw [ht]
 refine wpS_of_wp ?_
 go_wp2
 cases c₀
 simp_all [bodyPostS, results, Tryd.results91]
def errV (code : Int) : Value := .iface 28 (.int .i64 code)
theorem catch_err (a b c : Nat) (code : Int) (older : List PanicEntry) (w : World) (x0 : Array Value) (x1 x2 : Value) (t1 t2 : TypeId)
  (h0 : w.heap[a]? = some (.cells x0 41 (0, 0))) (hx0 : x0.size = 15) (h1 : w.heap[b]? = some (.cells #[x1] t1 (0, 0))) (h2 : w.heap[c]? = some (.cells #[x2] t2 (0, 0))) (hab : a ≠ b) (hac : a ≠ c) (hbc : b ≠ c) :
  CallsD Tryd.prog 91 #[.pointer (some ⟨a, 0, none⟩), .pointer (some ⟨b, 0, none⟩), .pointer (some ⟨c, 0, none⟩)] (.panicking ({ v := errV code, recovered := false } :: older)) w fun e u' w' => e = .returned (.tuple #[]) ∧ u' = .panicking ({ v := errV code, recovered := true } :: older) ∧
   w'.heap[a]? = some (.cells (freshV 0 0) 41 (0, 0)) ∧ w'.heap[b]? = some (.cells #[.int .i64 0] t1 (0, 0)) ∧ w'.heap[c]? = some (.cells #[.int .i64 code] t2 (0, 0)) ∧ Only (fun k => k = a ∨ k = b ∨ k = c) w w' := by
 unfold errV freshV
 refine callsD_of_wpS Tryd.func91 rfl fun c₀ cs hu => ?_
 apply wpS_seq
 apply wpS_region
 simp [wpOpsS, go_sem, recoverD, hu, Tryd.ntmps91, Exit.thenS]
 generalize hfv : (Value.iface 28 (.int .i64 code)) = fv at *
 have ht : ∀ fv : Value, (#[Value.pointer (some ⟨a, 0, none⟩), Value.pointer (some ⟨b, 0, none⟩), Value.pointer (some ⟨c, 0, none⟩)] ++ ((Array.replicate 16 undef).setIfInBounds 3 fv).setIfInBounds 0 fv) = #[.pointer (some ⟨a, 0, none⟩), .pointer (some ⟨b, 0, none⟩), .pointer (some ⟨c, 0, none⟩), fv, undef, undef, fv, undef, undef, undef, undef, undef, undef, undef, undef, undef, undef, undef, undef] := fun fv => by kernel_rfl
 rw [ht]
 subst hfv
 have hta : ∀ W : World, (Instr.typeAssert (Value.iface 28 (.int .i64 code)) 20 28 true).run Tryd.prog W = .ok (.tuple #[.int .i64 code, .bool true]) W := fun W => by rfl
 refine wpS_of_wp ?_
 have H0 := Lh h0
 have HX0 := Lh hx0
 have ha : (w.setRow a #[.int .u8 0, .int .u8 0, .int .u32 0, .int .u16 0, .int .u16 0, .int .u32 0, .int .u32 0, .int .u32 0, .int .u16 0, .int .u16 0, .slice none 0 0, .slice none 0 0, .slice none 0 0, .slice none 0 0, .slice none 0 0]).heap[a]? = some (.cells #[.int .u8 0, .int .u8 0, .int .u32 0, .int .u16 0, .int .u16 0, .int .u32 0, .int .u32 0, .int .u32 0, .int .u16 0, .int .u16 0, .slice none 0 0, .slice none 0 0, .slice none 0 0, .slice none 0 0, .slice none 0 0] 41 (0, 0)) := setRow_heap _ _ _ _ _ _ h0
 have hb : (w.setRow a #[.int .u8 0, .int .u8 0, .int .u32 0, .int .u16 0, .int .u16 0, .int .u32 0, .int .u32 0, .int .u32 0, .int .u16 0, .int .u16 0, .slice none 0 0, .slice none 0 0, .slice none 0 0, .slice none 0 0, .slice none 0 0]).heap[b]? = some (.cells #[x1] t1 (0, 0)) := (setRow_other _ _ _ _ (by omega)).trans h1
 have hc : (w.setRow a #[.int .u8 0, .int .u8 0, .int .u32 0, .int .u16 0, .int .u16 0, .int .u32 0, .int .u32 0, .int .u32 0, .int .u16 0, .int .u16 0, .slice none 0 0, .slice none 0 0, .slice none 0 0, .slice none 0 0, .slice none 0 0]).heap[c]? = some (.cells #[x2] t2 (0, 0)) := (setRow_other _ _ _ _ (by omega)).trans h2
 have hc2 := blk_far (p := ⟨b, 0, none⟩) hc (Ne.symm hbc) (.int .i64 0)
 have kb : (w.setRow a #[.int .u8 0, .int .u8 0, .int .u32 0, .int .u16 0, .int .u16 0, .int .u32 0, .int .u32 0, .int .u32 0, .int .u16 0, .int .u16 0, .slice none 0 0, .slice none 0 0, .slice none 0 0, .slice none 0 0, .slice none 0 0]).cell? ⟨b, 0, none⟩ = some x1 := blk_cell hb 0
 have fb := blk_frozen hb 0
 have kc := (blk_cell hc2 0).trans (show (#[x2] : Array Value)[0]? = some x2 from rfl)
 have fc := blk_frozen hc2 0
 have kc1 : (w.setRow a #[.int .u8 0, .int .u8 0, .int .u32 0, .int .u16 0, .int .u16 0, .int .u32 0, .int .u32 0, .int .u32 0, .int .u16 0, .int .u16 0, .slice none 0 0, .slice none 0 0, .slice none 0 0, .slice none 0 0, .slice none 0 0]).cell? ⟨c, 0, none⟩ = some x2 := blk_cell hc 0
 have fc1 := blk_frozen hc 0
 have HA := Lh (blk_far (p := ⟨c, 0, none⟩) (blk_far (p := ⟨b, 0, none⟩) ha hab (.int .i64 0)) hac (.int .i64 code))
 have HB := Lh (blk_far (p := ⟨c, 0, none⟩) (blk_put hb 0 (.int .i64 0) rfl) hbc (.int .i64 code))
 have HC := Lh (blk_put hc2 0 (.int .i64 code) rfl)
 have HO := Lh ((((show Only (fun k => k = a ∨ k = b ∨ k = c) w (w.setRow a #[.int .u8 0, .int .u8 0, .int .u32 0, .int .u16 0, .int .u16 0, .int .u32 0, .int .u32 0, .int .u32 0, .int .u16 0, .int .u16 0, .slice none 0 0, .slice none 0 0, .slice none 0 0, .slice none 0 0, .slice none 0 0]) from ⟨rfl, rfl, rfl, by simp, fun k hk hn => setRow_other _ _ _ _ (fun e => hn (Or.inl e))⟩).setCell (p := ⟨b, 0, none⟩) (fun _ => Or.inr (Or.inl rfl)) (.int .i64 0)).setCell (p := ⟨c, 0, none⟩) (fun _ => Or.inr (Or.inr rfl)) (.int .i64 code)))
 clear h0 h1 h2 ha hb hc hc2
 go_wp2_with (refine wpList_store_row rfl 41 _ _ rfl a #[.int .u8 0, .int .u8 0, .int .u32 0, .int .u16 0, .int .u16 0, .int .u32 0, .int .u32 0, .int .u32 0, .int .u16 0, .int .u16 0, .slice none 0 0, .slice none 0 0, .slice none 0 0, .slice none 0 0, .slice none 0 0] rfl rfl 41 x0 H0.out (by kernel_rfl) HX0.out (by simp [Value.oneCell']) ?_)
 show bodyPostS _ _ _ _ _ _ _ _ _
 cases c₀
 simp only at hu
 subst hu
 exact ⟨rfl, _, rfl, _, results_none rfl _ _ _, rfl, rfl, HA.out, HB.out, HC.out, HO.out⟩
end Go.Proofs.YtdlamomabonkjaaDoor.Ch
end
section
namespace Go.Proofs.YtdlamomabonkjaaDoor.Ch
open Go.RowKit YtdlamomabonkjaaDoorW.PrintWords YtdlamomabonkjaaDoorW.PrintLast YtdlamomabonkjaaDoorW.PrintMore Base PCh ParDec
attribute [local go_sem] min2_int min_two
def decAT8 : Bool × List (List Nat × List Nat) := (true, [([], []), ([0], [0]), ([1], [1]), ([], []), ([3], [3]), ([4], [4]), ([2, 5], [2, 5]), ([0, 1, 2, 3, 4, 5, 6], []), ([7, 6, 5, 0, 1, 2, 3, 4, 5, 6], [6, 7])])
def decAB8 : List Nat := [0, 1, 3, 0, 8, 24, 63, 127, 255]
theorem decAtab8 : Go.Proofs.YtdlamomabonkjaaDoorW.PrintLast.rtab .any (Go.Proofs.YtdlamomabonkjaaDoorW.PrintLast.opsOf Tryd.f81 8) = decAT8 := by kernel_rfl
theorem decAbits8 : Go.Proofs.YtdlamomabonkjaaDoorW.PrintLast.waitsOk decAT8.2 decAB8 = true := by kernel_rfl
def decBT11 : Bool × List (List Nat × List Nat) := (true, [([], []), ([], []), ([1], [1]), ([], []), ([3], [3]), ([2, 4], [2, 4]), ([0, 2, 0, 2], [0]), ([5, 6, 0, 1, 2, 3, 4, 5, 6], [5]), ([7, 0, 1, 2, 3, 4, 5, 6, 7], [])])
def decBB11 : List Nat := [0, 0, 2, 0, 8, 30, 7, 127, 255]
theorem decBtab11 : Go.Proofs.YtdlamomabonkjaaDoorW.PrintLast.rtab .any (Go.Proofs.YtdlamomabonkjaaDoorW.PrintLast.opsOf Tryd.f81 11) = decBT11 := by kernel_rfl
theorem decBbits11 : Go.Proofs.YtdlamomabonkjaaDoorW.PrintLast.waitsOk decBT11.2 decBB11 = true := by kernel_rfl
def calmQ (Q : Exit → Act → World → Prop) : Exit → Act → World → Prop := fun e a w => (match e with | .panic _ => False | _ => True) ∧ Q e a w
theorem calm {P : Program} {c : Code} {Q : Exit → Act → World → Prop} {a : Act} {w : World} (h : c.wp P (calmQ Q) a w) : c.wp P Q a w := Code.wp_mono (fun _ _ _ h => h.2) h
def flD (kd b1 : Int) : Int := bits .and .u8 b1 (maskD kd)
def decC (b : List UInt8) : Chk × Int × Int :=
 if b.length < 4 then (chk0 0 0, 0, 60)
 else if be ((b.drop 2).take 2) < 4 ∨ b.length < be ((b.drop 2).take 2) then (chk0 0 0, 0, 60)
 else match readD ((b.getD 0 0).toNat : Int) (flD ((b.getD 0 0).toNat : Int) ((b.getD 1 0).toNat : Int)) ((b.take (be ((b.drop 2).take 2))).drop 4) with
 | .error c => (chk0 0 0, 0, c)
 | .ok d => (d, (min ((be ((b.drop 2).take 2) + 3) / 4 * 4) b.length : Nat), 0)
def DecCP (b : List UInt8) (w : World) (e : Ending) (w' : World) : Prop :=
 ∃ cs, e = .returned (.tuple #[.agg cs, .int .i64 (decC b).2.1, .int .i64 (decC b).2.2]) ∧ k41.M w' w.heap.size (fun _ => True) (decC b).1 cs.toList ∧ Below w.heap.size w w'
def wc3 (w : World) : World := (((w.alloc (.cells (freshV 0 0) 41)).alloc (.cells #[.int .i64 0] 3)).alloc (.cells #[.int .i64 0] 28))
theorem wc3_size (w : World) : (wc3 w).heap.size = w.heap.size + 3 := by simp [wc3]
theorem wc3_below (w : World) : Below w.heap.size w (wc3 w) := below_alloc (below_alloc (below_alloc (Below.refl _ _) _) _) _
theorem wc3_blk (w : World) : (wc3 w).heap[w.heap.size]? = some (.cells (freshV 0 0) 41 (0, 0)) ∧ (wc3 w).heap[w.heap.size + 1]? = some (.cells #[.int .i64 0] 3 (0, 0)) ∧ (wc3 w).heap[w.heap.size + 1 + 1]? = some (.cells #[.int .i64 0] 28 (0, 0)) := by
 have s1 : (w.alloc (.cells (freshV 0 0) 41)).heap.size = w.heap.size + 1 := by simp
 have s2 : ((w.alloc (.cells (freshV 0 0) 41)).alloc (.cells #[.int .i64 0] 3)).heap.size = w.heap.size + 1 + 1 := by simp
 have h0 := blk_new w (.cells (freshV 0 0) 41)
 have h1 := blk_new (w.alloc (.cells (freshV 0 0) 41)) (.cells #[.int .i64 0] 3)
 have h2 := blk_new ((w.alloc (.cells (freshV 0 0) 41)).alloc (.cells #[.int .i64 0] 3)) (.cells #[.int .i64 0] 28)
 rw [s1] at h1
 rw [s2] at h2
 exact ⟨blk_alloc (blk_alloc h0 _) _, blk_alloc h1 _, h2⟩
theorem decC_results (tmps : Array Value) (w : World) (a b c : Nat) (cs : Array Value) (v1 v2 : Value) (t0 : tmps.getD 2 undef = .pointer (some ⟨a, 0, none⟩)) (t1 : tmps.getD 3 undef = .pointer (some ⟨b, 0, none⟩)) (t2 : tmps.getD 4 undef = .pointer (some ⟨c, 0, none⟩))
  (hcs : cs.size = 15) (h0 : w.heap[a]? = some (.cells cs 41 (0, 0))) (h1 : w.heap[b]? = some (.cells #[v1] 3 (0, 0))) (h2 : w.heap[c]? = some (.cells #[v2] 28 (0, 0))) :
  (results Tryd.f81 tmps).run Tryd.prog w = .ok (.tuple #[.agg cs, v1, v2]) w := by
 have k1 := blk_cell h1 0
 have k2 := blk_cell h2 0
 have hi : (Tryd.prog.info? 41).map (·.size) = some cs.size := by rw [hcs]; kernel_rfl
 have hl := run_loadVar_row w a 41 41 cs (0, 0) _ h0 Tryd.underlying41 rfl hi
 rw [Array.getD_eq_getD_getElem?] at t0 t1 t2
 have l1 : (loadVar 3 ⟨b, 0, none⟩).run Tryd.prog w = .ok v1 w := by simp [go_sem, k1]
 have l2 : (loadVar 28 ⟨c, 0, none⟩).run Tryd.prog w = .ok v2 w := by simp [go_sem, k2]
 simp [results, Tryd.results81, asAddr, t0, t1, t2, hl, l1, l2]
theorem mnil (w : World) (base : Nat) (kd fl : Int) : k41.M w base (fun _ => True) (chk0 kd fl) (freshV kd fl).toList := k41_mkM _ _ _ (chk0 kd fl) (Kd.R_nil _ _ _ _ _) (Kd.R_nil _ _ _ _ _) (Kd.R_nil _ _ _ _ _) (Kd.R_nil _ _ _ _ _) (Kd.R_nil _ _ _ _ _)
theorem M_only {α : Type} {d : Kd α} {w w' : World} {base : Nat} {ok : Nat → Prop} {x : α} {cs : List Value} {S : Nat → Prop} (h : d.M w base ok x cs) (o : Only S w w') (hs : ∀ k, base ≤ k → k < w.heap.size → ¬ S k) : d.M w' base ok x cs :=
 d.M_mono (fun k hk => hk.1) (d.M_move (fun k hk => o.block k hk.2.2.1 (hs k hk.2.1 hk.2.2.1)) (d.M_bound h))
theorem below_setRow {B g : Nat} {a w : World} (h : Below B a w) (hg : B ≤ g) (cs : Array Value) : Below B a (w.setRow g cs) :=
 ⟨h.os, h.tape, h.output, by rw [setRow_size]; exact h.size, fun k hk => (setRow_other _ _ _ _ (by omega)).trans (h.block k hk)⟩
theorem exec_store_row {P : Program} {o : Oper} {a : Act} {w : World} (ty : TypeId) (x y : Operand) (ho : o.op = .store ty x y) {g : Nat} {cells : Array Value} (hx : a.eval x = .pointer (some ⟨g, 0, none⟩)) (hy : a.eval y = .agg cells) {t : TypeId} {old : Array Value} (hg : w.heap[g]? = some (.cells old t (0, 0))) (hi : (P.info? ty).map (·.size) = some cells.size)
  (hold : old.size = cells.size) (h1 : cells.all (·.oneCell') = true) : (execOp a.eval o).run P w = .ok .skip (w.setRow g cells) := by
 unfold execOp
 simp only [ho, hx, hy, Instr.storeAt, Instr.sureAddr, Sem.run_bind, Sem.run_pure, Result.andThen_ok, run_storeVar_row w g t ty old cells hg hi hold h1]
set_option maxHeartbeats 4000000 in
theorem decC_with (w : World) (A : Option Addr) (lb : List UInt8) (c : Nat) (hb : byte.C w A lb.length lb) (hc : lb.length ≤ c) (hn : lb.length ≤ 140737488355328)
  (HRD : 4 ≤ lb.length → ∀ (kd fl : Int) (v : List UInt8), ((lb.getD 0 0).toNat : Int) = kd → v = (lb.take (be ((lb.drop 2).take 2))).drop 4 → ∀ (w0 w : World) (g gc : Nat), RS w0 w g v → w.heap[gc]? = some (.cells (freshV kd fl) 41 (0, 0)) → Below w0.heap.size w0 w → w0.heap.size ≤ g → w0.heap.size ≤ gc → g ≠ gc → v.length ≤ 140737488355328 →
   Calls Tryd.prog 92 #[.pointer (some ⟨g, 0, none⟩), .pointer (some ⟨gc, 0, none⟩)] w (ReadP w g gc (readD kd fl v))) :
  Calls Tryd.prog 81 #[.slice A lb.length c] w (DecCP lb w) := by
 have hmf : ∀ (fn : Fn) (first cap : Array Value) (w : World), (Instr.makeFunc fn first cap).run Tryd.prog w = .ok (.func fn first cap) w := fun _ _ _ _ => rfl
 have HRX := Lh HRD
 clear HRD
 by_cases h4 : lb.length < 4
 ·have HDE := Lh (show decC lb = (chk0 0 0, 0, 60) from by unfold decC; rw [if_pos h4])
  have hl : (lb.length : Int) < 4 := by omega
  clear hb hc
  generalize lb.length = L at *
  go_enter_defers Tryd.func81, Tryd.ntmps81
  go_wp2
  refine leaves_cons (f := 91) (args := #[.pointer (some ⟨w.heap.size, 0, none⟩), .pointer (some ⟨w.heap.size + 1, 0, none⟩), .pointer (some ⟨w.heap.size + 1 + 1, 0, none⟩)]) (by simp) (by simp [go_sem]) ?_
  refine (catch_err w.heap.size (w.heap.size + 1) (w.heap.size + 1 + 1) 60 [] _ _ _ _ _ _ (wc3_blk w).1 rfl (wc3_blk w).2.1 (wc3_blk w).2.2 (by omega) (by omega) (by omega)).mono ?_
  rintro e u' w'' ⟨rfl, rfl, h0, h1, h2, hO⟩
  exact ⟨_, decC_results _ _ _ _ _ _ _ _ rfl rfl rfl rfl h0 h1 h2, freshV 0 0, by rw [HDE.out], by rw [HDE.out]; exact mnil _ _ _ _, (wc3_below w).trans (hO.below (by rw [show _ = (wc3 w).heap.size from rfl, wc3_size]; omega) (fun k hk => by omega))⟩
 ·have hl : ¬ (lb.length : Int) < 4 := by omega
  obtain ⟨ad, rfl, x0⟩ := byte_at hb 0 (by omega)
  obtain ⟨ad', e', x1⟩ := byte_at hb 1 (by omega)
  cases e'
  obtain ⟨ad', e', x2⟩ := byte_at hb 2 (by omega)
  cases e'
  obtain ⟨ad', e', x3⟩ := byte_at hb 3 (by omega)
  cases e'
  have hsz : be ((lb.drop 2).take 2) = (lb.getD 2 0).toNat * 256 + (lb.getD 3 0).toNat := by
   have : ∀ l : List UInt8, 4 ≤ l.length → be ((l.drop 2).take 2) = (l.getD 2 0).toNat * 256 + (l.getD 3 0).toNat := by
    intro l hl
    obtain ⟨b0, b1, b2, b3, r, rfl⟩ := take_four hl
    exact be_two _ _
   exact this lb (by omega)
  have hor := or_bytes (lb.getD 2 0) (lb.getD 3 0)
  have hb2 : (lb.getD 2 0).toNat < 256 := (lb.getD 2 0).toNat_lt
  have hb3 : (lb.getD 3 0).toNat < 256 := (lb.getD 3 0).toNat_lt
  rw [← hsz] at hor
  replace x0 : w.cell? ad = some (.int .u8 ((lb.getD 0 0).toNat : Int)) := x0
  have X1 := Lh (show w.cell? ⟨ad.block, ad.off + 1, none⟩ = some (.int .u8 ((lb.getD 1 0).toNat : Int)) by
   rw [show ad.add 1 = ad.add (0 + 1) from rfl, add_field _ _ 1 (by omega)] at x1
   exact x1)
  replace x2 : w.cell? ⟨ad.block, ad.off + 2, none⟩ = some (.int .u8 ((lb.getD 2 0).toNat : Int)) := by
   rw [show ad.add 2 = ad.add (0 + 2) from rfl, add_field _ _ 2 (by omega)] at x2
   exact x2
  replace x3 : w.cell? ⟨ad.block, ad.off + 3, none⟩ = some (.int .u8 ((lb.getD 3 0).toNat : Int)) := by
   rw [show ad.add 3 = ad.add (0 + 3) from rfl, add_field _ _ 3 (by omega)] at x3
   exact x3
  clear x1
  have hszb : be ((lb.drop 2).take 2) < 65536 := be_two_lt _
  obtain ⟨sz, hs⟩ : ∃ sz, be ((lb.drop 2).take 2) = sz := ⟨_, rfl⟩
  rw [hs] at hor hszb
  have HS := Lh hs
  clear hs hsz
  generalize hy2 : ((lb.getD 2 0).toNat : Int) = y2 at *
  generalize hy3 : ((lb.getD 3 0).toNat : Int) = y3 at *
  obtain ⟨kd, hkd⟩ : ∃ kd : Int, ((lb.getD 0 0).toNat : Int) = kd := ⟨_, rfl⟩
  obtain ⟨b1, hb1⟩ : ∃ b1 : Int, ((lb.getD 1 0).toNat : Int) = b1 := ⟨_, rfl⟩
  rw [hkd] at x0
  rw [hb1] at X1
  have HKD := Lh hkd
  have HB1 := Lh hb1
  clear hkd hb1
  have HB := Lh (show Below w.heap.size w (((w.alloc (.cells #[.int .u8 0, .int .u8 0, .int .u32 0, .int .u16 0, .int .u16 0, .int .u32 0, .int .u32 0, .int .u32 0, .int .u16 0, .int .u16 0, .slice none 0 0, .slice none 0 0, .slice none 0 0, .slice none 0 0, .slice none 0 0] 41)).alloc (.cells #[.int .i64 0] 3)).alloc (.cells #[.int .i64 0] 28)) from wc3_below w)
  have HC := Lh (show (((w.alloc (.cells #[.int .u8 0, .int .u8 0, .int .u32 0, .int .u16 0, .int .u16 0, .int .u32 0, .int .u32 0, .int .u32 0, .int .u16 0, .int .u16 0, .slice none 0 0, .slice none 0 0, .slice none 0 0, .slice none 0 0, .slice none 0 0] 41)).alloc (.cells #[.int .i64 0] 3)).alloc (.cells #[.int .i64 0] 28)).heap[w.heap.size]? = some (.cells #[.int .u8 0, .int .u8 0, .int .u32 0, .int .u16 0, .int .u16 0, .int .u32 0, .int .u32 0, .int .u32 0, .int .u16 0, .int .u16 0, .slice none 0 0, .slice none 0 0, .slice none 0 0, .slice none 0 0, .slice none 0 0] 41 (0, 0)) from (wc3_blk w).1)
  have HN := Lh (show (((w.alloc (.cells #[.int .u8 0, .int .u8 0, .int .u32 0, .int .u16 0, .int .u16 0, .int .u32 0, .int .u32 0, .int .u32 0, .int .u16 0, .int .u16 0, .slice none 0 0, .slice none 0 0, .slice none 0 0, .slice none 0 0, .slice none 0 0] 41)).alloc (.cells #[.int .i64 0] 3)).alloc (.cells #[.int .i64 0] 28)).heap[w.heap.size + 1]? = some (.cells #[.int .i64 0] 3 (0, 0)) from (wc3_blk w).2.1)
  have HE := Lh (show (((w.alloc (.cells #[.int .u8 0, .int .u8 0, .int .u32 0, .int .u16 0, .int .u16 0, .int .u32 0, .int .u32 0, .int .u32 0, .int .u16 0, .int .u16 0, .slice none 0 0, .slice none 0 0, .slice none 0 0, .slice none 0 0, .slice none 0 0] 41)).alloc (.cells #[.int .i64 0] 3)).alloc (.cells #[.int .i64 0] 28)).heap[w.heap.size + 1 + 1]? = some (.cells #[.int .i64 0] 28 (0, 0)) from (wc3_blk w).2.2)
  have HBY := Lh hb
  replace x0 := pw_cell_below HB.out x0
  replace x2 := pw_cell_below HB.out x2
  replace x3 := pw_cell_below HB.out x3
  clear hb
  generalize hL : lb.length = L at *
  go_enter_defers Tryd.func81, Tryd.ntmps81
  go_upto_region 1 with (fail)
  generalize (((w.alloc (.cells #[.int .u8 0, .int .u8 0, .int .u32 0, .int .u16 0, .int .u16 0, .int .u32 0, .int .u32 0, .int .u32 0, .int .u16 0, .int .u16 0, .slice none 0 0, .slice none 0 0, .slice none 0 0, .slice none 0 0, .slice none 0 0] 41)).alloc (.cells #[.int .i64 0] 3)).alloc (.cells #[.int .i64 0] 28)) = W at *
  generalize hge : w.heap.size + 1 + 1 = ge at *
  generalize hgn : w.heap.size + 1 = gn at *
  obtain ⟨gc, hgc⟩ : ∃ gc, w.heap.size = gc := ⟨_, rfl⟩
  rw [hgc]
  rw [hgc] at HC
  have HG := Lh (show w.heap.size = gc ∧ gn = gc + 1 ∧ ge = gc + 2 from ⟨hgc, by omega, by omega⟩)
  clear hge hgn hgc
  by_cases hbad : sz < 4 ∨ L < sz
  ·have HDE := Lh (show decC lb = (chk0 0 0, 0, 60) from by unfold decC; rw [if_neg (by omega), HS.out, if_pos (by omega)])
   by_cases hs4 : sz < 4
   ·have hs4' : (sz : Int) < 4 := by omega
    go_wp2
    go_quiet (fail)
    go_wp2
    refine leaves_cons (f := 91) (args := #[.pointer (some ⟨gc, 0, none⟩), .pointer (some ⟨gn, 0, none⟩), .pointer (some ⟨ge, 0, none⟩)]) (by simp) (by simp [go_sem]) ?_
    refine (catch_err gc gn ge 60 [] _ _ _ _ _ _ (blk_drewN HC.out _) rfl (blk_drewN HN.out _) (blk_drewN HE.out _) (by have := HG.out; omega) (by have := HG.out; omega) (by have := HG.out; omega)).mono ?_
    rintro e u' w'' ⟨rfl, rfl, h0, h1, h2, hO⟩
    exact ⟨_, decC_results _ _ _ _ _ _ _ _ rfl rfl rfl rfl h0 h1 h2, freshV 0 0, by rw [HDE.out], by rw [HDE.out]; exact mnil _ _ _ _, (pw_below_drewN HB.out _).trans (hO.below (pw_below_drewN HB.out _).size (fun k hk => by have := HG.out; omega))⟩
   ·have hs4' : ¬ (sz : Int) < 4 := by omega
    have hs5 : (L : Int) < (sz : Int) := by omega
    go_wp2
    go_quiet (fail)
    go_wp2
    refine leaves_cons (f := 91) (args := #[.pointer (some ⟨gc, 0, none⟩), .pointer (some ⟨gn, 0, none⟩), .pointer (some ⟨ge, 0, none⟩)]) (by simp) (by simp [go_sem]) ?_
    refine (catch_err gc gn ge 60 [] _ _ _ _ _ _ (blk_drewN HC.out _) rfl (blk_drewN HN.out _) (blk_drewN HE.out _) (by have := HG.out; omega) (by have := HG.out; omega) (by have := HG.out; omega)).mono ?_
    rintro e u' w'' ⟨rfl, rfl, h0, h1, h2, hO⟩
    exact ⟨_, decC_results _ _ _ _ _ _ _ _ rfl rfl rfl rfl h0 h1 h2, freshV 0 0, by rw [HDE.out], by rw [HDE.out]; exact mnil _ _ _ _, (pw_below_drewN HB.out _).trans (hO.below (pw_below_drewN HB.out _).size (fun k hk => by have := HG.out; omega))⟩
  ·have hs4 : ¬ (sz : Int) < 4 := by omega
   have hs5 : ¬ (L : Int) < (sz : Int) := by omega
   go_wp2
   go_quiet (fail)
   go_upto_region 8 with (refine wpList_store_row rfl 41 _ _ rfl gc #[.int .u8 kd, .int .u8 0, .int .u32 0, .int .u16 0, .int .u16 0, .int .u32 0, .int .u32 0, .int .u32 0, .int .u16 0, .int .u16 0, .slice none 0 0, .slice none 0 0, .slice none 0 0, .slice none 0 0, .slice none 0 0] rfl rfl 41 #[.int .u8 0, .int .u8 0, .int .u32 0, .int .u16 0, .int .u16 0, .int .u32 0, .int .u32 0, .int .u32 0, .int .u16 0, .int .u16 0, .slice none 0 0, .slice none 0 0, .slice none 0 0, .slice none 0 0, .slice none 0 0] (blk_drewN HC.out _) (by kernel_rfl) rfl (by simp [Value.oneCell']) ?_)
   have HC2 := Lh (setRow_heap _ _ _ #[.int .u8 kd, .int .u8 0, .int .u32 0, .int .u16 0, .int .u16 0, .int .u32 0, .int .u32 0, .int .u32 0, .int .u16 0, .int .u16 0, .slice none 0 0, .slice none 0 0, .slice none 0 0, .slice none 0 0, .slice none 0 0] _ _ (blk_drewN HC.out nq))
   have HN2 := Lh ((setRow_other (W.drewN nq) gc gn #[.int .u8 kd, .int .u8 0, .int .u32 0, .int .u16 0, .int .u16 0, .int .u32 0, .int .u32 0, .int .u32 0, .int .u16 0, .int .u16 0, .slice none 0 0, .slice none 0 0, .slice none 0 0, .slice none 0 0, .slice none 0 0] (by have := HG.out; omega)).trans (blk_drewN HN.out nq))
   have HE2 := Lh ((setRow_other (W.drewN nq) gc ge #[.int .u8 kd, .int .u8 0, .int .u32 0, .int .u16 0, .int .u16 0, .int .u32 0, .int .u32 0, .int .u32 0, .int .u16 0, .int .u16 0, .slice none 0 0, .slice none 0 0, .slice none 0 0, .slice none 0 0, .slice none 0 0] (by have := HG.out; omega)).trans (blk_drewN HE.out nq))
   have HB2 := Lh (below_setRow (pw_below_drewN HB.out nq) (by have := HG.out; omega) #[.int .u8 kd, .int .u8 0, .int .u32 0, .int .u16 0, .int .u16 0, .int .u32 0, .int .u32 0, .int .u32 0, .int .u16 0, .int .u16 0, .slice none 0 0, .slice none 0 0, .slice none 0 0, .slice none 0 0, .slice none 0 0] (g := gc))
   clear HC HN HE HB x0 x2 x3
   generalize (W.drewN nq).setRow gc #[.int .u8 kd, .int .u8 0, .int .u32 0, .int .u16 0, .int .u16 0, .int .u32 0, .int .u32 0, .int .u32 0, .int .u16 0, .int .u16 0, .slice none 0 0, .slice none 0 0, .slice none 0 0, .slice none 0 0, .slice none 0 0] = W at *
   have HC := HC2
   have HN := HN2
   have HE := HE2
   have HB := HB2
   have x1 := Lh (pw_cell_below HB.out X1.out)
   clear HC2 HN2 HE2 HB2
   obtain ⟨fl, hfl⟩ : ∃ fl, flD kd b1 = fl := ⟨_, rfl⟩
   have HFL := Lh (show bits .and .u8 b1 (maskD kd) = fl from hfl)
   have HFL2 := Lh hfl
   clear hfl
   have HL1 := Lh (show ¬ (L : Int) ≤ 1 by omega)
   have B := True.intro
   refine calm ?_
   refine start_ (n := 9) (S := fun w' => True) (ds := []) #[false, false, false, false, false, false, false, false, false] (by kernel_rfl) rfl rfl trivial (fun hHeld => ?_)
   refine with_tabW decAtab8 decAbits8 (fun HT_ HW_ => ?_)
   refine pure_ (i := 0) (N := some 35) (v := ?_) (a' := ?_) #[true, false, false, false, false, false, false, false, false] rfl rfl (any_of HT_.out (by kernel_rfl)) (fun _ _ _ h => h.1.elim) (Or.inl ⟨by rfl, ?_⟩) ?_ ?_
   rotate_left
   ·intro w'
    go_simp
    with_reducible rfl
   rotate_left
   ·simp only [Act.put, List.setIfInBounds_toArray, List.set_cons_zero, List.set_cons_succ, i64_w, i32_w]
    rfl
   refine inv_at [1, 2, 3, 4, 5, 6, 7, 8] (fun a0_ b a w' => a = putSel a0_ b [(1, 36, .pointer (some ⟨ad.block, ad.off + 1, none⟩)), (2, 37, .int .u8 b1), (3, 38, .pointer (some ⟨gc, 0, none⟩)), (4, 39, .int .u8 kd), (5, 40, .int .u8 (maskD kd)), (6, 41, .int .u8 fl), (7, 42, .pointer (some ⟨gc, 1, none⟩))] ∧ (b 8 = false → Drawn0 W w') ∧ (b 8 = true → ∃ w2, Drawn0 W w2 ∧ w' = w2.setCell ⟨gc, 1, none⟩ (.int .u8 fl))) HT_.out HW_.out (by kernel_rfl) (by kernel_rfl) ?_ ?_ ?_
   ·exact ⟨by simp only [putSel, Bool.false_eq_true, if_false], fun _ => ⟨1, rfl⟩, fun h_ => absurd h_ (by decide)⟩
   ·skip
    clear B
    refine steps_cons ?_ ?_
    ·rintro b a w' ⟨ha, Q_B, Q_S⟩ hb_ hon hoff
     refine ⟨_, rfl, fun K hK => ?_⟩
     have e35 : a.tmps[35]? = some (.slice (some ad) L c) := by rw [ha]; exact (putSel_off rfl).trans rfl
     replace ha := Am ha
     have hl1 := HL1.out
     refine value_ (w1 := w') (v := .pointer (some ⟨ad.block, ad.off + 1, none⟩)) (by rfl) rfl ?_ ?_
     ·go_simp
      (try simp only [i64_w])
      try rfl
     refine hK.out _ _ ⟨(puk ha 0 hb_ rfl rfl rfl), Q_B, fun h0_ => hof (hoff 8 (by kernel_rfl)) h0_⟩
    refine steps_cons ?_ ?_
    ·rintro b a w' ⟨ha, Q_B, Q_S⟩ hb_ hon hoff
     refine ⟨_, rfl, fun K hK => ?_⟩
     have e36 := psn ha 0 rfl rfl (hon 1 (by kernel_rfl)) rfl
     replace ha := Am ha
     have B := Am (Q_B (hoff 8 (by kernel_rfl)))
     have hs := pw_cell_below (drawn_below B.out) x1.out
     refine value_ (w1 := w') (v := .int .u8 b1) (by rfl) rfl ?_ ?_
     ·go_simp
      (try simp only [i64_w])
      try rfl
     refine hK.out _ _ ⟨(puk ha 1 hb_ rfl rfl rfl), Q_B, fun h0_ => hof (hoff 8 (by kernel_rfl)) h0_⟩
    refine steps_cons ?_ ?_
    ·rintro b a w' ⟨ha, Q_B, Q_S⟩ hb_ hon hoff
     refine ⟨_, rfl, fun K hK => ?_⟩
     have e2 : a.tmps[2]? = some (.pointer (some ⟨gc, 0, none⟩)) := by rw [ha]; exact (putSel_off rfl).trans rfl
     replace ha := Am ha
     refine value_ (w1 := w') (v := .pointer (some ⟨gc, 0, none⟩)) (by rfl) rfl ?_ ?_
     ·go_simp
      (try simp only [i64_w])
      try rfl
     refine hK.out _ _ ⟨(puk ha 2 hb_ rfl rfl rfl), Q_B, fun h0_ => hof (hoff 8 (by kernel_rfl)) h0_⟩
    refine steps_cons ?_ ?_
    ·rintro b a w' ⟨ha, Q_B, Q_S⟩ hb_ hon hoff
     refine ⟨_, rfl, fun K hK => ?_⟩
     have e38 := psn ha 2 rfl rfl (hon 3 (by kernel_rfl)) rfl
     replace ha := Am ha
     have B := Am (Q_B (hoff 8 (by kernel_rfl)))
     have hs : w'.cell? ⟨gc, 0, none⟩ = some (.int .u8 kd) := blk_cell (blk_below HC.out (drawn_below B.out)) 0
     refine value_ (w1 := w') (v := .int .u8 kd) (by rfl) rfl ?_ ?_
     ·go_simp
      (try simp only [i64_w])
      try rfl
     refine hK.out _ _ ⟨(puk ha 3 hb_ rfl rfl rfl), Q_B, fun h0_ => hof (hoff 8 (by kernel_rfl)) h0_⟩
    refine steps_cons ?_ ?_
    ·rintro b a w' ⟨ha, Q_B, Q_S⟩ hb_ hon hoff
     refine ⟨_, rfl, fun K hK => ?_⟩
     have e39 := psn ha 3 rfl rfl (hon 4 (by kernel_rfl)) rfl
     replace ha := Am ha
     have B := Am (Q_B (hoff 8 (by kernel_rfl)))
     refine goes_ Tryd.func88 (by kernel_rfl) rfl #[.int .u8 kd] (by rfl) rfl rfl (by first | (simp only [List.map_toArray, List.map_cons, List.map_nil, Act.eval, Array.getD_eq_getD_getElem?, Option.getD_some, e39]; done) | (simp only [List.map_toArray, List.map_cons, List.map_nil, Act.eval, Array.getD_eq_getD_getElem?, Option.getD_some, e39]; rfl)) ?_
     refine (mask_calls kd w').mono ?_
     rintro e w1 ⟨rfl, hD1⟩
     refine ⟨_, rfl, ?_⟩
     refine hK.out _ _ ⟨(puk ha 4 hb_ rfl rfl rfl), fun _ => drawn_trans B.out hD1, fun h0_ => hof (hoff 8 (by kernel_rfl)) h0_⟩
    refine steps_cons ?_ ?_
    ·rintro b a w' ⟨ha, Q_B, Q_S⟩ hb_ hon hoff
     refine ⟨_, rfl, fun K hK => ?_⟩
     have e37 := psn ha 1 rfl rfl (hon 2 (by kernel_rfl)) rfl
     have e40 := psn ha 4 rfl rfl (hon 5 (by kernel_rfl)) rfl
     replace ha := Am ha
     have B := Am (Q_B (hoff 8 (by kernel_rfl)))
     refine value_ (w1 := w') (v := .int .u8 fl) (by rfl) rfl (by go_simp; first | done | exact HFL.out) ?_
     refine hK.out _ _ ⟨(puk ha 5 hb_ rfl rfl rfl), fun _ => B.out, fun h0_ => hof (hoff 8 (by kernel_rfl)) h0_⟩
    refine steps_cons ?_ ?_
    ·rintro b a w' ⟨ha, Q_B, Q_S⟩ hb_ hon hoff
     refine ⟨_, rfl, fun K hK => ?_⟩
     have e2 : a.tmps[2]? = some (.pointer (some ⟨gc, 0, none⟩)) := by rw [ha]; exact (putSel_off rfl).trans rfl
     replace ha := Am ha
     refine value_ (w1 := w') (v := .pointer (some ⟨gc, 1, none⟩)) (by rfl) rfl ?_ ?_
     ·go_simp
      (try simp only [i64_w])
      try rfl
     refine hK.out _ _ ⟨(puk ha 6 hb_ rfl rfl rfl), Q_B, fun h0_ => hof (hoff 8 (by kernel_rfl)) h0_⟩
    refine steps_cons ?_ ?_
    ·rintro b a w' ⟨ha, Q_B, Q_S⟩ hb_ hon hoff
     refine ⟨_, rfl, fun K hK => ?_⟩
     have e42 := psn ha 6 rfl rfl (hon 7 (by kernel_rfl)) rfl
     have e41 := psn ha 5 rfl rfl (hon 6 (by kernel_rfl)) rfl
     replace ha := Am ha
     have B := Am (Q_B hb_)
     have hs : w'.cell? ⟨gc, 1, none⟩ = some (.int .u8 0) := blk_cell (blk_below HC.out (drawn_below B.out)) 1
     have hf := blk_frozen (blk_below HC.out (drawn_below B.out)) 1
     refine skip_ (w1 := w'.setCell ⟨gc, 1, none⟩ (.int .u8 fl)) (by rfl) rfl (by go_simp; try rfl) ?_
     refine hK.out _ _ ⟨(by rw [ha.out]; exact putSel_none (v := undef) rfl), fun h0_ => absurd ((up_self b 8).symm.trans h0_) (by decide), fun _ => ⟨w', B.out, rfl⟩⟩
    exact steps_nil
   rintro b a w' hall ⟨ha, Q_B, Q_S⟩
   clear B
   have hb1_ := hall 1 (by kernel_rfl)
   have hb2_ := hall 2 (by kernel_rfl)
   have hb3_ := hall 3 (by kernel_rfl)
   have hb4_ := hall 4 (by kernel_rfl)
   have hb5_ := hall 5 (by kernel_rfl)
   have hb6_ := hall 6 (by kernel_rfl)
   have hb7_ := hall 7 (by kernel_rfl)
   have hb8_ := hall 8 (by kernel_rfl)
   subst ha
   simp only [putSel, hb1_, hb2_, hb3_, hb4_, hb5_, hb6_, hb7_, hb8_, if_true, Act.put, List.setIfInBounds_toArray, List.set_cons_zero, List.set_cons_succ]
   clear Q_B
   have S := Am (Q_S hb8_)
   clear Q_S
   clear hall hb1_ hb2_ hb3_ hb4_ hb5_ hb6_ hb7_ hb8_
   refine ⟨trivial, ?_⟩
   obtain ⟨w2, hD, hw⟩ := S.out
   have hs2 := (drawn_below hD).size
   have HC2 := Lh (blk_put (blk_below HC.out (drawn_below hD)) 1 (.int .u8 fl) (show _ = freshV kd fl from rfl))
   have HN2 := Lh (blk_far (p := ⟨gc, 1, none⟩) (blk_below HN.out (drawn_below hD)) (by have := HG.out; show gn ≠ gc; omega) (.int .u8 fl))
   have HE2 := Lh (blk_far (p := ⟨gc, 1, none⟩) (blk_below HE.out (drawn_below hD)) (by have := HG.out; show ge ≠ gc; omega) (.int .u8 fl))
   have HB2 := Lh ((below_then HB.out HB.out.size (drawn_below hD)).setCell (p := ⟨gc, 1, none⟩) (by have := HG.out; show w.heap.size ≤ gc; omega) (.int .u8 fl))
   rw [← hw] at HC2 HN2 HE2 HB2
   clear HC HN HE HB S x1 hw hD hs2 HFL
   have HC := HC2
   have HN := HN2
   have HE := HE2
   have HB := HB2
   clear HC2 HN2 HE2 HB2
   generalize w' = W at *
   obtain ⟨Av, hcut, hCv, hcl⟩ := mid_bytes (w := w) (A := some ad) (c := c) (l := lb) (by rw [hL]; exact HBY.out) (by omega) 4 sz (by omega) (by omega)
   rw [hL] at hcut
   have hvl : ((lb.take sz).drop 4).length ≤ 65536 := by rw [List.length_drop, List.length_take]; omega
   have HDD := Lh (show ∀ d, readD kd fl ((lb.take sz).drop 4) = .ok d → decC lb = (d, ((min ((sz + 3) / 4 * 4) L : Nat) : Int), 0) from fun d hd => by unfold decC; rw [if_neg (by omega), HS.out, if_neg (by omega), HKD.out, HB1.out, HFL2.out, hd, hL])
   have HDB := Lh (show ∀ code, readD kd fl ((lb.take sz).drop 4) = .error code → decC lb = (chk0 0 0, 0, code) from fun d hd => by unfold decC; rw [if_neg (by omega), HS.out, if_neg (by omega), HKD.out, HB1.out, HFL2.out, hd])
   have HRC := Lh (HRX.out (by omega) kd fl ((lb.take sz).drop 4) HKD.out (by rw [HS.out]))
   clear HRX
   generalize (lb.take sz).drop 4 = v at *
   have hcut2 : ∀ W : World, (Instr.slice 27 (.slice (some ad) L c) (some (.int .i64 4)) (some (.int .i64 (sz : Int))) none).run Tryd.prog W = .ok (.slice Av v.length (c - 4)) W := hcut
   have HR := Lh (fun o : Obj => fun (ho : o = .cells #[.slice Av v.length (c - 4)] 133) => HRC.out w (W.alloc o) W.heap.size gc ⟨Av, c - 4, by rw [ho]; exact blk_new _ _, hcl, hCv⟩ (blk_alloc HC.out _) (HB.out.alloc HB.out.size _) HB.out.size (by have := HG.out; omega) (fun e => by have := blk_lt HC.out; omega) (by omega))
   clear hcut hCv hcl hvl
   generalize v.length = nv at *
   generalize c - 4 = c4 at *
   go_wp2_with fail
   refine (HR.out _ rfl).mono ?_
   intro e W4 hP
   have hgN := blk_lt HN.out
   have hgE := blk_lt HE.out
   have hgC := blk_lt HC.out
   unfold ReadP at hP
   cases hr : readD kd fl v with
   | error code =>
    rw [hr] at hP
    obtain ⟨rfl, ⟨x0', hx0, hxs⟩, hO⟩ := hP
    have HDE := Lh (HDB.out code hr)
    unfold errE
    have hN4 := hO.blk (blk_alloc HN.out _) (fun h => by have := HG.out; omega)
    have hE4 := hO.blk (blk_alloc HE.out _) (fun h => by have := HG.out; omega)
    have hB4 := (HB.out.alloc HB.out.size _).trans (hO.below (by have := HB.out.size; simp; omega) (fun k hk => by have := HG.out; have := HB.out.size; omega))
    go_wp2
    refine leaves_cons (f := 91) (args := #[.pointer (some ⟨gc, 0, none⟩), .pointer (some ⟨gn, 0, none⟩), .pointer (some ⟨ge, 0, none⟩)]) (by simp) (by simp [go_sem]) ?_
    refine (catch_err gc gn ge code [] _ _ _ _ _ _ hx0 hxs hN4 hE4 (by have := HG.out; omega) (by have := HG.out; omega) (by have := HG.out; omega)).mono ?_
    rintro e u' w'' ⟨rfl, rfl, h0, h1, h2, hO2⟩
    exact ⟨_, decC_results _ _ _ _ _ _ _ _ rfl rfl rfl rfl h0 h1 h2, freshV 0 0, by rw [HDE.out], by rw [HDE.out]; exact mnil _ _ _ _, hB4.trans (hO2.below hB4.size (fun k hk => by have := HG.out; omega))⟩
   | ok d =>
    rw [hr] at hP
    obtain ⟨rfl, cs, hc4, hm4, hO⟩ := hP
    have HDE := Lh (HDD.out d hr)
    have HN4 := Lh (hO.blk (blk_alloc HN.out _) (fun h => by have := HG.out; omega))
    have HE4 := Lh (hO.blk (blk_alloc HE.out _) (fun h => by have := HG.out; omega))
    have HB4 := Lh ((HB.out.alloc HB.out.size _).trans (hO.below (by have := HB.out.size; simp; omega) (fun k hk => by have := HG.out; have := HB.out.size; omega)))
    have hcs : cs.size = 15 := by
     have h15 : cs.toList.length = 15 := Kd.K_len _ (Kd.K_of_M _ hm4)
     rw [Array.length_toList] at h15
     exact h15
    have HCI := Lh (show (Tryd.prog.info? 41).map (·.size) = some cs.size by rw [hcs]; kernel_rfl)
    have HC1 := Lh (show cs.all (·.oneCell') = true by
     rw [← Array.all_toList]
     exact List.all_eq_true.2 (fun u hu => Kd.K_one _ (Kd.K_of_M _ hm4) u hu))
    have HM4 := Lh (Kd.M_lower _ (base' := W.heap.size) (by simp) hm4)
    have HBS := Lh HB.out.size
    clear HC HN HE HB hO hm4 HR
    have HGB := Lh (show w.heap.size ≤ W.heap.size from HBS.out)
    generalize W.heap.size = gw at *
    have HC := Lh hc4
    have HN := HN4
    have HE := HE4
    have HB := HB4
    clear hc4 HN4 HE4 HB4
    have HW := Lh (show gw < W4.heap.size ∨ True from Or.inr trivial)
    generalize W4 = W at *
    obtain ⟨pd, hpd⟩ : ∃ pd, (sz + 3) / 4 * 4 = pd := ⟨_, rfl⟩
    have HPD := Lh (fun W : World => padded_calls sz (by omega) W)
    rw [hpd] at HPD HDE
    obtain ⟨mn, hmn⟩ : ∃ mn, min pd L = mn := ⟨_, rfl⟩
    rw [hmn] at HDE
    have hmin : Hid ((if L < pd then (L : Int) else (pd : Int)) = (mn : Int)) := by
     show _ = _
     split <;> omega
    have HCN := Lh (show gc ≠ gn by have := HG.out; omega)
    have HCE := Lh (show gc ≠ ge by have := HG.out; omega)
    have HEN := Lh (show ge ≠ gn by have := HG.out; omega)
    have HNE := Lh (show gn ≠ ge by have := HG.out; omega)
    have HGW := Lh (show gn < gw ∧ ge < gw from ⟨hgN, hgE⟩)
    have HCS := Lh hcs
    clear hpd hmn hgN hgE hgC hcs hr
    go_upto_region 11 with (fail)
    have B := True.intro
    have C := True.intro
    have N := True.intro
    have E := True.intro
    refine calm ?_
    refine start_ (n := 9) (S := fun w' => True) (ds := []) #[false, false, false, false, false, false, false, false, false] (by kernel_rfl) rfl rfl trivial (fun hHeld => ?_)
    refine with_tabW decBtab11 decBbits11 (fun HT_ HW_ => ?_)
    refine pure_ (i := 1) (N := some 52) (v := ?_) (a' := ?_) #[false, true, false, false, false, false, false, false, false] rfl rfl (any_of HT_.out (by kernel_rfl)) (fun _ _ _ h => h.1.elim) (Or.inl ⟨by rfl, ?_⟩) ?_ ?_
    rotate_left
    ·intro w'
     go_simp
     with_reducible rfl
    rotate_left
    ·simp only [Act.put, List.setIfInBounds_toArray, List.set_cons_zero, List.set_cons_succ, i64_w, i32_w]
     rfl
    refine pure_ (i := 3) (N := some 54) (v := ?_) (a' := ?_) #[false, true, false, true, false, false, false, false, false] rfl rfl (any_of HT_.out (by kernel_rfl)) (fun _ _ _ h => h.1.elim) (Or.inl ⟨by rfl, ?_⟩) ?_ ?_
    rotate_left
    ·intro w'
     go_simp
     with_reducible rfl
    rotate_left
    ·simp only [Act.put, List.setIfInBounds_toArray, List.set_cons_zero, List.set_cons_succ, i64_w, i32_w]
     rfl
    refine inv_at [0, 2, 4, 5, 6, 7, 8] (fun a0_ b a w' => a = putSel a0_ b [(0, 51, .agg cs), (2, 53, .int .i64 (pd : Int)), (4, 55, .int .i64 (L : Int)), (5, 56, .int .i64 (mn : Int))] ∧ (Only (fun k => k = gn ∨ k = ge) W w') ∧ (w'.heap[gc]? = some (.cells cs 41 (0, 0))) ∧ (b 7 = false → w'.heap[gn]? = some (.cells #[.int .i64 0] 3 (0, 0))) ∧ (b 7 = true → w'.heap[gn]? = some (.cells #[.int .i64 (mn : Int)] 3 (0, 0))) ∧ (w'.heap[ge]? = some (.cells #[.int .i64 0] 28 (0, 0)))) HT_.out HW_.out (by kernel_rfl) (by kernel_rfl) ?_ ?_ ?_
    ·exact ⟨by simp only [putSel, Bool.false_eq_true, if_false], (Only.refl _ _).drew, HC.out, fun _ => HN.out, fun h_ => absurd h_ (by decide), HE.out⟩
    ·skip
     clear B C E N
     refine steps_cons ?_ ?_
     ·rintro b a w' ⟨ha, Q_B, Q_C, Q_N, Q_N2, Q_E⟩ hb_ hon hoff
      refine ⟨_, rfl, fun K hK => ?_⟩
      have e2 : a.tmps[2]? = some (.pointer (some ⟨gc, 0, none⟩)) := by rw [ha]; exact (putSel_off rfl).trans rfl
      replace ha := Am ha
      have B := Am Q_B
      have C := Am Q_C
      have N := Am (Q_N (hoff 7 (by kernel_rfl)))
      have E := Am Q_E
      refine value_ (w1 := w') (v := .agg cs) (by rfl) rfl (exec_load_row 41 (.tmp 2) rfl (eval_of e2) C.out Tryd.underlying41 rfl HCI.out) ?_
      refine hK.out _ _ ⟨(puk ha 0 hb_ rfl rfl rfl), B.out, C.out, fun _ => N.out, fun h0_ => hof (hoff 7 (by kernel_rfl)) h0_, E.out⟩
     refine steps_cons ?_ ?_
     ·rintro b a w' ⟨ha, Q_B, Q_C, Q_N, Q_N2, Q_E⟩ hb_ hon hoff
      refine ⟨_, rfl, fun K hK => ?_⟩
      have e52 : a.tmps[52]? = some (.int .i64 (sz : Int)) := by rw [ha]; exact (putSel_off rfl).trans rfl
      replace ha := Am ha
      have B := Am Q_B
      have C := Am Q_C
      have N := Am (Q_N (hoff 7 (by kernel_rfl)))
      have E := Am Q_E
      refine goes_ Tryd.func54 (by kernel_rfl) rfl #[.int .i64 (sz : Int)] (by rfl) rfl rfl (by first | (simp only [List.map_toArray, List.map_cons, List.map_nil, Act.eval, Array.getD_eq_getD_getElem?, Option.getD_some, e52]; done) | (simp only [List.map_toArray, List.map_cons, List.map_nil, Act.eval, Array.getD_eq_getD_getElem?, Option.getD_some, e52]; rfl)) ?_
      refine (HPD.out w').mono ?_
      rintro e w1 ⟨rfl, hD1⟩
      refine ⟨_, rfl, ?_⟩
      refine hK.out _ _ ⟨(puk ha 1 hb_ rfl rfl rfl), B.out.trans (Only.of_below (S := fun _ => False) (drawn_below hD1)) (fun k _ h => h.elim), blk_below C.out (drawn_below hD1), fun _ => blk_below N.out (drawn_below hD1), fun h0_ => hof (hoff 7 (by kernel_rfl)) h0_, blk_below E.out (drawn_below hD1)⟩
     refine steps_cons ?_ ?_
     ·rintro b a w' ⟨ha, Q_B, Q_C, Q_N, Q_N2, Q_E⟩ hb_ hon hoff
      refine ⟨_, rfl, fun K hK => ?_⟩
      have e54 : a.tmps[54]? = some (.slice (some ad) L c) := by rw [ha]; exact (putSel_off rfl).trans rfl
      replace ha := Am ha
      refine value_ (w1 := w') (v := .int .i64 (L : Int)) (by rfl) rfl ?_ ?_
      ·go_simp
       (try simp only [i64_w])
       try rfl
      refine hK.out _ _ ⟨(puk ha 2 hb_ rfl rfl rfl), Q_B, Q_C, Q_N, fun h0_ => hof (hoff 7 (by kernel_rfl)) h0_, Q_E⟩
     refine steps_cons ?_ ?_
     ·rintro b a w' ⟨ha, Q_B, Q_C, Q_N, Q_N2, Q_E⟩ hb_ hon hoff
      refine ⟨_, rfl, fun K hK => ?_⟩
      have e53 := psn ha 1 rfl rfl (hon 2 (by kernel_rfl)) rfl
      have e55 := psn ha 2 rfl rfl (hon 4 (by kernel_rfl)) rfl
      replace ha := Am ha
      have B := Am Q_B
      have C := Am Q_C
      have N := Am (Q_N (hoff 7 (by kernel_rfl)))
      have E := Am Q_E
      have hm2 := hmin.out
      refine value_ (w1 := w') (v := .int .i64 (mn : Int)) (by rfl) rfl (by go_simp; first | done | exact hm2 | rw [hm2]) ?_
      refine hK.out _ _ ⟨(puk ha 3 hb_ rfl rfl rfl), B.out, C.out, fun _ => N.out, fun h0_ => hof (hoff 7 (by kernel_rfl)) h0_, E.out⟩
     refine steps_cons ?_ ?_
     ·rintro b a w' ⟨ha, Q_B, Q_C, Q_N, Q_N2, Q_E⟩ hb_ hon hoff
      refine ⟨_, rfl, fun K hK => ?_⟩
      have e2 : a.tmps[2]? = some (.pointer (some ⟨gc, 0, none⟩)) := by rw [ha]; exact (putSel_off rfl).trans rfl
      have e51 := psn ha 0 rfl rfl (hon 0 (by kernel_rfl)) rfl
      replace ha := Am ha
      have B := Am Q_B
      have C := Am Q_C
      have N := Am (Q_N (hoff 7 (by kernel_rfl)))
      have E := Am Q_E
      refine skip_ (w1 := w'.setRow gc cs) (by rfl) rfl (exec_store_row 41 (.tmp 2) (.tmp 51) rfl (eval_of e2) (eval_of e51) C.out HCI.out rfl HC1.out) ?_
      rw [setRow_self _ _ _ _ _ C.out]
      refine hK.out _ _ ⟨(by rw [ha.out]; exact putSel_none (v := undef) rfl), B.out, C.out, fun _ => N.out, fun h0_ => hof (hoff 7 (by kernel_rfl)) h0_, E.out⟩
     refine steps_cons ?_ ?_
     ·rintro b a w' ⟨ha, Q_B, Q_C, Q_N, Q_N2, Q_E⟩ hb_ hon hoff
      refine ⟨_, rfl, fun K hK => ?_⟩
      have e3 : a.tmps[3]? = some (.pointer (some ⟨gn, 0, none⟩)) := by rw [ha]; exact (putSel_off rfl).trans rfl
      have e56 := psn ha 3 rfl rfl (hon 5 (by kernel_rfl)) rfl
      replace ha := Am ha
      have B := Am Q_B
      have C := Am Q_C
      have N := Am (Q_N hb_)
      have E := Am Q_E
      have hs : w'.cell? ⟨gn, 0, none⟩ = some (.int .i64 0) := blk_cell N.out 0
      have hf := blk_frozen N.out 0
      refine skip_ (w1 := w'.setCell ⟨gn, 0, none⟩ (.int .i64 (mn : Int))) (by rfl) rfl (by go_simp; try rfl) ?_
      refine hK.out _ _ ⟨(by rw [ha.out]; exact putSel_none (v := undef) rfl), B.out.setCell (fun _ => Or.inl rfl) _, blk_far (p := ⟨gn, 0, none⟩) C.out HCN.out _, fun h0_ => absurd ((up_self b 7).symm.trans h0_) (by decide), fun _ => blk_put N.out 0 (.int .i64 (mn : Int)) rfl, blk_far (p := ⟨gn, 0, none⟩) E.out HEN.out _⟩
     refine steps_cons ?_ ?_
     ·rintro b a w' ⟨ha, Q_B, Q_C, Q_N, Q_N2, Q_E⟩ hb_ hon hoff
      refine ⟨_, rfl, fun K hK => ?_⟩
      have e4 : a.tmps[4]? = some (.pointer (some ⟨ge, 0, none⟩)) := by rw [ha]; exact (putSel_off rfl).trans rfl
      replace ha := Am ha
      have B := Am Q_B
      have C := Am Q_C
      have N2 := Am (Q_N2 (hon 7 (by kernel_rfl)))
      have E := Am Q_E
      have hs : w'.cell? ⟨ge, 0, none⟩ = some (.int .i64 0) := blk_cell E.out 0
      have hf := blk_frozen E.out 0
      refine skip_ (w1 := w'.setCell ⟨ge, 0, none⟩ (.int .i64 0)) (by rfl) rfl (by go_simp; try rfl) ?_
      refine hK.out _ _ ⟨(by rw [ha.out]; exact putSel_none (v := undef) rfl), B.out.setCell (fun _ => Or.inr rfl) _, blk_far (p := ⟨ge, 0, none⟩) C.out HCE.out _, fun h0_ => absurd ((hon 7 (by kernel_rfl)).symm.trans h0_) (by decide), fun _ => blk_far (p := ⟨ge, 0, none⟩) N2.out HNE.out _, blk_put E.out 0 (.int .i64 0) rfl⟩
     exact steps_nil
    rintro b a w' hall ⟨ha, Q_B, Q_C, Q_N, Q_N2, Q_E⟩
    clear B C E N
    have hb0_ := hall 0 (by kernel_rfl)
    have hb2_ := hall 2 (by kernel_rfl)
    have hb4_ := hall 4 (by kernel_rfl)
    have hb5_ := hall 5 (by kernel_rfl)
    have hb6_ := hall 6 (by kernel_rfl)
    have hb7_ := hall 7 (by kernel_rfl)
    have hb8_ := hall 8 (by kernel_rfl)
    subst ha
    simp only [putSel, hb0_, hb2_, hb4_, hb5_, hb6_, hb7_, hb8_, if_true, Act.put, List.setIfInBounds_toArray, List.set_cons_zero, List.set_cons_succ]
    have B := Am Q_B
    clear Q_B
    have C := Am Q_C
    clear Q_C
    clear Q_N
    have N2 := Am (Q_N2 hb7_)
    clear Q_N2
    have E := Am Q_E
    clear Q_E
    clear hall hb0_ hb2_ hb4_ hb5_ hb6_ hb7_ hb8_
    refine ⟨trivial, ?_⟩
    have HB9 := Lh B.out
    have HC9 := Lh C.out
    have HN9 := Lh N2.out
    have HE9 := Lh E.out
    clear B C N2 E HC HN HE
    go_wp2
    refine leaves_cons (f := 91) (args := #[.pointer (some ⟨gc, 0, none⟩), .pointer (some ⟨gn, 0, none⟩), .pointer (some ⟨ge, 0, none⟩)]) (by simp) (by simp [go_sem]) ?_
    refine (catch_idle _ _ _ _).mono ?_
    rintro e u' w'' ⟨rfl, rfl, rfl⟩
    exact ⟨_, decC_results _ _ _ _ _ _ _ _ rfl rfl rfl HCS.out HC9.out HN9.out HE9.out, cs, by rw [HDE.out], by rw [HDE.out]; exact Kd.M_lower _ HGB.out (M_only HM4.out HB9.out (fun k hk _ h => by have := HGW.out; omega)), HB.out.trans (HB9.out.below HB.out.size (fun k hk => by have := HG.out; omega))⟩
theorem decC_calls (w : World) (A : Option Addr) (lb : List UInt8) (c : Nat) (hb : byte.C w A lb.length lb) (hc : lb.length ≤ c) (hn : lb.length ≤ 140737488355328) :
  Calls Tryd.prog 81 #[.slice A lb.length c] w (DecCP lb w) :=
 decC_with w A lb c hb hc hn fun _ kd fl v _ _ w0 w g gc hs hc hB hg hgc hne hv => read_calls w0 w g gc v kd fl hs hc hB hg hgc hne hv
end Go.Proofs.YtdlamomabonkjaaDoor.Ch
end
section
namespace Go.Proofs.YtdlamomabonkjaaDoor.Ch
open Go.RowKit YtdlamomabonkjaaDoorW.PrintWords Base PCh
def WS (w : World) (gw : Nat) (xs : List Int) : Prop := ∃ u, w.heap[gw]? = some (.cells #[u] 87 (0, 0)) ∧ (Kd.int .u8).R 5 w (gw + 1) (fun k => k ≠ gw) u xs
structure Fr (gw : Nat) (w W : World) : Prop where
 below : Below gw w W
 kept : ∀ (k : Nat) (cells : Array Value) (t : TypeId), t ≠ 5 → t ≠ 87 → w.heap[k]? = some (Obj.cells cells t (0, 0)) → W.heap[k]? = some (Obj.cells cells t (0, 0))
theorem Fr.refl (gw : Nat) (w : World) : Fr gw w w := ⟨Below.refl _ _, fun _ _ _ _ _ h => h⟩
theorem Fr.trans {gw : Nat} {a b c : World} (h : Fr gw a b) (k : Fr gw b c) : Fr gw a c := ⟨h.below.trans k.below, fun i cells t h1 h2 h3 => k.kept i cells t h1 h2 (h.kept i cells t h1 h2 h3)⟩
theorem Fr.alloc {gw : Nat} {a b : World} (h : Fr gw a b) (hg : gw ≤ b.heap.size) (x : Obj) : Fr gw a (b.alloc x) := ⟨h.below.alloc hg x, fun i cells t h1 h2 h3 => blk_alloc (h.kept i cells t h1 h2 h3) x⟩
theorem Fr.drewN {gw : Nat} {a b : World} (h : Fr gw a b) (n : Nat) : Fr gw a (b.drewN n) := ⟨pw_below_drewN h.below n, fun i cells t h1 h2 h3 => blk_drewN (h.kept i cells t h1 h2 h3) n⟩
theorem Fr.set {gw : Nat} {a b : World} (h : Fr gw a b) {cs : Array Value} (hg : b.heap[gw]? = some (.cells cs 87 (0, 0))) (i : Nat) (u : Value) : Fr gw a (b.setCell ⟨gw, i, none⟩ u) :=
 ⟨h.below.setCell (Nat.le_refl _) u, fun k cells t h1 h2 h3 => blk_far (h.kept k cells t h1 h2 h3) (by
  intro e
  have h4 := h.kept k cells t h1 h2 h3
  dsimp only at e
  subst e
  rw [hg] at h4
  injection h4 with h4
  injection h4 with _ h5 _
  exact h2 h5.symm) u⟩
theorem Fr.grown {gw base : Nat} {a b c : World} {u : Value} {xs : List Int} {ok : Nat → Prop} (h : Fr gw a b) (hR : (Kd.int .u8).R 5 b base ok u xs) (hB : Below gw b c) (hG : b.grownBy c u.ownBlock) : Fr gw a c :=
 ⟨h.below.trans hB, fun k cells t h1 h2 h3 => blk_grown (h.kept k cells t h1 h2 h3) hG (Kd.R_ne hR (h.kept k cells t h1 h2 h3) (fun e => h1 e.symm))⟩
theorem Fr.C_lit {gw g t n : Nat} {w W : World} {cells : Array Value} {kk : IntKind} {ns : List Int} (h : Fr gw w W) (h1 : t ≠ 5) (h2 : t ≠ 87) (hg : w.heap[g]? = some (.cells cells t (0, 0))) (hC : (Kd.int kk).C w (some ⟨g, 0, none⟩) n ns) : (Kd.int kk).C W (some ⟨g, 0, none⟩) n ns := by
 obtain ⟨e1, e2, e3⟩ := hC
 refine ⟨e1, e2, fun hn => ?_⟩
 obtain ⟨ad, e, hc⟩ := e3 hn
 injection e with e
 subst e
 refine ⟨_, rfl, fun j p hj => ?_⟩
 obtain ⟨cs, c1, c2, c3⟩ := hc j p hj
 refine ⟨cs, c1, c2, fun i u hu => ?_⟩
 have := c3 i u hu
 have hb : (Addr.add ⟨g, 0, none⟩ (j * (Kd.int kk).sz + i)).block = g := add_block _ _
 unfold World.cell? at this ⊢
 rw [hb, h.kept g cells t h1 h2 hg]
 rw [hb, hg] at this
 exact this
def twoL : List Int → List Int
 | [] => []
 | n :: r => [n / 256 % 256, n % 256] ++ twoL r
def fourL : List Int → List Int
 | [] => []
 | n :: r => [n / 16777216 % 256, n / 65536 % 256, n / 256 % 256, n % 256] ++ fourL r
theorem twoL_length (l : List Int) : (twoL l).length = 2 * l.length := by
 induction l with
 | nil => rfl
 | cons n r ih => simp only [twoL, List.length_append, List.length_cons, List.length_nil, ih]; omega
theorem fourL_length (l : List Int) : (fourL l).length = 4 * l.length := by
 induction l with
 | nil => rfl
 | cons n r ih => simp only [fourL, List.length_append, List.length_cons, List.length_nil, ih]; omega
set_option maxHeartbeats 2000000 in
theorem wtwo_calls (w : World) (gw : Nat) (xs : List Int) (A : Option Addr) (c : Nat) (ns : List Int) (hs : WS w gw xs) (hA : ∀ W, Fr gw w W → (Kd.int .u16).C W A ns.length ns) (hx : xs.length + 2 * ns.length ≤ 140737488355328) :
  Calls Tryd.prog 53 #[.pointer (some ⟨gw, 0, none⟩), .slice A ns.length c] w fun e w' => e = .returned (.tuple #[]) ∧ WS w' gw (xs ++ twoL ns) ∧ Fr gw w w' := by
 have HS := Lh hs
 have HA := Lh hA
 have hm := (hA w (Fr.refl _ _)).2.1
 clear hs hA
 go_enter Tryd.func53, Tryd.ntmps53
 go_wp2
 go_loopw [5, 8] (fun v5 v8 wr => ∃ (i : Nat) (ys : List Int), i ≤ ns.length ∧ v8 = .int .i64 (i : Int) ∧ Hid (ys.length = xs.length + 2 * i) ∧ Hid (ys ++ twoL (ns.drop i) = xs ++ twoL ns) ∧ Hid (WS wr gw ys) ∧ Hid (Fr gw w wr)) (fun _ v8 _ => ns.length - (intOf v8).toNat)
 case atStart => exact ⟨0, xs, Nat.zero_le _, rfl, (by show _ = _; omega), rfl, HS.out, Fr.refl _ _⟩
 case round =>
  clear HS
  obtain ⟨i, ys, hi, rfl, HYL, HE, HW, HF⟩ := hrel
  by_cases hlt : i < ns.length
  ·obtain ⟨ad, rfl, x0⟩ := int_at (HA.out wr HF.out) i hlt
   obtain ⟨u, hg, hR⟩ := HW.out
   obtain ⟨Au, cu, rfl⟩ := Kd.R_slice hR
   have hE := HE.out
   have hd : ns.drop i = ns.getD i 0 :: ns.drop (i + 1) := by
    rw [List.drop_eq_getElem_cons hlt]
    congr 1
    simp [List.getD_eq_getElem?_getD, hlt]
   rw [hd, twoL] at hE
   generalize ns.getD i 0 = q at *
   have hE2 : (ys ++ [q / 256 % 256, q % 256]) ++ twoL (ns.drop (i + 1)) = xs ++ twoL ns := by rw [List.append_assoc]; exact hE
   have HE2 := Lh hE2
   have HG := Lh hg
   have HR := Lh hR
   have k0 : wr.cell? ⟨gw, 0, none⟩ = some (.slice Au ys.length cu) := blk_cell hg 0
   have HLT := Lh (blk_lt hg)
   clear hE hE2 hd HE HW hg hR
   go_wp2_with (at_builtin; go_must (refine Kd.R_append_row (Value.int .u8) (0 : Int) (w0 := wr.alloc (.cells #[.int .u8 (q / 256 % 256), .int .u8 (q % 256)] 5)) (W := wr.alloc (.cells #[.int .u8 (q / 256 % 256), .int .u8 (q % 256)] 5)) (gw + 1) rfl _ _ 27 5 _ 1 rfl Tryd.underlying27 info_u8 rfl (by decide) (.slice Au ys.length cu) ys [q / 256 % 256, q % 256] (some ⟨wr.heap.size, 0, none⟩) 2 2 (fun k => k ≠ gw) rfl rfl (fun k hk => by have := HLT.out; simp at hk; omega) (Kd.R_alloc HR.out _) (row_lit (Kd.int .u8) rfl wr 5 [.int .u8 (q / 256 % 256), .int .u8 (q % 256)] [q / 256 % 256, q % 256] rfl (by simp) (fun j v p hv hp => by rcases j with _ | _ | j <;> simp at hv hp <;> (subst hv; subst hp; rfl))) (Below.refl _ _) (by have := HLT.out; simp; omega) (by have := HYL.out; omega) ?_); (intro v1 w1 hR1 hB1 hG1 _; have HR1 := Lh hR1; have HB1 := Lh hB1; have HGR := Lh hG1; clear hR1 hB1 hG1; refine RowKit.Hid.out ?_))
   refine Lh ?_
   obtain ⟨A7, c7, hv1⟩ := Kd.R_slice HR1.out
   subst hv1
   have hown : (Value.slice Au ys.length cu).ownBlock ≠ some gw := fun e => (Kd.R_alloc HR.out (.cells #[.int .u8 (q / 256 % 256), .int .u8 (q % 256)] 5)).1 _ e rfl
   have hg1 := blk_grown (blk_alloc HG.out (.cells #[.int .u8 (q / 256 % 256), .int .u8 (q % 256)] 5)) HGR.out (fun e => hown e.symm)
   have hs := blk_cell hg1 0
   have hf := blk_frozen hg1 0
   have HG1 := Lh hg1
   have HF1 := Lh (Fr.grown (HF.out.alloc (Nat.le_of_lt HLT.out) (.cells #[.int .u8 (q / 256 % 256), .int .u8 (q % 256)] 5)) (Kd.R_alloc HR.out _) (HB1.out.mono (Nat.le_succ _)) HGR.out)
   have HR2 := Lh (Kd.R_far HR1.out (p := ⟨gw, 0, none⟩) (fun k hk => hk) (.slice A7 (ys ++ [q / 256 % 256, q % 256]).length c7))
   rw [show (ys ++ [q / 256 % 256, q % 256]).length = ys.length + 2 by simp] at HR2
   clear hg1 HGR HB1 HF HR HG k0
   go_wp2
   go_roundw
   case rel => exact ⟨i + 1, ys ++ [q / 256 % 256, q % 256], by omega, by go_num, (by have := HYL.out; show _ = _; simp only [List.length_append, List.length_cons, List.length_nil]; omega), HE2, ⟨_, blk_put HG1.out 0 _ rfl, HR2.out⟩, HF1.out.set HG1.out 0 _⟩
   case measure => simp [intOf]; omega
  ·obtain rfl : i = ns.length := by omega
   have hE := HE.out
   rw [List.drop_length, twoL, List.append_nil] at hE
   have HE2 := Lh hE
   clear hE HE HA
   go_wp2
   go_end0
   exact ⟨rfl, by rw [← HE2.out]; exact HW.out, HF.out⟩
set_option maxHeartbeats 2000000 in
theorem wfour_calls (w : World) (gw : Nat) (xs : List Int) (A : Option Addr) (c : Nat) (ns : List Int) (hs : WS w gw xs) (hA : ∀ W, Fr gw w W → (Kd.int .u32).C W A ns.length ns) (hx : xs.length + 4 * ns.length ≤ 140737488355328) :
  Calls Tryd.prog 76 #[.pointer (some ⟨gw, 0, none⟩), .slice A ns.length c] w fun e w' => e = .returned (.tuple #[]) ∧ WS w' gw (xs ++ fourL ns) ∧ Fr gw w w' := by
 have HS := Lh hs
 have HA := Lh hA
 have hm := (hA w (Fr.refl _ _)).2.1
 clear hs hA
 go_enter Tryd.func76, Tryd.ntmps76
 go_wp2
 go_loopw [5, 8] (fun v5 v8 wr => ∃ (i : Nat) (ys : List Int), i ≤ ns.length ∧ v8 = .int .i64 (i : Int) ∧ Hid (ys.length = xs.length + 4 * i) ∧ Hid (ys ++ fourL (ns.drop i) = xs ++ fourL ns) ∧ Hid (WS wr gw ys) ∧ Hid (Fr gw w wr)) (fun _ v8 _ => ns.length - (intOf v8).toNat)
 case atStart => exact ⟨0, xs, Nat.zero_le _, rfl, (by show _ = _; omega), rfl, HS.out, Fr.refl _ _⟩
 case round =>
  clear HS
  obtain ⟨i, ys, hi, rfl, HYL, HE, HW, HF⟩ := hrel
  by_cases hlt : i < ns.length
  ·obtain ⟨ad, rfl, x0⟩ := int_at (HA.out wr HF.out) i hlt
   obtain ⟨u, hg, hR⟩ := HW.out
   obtain ⟨Au, cu, rfl⟩ := Kd.R_slice hR
   have hE := HE.out
   have hd : ns.drop i = ns.getD i 0 :: ns.drop (i + 1) := by
    rw [List.drop_eq_getElem_cons hlt]
    congr 1
    simp [List.getD_eq_getElem?_getD, hlt]
   rw [hd, fourL] at hE
   generalize ns.getD i 0 = q at *
   have hE2 : (ys ++ [q / 16777216 % 256, q / 65536 % 256, q / 256 % 256, q % 256]) ++ fourL (ns.drop (i + 1)) = xs ++ fourL ns := by rw [List.append_assoc]; exact hE
   have HE2 := Lh hE2
   have HG := Lh hg
   have HR := Lh hR
   have k0 : wr.cell? ⟨gw, 0, none⟩ = some (.slice Au ys.length cu) := blk_cell hg 0
   have HLT := Lh (blk_lt hg)
   clear hE hE2 hd HE HW hg hR
   go_wp2_with (at_builtin; go_must (refine Kd.R_append_row (Value.int .u8) (0 : Int) (w0 := wr.alloc (.cells #[.int .u8 (q / 16777216 % 256), .int .u8 (q / 65536 % 256), .int .u8 (q / 256 % 256), .int .u8 (q % 256)] 5)) (W := wr.alloc (.cells #[.int .u8 (q / 16777216 % 256), .int .u8 (q / 65536 % 256), .int .u8 (q / 256 % 256), .int .u8 (q % 256)] 5)) (gw + 1) rfl _ _ 27 5 _ 1 rfl Tryd.underlying27 info_u8 rfl (by decide) (.slice Au ys.length cu) ys [q / 16777216 % 256, q / 65536 % 256, q / 256 % 256, q % 256] (some ⟨wr.heap.size, 0, none⟩) 4 4 (fun k => k ≠ gw) rfl rfl (fun k hk => by have := HLT.out; simp at hk; omega) (Kd.R_alloc HR.out _) (row_lit (Kd.int .u8) rfl wr 5 [.int .u8 (q / 16777216 % 256), .int .u8 (q / 65536 % 256), .int .u8 (q / 256 % 256), .int .u8 (q % 256)] [q / 16777216 % 256, q / 65536 % 256, q / 256 % 256, q % 256] rfl (by simp) (fun j v p hv hp => by rcases j with _ | _ | _ | _ | j <;> simp at hv hp <;> (subst hv; subst hp; rfl))) (Below.refl _ _) (by have := HLT.out; simp; omega) (by have := HYL.out; omega) ?_); (intro v1 w1 hR1 hB1 hG1 _; have HR1 := Lh hR1; have HB1 := Lh hB1; have HGR := Lh hG1; clear hR1 hB1 hG1; refine RowKit.Hid.out ?_))
   refine Lh ?_
   obtain ⟨A7, c7, hv1⟩ := Kd.R_slice HR1.out
   subst hv1
   have hown : (Value.slice Au ys.length cu).ownBlock ≠ some gw := fun e => (Kd.R_alloc HR.out (.cells #[.int .u8 (q / 16777216 % 256), .int .u8 (q / 65536 % 256), .int .u8 (q / 256 % 256), .int .u8 (q % 256)] 5)).1 _ e rfl
   have hg1 := blk_grown (blk_alloc HG.out (.cells #[.int .u8 (q / 16777216 % 256), .int .u8 (q / 65536 % 256), .int .u8 (q / 256 % 256), .int .u8 (q % 256)] 5)) HGR.out (fun e => hown e.symm)
   have hs := blk_cell hg1 0
   have hf := blk_frozen hg1 0
   have HG1 := Lh hg1
   have HF1 := Lh (Fr.grown (HF.out.alloc (Nat.le_of_lt HLT.out) (.cells #[.int .u8 (q / 16777216 % 256), .int .u8 (q / 65536 % 256), .int .u8 (q / 256 % 256), .int .u8 (q % 256)] 5)) (Kd.R_alloc HR.out _) (HB1.out.mono (Nat.le_succ _)) HGR.out)
   have HR2 := Lh (Kd.R_far HR1.out (p := ⟨gw, 0, none⟩) (fun k hk => hk) (.slice A7 (ys ++ [q / 16777216 % 256, q / 65536 % 256, q / 256 % 256, q % 256]).length c7))
   rw [show (ys ++ [q / 16777216 % 256, q / 65536 % 256, q / 256 % 256, q % 256]).length = ys.length + 4 by simp] at HR2
   clear hg1 HGR HB1 HF HR HG k0
   go_wp2
   go_roundw
   case rel => exact ⟨i + 1, ys ++ [q / 16777216 % 256, q / 65536 % 256, q / 256 % 256, q % 256], by omega, by go_num, (by have := HYL.out; show _ = _; simp only [List.length_append, List.length_cons, List.length_nil]; omega), HE2, ⟨_, blk_put HG1.out 0 _ rfl, HR2.out⟩, HF1.out.set HG1.out 0 _⟩
   case measure => simp [intOf]; omega
  ·obtain rfl : i = ns.length := by omega
   have hE := HE.out
   rw [List.drop_length, fourL, List.append_nil] at hE
   have HE2 := Lh hE
   clear hE HE HA
   go_wp2
   go_end0
   exact ⟨rfl, by rw [← HE2.out]; exact HW.out, HF.out⟩
end Go.Proofs.YtdlamomabonkjaaDoor.Ch
end
section
namespace Go.Proofs.YtdlamomabonkjaaDoor.Ch
open Go.RowKit YtdlamomabonkjaaDoorW.PrintWords YtdlamomabonkjaaDoorW.PrintLast Base PCh ParDec
abbrev zerV : Array Value := #[.int .u8 0, .int .u8 0, .int .u32 0, .int .u16 0, .int .u16 0, .int .u32 0, .int .u32 0, .int .u32 0, .int .u16 0, .int .u16 0, .slice none 0 0, .slice none 0 0, .slice none 0 0, .slice none 0 0, .slice none 0 0]
theorem wpList_ret_row {ops : Array Oper} {rest : List Oper} {o1 o2 : Oper} {a : Act} {w : World} {Q : Exit → Act → World → Prop} (n : Tmp) (hd : o1.dst = some n) (h1 : o1.guard = none) (h2 : o2.guard = none) (x y : Operand) (ho1 : o1.op = .load 41 x) (ho2 : o2.op = .store 41 y (.tmp n)) (hd2 : o2.dst = none)
  (g gr : Nat) (cs old : Array Value) (e2 : a.eval x = .pointer (some ⟨g, 0, none⟩)) (e3 : (a.put (some n) (.agg cs)).eval (.tmp n) = .agg cs) (e4 : (a.put (some n) (.agg cs)).eval y = .pointer (some ⟨gr, 0, none⟩)) (hg : w.heap[g]? = some (.cells cs 41 (0, 0))) (hr : w.heap[gr]? = some (.cells old 41 (0, 0))) (hs : cs.size = 15) (hold : old.size = 15) (hone : cs.all (·.oneCell') = true)
  (h : wpList Tryd.prog ops Q rest (a.put (some n) (.agg cs)) (w.setRow gr cs)) : wpList Tryd.prog ops Q (o1 :: o2 :: rest) a w := by
 have hi : (Tryd.prog.info? 41).map (·.size) = some cs.size := by rw [hs]; kernel_rfl
 refine wpList_load_row h1 41 x ho1 g e2 41 cs (0, 0) _ hg Tryd.underlying41 rfl hi ?_
 rw [hd]
 refine wpList_store_row h2 41 y (.tmp n) ho2 gr cs e4 e3 41 old hr hi (by omega) hone ?_
 rw [hd2]
 exact h
theorem wp_gen {P : Program} {c : Code} {Q : Exit → Act → World → Prop} {a : Act} {W0 : World} (Pd : World → Prop) (h0 : Pd W0) (h : ∀ W, Pd W → c.wp P Q a W) : c.wp P Q a W0 := h W0 h0
structure Bx (w : World) (cs : Array Value) (W : World) : Prop where
 x0 : W.heap[w.heap.size]? = some (.cells cs 41 (0, 0))
 x1 : W.heap[w.heap.size + 1]? = some (.cells zerV 41 (0, 0))
 x2 : Below w.heap.size w W
 x3 : w.heap.size + 2 ≤ W.heap.size
theorem Bx.drewN {w W : World} {cs : Array Value} (h : Bx w cs W) (n : Nat) : Bx w cs (W.drewN n) := ⟨blk_drewN h.x0 n, blk_drewN h.x1 n, pw_below_drewN h.x2 n, by have := (pw_below_drewN (Below.refl W.heap.size W) n).size; have := h.x3; omega⟩
theorem Bx.set {w W : World} {cs : Array Value} (h : Bx w cs W) (i : Nat) (v : Value) : Bx w (cs.setIfInBounds i v) (W.setCell ⟨w.heap.size, i, none⟩ v) :=
 ⟨blk_put h.x0 i v rfl, (Below.heap_setCell _ ⟨w.heap.size, i, none⟩ _ _ (Nat.succ_ne_self _)).trans h.x1, h.x2.setCell (p := ⟨w.heap.size, i, none⟩) (Nat.le_refl _) v, by have := h.x3; simp [World.setCell]; exact this⟩
theorem Bx.below {w W W' : World} {cs : Array Value} (h : Bx w cs W) (hb : Below W.heap.size W W') : Bx w cs W' := ⟨blk_below h.x0 hb, blk_below h.x1 hb, below_then h.x2 h.x2.size hb, Nat.le_trans h.x3 hb.size⟩
theorem Bx.cell {w W : World} {cs : Array Value} (h : Bx w cs W) (i : Nat) : W.cell? ⟨w.heap.size, i, none⟩ = cs[i]? := blk_cell h.x0 i
theorem Bx.new (w : World) (cs : Array Value) : Bx w cs ((w.alloc (.cells cs 41)).alloc (.cells zerV 41)) := by
 refine ⟨blk_alloc (blk_new _ _) _, ?_, below_alloc (below_alloc (Below.refl _ _) _) _, by simp⟩
 have h := blk_new (w.alloc (.cells cs 41)) (.cells zerV 41)
 rw [World.size_alloc] at h
 exact h
end Go.Proofs.YtdlamomabonkjaaDoor.Ch
end
section
namespace Go.Proofs.YtdlamomabonkjaaDoor.Base
open Go.RowKit YtdlamomabonkjaaDoorW.PrintWords YtdlamomabonkjaaDoorW.PrintLast
theorem wanted_none0 {ops : Array Oper} {a : Act} {o : Oper} (h : o.guard = none) : Region.wanted o (yielded ops a.tmps) = true := by unfold Region.wanted; rw [h]
theorem set_same {α : Type} {l : List α} {k : Nat} {x : α} (h : l[k]? = some x) : l.set k x = l := by
 obtain ⟨h1, h2⟩ := List.getElem?_eq_some_iff.1 h
 rw [← h2, List.set_getElem_self]
def celSel (CD : Array Value) (b : Nat → Bool) (LS : List (Nat × Tmp × Value)) : Array Value := (putSel ⟨CD, []⟩ b LS).tmps
theorem celSel_size (CD : Array Value) (b : Nat → Bool) (LS : List (Nat × Tmp × Value)) : (celSel CD b LS).size = CD.size := (putSel_size b LS ⟨CD, []⟩).1
theorem putSel_congr {b b' : Nat → Bool} : ∀ {L : List (Nat × Tmp × Value)} {a : Act}, (∀ e ∈ L, b e.1 = b' e.1) → putSel a b L = putSel a b' L
 | [], _, _ => rfl
 | e :: r, a, h => by
  unfold putSel
  rw [h e List.mem_cons_self]
  exact putSel_congr (fun x hx => h x (List.mem_cons_of_mem _ hx))
def CpI (W : World) (gd : Nat) (T : TypeId) (CD : Array Value) (L LS : List (Nat × Tmp × Value)) (a0 : Act) (b : Nat → Bool) (a : Act) (w : World) : Prop :=
 a = putSel a0 b L ∧ Only (· = gd) W w ∧ w.heap[gd]? = some (.cells (celSel CD b LS) T (0, 0))
section
variable {P : Program} {ops : Array Oper} {Q : Exit → Act → World → Prop} {B O : List Nat} {W : World} {gd : Nat} {T : TypeId} {CD : Array Value} {L LS : List (Nat × Tmp × Value)} {a0 : Act}
theorem cp_addr (i k : Nat) (p : Tmp) {t : Tmp} {gq j : Nat} {oi : Oper} (ho : ops[i]? = some oi) (hg : oi.guard = none) (hd : oi.dst = some t) (hL : L[k]? = some (i, t, .pointer (some ⟨gq, j, none⟩)))
  (hdist : ((L.take k ++ L.drop (k + 1)).all fun e => !(e.1 == i) && !(e.2.1 == t)) = true) (hLS : (LS.all fun e => !(e.1 == i)) = true) (hpl : (L.all fun e => !(e.2.1 == p)) = true) (hp : a0.tmps[p]? = some (.pointer (some ⟨gq, 0, none⟩)))
  (hrun : ∀ (a : Act) (w : World), a.tmps[p]? = some (.pointer (some ⟨gq, 0, none⟩)) → (execOp a.eval oi).run P w = .ok (.value (.pointer (some ⟨gq, j, none⟩))) w) : StepAt P ops Q B O (CpI W gd T CD L LS a0) i := by
 rintro b a w ⟨ha, hO, hC⟩ hb hon hoff
 refine ⟨oi, ho, fun K hK => ?_⟩
 rw [hd]
 refine value_ (w1 := w) (v := .pointer (some ⟨gq, j, none⟩)) (wanted_none0 hg) hd (hrun a w (by rw [ha]; exact (putSel_off hpl).trans hp)) (hK.out _ _ ⟨?_, hO, ?_⟩)
 ·rw [ha]
  exact putSel_upk k hb hL (set_same hL) hdist
 ·rw [hC]
  unfold celSel
  rw [putSel_same hLS]
theorem cp_op (i k kp qp : Nat) {t : Tmp} {v : Value} {ep : Nat × Tmp × Value} {oi : Oper} (ho : ops[i]? = some oi) (hg : oi.guard = none) (hd : oi.dst = some t) (hL : L[k]? = some (i, t, v))
  (hdist : ((L.take k ++ L.drop (k + 1)).all fun e => !(e.1 == i) && !(e.2.1 == t)) = true) (hLS : (LS.all fun e => !(e.1 == i)) = true)
  (hP : L[kp]? = some ep) (hPd : ((L.drop (kp + 1)).all fun x => !(x.2.1 == ep.2.1)) = true) (hq : ep.1 = qp) (hon : (O.contains qp && (B.getD i 0).testBit qp) = true) (hsz : Nat.ble (ep.2.1 + 1) a0.tmps.size = true)
  (hrun : ∀ (a : Act) (w : World), Only (· = gd) W w → a.tmps[ep.2.1]? = some ep.2.2 → (execOp a.eval oi).run P w = .ok (.value v) w) : StepAt P ops Q B O (CpI W gd T CD L LS a0) i := by
 rintro b a w ⟨ha, hO, hC⟩ hb hon' hoff
 refine ⟨oi, ho, fun K hK => ?_⟩
 rw [hd]
 refine value_ (w1 := w) (v := v) (wanted_none0 hg) hd (hrun a w hO (by rw [ha]; exact putSel_on kp hP hPd (hon' _ (hq ▸ hon)) hsz)) (hK.out _ _ ⟨?_, hO, ?_⟩)
 ·rw [ha]
  exact putSel_upk k hb hL (set_same hL) hdist
 ·rw [hC]
  unfold celSel
  rw [putSel_same hLS]
theorem cp_store (i k kp kv qp qv : Nat) {j : Nat} {v : Value} {ep ev : Nat × Tmp × Value} {oi : Oper} (ho : ops[i]? = some oi) (hg : oi.guard = none) (hd : oi.dst = none) (hLk : LS[k]? = some (i, j, v))
  (hdist : ((LS.take k ++ LS.drop (k + 1)).all fun e => !(e.1 == i) && !(e.2.1 == j)) = true) (hLi : (L.all fun e => !(e.1 == i)) = true) (hj : j < CD.size)
  (hP : L[kp]? = some ep) (hPd : ((L.drop (kp + 1)).all fun x => !(x.2.1 == ep.2.1)) = true) (hqp : ep.1 = qp) (hPo : (O.contains qp && (B.getD i 0).testBit qp) = true) (hsz : Nat.ble (ep.2.1 + 1) a0.tmps.size = true)
  (hV : L[kv]? = some ev) (hVd : ((L.drop (kv + 1)).all fun x => !(x.2.1 == ev.2.1)) = true) (hqv : ev.1 = qv) (hVo : (O.contains qv && (B.getD i 0).testBit qv) = true) (hvz : Nat.ble (ev.2.1 + 1) a0.tmps.size = true)
  (hrun : ∀ (a : Act) (w : World) (old : Value), a.tmps[ep.2.1]? = some ep.2.2 → a.tmps[ev.2.1]? = some ev.2.2 → w.cell? ⟨gd, j, none⟩ = some old → w.frozen? ⟨gd, j, none⟩ = false → (execOp a.eval oi).run P w = .ok .skip (w.setCell ⟨gd, j, none⟩ v)) : StepAt P ops Q B O (CpI W gd T CD L LS a0) i := by
 rintro b a w ⟨ha, hO, hC⟩ hb hon' hoff
 refine ⟨oi, ho, fun K hK => ?_⟩
 obtain ⟨old, hold⟩ : ∃ old, (celSel CD b LS)[j]? = some old := ⟨_, Array.getElem?_eq_getElem (by rw [celSel_size]; exact hj)⟩
 rw [hd]
 refine skip_ (w1 := w.setCell ⟨gd, j, none⟩ v) (wanted_none0 hg) hd (hrun a w old (by rw [ha]; exact putSel_on kp hP hPd (hon' _ (hqp ▸ hPo)) hsz) (by rw [ha]; exact putSel_on kv hV hVd (hon' _ (hqv ▸ hVo)) hvz) ((blk_cell hC j).trans hold) (blk_frozen hC j)) (hK.out _ _ ⟨?_, hO.setCell (fun _ => rfl) v, ?_⟩)
 ·rw [ha]
  exact (putSel_same hLi).symm
 ·refine blk_put hC j v ?_
  have := congrArg Act.tmps (putSel_upk (a := ⟨CD, []⟩) k hb hLk (set_same hLk) hdist)
  exact this
theorem copy_region {id : Nat} (O L LS : List _) {n : Nat} {l : Array Bool} {Tb : Bool × List (List Nat × List Nat)} (hm : P.follows .mixedOrders = true) (hn : ops.size = n) (hl : Array.replicate n false = l) (hT : rtab .any ops = Tb) (hw : waitsOk Tb.2 B = true) (hk : baseOk Tb.2 O = true) (hl2 : (lof Tb.2.length O (fun _ => false) == l.toList && O.length == n) = true)
  (hLO : (L.all fun e => O.contains e.1) = true) (hSO : (LS.all fun e => O.contains e.1) = true) (hC : W.heap[gd]? = some (.cells CD T (0, 0))) (hs : ∀ i ∈ O, StepAt P ops Q B O (CpI W.drew gd T CD L LS a0) i)
  (hend : ∀ w, Only (· = gd) W w → w.heap[gd]? = some (.cells (celSel CD (fun _ => true) LS) T (0, 0)) → Q .normal (putSel a0 (fun _ => true) L) w) : Code.wp P (Code.region id ops true) Q a0 W := by
 refine start_ (S := fun _ => True) (ds := []) l hm hn hl trivial (fun _ => ?_)
 refine inv_at O (fun a0 => CpI W.drew gd T CD L LS a0) hT hw hk hl2 ⟨?_, Only.refl _ _, ?_⟩ hs ?_
 ·clear hLO hSO hs hC hend
  induction L with
  | nil => rfl
  | cons e r ih => unfold putSel; exact ih
 ·have h0 : celSel CD (fun _ => false) LS = CD := by
   clear hLO hSO hs hend
   unfold celSel
   induction LS with
   | nil => rfl
   | cons e r ih => unfold putSel; exact ih
  rw [h0]
  exact hC
 ·rintro b a w hall ⟨ha, hO, hC'⟩
  have e1 : putSel a0 b L = putSel a0 (fun _ => true) L := putSel_congr (fun e he => hall _ (List.all_eq_true.1 hLO e he))
  have e2 : celSel CD b LS = celSel CD (fun _ => true) LS := congrArg Act.tmps (putSel_congr (fun e he => hall _ (List.all_eq_true.1 hSO e he)))
  rw [ha, e1]
  exact hend w ⟨hO.os, hO.tape, hO.output, hO.size, hO.block⟩ (by rw [hC', e2])
end
end Go.Proofs.YtdlamomabonkjaaDoor.Base
end
section
namespace Go.Proofs.YtdlamomabonkjaaDoor.Ch
open Go.RowKit YtdlamomabonkjaaDoorW.PrintWords YtdlamomabonkjaaDoorW.PrintLast Base PCh ParDec
def hasF (kd : Int) (i : Nat) : Bool :=
 if kd = 0 then i == 2 || i == 3 || i == 4 || i == 5 || i == 13
 else if kd = 1 ∨ kd = 2 then i == 2 || i == 6 || i == 7 || i == 8 || i == 9 || i == 14
 else if kd = 16 then i == 2 || i == 7 || i == 10 || i == 11 || i == 12
 else if kd = 3 then i == 2 || i == 7 || i == 10 || i == 12
 else if kd = 4 ∨ kd = 5 ∨ kd = 6 ∨ kd = 9 then i == 14
 else if kd = 7 then i == 2
 else if kd = 8 ∨ kd = 11 ∨ kd = 14 then false
 else i == 13
def keepF (p : Nat → Bool) (fl : Int) (x : Chk) : Chk := ⟨x.f0, fl, if p 2 then x.f2 else 0, if p 3 then x.f3 else 0, if p 4 then x.f4 else 0, if p 5 then x.f5 else 0, if p 6 then x.f6 else 0, if p 7 then x.f7 else 0, if p 8 then x.f8 else 0, if p 9 then x.f9 else 0, if p 10 then x.f10 else [], if p 11 then x.f11 else [], if p 12 then x.f12 else [], if p 13 then x.f13 else [], if p 14 then x.f14 else []⟩
def keepL (p : Nat → Bool) (L : Lay) : Lay := ⟨if p 10 then L.A10 else none, if p 10 then L.c10 else 0, if p 11 then L.A11 else none, if p 11 then L.c11 else 0, if p 12 then L.A12 else none, if p 12 then L.c12 else 0, if p 13 then L.A13 else none, if p 13 then L.c13 else 0, if p 14 then L.A14 else none, if p 14 then L.c14 else 0⟩
def bareD (x : Chk) : Chk := keepF (hasF x.f0) (flD x.f0 x.f1) x
theorem keep_CR {w : World} {x : Chk} {L : Lay} (h : CR w x L) (p : Nat → Bool) (fl : Int) : CR w (keepF p fl x) (keepL p L) := by
 refine ⟨?_, ?_, ?_, ?_, ?_, ?_, ?_, ?_, ?_, ?_⟩
 all_goals (unfold keepF keepL; dsimp only)
 ·cases p 10
  ·exact Nat.le_refl _
  ·exact h.l10
 ·cases p 10
  ·exact Kd.C_nil _ _
  ·exact h.h10
 ·cases p 11
  ·exact Nat.le_refl _
  ·exact h.l11
 ·cases p 11
  ·exact Kd.C_nil _ _
  ·exact h.h11
 ·cases p 12
  ·exact Nat.le_refl _
  ·exact h.l12
 ·cases p 12
  ·exact Kd.C_nil _ _
  ·exact h.h12
 ·cases p 13
  ·exact Nat.le_refl _
  ·exact h.l13
 ·cases p 13
  ·exact Kd.C_nil _ _
  ·exact h.h13
 ·cases p 14
  ·exact Nat.le_refl _
  ·exact h.l14
 ·cases p 14
  ·exact Kd.C_nil _ _
  ·exact h.h14
def bareT1 : Bool × List (List Nat × List Nat) := (true, [([], []), ([0], [0]), ([], []), ([2], [2]), ([], []), ([4], [4]), ([5], [5]), ([3, 6], [3, 6]), ([1, 7], [1, 7]), ([], []), ([9, 8, 6, 0, 1, 2, 3, 4, 5, 6, 7, 8, 9], [8, 9])])
def bareB1 : List Nat := [0, 1, 0, 4, 0, 16, 48, 124, 255, 0, 1023]
theorem baretab1 : Go.Proofs.YtdlamomabonkjaaDoorW.PrintLast.rtab .any (Go.Proofs.YtdlamomabonkjaaDoorW.PrintLast.opsOf Tryd.f71 1) = bareT1 := by kernel_rfl
theorem barebits1 : Go.Proofs.YtdlamomabonkjaaDoorW.PrintLast.waitsOk bareT1.2 bareB1 = true := by kernel_rfl
def bareT16 : Bool × List (List Nat × List Nat) := (true, [([], []), ([0], [0]), ([], []), ([2], [2]), ([], []), ([4], [4]), ([], []), ([6], [6]), ([], []), ([8], [8]), ([0, 1], []), ([10, 1, 0, 1], [1, 10]), ([0, 1, 2, 3, 10, 11], []), ([12, 3, 11, 0, 1, 2, 3, 10, 11], [3, 12]), ([0, 1, 2, 3, 4, 5, 10, 11, 12, 13], []), ([14, 5, 13, 0, 1, 2, 3, 4, 5, 10, 11, 12, 13], [5, 14]), ([0, 1, 2, 3, 4, 5, 6, 7, 10, 11, 12, 13, 14, 15], []), ([16, 7, 15, 0, 1, 2, 3, 4, 5, 6, 7, 10, 11, 12, 13, 14, 15], [7, 16]), ([0, 1, 2, 3, 4, 5, 6, 7, 8, 9, 10, 11, 12, 13, 14, 15, 16, 17], []), ([18, 9, 17, 0, 1, 2, 3, 4, 5, 6, 7, 8, 9, 10, 11, 12, 13, 14, 15, 16, 17], [9, 18])])
def bareB16 : List Nat := [0, 1, 0, 4, 0, 16, 0, 64, 0, 256, 3, 1027, 3087, 7183, 15423, 31807, 64767, 130303, 262143, 524287]
theorem baretab16 : Go.Proofs.YtdlamomabonkjaaDoorW.PrintLast.rtab .any (Go.Proofs.YtdlamomabonkjaaDoorW.PrintLast.opsOf Tryd.f71 16) = bareT16 := by kernel_rfl
theorem barebits16 : Go.Proofs.YtdlamomabonkjaaDoorW.PrintLast.waitsOk bareT16.2 bareB16 = true := by kernel_rfl
def bareT17 : Bool × List (List Nat × List Nat) := (true, [([], []), ([0], [0]), ([], []), ([2], [2]), ([], []), ([4], [4]), ([], []), ([6], [6]), ([], []), ([8], [8]), ([], []), ([10], [10]), ([0, 1], []), ([12, 1, 0, 1], [1, 12]), ([0, 1, 2, 3, 12, 13], []), ([14, 3, 13, 0, 1, 2, 3, 12, 13], [3, 14]), ([0, 1, 2, 3, 4, 5, 12, 13, 14, 15], []), ([16, 5, 15, 0, 1, 2, 3, 4, 5, 12, 13, 14, 15], [5, 16]), ([0, 1, 2, 3, 4, 5, 6, 7, 12, 13, 14, 15, 16, 17], []), ([18, 7, 17, 0, 1, 2, 3, 4, 5, 6, 7, 12, 13, 14, 15, 16, 17], [7, 18]), ([0, 1, 2, 3, 4, 5, 6, 7, 8, 9, 12, 13, 14, 15, 16, 17, 18, 19], []), ([20, 9, 19, 0, 1, 2, 3, 4, 5, 6, 7, 8, 9, 12, 13, 14, 15, 16, 17, 18, 19], [9, 20]), ([0, 1, 2, 3, 4, 5, 6, 7, 8, 9, 10, 11, 12, 13, 14, 15, 16, 17, 18, 19, 20, 21], []), ([22, 11, 21, 0, 1, 2, 3, 4, 5, 6, 7, 8, 9, 10, 11, 12, 13, 14, 15, 16, 17, 18, 19, 20, 21], [11, 22])])
def bareB17 : List Nat := [0, 1, 0, 4, 0, 16, 0, 64, 0, 256, 0, 1024, 3, 4099, 12303, 28687, 61503, 127039, 258303, 520447, 1045503, 2094079, 4194303, 8388607]
theorem baretab17 : Go.Proofs.YtdlamomabonkjaaDoorW.PrintLast.rtab .any (Go.Proofs.YtdlamomabonkjaaDoorW.PrintLast.opsOf Tryd.f71 17) = bareT17 := by kernel_rfl
theorem barebits17 : Go.Proofs.YtdlamomabonkjaaDoorW.PrintLast.waitsOk bareT17.2 bareB17 = true := by kernel_rfl
def bareT19 : Bool × List (List Nat × List Nat) := (true, [([], []), ([0], [0]), ([], []), ([2], [2]), ([], []), ([4], [4]), ([], []), ([6], [6]), ([0, 1], []), ([8, 1, 0, 1], [1, 8]), ([0, 1, 2, 3, 8, 9], []), ([10, 3, 9, 0, 1, 2, 3, 8, 9], [3, 10]), ([0, 1, 2, 3, 4, 5, 8, 9, 10, 11], []), ([12, 5, 11, 0, 1, 2, 3, 4, 5, 8, 9, 10, 11], [5, 12]), ([0, 1, 2, 3, 4, 5, 6, 7, 8, 9, 10, 11, 12, 13], []), ([14, 7, 13, 0, 1, 2, 3, 4, 5, 6, 7, 8, 9, 10, 11, 12, 13], [7, 14])])
def bareB19 : List Nat := [0, 1, 0, 4, 0, 16, 0, 64, 3, 259, 783, 1807, 3903, 7999, 16383, 32767]
theorem baretab19 : Go.Proofs.YtdlamomabonkjaaDoorW.PrintLast.rtab .any (Go.Proofs.YtdlamomabonkjaaDoorW.PrintLast.opsOf Tryd.f71 19) = bareT19 := by kernel_rfl
theorem barebits19 : Go.Proofs.YtdlamomabonkjaaDoorW.PrintLast.waitsOk bareT19.2 bareB19 = true := by kernel_rfl
structure By (w : World) (CX cs : Array Value) (g3 : Nat) (W : World) : Prop where
 bx : Bx w CX W
 x3 : W.heap[g3]? = some (.cells cs 41 (0, 0))
 hg : w.heap.size + 2 ≤ g3
theorem By.only {w W W' : World} {CX cs cs' : Array Value} {g3 : Nat} (h : By w CX cs g3 W) (hO : Only (· = g3) W W') (h3 : W'.heap[g3]? = some (.cells cs' 41 (0, 0))) : By w CX cs' g3 W' :=
 ⟨⟨hO.blk h.bx.x0 (by have := h.hg; omega), hO.blk h.bx.x1 (by have := h.hg; omega), h.bx.x2.trans (hO.below h.bx.x2.size (fun k hk => by have := h.hg; omega)), Nat.le_trans h.bx.x3 hO.size⟩, h3, h.hg⟩
theorem By.set {w W : World} {CX cs : Array Value} {g3 : Nat} (h : By w CX cs g3 W) (i : Nat) (v : Value) : By w CX (cs.setIfInBounds i v) g3 (W.setCell ⟨g3, i, none⟩ v) := h.only ((Only.refl (· = g3) W).setCell (fun _ => rfl) v) (blk_put h.x3 i v rfl)
theorem row_end {f : Func} (hf : f.results = #[ResultVar.cell 2 41]) {a : Act} {w W : World} {cs old r : Array Value} {gr : Nat} (hd : a.defers = []) (t2 : a.tmps.getD 2 undef = .pointer (some ⟨gr, 0, none⟩)) (hg : W.heap[gr]? = some (.cells old 41 (0, 0))) (hs : cs.size = 15) (hB : Below w.heap.size w W) (hl : w.heap.size ≤ gr) (h : cs = r) :
  bodyPost Tryd.prog f (fun e w' => e = .returned (.agg r) ∧ Below w.heap.size w w') Exit.ret a (W.setRow gr cs) := by
 have hi : (Tryd.prog.info? 41).map (·.size) = some cs.size := by rw [hs]; kernel_rfl
 have hl2 := run_loadVar_row (W.setRow gr cs) gr 41 41 cs (0, 0) _ (setRow_heap _ _ _ _ _ _ hg) Tryd.underlying41 rfl hi
 rw [Array.getD_eq_getD_getElem?] at t2
 exact bodyPost_ret (v := .agg cs) (by simp [results, hf, asAddr, t2, hl2]) hd ⟨by rw [h], below_setRow hB hl cs⟩
set_option maxHeartbeats 8000000 in
theorem bare_calls (w : World) (x : Chk) (L : Lay) (hx : CR w x L) :
  Calls Tryd.prog 71 #[.agg (CV x L)] w fun e w' => e = .returned (.agg (CV (bareD x) (keepL (hasF x.f0) L))) ∧ Below w.heap.size w w' := by
 clear hx
 obtain ⟨f0, f1, f2, f3, f4, f5, f6, f7, f8, f9, f10, f11, f12, f13, f14⟩ := x
 obtain ⟨A10, c10, A11, c11, A12, c12, A13, c13, A14, c14⟩ := L
 have hkd : (∃ r, bareD ⟨f0, f1, f2, f3, f4, f5, f6, f7, f8, f9, f10, f11, f12, f13, f14⟩ = r) := ⟨_, rfl⟩
 clear hkd
 have X := Bx.new w (CV ⟨f0, f1, f2, f3, f4, f5, f6, f7, f8, f9, f10, f11, f12, f13, f14⟩ ⟨A10, c10, A11, c11, A12, c12, A13, c13, A14, c14⟩)
 go_enter Tryd.func71, Tryd.ntmps71
 go_upto_region 1 with (fail)
 refine wp_gen (Bx w (CV ⟨f0, f1, f2, f3, f4, f5, f6, f7, f8, f9, f10, f11, f12, f13, f14⟩ ⟨A10, c10, A11, c11, A12, c12, A13, c13, A14, c14⟩)) X ?_
 clear X
 intro W X
 have U0 := Lh (show W.cell? ⟨w.heap.size, 0, none⟩ = some (.int .u8 f0) from X.cell 0)
 have U1 := Lh (show W.cell? ⟨w.heap.size, 1, none⟩ = some (.int .u8 f1) from X.cell 1)
 have U2 := Lh (show W.cell? ⟨w.heap.size, 2, none⟩ = some (.int .u32 f2) from X.cell 2)
 have U3 := Lh (show W.cell? ⟨w.heap.size, 3, none⟩ = some (.int .u16 f3) from X.cell 3)
 have U4 := Lh (show W.cell? ⟨w.heap.size, 4, none⟩ = some (.int .u16 f4) from X.cell 4)
 have U5 := Lh (show W.cell? ⟨w.heap.size, 5, none⟩ = some (.int .u32 f5) from X.cell 5)
 have U6 := Lh (show W.cell? ⟨w.heap.size, 6, none⟩ = some (.int .u32 f6) from X.cell 6)
 have U7 := Lh (show W.cell? ⟨w.heap.size, 7, none⟩ = some (.int .u32 f7) from X.cell 7)
 have U8 := Lh (show W.cell? ⟨w.heap.size, 8, none⟩ = some (.int .u16 f8) from X.cell 8)
 have U9 := Lh (show W.cell? ⟨w.heap.size, 9, none⟩ = some (.int .u16 f9) from X.cell 9)
 have U10 := Lh (show W.cell? ⟨w.heap.size, 10, none⟩ = some (.slice A10 f10.length c10) from X.cell 10)
 have U11 := Lh (show W.cell? ⟨w.heap.size, 11, none⟩ = some (.slice A11 f11.length c11) from X.cell 11)
 have U12 := Lh (show W.cell? ⟨w.heap.size, 12, none⟩ = some (.slice A12 f12.length c12) from X.cell 12)
 have U13 := Lh (show W.cell? ⟨w.heap.size, 13, none⟩ = some (.slice A13 f13.length c13) from X.cell 13)
 have U14 := Lh (show W.cell? ⟨w.heap.size, 14, none⟩ = some (.slice A14 f14.length c14) from X.cell 14)
 obtain ⟨fl, hfl⟩ : ∃ fl, flD f0 f1 = fl := ⟨_, rfl⟩
 have HFL := Lh (show bits .and .u8 f1 (maskD f0) = fl from hfl)
 have HFE := Lh hfl
 clear hfl
 have B := True.intro
 refine start_ (n := 11) (S := fun w' => True) (ds := []) #[false, false, false, false, false, false, false, false, false, false, false] (by kernel_rfl) rfl rfl trivial (fun hHeld => ?_)
 refine with_tabW baretab1 barebits1 (fun HT_ HW_ => ?_)
 refine inv_at [0, 1, 2, 3, 4, 5, 6, 7, 8, 9, 10] (fun a0_ b a w' => ∃ (g3 : Nat) (m9_ : Value), a = putSel a0_ b [(0, 4, .pointer (some ⟨w.heap.size, 0, none⟩)), (1, 5, .int .u8 f0), (2, 6, .pointer (some ⟨w.heap.size, 1, none⟩)), (3, 7, .int .u8 f1), (4, 8, .pointer (some ⟨w.heap.size, 0, none⟩)), (5, 9, .int .u8 f0), (6, 10, .int .u8 (maskD f0)), (7, 11, .int .u8 fl), (8, 12, .agg (#[.int .u8 (f0), .int .u8 (fl), .int .u32 0, .int .u16 0, .int .u16 0, .int .u32 0, .int .u32 0, .int .u32 0, .int .u16 0, .int .u16 0, .slice none 0 0, .slice none 0 0, .slice none 0 0, .slice none 0 0, .slice none 0 0])), (9, 3, m9_)] ∧ (Below W.heap.size W w') ∧ (b 9 = true → b 10 = false → w'.heap[g3]? = some (.cells (#[.int .u8 0, .int .u8 0, .int .u32 0, .int .u16 0, .int .u16 0, .int .u32 0, .int .u32 0, .int .u32 0, .int .u16 0, .int .u16 0, .slice none 0 0, .slice none 0 0, .slice none 0 0, .slice none 0 0, .slice none 0 0]) 41 (0, 0)) ∧ W.heap.size ≤ g3) ∧ (b 10 = true → w'.heap[g3]? = some (.cells (#[.int .u8 (f0), .int .u8 (fl), .int .u32 0, .int .u16 0, .int .u16 0, .int .u32 0, .int .u32 0, .int .u32 0, .int .u16 0, .int .u16 0, .slice none 0 0, .slice none 0 0, .slice none 0 0, .slice none 0 0, .slice none 0 0]) 41 (0, 0)) ∧ W.heap.size ≤ g3) ∧ (b 9 = true → (m9_ : Value) = .pointer (some ⟨g3, 0, none⟩))) HT_.out HW_.out (by kernel_rfl) (by kernel_rfl) ?_ ?_ ?_
 ·exact ⟨0, .bool false, by simp only [putSel, Bool.false_eq_true, if_false], below_drew (Below.refl _ _), fun h_ => absurd h_ (by decide), fun h_ => absurd h_ (by decide), fun h_ => absurd h_ (by decide)⟩
 ·skip
  clear B
  refine steps_cons ?_ ?_
  ·rintro b a w' ⟨g3, m9_, ha, Q_B, Q_Z, Q_Z2, Q_X9_⟩ hb_ hon hoff
   refine ⟨_, rfl, fun K hK => ?_⟩
   have e1 : a.tmps[1]? = some (.pointer (some ⟨w.heap.size, 0, none⟩)) := by rw [ha]; exact (putSel_off rfl).trans rfl
   replace ha := Am ha
   refine value_ (w1 := w') (v := .pointer (some ⟨w.heap.size, 0, none⟩)) (by rfl) rfl ?_ ?_
   ·go_simp
    (try simp only [i64_w])
    try rfl
   refine hK.out _ _ ⟨g3, m9_, (puk ha 0 hb_ rfl rfl rfl), Q_B, Q_Z, fun h0_ => hof (hoff 10 (by kernel_rfl)) h0_, Q_X9_⟩
  refine steps_cons ?_ ?_
  ·rintro b a w' ⟨g3, m9_, ha, Q_B, Q_Z, Q_Z2, Q_X9_⟩ hb_ hon hoff
   refine ⟨_, rfl, fun K hK => ?_⟩
   have e4 := psn ha 0 rfl rfl (hon 0 (by kernel_rfl)) rfl
   replace ha := Am ha
   have B := Am Q_B
   have hs : w'.cell? ⟨w.heap.size, 0, none⟩ = some (.int .u8 f0) := pw_cell_below B.out U0.out
   refine value_ (w1 := w') (v := .int .u8 f0) (by rfl) rfl ?_ ?_
   ·go_simp
    (try simp only [i64_w])
    try rfl
   refine hK.out _ _ ⟨g3, m9_, (puk ha 1 hb_ rfl rfl rfl), Q_B, Q_Z, fun h0_ => hof (hoff 10 (by kernel_rfl)) h0_, Q_X9_⟩
  refine steps_cons ?_ ?_
  ·rintro b a w' ⟨g3, m9_, ha, Q_B, Q_Z, Q_Z2, Q_X9_⟩ hb_ hon hoff
   refine ⟨_, rfl, fun K hK => ?_⟩
   have e1 : a.tmps[1]? = some (.pointer (some ⟨w.heap.size, 0, none⟩)) := by rw [ha]; exact (putSel_off rfl).trans rfl
   replace ha := Am ha
   refine value_ (w1 := w') (v := .pointer (some ⟨w.heap.size, 1, none⟩)) (by rfl) rfl ?_ ?_
   ·go_simp
    (try simp only [i64_w])
    try rfl
   refine hK.out _ _ ⟨g3, m9_, (puk ha 2 hb_ rfl rfl rfl), Q_B, Q_Z, fun h0_ => hof (hoff 10 (by kernel_rfl)) h0_, Q_X9_⟩
  refine steps_cons ?_ ?_
  ·rintro b a w' ⟨g3, m9_, ha, Q_B, Q_Z, Q_Z2, Q_X9_⟩ hb_ hon hoff
   refine ⟨_, rfl, fun K hK => ?_⟩
   have e6 := psn ha 2 rfl rfl (hon 2 (by kernel_rfl)) rfl
   replace ha := Am ha
   have B := Am Q_B
   have hs : w'.cell? ⟨w.heap.size, 1, none⟩ = some (.int .u8 f1) := pw_cell_below B.out U1.out
   refine value_ (w1 := w') (v := .int .u8 f1) (by rfl) rfl ?_ ?_
   ·go_simp
    (try simp only [i64_w])
    try rfl
   refine hK.out _ _ ⟨g3, m9_, (puk ha 3 hb_ rfl rfl rfl), Q_B, Q_Z, fun h0_ => hof (hoff 10 (by kernel_rfl)) h0_, Q_X9_⟩
  refine steps_cons ?_ ?_
  ·rintro b a w' ⟨g3, m9_, ha, Q_B, Q_Z, Q_Z2, Q_X9_⟩ hb_ hon hoff
   refine ⟨_, rfl, fun K hK => ?_⟩
   have e1 : a.tmps[1]? = some (.pointer (some ⟨w.heap.size, 0, none⟩)) := by rw [ha]; exact (putSel_off rfl).trans rfl
   replace ha := Am ha
   refine value_ (w1 := w') (v := .pointer (some ⟨w.heap.size, 0, none⟩)) (by rfl) rfl ?_ ?_
   ·go_simp
    (try simp only [i64_w])
    try rfl
   refine hK.out _ _ ⟨g3, m9_, (puk ha 4 hb_ rfl rfl rfl), Q_B, Q_Z, fun h0_ => hof (hoff 10 (by kernel_rfl)) h0_, Q_X9_⟩
  refine steps_cons ?_ ?_
  ·rintro b a w' ⟨g3, m9_, ha, Q_B, Q_Z, Q_Z2, Q_X9_⟩ hb_ hon hoff
   refine ⟨_, rfl, fun K hK => ?_⟩
   have e8 := psn ha 4 rfl rfl (hon 4 (by kernel_rfl)) rfl
   replace ha := Am ha
   have B := Am Q_B
   have hs : w'.cell? ⟨w.heap.size, 0, none⟩ = some (.int .u8 f0) := pw_cell_below B.out U0.out
   refine value_ (w1 := w') (v := .int .u8 f0) (by rfl) rfl ?_ ?_
   ·go_simp
    (try simp only [i64_w])
    try rfl
   refine hK.out _ _ ⟨g3, m9_, (puk ha 5 hb_ rfl rfl rfl), Q_B, Q_Z, fun h0_ => hof (hoff 10 (by kernel_rfl)) h0_, Q_X9_⟩
  refine steps_cons ?_ ?_
  ·rintro b a w' ⟨g3, m9_, ha, Q_B, Q_Z, Q_Z2, Q_X9_⟩ hb_ hon hoff
   refine ⟨_, rfl, fun K hK => ?_⟩
   have e9 := psn ha 5 rfl rfl (hon 5 (by kernel_rfl)) rfl
   replace ha := Am ha
   have B := Am Q_B
   refine goes_ Tryd.func88 (by kernel_rfl) rfl #[.int .u8 f0] (by rfl) rfl rfl (by first | (simp only [List.map_toArray, List.map_cons, List.map_nil, Act.eval, Array.getD_eq_getD_getElem?, Option.getD_some, e9]; done) | (simp only [List.map_toArray, List.map_cons, List.map_nil, Act.eval, Array.getD_eq_getD_getElem?, Option.getD_some, e9]; rfl)) ?_
   refine (mask_calls f0 w').mono ?_
   rintro e w1 ⟨rfl, hD1⟩
   refine ⟨_, rfl, ?_⟩
   refine hK.out _ _ ⟨g3, m9_, (puk ha 6 hb_ rfl rfl rfl), below_then B.out B.out.size (drawn_below hD1), fun h0_ h1_ => ⟨blk_below (Q_Z h0_ h1_).1 (drawn_below hD1), (Q_Z h0_ h1_).2⟩, fun h0_ => hof (hoff 10 (by kernel_rfl)) h0_, Q_X9_⟩
  refine steps_cons ?_ ?_
  ·rintro b a w' ⟨g3, m9_, ha, Q_B, Q_Z, Q_Z2, Q_X9_⟩ hb_ hon hoff
   refine ⟨_, rfl, fun K hK => ?_⟩
   have e7 := psn ha 3 rfl rfl (hon 3 (by kernel_rfl)) rfl
   have e10 := psn ha 6 rfl rfl (hon 6 (by kernel_rfl)) rfl
   replace ha := Am ha
   have B := Am Q_B
   refine value_ (w1 := w') (v := .int .u8 fl) (by rfl) rfl (by go_simp; first | done | exact HFL.out) ?_
   refine hK.out _ _ ⟨g3, m9_, (puk ha 7 hb_ rfl rfl rfl), B.out, fun h0_ h1_ => (Q_Z h0_ h1_), fun h0_ => hof (hoff 10 (by kernel_rfl)) h0_, Q_X9_⟩
  refine steps_cons ?_ ?_
  ·rintro b a w' ⟨g3, m9_, ha, Q_B, Q_Z, Q_Z2, Q_X9_⟩ hb_ hon hoff
   refine ⟨_, rfl, fun K hK => ?_⟩
   have e5 := psn ha 1 rfl rfl (hon 1 (by kernel_rfl)) rfl
   have e11 := psn ha 7 rfl rfl (hon 7 (by kernel_rfl)) rfl
   replace ha := Am ha
   refine value_ (w1 := w') (v := .agg (#[.int .u8 (f0), .int .u8 (fl), .int .u32 0, .int .u16 0, .int .u16 0, .int .u32 0, .int .u32 0, .int .u32 0, .int .u16 0, .int .u16 0, .slice none 0 0, .slice none 0 0, .slice none 0 0, .slice none 0 0, .slice none 0 0])) (by rfl) rfl ?_ ?_
   ·go_simp
    (try simp only [i64_w])
    try rfl
   refine hK.out _ _ ⟨g3, m9_, (puk ha 8 hb_ rfl rfl rfl), Q_B, Q_Z, fun h0_ => hof (hoff 10 (by kernel_rfl)) h0_, Q_X9_⟩
  refine steps_cons ?_ ?_
  ·rintro b a w' ⟨g3, m9_, ha, Q_B, Q_Z, Q_Z2, Q_X9_⟩ hb_ hon hoff
   refine ⟨_, rfl, fun K hK => ?_⟩
   replace ha := Am ha
   have B := Am Q_B
   refine value_ (w1 := w'.alloc (.cells #[.int .u8 0, .int .u8 0, .int .u32 0, .int .u16 0, .int .u16 0, .int .u32 0, .int .u32 0, .int .u32 0, .int .u16 0, .int .u16 0, .slice none 0 0, .slice none 0 0, .slice none 0 0, .slice none 0 0, .slice none 0 0] 41)) (v := .pointer (some ⟨w'.heap.size, 0, none⟩)) (by rfl) rfl (by go_simp; try rfl) ?_
   refine hK.out _ _ ⟨w'.heap.size, (.pointer (some ⟨w'.heap.size, 0, none⟩)), (puk ha 9 hb_ rfl rfl rfl), B.out.alloc B.out.size _, fun _ _ => ⟨blk_new _ _, B.out.size⟩, fun h0_ => hof (hoff 10 (by kernel_rfl)) h0_, fun _ => rfl⟩
  refine steps_cons ?_ ?_
  ·rintro b a w' ⟨g3, m9_, ha, Q_B, Q_Z, Q_Z2, Q_X9_⟩ hb_ hon hoff
   refine ⟨_, rfl, fun K hK => ?_⟩
   have e3 := psn ha 9 rfl rfl (hon 9 (by kernel_rfl)) rfl
   rw [Q_X9_ (hon 9 (by kernel_rfl))] at e3
   have e12 := psn ha 8 rfl rfl (hon 8 (by kernel_rfl)) rfl
   replace ha := Am ha
   have B := Am Q_B
   have Z := Am (Q_Z (hon 9 (by kernel_rfl)) hb_)
   refine skip_ (w1 := w'.setRow g3 (#[.int .u8 (f0), .int .u8 (fl), .int .u32 0, .int .u16 0, .int .u16 0, .int .u32 0, .int .u32 0, .int .u32 0, .int .u16 0, .int .u16 0, .slice none 0 0, .slice none 0 0, .slice none 0 0, .slice none 0 0, .slice none 0 0])) (by rfl) rfl (exec_store_row 41 (.tmp 3) (.tmp 12) rfl (eval_of e3) (eval_of e12) Z.out.1 (by kernel_rfl) rfl (by simp [Value.oneCell'])) ?_
   refine hK.out _ _ ⟨g3, m9_, (by rw [ha.out]; exact putSel_none (v := undef) rfl), below_setRow B.out Z.out.2 _, fun _ h1_ => absurd ((up_self b 10).symm.trans h1_) (by decide), fun _ => ⟨setRow_heap _ _ _ _ _ _ Z.out.1, Z.out.2⟩, Q_X9_⟩
  exact steps_nil
 rintro b a w' hall ⟨g3, m9_, ha, Q_B, Q_Z, Q_Z2, Q_X9_⟩
 clear B
 have hb0_ := hall 0 (by kernel_rfl)
 have hb1_ := hall 1 (by kernel_rfl)
 have hb2_ := hall 2 (by kernel_rfl)
 have hb3_ := hall 3 (by kernel_rfl)
 have hb4_ := hall 4 (by kernel_rfl)
 have hb5_ := hall 5 (by kernel_rfl)
 have hb6_ := hall 6 (by kernel_rfl)
 have hb7_ := hall 7 (by kernel_rfl)
 have hb8_ := hall 8 (by kernel_rfl)
 have hb9_ := hall 9 (by kernel_rfl)
 have hb10_ := hall 10 (by kernel_rfl)
 subst ha
 obtain rfl := Q_X9_ hb9_
 simp only [putSel, hb0_, hb1_, hb2_, hb3_, hb4_, hb5_, hb6_, hb7_, hb8_, hb9_, hb10_, if_true, Act.put, List.setIfInBounds_toArray, List.set_cons_zero, List.set_cons_succ]
 have B := Am Q_B
 clear Q_B
 clear Q_Z
 have Z2 := Am (Q_Z2 hb10_)
 clear Q_Z2
 clear hall hb0_ hb1_ hb2_ hb3_ hb4_ hb5_ hb6_ hb7_ hb8_ hb9_ hb10_
 replace X : By w (CV ⟨f0, f1, f2, f3, f4, f5, f6, f7, f8, f9, f10, f11, f12, f13, f14⟩ ⟨A10, c10, A11, c11, A12, c12, A13, c13, A14, c14⟩) (#[.int .u8 (f0), .int .u8 (fl), .int .u32 0, .int .u16 0, .int .u16 0, .int .u32 0, .int .u32 0, .int .u32 0, .int .u16 0, .int .u16 0, .slice none 0 0, .slice none 0 0, .slice none 0 0, .slice none 0 0, .slice none 0 0]) g3 w' := ⟨X.below B.out, Z2.out.1, Nat.le_trans X.x3 Z2.out.2⟩
 replace U0 := Lh (pw_cell_below B.out U0.out)
 replace U1 := Lh (pw_cell_below B.out U1.out)
 replace U2 := Lh (pw_cell_below B.out U2.out)
 replace U3 := Lh (pw_cell_below B.out U3.out)
 replace U4 := Lh (pw_cell_below B.out U4.out)
 replace U5 := Lh (pw_cell_below B.out U5.out)
 replace U6 := Lh (pw_cell_below B.out U6.out)
 replace U7 := Lh (pw_cell_below B.out U7.out)
 replace U8 := Lh (pw_cell_below B.out U8.out)
 replace U9 := Lh (pw_cell_below B.out U9.out)
 replace U10 := Lh (pw_cell_below B.out U10.out)
 replace U11 := Lh (pw_cell_below B.out U11.out)
 replace U12 := Lh (pw_cell_below B.out U12.out)
 replace U13 := Lh (pw_cell_below B.out U13.out)
 replace U14 := Lh (pw_cell_below B.out U14.out)
 clear B Z2 HFL
 generalize w' = W at *
 have HN := Lh (show ¬ w.heap.size = g3 by have := X.hg; omega)
 by_cases h : f0 = 0
 ·subst h
  have k0 := U0.out
  go_upto_region 16 with (fail)
  refine copy_region (B := bareB16) (T := 41) (gd := g3) [0, 1, 2, 3, 4, 5, 6, 7, 8, 9, 10, 11, 12, 13, 14, 15, 16, 17, 18, 19] [(0, 36, .pointer (some ⟨w.heap.size, 2, none⟩)), (1, 37, .int .u32 f2), (2, 38, .pointer (some ⟨w.heap.size, 3, none⟩)), (3, 39, .int .u16 f3), (4, 40, .pointer (some ⟨w.heap.size, 4, none⟩)), (5, 41, .int .u16 f4), (6, 42, .pointer (some ⟨w.heap.size, 5, none⟩)), (7, 43, .int .u32 f5), (8, 44, .pointer (some ⟨w.heap.size, 13, none⟩)), (9, 45, .slice A13 f13.length c13), (10, 46, .pointer (some ⟨g3, 2, none⟩)), (12, 47, .pointer (some ⟨g3, 3, none⟩)), (14, 48, .pointer (some ⟨g3, 4, none⟩)), (16, 49, .pointer (some ⟨g3, 5, none⟩)), (18, 50, .pointer (some ⟨g3, 13, none⟩))] [(11, 2, .int .u32 f2), (13, 3, .int .u16 f3), (15, 4, .int .u16 f4), (17, 5, .int .u32 f5), (19, 13, .slice A13 f13.length c13)] (by kernel_rfl) rfl (l := #[false, false, false, false, false, false, false, false, false, false, false, false, false, false, false, false, false, false, false, false]) rfl baretab16 barebits16 (by kernel_rfl) (by kernel_rfl) rfl rfl X.x3 ?_ ?_
  ·exact steps_cons (cp_addr 0 0 1 rfl rfl rfl rfl rfl rfl rfl rfl (fun a w e => by go_simp)) (steps_cons (cp_op 1 1 0 0 rfl rfl rfl rfl rfl rfl rfl rfl rfl (by kernel_rfl) rfl (fun a w hO e => by have hs := hO.cell U2.out HN.out; go_simp)) (steps_cons (cp_addr 2 2 1 rfl rfl rfl rfl rfl rfl rfl rfl (fun a w e => by go_simp)) (steps_cons (cp_op 3 3 2 2 rfl rfl rfl rfl rfl rfl rfl rfl rfl (by kernel_rfl) rfl (fun a w hO e => by have hs := hO.cell U3.out HN.out; go_simp)) (steps_cons (cp_addr 4 4 1 rfl rfl rfl rfl rfl rfl rfl rfl (fun a w e => by go_simp)) (steps_cons (cp_op 5 5 4 4 rfl rfl rfl rfl rfl rfl rfl rfl rfl (by kernel_rfl) rfl (fun a w hO e => by have hs := hO.cell U4.out HN.out; go_simp)) (steps_cons (cp_addr 6 6 1 rfl rfl rfl rfl rfl rfl rfl rfl (fun a w e => by go_simp)) (steps_cons (cp_op 7 7 6 6 rfl rfl rfl rfl rfl rfl rfl rfl rfl (by kernel_rfl) rfl (fun a w hO e => by have hs := hO.cell U5.out HN.out; go_simp)) (steps_cons (cp_addr 8 8 1 rfl rfl rfl rfl rfl rfl rfl rfl (fun a w e => by go_simp)) (steps_cons (cp_op 9 9 8 8 rfl rfl rfl rfl rfl rfl rfl rfl rfl (by kernel_rfl) rfl (fun a w hO e => by have hs := hO.cell U13.out HN.out; go_simp)) (steps_cons (cp_addr 10 10 3 rfl rfl rfl rfl rfl rfl rfl rfl (fun a w e => by go_simp)) (steps_cons (cp_store 11 0 10 1 10 1 rfl rfl rfl rfl rfl rfl (show _ < 15 by decide) rfl rfl rfl (by kernel_rfl) rfl rfl rfl rfl (by kernel_rfl) rfl (fun a w old e e2 h h2 => by go_simp)) (steps_cons (cp_addr 12 11 3 rfl rfl rfl rfl rfl rfl rfl rfl (fun a w e => by go_simp)) (steps_cons (cp_store 13 1 11 3 12 3 rfl rfl rfl rfl rfl rfl (show _ < 15 by decide) rfl rfl rfl (by kernel_rfl) rfl rfl rfl rfl (by kernel_rfl) rfl (fun a w old e e2 h h2 => by go_simp)) (steps_cons (cp_addr 14 12 3 rfl rfl rfl rfl rfl rfl rfl rfl (fun a w e => by go_simp)) (steps_cons (cp_store 15 2 12 5 14 5 rfl rfl rfl rfl rfl rfl (show _ < 15 by decide) rfl rfl rfl (by kernel_rfl) rfl rfl rfl rfl (by kernel_rfl) rfl (fun a w old e e2 h h2 => by go_simp)) (steps_cons (cp_addr 16 13 3 rfl rfl rfl rfl rfl rfl rfl rfl (fun a w e => by go_simp)) (steps_cons (cp_store 17 3 13 7 16 7 rfl rfl rfl rfl rfl rfl (show _ < 15 by decide) rfl rfl rfl (by kernel_rfl) rfl rfl rfl rfl (by kernel_rfl) rfl (fun a w old e e2 h h2 => by go_simp)) (steps_cons (cp_addr 18 14 3 rfl rfl rfl rfl rfl rfl rfl rfl (fun a w e => by go_simp)) (steps_cons (cp_store 19 4 14 9 18 9 rfl rfl rfl rfl rfl rfl (show _ < 15 by decide) rfl rfl rfl (by kernel_rfl) rfl rfl rfl rfl (by kernel_rfl) rfl (fun a w old e e2 h h2 => by go_simp)) steps_nil)))))))))))))))))))
  intro W9 hO9 hC9
  replace X := (show By w _ (#[.int .u8 _, .int .u8 fl, .int .u32 f2, .int .u16 f3, .int .u16 f4, .int .u32 f5, .int .u32 0, .int .u32 0, .int .u16 0, .int .u16 0, .slice none 0 0, .slice none 0 0, .slice none 0 0, .slice A13 f13.length c13, .slice none 0 0]) g3 W9 from X.only hO9 hC9)
  clear hO9 hC9
  simp only [putSel, if_true, Act.put, List.setIfInBounds_toArray, List.set_cons_zero, List.set_cons_succ]
  go_wp2_with (with_reducible refine gate_dst (N := 93) rfl ?_; go_must (refine wpList_ret_row 93 rfl rfl rfl (.tmp 3) (.tmp 2) rfl rfl rfl _ _ _ _ rfl rfl rfl X.x3 X.bx.x1 rfl rfl (by simp [Value.oneCell']) ?_))
  exact row_end rfl rfl rfl X.bx.x1 rfl X.bx.x2 (Nat.le_succ _) (by rw [← HFE.out]; rfl)
 have q0 : (f0 == 0) = false := by simpa using h
 clear h
 by_cases h : f0 = 1 ∨ f0 = 2
 ·rcases h with rfl | rfl
  all_goals
   have k0 := U0.out
   go_upto_region 17 with (fail)
   refine copy_region (B := bareB17) (T := 41) (gd := g3) [0, 1, 2, 3, 4, 5, 6, 7, 8, 9, 10, 11, 12, 13, 14, 15, 16, 17, 18, 19, 20, 21, 22, 23] [(0, 51, .pointer (some ⟨w.heap.size, 6, none⟩)), (1, 52, .int .u32 f6), (2, 53, .pointer (some ⟨w.heap.size, 7, none⟩)), (3, 54, .int .u32 f7), (4, 55, .pointer (some ⟨w.heap.size, 8, none⟩)), (5, 56, .int .u16 f8), (6, 57, .pointer (some ⟨w.heap.size, 9, none⟩)), (7, 58, .int .u16 f9), (8, 59, .pointer (some ⟨w.heap.size, 2, none⟩)), (9, 60, .int .u32 f2), (10, 61, .pointer (some ⟨w.heap.size, 14, none⟩)), (11, 62, .slice A14 f14.length c14), (12, 63, .pointer (some ⟨g3, 6, none⟩)), (14, 64, .pointer (some ⟨g3, 7, none⟩)), (16, 65, .pointer (some ⟨g3, 8, none⟩)), (18, 66, .pointer (some ⟨g3, 9, none⟩)), (20, 67, .pointer (some ⟨g3, 2, none⟩)), (22, 68, .pointer (some ⟨g3, 14, none⟩))] [(13, 6, .int .u32 f6), (15, 7, .int .u32 f7), (17, 8, .int .u16 f8), (19, 9, .int .u16 f9), (21, 2, .int .u32 f2), (23, 14, .slice A14 f14.length c14)] (by kernel_rfl) rfl (l := #[false, false, false, false, false, false, false, false, false, false, false, false, false, false, false, false, false, false, false, false, false, false, false, false]) rfl baretab17 barebits17 (by kernel_rfl) (by kernel_rfl) rfl rfl X.x3 ?_ ?_
   ·exact steps_cons (cp_addr 0 0 1 rfl rfl rfl rfl rfl rfl rfl rfl (fun a w e => by go_simp)) (steps_cons (cp_op 1 1 0 0 rfl rfl rfl rfl rfl rfl rfl rfl rfl (by kernel_rfl) rfl (fun a w hO e => by have hs := hO.cell U6.out HN.out; go_simp)) (steps_cons (cp_addr 2 2 1 rfl rfl rfl rfl rfl rfl rfl rfl (fun a w e => by go_simp)) (steps_cons (cp_op 3 3 2 2 rfl rfl rfl rfl rfl rfl rfl rfl rfl (by kernel_rfl) rfl (fun a w hO e => by have hs := hO.cell U7.out HN.out; go_simp)) (steps_cons (cp_addr 4 4 1 rfl rfl rfl rfl rfl rfl rfl rfl (fun a w e => by go_simp)) (steps_cons (cp_op 5 5 4 4 rfl rfl rfl rfl rfl rfl rfl rfl rfl (by kernel_rfl) rfl (fun a w hO e => by have hs := hO.cell U8.out HN.out; go_simp)) (steps_cons (cp_addr 6 6 1 rfl rfl rfl rfl rfl rfl rfl rfl (fun a w e => by go_simp)) (steps_cons (cp_op 7 7 6 6 rfl rfl rfl rfl rfl rfl rfl rfl rfl (by kernel_rfl) rfl (fun a w hO e => by have hs := hO.cell U9.out HN.out; go_simp)) (steps_cons (cp_addr 8 8 1 rfl rfl rfl rfl rfl rfl rfl rfl (fun a w e => by go_simp)) (steps_cons (cp_op 9 9 8 8 rfl rfl rfl rfl rfl rfl rfl rfl rfl (by kernel_rfl) rfl (fun a w hO e => by have hs := hO.cell U2.out HN.out; go_simp)) (steps_cons (cp_addr 10 10 1 rfl rfl rfl rfl rfl rfl rfl rfl (fun a w e => by go_simp)) (steps_cons (cp_op 11 11 10 10 rfl rfl rfl rfl rfl rfl rfl rfl rfl (by kernel_rfl) rfl (fun a w hO e => by have hs := hO.cell U14.out HN.out; go_simp)) (steps_cons (cp_addr 12 12 3 rfl rfl rfl rfl rfl rfl rfl rfl (fun a w e => by go_simp)) (steps_cons (cp_store 13 0 12 1 12 1 rfl rfl rfl rfl rfl rfl (show _ < 15 by decide) rfl rfl rfl (by kernel_rfl) rfl rfl rfl rfl (by kernel_rfl) rfl (fun a w old e e2 h h2 => by go_simp)) (steps_cons (cp_addr 14 13 3 rfl rfl rfl rfl rfl rfl rfl rfl (fun a w e => by go_simp)) (steps_cons (cp_store 15 1 13 3 14 3 rfl rfl rfl rfl rfl rfl (show _ < 15 by decide) rfl rfl rfl (by kernel_rfl) rfl rfl rfl rfl (by kernel_rfl) rfl (fun a w old e e2 h h2 => by go_simp)) (steps_cons (cp_addr 16 14 3 rfl rfl rfl rfl rfl rfl rfl rfl (fun a w e => by go_simp)) (steps_cons (cp_store 17 2 14 5 16 5 rfl rfl rfl rfl rfl rfl (show _ < 15 by decide) rfl rfl rfl (by kernel_rfl) rfl rfl rfl rfl (by kernel_rfl) rfl (fun a w old e e2 h h2 => by go_simp)) (steps_cons (cp_addr 18 15 3 rfl rfl rfl rfl rfl rfl rfl rfl (fun a w e => by go_simp)) (steps_cons (cp_store 19 3 15 7 18 7 rfl rfl rfl rfl rfl rfl (show _ < 15 by decide) rfl rfl rfl (by kernel_rfl) rfl rfl rfl rfl (by kernel_rfl) rfl (fun a w old e e2 h h2 => by go_simp)) (steps_cons (cp_addr 20 16 3 rfl rfl rfl rfl rfl rfl rfl rfl (fun a w e => by go_simp)) (steps_cons (cp_store 21 4 16 9 20 9 rfl rfl rfl rfl rfl rfl (show _ < 15 by decide) rfl rfl rfl (by kernel_rfl) rfl rfl rfl rfl (by kernel_rfl) rfl (fun a w old e e2 h h2 => by go_simp)) (steps_cons (cp_addr 22 17 3 rfl rfl rfl rfl rfl rfl rfl rfl (fun a w e => by go_simp)) (steps_cons (cp_store 23 5 17 11 22 11 rfl rfl rfl rfl rfl rfl (show _ < 15 by decide) rfl rfl rfl (by kernel_rfl) rfl rfl rfl rfl (by kernel_rfl) rfl (fun a w old e e2 h h2 => by go_simp)) steps_nil)))))))))))))))))))))))
   intro W9 hO9 hC9
   replace X := (show By w _ (#[.int .u8 _, .int .u8 fl, .int .u32 f2, .int .u16 0, .int .u16 0, .int .u32 0, .int .u32 f6, .int .u32 f7, .int .u16 f8, .int .u16 f9, .slice none 0 0, .slice none 0 0, .slice none 0 0, .slice none 0 0, .slice A14 f14.length c14]) g3 W9 from X.only hO9 hC9)
   clear hO9 hC9
   simp only [putSel, if_true, Act.put, List.setIfInBounds_toArray, List.set_cons_zero, List.set_cons_succ]
   go_wp2_with (with_reducible refine gate_dst (N := 93) rfl ?_; go_must (refine wpList_ret_row 93 rfl rfl rfl (.tmp 3) (.tmp 2) rfl rfl rfl _ _ _ _ rfl rfl rfl X.x3 X.bx.x1 rfl rfl (by simp [Value.oneCell']) ?_))
   exact row_end rfl rfl rfl X.bx.x1 rfl X.bx.x2 (Nat.le_succ _) (by rw [← HFE.out]; rfl)
 have q1 : (f0 == 1) = false := by simp; omega
 have q2 : (f0 == 2) = false := by simp; omega
 clear h
 by_cases h : f0 = 16
 ·subst h
  have k0 := U0.out
  have HU := Lh (fun (i : Nat) (u : Value) (h : W.cell? ⟨w.heap.size, i, none⟩ = some u) => (show (W.setCell ⟨g3, 11, none⟩ (.slice A11 f11.length c11)).cell? ⟨w.heap.size, i, none⟩ = some u from ((Only.refl (· = g3) W).setCell (fun _ => rfl) _).cell h HN.out))
  have k11 : W.cell? ⟨w.heap.size, 11, none⟩ = some (.slice A11 f11.length c11) := U11.out
  have d11 : W.cell? ⟨g3, 11, none⟩ = some (.slice none 0 0) := blk_cell X.x3 11
  have f_11 := blk_frozen X.x3 11
  go_upto_region 19 with (fail)
  replace X := X.set 11 (.slice A11 f11.length c11)
  replace U0 := Lh (HU.out _ _ U0.out)
  replace U2 := Lh (HU.out _ _ U2.out)
  replace U7 := Lh (HU.out _ _ U7.out)
  replace U10 := Lh (HU.out _ _ U10.out)
  replace U12 := Lh (HU.out _ _ U12.out)
  clear HU k0 k11 d11 f_11
  generalize W.setCell ⟨g3, 11, none⟩ (.slice A11 f11.length c11) = W at *
  refine copy_region (B := bareB19) (T := 41) (gd := g3) [0, 1, 2, 3, 4, 5, 6, 7, 8, 9, 10, 11, 12, 13, 14, 15] [(0, 72, .pointer (some ⟨w.heap.size, 2, none⟩)), (1, 73, .int .u32 f2), (2, 74, .pointer (some ⟨w.heap.size, 7, none⟩)), (3, 75, .int .u32 f7), (4, 76, .pointer (some ⟨w.heap.size, 10, none⟩)), (5, 77, .slice A10 f10.length c10), (6, 78, .pointer (some ⟨w.heap.size, 12, none⟩)), (7, 79, .slice A12 f12.length c12), (8, 80, .pointer (some ⟨g3, 2, none⟩)), (10, 81, .pointer (some ⟨g3, 7, none⟩)), (12, 82, .pointer (some ⟨g3, 10, none⟩)), (14, 83, .pointer (some ⟨g3, 12, none⟩))] [(9, 2, .int .u32 f2), (11, 7, .int .u32 f7), (13, 10, .slice A10 f10.length c10), (15, 12, .slice A12 f12.length c12)] (by kernel_rfl) rfl (l := #[false, false, false, false, false, false, false, false, false, false, false, false, false, false, false, false]) rfl baretab19 barebits19 (by kernel_rfl) (by kernel_rfl) rfl rfl X.x3 ?_ ?_
  ·exact steps_cons (cp_addr 0 0 1 rfl rfl rfl rfl rfl rfl rfl rfl (fun a w e => by go_simp)) (steps_cons (cp_op 1 1 0 0 rfl rfl rfl rfl rfl rfl rfl rfl rfl (by kernel_rfl) rfl (fun a w hO e => by have hs := hO.cell U2.out HN.out; go_simp)) (steps_cons (cp_addr 2 2 1 rfl rfl rfl rfl rfl rfl rfl rfl (fun a w e => by go_simp)) (steps_cons (cp_op 3 3 2 2 rfl rfl rfl rfl rfl rfl rfl rfl rfl (by kernel_rfl) rfl (fun a w hO e => by have hs := hO.cell U7.out HN.out; go_simp)) (steps_cons (cp_addr 4 4 1 rfl rfl rfl rfl rfl rfl rfl rfl (fun a w e => by go_simp)) (steps_cons (cp_op 5 5 4 4 rfl rfl rfl rfl rfl rfl rfl rfl rfl (by kernel_rfl) rfl (fun a w hO e => by have hs := hO.cell U10.out HN.out; go_simp)) (steps_cons (cp_addr 6 6 1 rfl rfl rfl rfl rfl rfl rfl rfl (fun a w e => by go_simp)) (steps_cons (cp_op 7 7 6 6 rfl rfl rfl rfl rfl rfl rfl rfl rfl (by kernel_rfl) rfl (fun a w hO e => by have hs := hO.cell U12.out HN.out; go_simp)) (steps_cons (cp_addr 8 8 3 rfl rfl rfl rfl rfl rfl rfl rfl (fun a w e => by go_simp)) (steps_cons (cp_store 9 0 8 1 8 1 rfl rfl rfl rfl rfl rfl (show _ < 15 by decide) rfl rfl rfl (by kernel_rfl) rfl rfl rfl rfl (by kernel_rfl) rfl (fun a w old e e2 h h2 => by go_simp)) (steps_cons (cp_addr 10 9 3 rfl rfl rfl rfl rfl rfl rfl rfl (fun a w e => by go_simp)) (steps_cons (cp_store 11 1 9 3 10 3 rfl rfl rfl rfl rfl rfl (show _ < 15 by decide) rfl rfl rfl (by kernel_rfl) rfl rfl rfl rfl (by kernel_rfl) rfl (fun a w old e e2 h h2 => by go_simp)) (steps_cons (cp_addr 12 10 3 rfl rfl rfl rfl rfl rfl rfl rfl (fun a w e => by go_simp)) (steps_cons (cp_store 13 2 10 5 12 5 rfl rfl rfl rfl rfl rfl (show _ < 15 by decide) rfl rfl rfl (by kernel_rfl) rfl rfl rfl rfl (by kernel_rfl) rfl (fun a w old e e2 h h2 => by go_simp)) (steps_cons (cp_addr 14 11 3 rfl rfl rfl rfl rfl rfl rfl rfl (fun a w e => by go_simp)) (steps_cons (cp_store 15 3 11 7 14 7 rfl rfl rfl rfl rfl rfl (show _ < 15 by decide) rfl rfl rfl (by kernel_rfl) rfl rfl rfl rfl (by kernel_rfl) rfl (fun a w old e e2 h h2 => by go_simp)) steps_nil)))))))))))))))
  intro W8 hO9 hC9
  replace X := (show By w _ (#[.int .u8 _, .int .u8 fl, .int .u32 f2, .int .u16 0, .int .u16 0, .int .u32 0, .int .u32 0, .int .u32 f7, .int .u16 0, .int .u16 0, .slice A10 f10.length c10, .slice A11 f11.length c11, .slice A12 f12.length c12, .slice none 0 0, .slice none 0 0]) g3 W8 from X.only hO9 hC9)
  clear hO9 hC9
  simp only [putSel, if_true, Act.put, List.setIfInBounds_toArray, List.set_cons_zero, List.set_cons_succ]
  go_wp2_with (with_reducible refine gate_dst (N := 93) rfl ?_; go_must (refine wpList_ret_row 93 rfl rfl rfl (.tmp 3) (.tmp 2) rfl rfl rfl _ _ _ _ rfl rfl rfl X.x3 X.bx.x1 rfl rfl (by simp [Value.oneCell']) ?_))
  exact row_end rfl rfl rfl X.bx.x1 rfl X.bx.x2 (Nat.le_succ _) (by rw [← HFE.out]; rfl)
 have q16 : (f0 == 16) = false := by simpa using h
 clear h
 by_cases h : f0 = 3
 ·subst h
  have k0 := U0.out
  go_upto_region 19 with (fail)
  refine copy_region (B := bareB19) (T := 41) (gd := g3) [0, 1, 2, 3, 4, 5, 6, 7, 8, 9, 10, 11, 12, 13, 14, 15] [(0, 72, .pointer (some ⟨w.heap.size, 2, none⟩)), (1, 73, .int .u32 f2), (2, 74, .pointer (some ⟨w.heap.size, 7, none⟩)), (3, 75, .int .u32 f7), (4, 76, .pointer (some ⟨w.heap.size, 10, none⟩)), (5, 77, .slice A10 f10.length c10), (6, 78, .pointer (some ⟨w.heap.size, 12, none⟩)), (7, 79, .slice A12 f12.length c12), (8, 80, .pointer (some ⟨g3, 2, none⟩)), (10, 81, .pointer (some ⟨g3, 7, none⟩)), (12, 82, .pointer (some ⟨g3, 10, none⟩)), (14, 83, .pointer (some ⟨g3, 12, none⟩))] [(9, 2, .int .u32 f2), (11, 7, .int .u32 f7), (13, 10, .slice A10 f10.length c10), (15, 12, .slice A12 f12.length c12)] (by kernel_rfl) rfl (l := #[false, false, false, false, false, false, false, false, false, false, false, false, false, false, false, false]) rfl baretab19 barebits19 (by kernel_rfl) (by kernel_rfl) rfl rfl X.x3 ?_ ?_
  ·exact steps_cons (cp_addr 0 0 1 rfl rfl rfl rfl rfl rfl rfl rfl (fun a w e => by go_simp)) (steps_cons (cp_op 1 1 0 0 rfl rfl rfl rfl rfl rfl rfl rfl rfl (by kernel_rfl) rfl (fun a w hO e => by have hs := hO.cell U2.out HN.out; go_simp)) (steps_cons (cp_addr 2 2 1 rfl rfl rfl rfl rfl rfl rfl rfl (fun a w e => by go_simp)) (steps_cons (cp_op 3 3 2 2 rfl rfl rfl rfl rfl rfl rfl rfl rfl (by kernel_rfl) rfl (fun a w hO e => by have hs := hO.cell U7.out HN.out; go_simp)) (steps_cons (cp_addr 4 4 1 rfl rfl rfl rfl rfl rfl rfl rfl (fun a w e => by go_simp)) (steps_cons (cp_op 5 5 4 4 rfl rfl rfl rfl rfl rfl rfl rfl rfl (by kernel_rfl) rfl (fun a w hO e => by have hs := hO.cell U10.out HN.out; go_simp)) (steps_cons (cp_addr 6 6 1 rfl rfl rfl rfl rfl rfl rfl rfl (fun a w e => by go_simp)) (steps_cons (cp_op 7 7 6 6 rfl rfl rfl rfl rfl rfl rfl rfl rfl (by kernel_rfl) rfl (fun a w hO e => by have hs := hO.cell U12.out HN.out; go_simp)) (steps_cons (cp_addr 8 8 3 rfl rfl rfl rfl rfl rfl rfl rfl (fun a w e => by go_simp)) (steps_cons (cp_store 9 0 8 1 8 1 rfl rfl rfl rfl rfl rfl (show _ < 15 by decide) rfl rfl rfl (by kernel_rfl) rfl rfl rfl rfl (by kernel_rfl) rfl (fun a w old e e2 h h2 => by go_simp)) (steps_cons (cp_addr 10 9 3 rfl rfl rfl rfl rfl rfl rfl rfl (fun a w e => by go_simp)) (steps_cons (cp_store 11 1 9 3 10 3 rfl rfl rfl rfl rfl rfl (show _ < 15 by decide) rfl rfl rfl (by kernel_rfl) rfl rfl rfl rfl (by kernel_rfl) rfl (fun a w old e e2 h h2 => by go_simp)) (steps_cons (cp_addr 12 10 3 rfl rfl rfl rfl rfl rfl rfl rfl (fun a w e => by go_simp)) (steps_cons (cp_store 13 2 10 5 12 5 rfl rfl rfl rfl rfl rfl (show _ < 15 by decide) rfl rfl rfl (by kernel_rfl) rfl rfl rfl rfl (by kernel_rfl) rfl (fun a w old e e2 h h2 => by go_simp)) (steps_cons (cp_addr 14 11 3 rfl rfl rfl rfl rfl rfl rfl rfl (fun a w e => by go_simp)) (steps_cons (cp_store 15 3 11 7 14 7 rfl rfl rfl rfl rfl rfl (show _ < 15 by decide) rfl rfl rfl (by kernel_rfl) rfl rfl rfl rfl (by kernel_rfl) rfl (fun a w old e e2 h h2 => by go_simp)) steps_nil)))))))))))))))
  intro W9 hO9 hC9
  replace X := (show By w _ (#[.int .u8 _, .int .u8 fl, .int .u32 f2, .int .u16 0, .int .u16 0, .int .u32 0, .int .u32 0, .int .u32 f7, .int .u16 0, .int .u16 0, .slice A10 f10.length c10, .slice none 0 0, .slice A12 f12.length c12, .slice none 0 0, .slice none 0 0]) g3 W9 from X.only hO9 hC9)
  clear hO9 hC9
  simp only [putSel, if_true, Act.put, List.setIfInBounds_toArray, List.set_cons_zero, List.set_cons_succ]
  go_wp2_with (with_reducible refine gate_dst (N := 93) rfl ?_; go_must (refine wpList_ret_row 93 rfl rfl rfl (.tmp 3) (.tmp 2) rfl rfl rfl _ _ _ _ rfl rfl rfl X.x3 X.bx.x1 rfl rfl (by simp [Value.oneCell']) ?_))
  exact row_end rfl rfl rfl X.bx.x1 rfl X.bx.x2 (Nat.le_succ _) (by rw [← HFE.out]; rfl)
 have q3 : (f0 == 3) = false := by simpa using h
 clear h
 by_cases h : f0 = 4 ∨ f0 = 5 ∨ f0 = 6 ∨ f0 = 9
 ·rcases h with rfl | rfl | rfl | rfl
  all_goals
   have k0 := U0.out
   have k14 : W.cell? ⟨w.heap.size, 14, none⟩ = some (.slice A14 f14.length c14) := U14.out
   have d14 : W.cell? ⟨g3, 14, none⟩ = some (.slice none 0 0) := blk_cell X.x3 14
   have f_14 := blk_frozen X.x3 14
   go_upto_region 23 with (fail)
   refine wp_gen (By w _ (#[.int .u8 _, .int .u8 fl, .int .u32 0, .int .u16 0, .int .u16 0, .int .u32 0, .int .u32 0, .int .u32 0, .int .u16 0, .int .u16 0, .slice none 0 0, .slice none 0 0, .slice none 0 0, .slice none 0 0, .slice A14 f14.length c14]) g3) (X.set 14 _) ?_
   clear X k14 d14 f_14
   intro W9 X
   go_wp2_with (with_reducible refine gate_dst (N := 93) rfl ?_; go_must (refine wpList_ret_row 93 rfl rfl rfl (.tmp 3) (.tmp 2) rfl rfl rfl _ _ _ _ rfl rfl rfl X.x3 X.bx.x1 rfl rfl (by simp [Value.oneCell']) ?_))
   exact row_end rfl rfl rfl X.bx.x1 rfl X.bx.x2 (Nat.le_succ _) (by rw [← HFE.out]; rfl)
 have q4 : (f0 == 4) = false := by simp; omega
 have q5 : (f0 == 5) = false := by simp; omega
 have q6 : (f0 == 6) = false := by simp; omega
 have q9 : (f0 == 9) = false := by simp; omega
 clear h
 by_cases h : f0 = 7
 ·subst h
  have k0 := U0.out
  have k2 : W.cell? ⟨w.heap.size, 2, none⟩ = some (.int .u32 f2) := U2.out
  have d2 : W.cell? ⟨g3, 2, none⟩ = some (.int .u32 0) := blk_cell X.x3 2
  have f_2 := blk_frozen X.x3 2
  go_upto_region 23 with (fail)
  refine wp_gen (By w _ (#[.int .u8 _, .int .u8 fl, .int .u32 f2, .int .u16 0, .int .u16 0, .int .u32 0, .int .u32 0, .int .u32 0, .int .u16 0, .int .u16 0, .slice none 0 0, .slice none 0 0, .slice none 0 0, .slice none 0 0, .slice none 0 0]) g3) (X.set 2 _) ?_
  clear X k2 d2 f_2
  intro W9 X
  go_wp2_with (with_reducible refine gate_dst (N := 93) rfl ?_; go_must (refine wpList_ret_row 93 rfl rfl rfl (.tmp 3) (.tmp 2) rfl rfl rfl _ _ _ _ rfl rfl rfl X.x3 X.bx.x1 rfl rfl (by simp [Value.oneCell']) ?_))
  exact row_end rfl rfl rfl X.bx.x1 rfl X.bx.x2 (Nat.le_succ _) (by rw [← HFE.out]; rfl)
 have q7 : (f0 == 7) = false := by simpa using h
 clear h
 by_cases h : f0 = 8 ∨ f0 = 11 ∨ f0 = 14
 ·rcases h with rfl | rfl | rfl
  all_goals
   have k0 := U0.out
   go_wp2_with (with_reducible refine gate_dst (N := 93) rfl ?_; go_must (refine wpList_ret_row 93 rfl rfl rfl (.tmp 3) (.tmp 2) rfl rfl rfl _ _ _ _ rfl rfl rfl X.x3 X.bx.x1 rfl rfl (by simp [Value.oneCell']) ?_))
   exact row_end rfl rfl rfl X.bx.x1 rfl X.bx.x2 (Nat.le_succ _) (by rw [← HFE.out]; rfl)
 have q8 : (f0 == 8) = false := by simp; omega
 have q11 : (f0 == 11) = false := by simp; omega
 have q14 : (f0 == 14) = false := by simp; omega
 clear h
 have k0 := U0.out
 have k13 : W.cell? ⟨w.heap.size, 13, none⟩ = some (.slice A13 f13.length c13) := U13.out
 have d13 : W.cell? ⟨g3, 13, none⟩ = some (.slice none 0 0) := blk_cell X.x3 13
 have f_13 := blk_frozen X.x3 13
 go_upto_region 23 with (fail)
 refine wp_gen (By w _ (#[.int .u8 _, .int .u8 fl, .int .u32 0, .int .u16 0, .int .u16 0, .int .u32 0, .int .u32 0, .int .u32 0, .int .u16 0, .int .u16 0, .slice none 0 0, .slice none 0 0, .slice none 0 0, .slice A13 f13.length c13, .slice none 0 0]) g3) (X.set 13 _) ?_
 clear X k13 d13 f_13
 intro W9 X
 go_wp2_with (with_reducible refine gate_dst (N := 93) rfl ?_; go_must (refine wpList_ret_row 93 rfl rfl rfl (.tmp 3) (.tmp 2) rfl rfl rfl _ _ _ _ rfl rfl rfl X.x3 X.bx.x1 rfl rfl (by simp [Value.oneCell']) ?_))
 have hf : hasF f0 = fun i => i == 13 := by
  funext i
  simp only [beq_eq_false_iff_ne] at q0 q1 q2 q16 q3 q4 q5 q6 q9 q7 q8 q11 q14
  unfold hasF
  rw [if_neg q0, if_neg (fun e => e.elim q1 q2), if_neg q16, if_neg q3, if_neg (fun e => e.elim q4 (fun e => e.elim q5 (fun e => e.elim q6 q9))), if_neg q7, if_neg (fun e => e.elim q8 (fun e => e.elim q11 q14))]
 refine row_end rfl rfl rfl X.bx.x1 rfl X.bx.x2 (Nat.le_succ _) ?_
 rw [← HFE.out]
 unfold bareD
 dsimp only
 rw [hf]
 rfl
end Go.Proofs.YtdlamomabonkjaaDoor.Ch
end
section
namespace Go.Proofs.YtdlamomabonkjaaDoor.Ch
open Go.RowKit YtdlamomabonkjaaDoorW.PrintWords YtdlamomabonkjaaDoorW.PrintLast Base PCh ParDec ParEnc
def valAT8 : Bool × List (List Nat × List Nat) := (true, [([], []), ([], []), ([1], [1]), ([2], [2]), ([3], [3]), ([], []), ([5], [5]), ([4, 6], [4, 6]), ([0, 0, 1, 2, 3, 4, 5, 6, 7], [0]), ([8, 0, 1, 2, 3, 4, 5, 6, 7], [8]), ([9, 7, 7, 0, 1, 2, 3, 4, 5, 6, 7], [7, 9])])
def valAB8 : List Nat := [0, 0, 2, 6, 14, 0, 32, 126, 255, 511, 1023]
theorem valAtab8 : Go.Proofs.YtdlamomabonkjaaDoorW.PrintLast.rtab .any (Go.Proofs.YtdlamomabonkjaaDoorW.PrintLast.opsOf Tryd.f52 8) = valAT8 := by kernel_rfl
theorem valAbits8 : Go.Proofs.YtdlamomabonkjaaDoorW.PrintLast.waitsOk valAT8.2 valAB8 = true := by kernel_rfl
def encP (ps : List PrmS) : List Int × Int := if ps.length > 256 then ([], 3) else runB [] ps
def gapL : List GapS → List Int
 | [] => []
 | g :: r => [g.f0, g.f1] ++ gapL r
def valData (x : Chk) : List Int := fourL [x.f2] ++ twoL [x.f3, x.f4] ++ fourL [x.f5] ++ x.f13
def valueD (x : Chk) : List Int :=
 if x.f0 = 0 then valData x
 else if x.f0 = 1 ∨ x.f0 = 2 then fourL [x.f6, x.f7] ++ twoL [x.f8, x.f9] ++ fourL [x.f2] ++ (encP x.f14).1
 else if x.f0 = 3 then fourL [x.f2, x.f7] ++ twoL [IntKind.u16.wrap (x.f10.length : Int), IntKind.u16.wrap (x.f12.length : Int)] ++ twoL (gapL x.f10) ++ fourL x.f12
 else if x.f0 = 16 then fourL [x.f2, x.f7] ++ twoL [IntKind.u16.wrap (x.f10.length : Int), IntKind.u16.wrap (x.f11.length : Int), IntKind.u16.wrap (x.f12.length : Int), 0] ++ twoL (gapL x.f10) ++ twoL (gapL x.f11) ++ fourL x.f12
 else if x.f0 = 4 ∨ x.f0 = 5 ∨ x.f0 = 6 ∨ x.f0 = 9 then (encP x.f14).1
 else if x.f0 = 7 then fourL [x.f2]
 else if x.f0 = 8 ∨ x.f0 = 11 ∨ x.f0 = 14 then []
 else x.f13
def ValP (xs : List Int) (w : World) (e : Ending) (w' : World) : Prop := ∃ A c, e = .returned (.slice A xs.length c) ∧ xs.length ≤ c ∧ (Kd.int .u8).C w' A xs.length xs ∧ Below w.heap.size w w'
def ValQ (b0 : Nat) (xs : List Int) (w : World) (e : Ending) (w' : World) : Prop :=
 ∃ A c, e = .returned (.slice A xs.length c) ∧ xs.length ≤ c ∧ (∀ W, Only (fun k => b0 ≤ k ∧ k < w.heap.size) w' W → (Kd.int .u8).C W A xs.length xs) ∧ Below w.heap.size w w'
theorem ValQ.P {b0 : Nat} {xs : List Int} {w w' : World} {e : Ending} (h : ValQ b0 xs w e w') : ValP xs w e w' := by
 obtain ⟨A, c, h1, h2, h3, h4⟩ := h
 exact ⟨A, c, h1, h2, h3 _ (Only.refl _ _), h4⟩
theorem ValQ.of_R {b0 base : Nat} {ok : Nat → Prop} {v : Value} {xs : List Int} {w w' : World} (hR : (Kd.int .u8).R 5 w' base ok v xs) (hb : w.heap.size ≤ base) (hB : Below w.heap.size w w') : ValQ b0 xs w (.returned v) w' := by
 obtain ⟨A, c, rfl, hle, hC⟩ := Kd.R_reads hR
 refine ⟨A, c, rfl, hle, fun W hO => ?_, hB⟩
 obtain ⟨A2, c2, he, _, hC2⟩ := Kd.R_reads (R_only hR hO (fun k hk _ h => by omega))
 injection he with e1 _ _
 rw [e1]
 exact hC2
theorem wfour_lit (w : World) (gw : Nat) (xs ns : List Int) (vs : List Value) (n : Nat) (hv : vs = ns.map (Value.int .u32)) (hn : ns.length = n) (hs : WS w gw xs) (hx : xs.length + 4 * ns.length ≤ 140737488355328) :
  Calls Tryd.prog 76 #[.pointer (some ⟨gw, 0, none⟩), .slice (some ⟨w.heap.size, 0, none⟩) n n] (w.alloc (.cells vs.toArray 23)) fun e w' => e = .returned (.tuple #[]) ∧ WS w' gw (xs ++ fourL ns) ∧ Fr gw w w' := by
 subst hn
 obtain ⟨u, hg, hR⟩ := hs
 have hlt := blk_lt hg
 have hC : (Kd.int .u32).C (w.alloc (.cells vs.toArray 23)) (some ⟨w.heap.size, 0, none⟩) ns.length ns := row_lit (Kd.int .u32) rfl w _ vs ns (by rw [hv, List.length_map]) (by omega) (fun j v p h1 h2 => by
  rw [hv, List.getElem?_map, h2] at h1
  injection h1 with h1
  subst h1
  rfl)
 refine (wfour_calls (w.alloc (.cells vs.toArray 23)) gw xs (some ⟨w.heap.size, 0, none⟩) ns.length ns ⟨u, blk_alloc hg _, Kd.R_alloc hR _⟩ (fun W hF => hF.C_lit (by decide) (by decide) (blk_new _ _) hC) hx).mono ?_
 rintro e w' ⟨h1, h2, h3⟩
 exact ⟨h1, h2, ((Fr.refl gw w).alloc (Nat.le_of_lt hlt) _).trans h3⟩
theorem wtwo_lit (w : World) (gw : Nat) (xs ns : List Int) (vs : List Value) (n : Nat) (hv : vs = ns.map (Value.int .u16)) (hn : ns.length = n) (hs : WS w gw xs) (hx : xs.length + 2 * ns.length ≤ 140737488355328) :
  Calls Tryd.prog 53 #[.pointer (some ⟨gw, 0, none⟩), .slice (some ⟨w.heap.size, 0, none⟩) n n] (w.alloc (.cells vs.toArray 22)) fun e w' => e = .returned (.tuple #[]) ∧ WS w' gw (xs ++ twoL ns) ∧ Fr gw w w' := by
 subst hn
 obtain ⟨u, hg, hR⟩ := hs
 have hlt := blk_lt hg
 have hC : (Kd.int .u16).C (w.alloc (.cells vs.toArray 22)) (some ⟨w.heap.size, 0, none⟩) ns.length ns := row_lit (Kd.int .u16) rfl w _ vs ns (by rw [hv, List.length_map]) (by omega) (fun j v p h1 h2 => by
  rw [hv, List.getElem?_map, h2] at h1
  injection h1 with h1
  subst h1
  rfl)
 refine (wtwo_calls (w.alloc (.cells vs.toArray 22)) gw xs (some ⟨w.heap.size, 0, none⟩) ns.length ns ⟨u, blk_alloc hg _, Kd.R_alloc hR _⟩ (fun W hF => hF.C_lit (by decide) (by decide) (blk_new _ _) hC) hx).mono ?_
 rintro e w' ⟨h1, h2, h3⟩
 exact ⟨h1, h2, ((Fr.refl gw w).alloc (Nat.le_of_lt hlt) _).trans h3⟩
end Go.Proofs.YtdlamomabonkjaaDoor.Ch
end
section
namespace Go.Proofs.YtdlamomabonkjaaDoor.Ch
open Go.RowKit YtdlamomabonkjaaDoorW.PrintWords YtdlamomabonkjaaDoorW.PrintLast Base PCh ParDec ParEnc
def checkT1 : Bool × List (List Nat × List Nat) := (true, [([], []), ([], []), ([1], [1]), ([0, 2, 2], [0, 2]), ([3], [3]), ([4, 3], [4])])
def checkB1 : List Nat := [0, 0, 2, 7, 15, 31]
theorem checktab1 : Go.Proofs.YtdlamomabonkjaaDoorW.PrintLast.rtab .any (Go.Proofs.YtdlamomabonkjaaDoorW.PrintLast.opsOf Tryd.f46 1) = checkT1 := by kernel_rfl
theorem checkbits1 : Go.Proofs.YtdlamomabonkjaaDoorW.PrintLast.waitsOk checkT1.2 checkB1 = true := by kernel_rfl
noncomputable def checkD (x : Chk) : Int :=
 if decide (x = bareD x) = false then 63
 else if x.f0 = 0 ∧ x.f13.length = 0 then 62
 else if (x.f0 = 4 ∨ x.f0 = 5) ∧ beatB x.f14 = false then 61
 else if 4096 < x.f10.length ∨ 4096 < x.f11.length ∨ 4096 < x.f12.length then 3
 else if (encP x.f14).2 ≠ 0 then (encP x.f14).2
 else if 65531 < (valueD x).length then 2 else 0
theorem encP_calls (w : World) (A : Option Addr) (c : Nat) (ps : List PrmS) (h : Kd.C k72 w A ps.length ps) (hc : ps.length ≤ c) :
  Calls Tryd.prog 74 #[.slice A ps.length c] w fun e w' => ∃ v0 : Value, e = .returned (.tuple #[v0, .int .i64 (encP ps).2]) ∧ Kd.R (Kd.int .u8) 5 w' w.heap.size (fun _ => True) v0 (encP ps).1 ∧ Below w.heap.size w w' := by
 obtain ⟨k, hk⟩ := encode_run ps
 exact param_Encode.calls k A c ps _ _ w h hc hk
def ValOk (x : Chk) (L : Lay) : Prop := ∀ W, CR W x L → x = bareD x → x.f10.length ≤ 4096 → x.f11.length ≤ 4096 → x.f12.length ≤ 4096 → (encP x.f14).2 = 0 → Calls Tryd.prog 52 #[.agg (CV x L)] W (ValP (valueD x) W)
theorem isBeat_f (a : Int) : chunk_isBeat.f a = some (decide (a = 4 ∨ a = 5)) := by
 unfold chunk_isBeat.f
 by_cases h4 : a = 4
 ·simp [h4]
 ·by_cases h5 : a = 5
  ·simp [h5]
  ·simp [h4, h5]
theorem isBeat_calls (a : Int) (w : World) : Calls Tryd.prog 72 #[.int .u8 a] w fun e w' => e = .returned (.bool (decide (a = 4 ∨ a = 5))) ∧ Drawn0 w w' := chunk_isBeat.calls a _ w (isBeat_f a)
end Go.Proofs.YtdlamomabonkjaaDoor.Ch
end
section
namespace Go.Proofs.YtdlamomabonkjaaDoor.Ch
open Go.RowKit YtdlamomabonkjaaDoorW.PrintWords YtdlamomabonkjaaDoorW.PrintLast Base PCh ParDec ParEnc
def padL (n : Nat) : List Int := List.replicate ((n + 3) / 4 * 4 - n) 0
noncomputable def chunkL (x : Chk) : List Int := [x.f0, x.f1] ++ twoL [IntKind.u16.wrap (4 + ((valueD x).length : Int))] ++ valueD x ++ padL (valueD x).length
noncomputable def runE : List Int → List Chk → List Int × Int
 | acc, [] => (acc, 0)
 | acc, x :: r => if 65536 < (acc ++ chunkL x).length then ([], 2) else runE (acc ++ chunkL x) r
noncomputable def chkAll : List Chk → Int
 | [] => 0
 | x :: r => if checkD x = 0 then chkAll r else checkD x
noncomputable def encD (xs : List Chk) : List Int × Int := if chkAll xs = 0 then runE [] xs else ([], chkAll xs)
theorem checkD_len {x : Chk} (h : checkD x = 0) : (valueD x).length ≤ 65531 := by
 unfold checkD at h
 split at h
 ·cases h
 ·split at h
  ·cases h
  ·split at h
   ·cases h
   ·split at h
    ·cases h
    ·split at h
     ·contradiction
     ·split at h
      ·cases h
      ·omega
theorem chkAll_mem {xs : List Chk} (h : chkAll xs = 0) {x : Chk} (hx : x ∈ xs) : checkD x = 0 := by
 induction xs with
 | nil => cases hx
 | cons y r ih =>
  unfold chkAll at h
  split at h
  ·rcases List.mem_cons.1 hx with rfl | hx
   ·assumption
   ·exact ih h hx
  ·contradiction
theorem _root_.Go.Proofs.YtdlamomabonkjaaDoor.Base.Only.grown {S : Nat → Prop} {a b c : World} {own : Option Nat} (h : Only S a b) (hG : b.grownBy c own) (hS : ∀ k, k < a.heap.size → own = some k → S k) : Only S a c :=
 ⟨hG.os.trans h.os, hG.tape.trans h.tape, hG.output.trans h.output, Nat.le_trans h.size hG.size, fun k hk hn => (hG.block k (Nat.lt_of_lt_of_le hk h.size) (fun e => hn (hS k hk e.symm))).trans (h.block k hk hn)⟩
theorem chk_at {w : World} {A : Option Addr} {xs : List Chk} (h : Kd.C k41 w A xs.length xs) (i : Nat) (hi : i < xs.length) :
  ∃ ad x L, A = some ad ∧ xs.drop i = x :: xs.drop (i + 1) ∧ x ∈ xs ∧ (∀ j v, (CV x L).toList[j]? = some v → w.cell? ((ad.add (i * 15)).add j) = some v) ∧ CR w x L := by
 obtain ⟨ad, c, e, _, hK, hc0⟩ := Kd.C_get h xs[i] (i : Int) (by omega) (by omega)
 rw [Int.toNat_natCast] at hK hc0
 have e2 : xs.getD i xs[i] = xs[i] := getD_lt _ _ _ hi
 rw [e2] at hK
 obtain ⟨L, rfl, hx⟩ := CR.of_K hK
 refine ⟨ad, xs[i], L, e, List.drop_eq_getElem_cons hi, List.getElem_mem hi, fun j v hv => ?_, hx⟩
 rw [Addr.add_add]
 exact hc0 j v hv
theorem wpList_load_cells {P : Program} {ops : Array Oper} {rest : List Oper} {op : Oper} {a : Act} {w : World} {Q : Exit → Act → World → Prop} (hgd : op.guard = none) (ty : TypeId) (x : Operand) (ho : op.op = .load ty x)
  {ad : Addr} (hx : a.eval x = .pointer (some ad)) (cs : Array Value) (d : TypeDesc) (hc : ∀ j v, cs.toList[j]? = some v → w.cell? (ad.add j) = some v)
  (hu : P.underlying ty = some d) (hd : d.isRow = true) (hi : (P.info? ty).map (·.size) = some cs.size)
  (h : wpList P ops Q rest (a.put op.dst (.agg cs)) w) : wpList P ops Q (op :: rest) a w := by
 have hl : (loadCells ad cs.size).run P w = .ok cs w := run_loadCells_list (P := P) w ad cs.toList hc
 have hv : (loadVar ty ad).run P w = .ok (.agg cs) w := by
  cases hq : P.info? ty with
  | none => simp [hq] at hi
  | some i =>
   have hs : i.size = cs.size := by simpa [hq] using hi
   have hagg : (isAgg ty).run P w = .ok true w := by
    unfold isAgg
    rw [Sem.run_bind, run_underlying hu w]
    cases d <;> simp_all [TypeDesc.isRow]
   simp [loadVar, Sem.run_bind, hagg, sizeOf, typeInfo, hq, hs, hl]
 refine wpList_plain hgd fun _ hK => ?_
 have hK' := hK _ _ h
 unfold Oper.wp execOp
 simp only [ho, hx, Instr.loadAt, Instr.sureAddr, Sem.run_bind, Sem.run_pure, Result.andThen_ok, hv]
 exact hK'
theorem exec_load_cells {P : Program} {o : Oper} {a : Act} {w : World} (ty : TypeId) (x : Operand) (ho : o.op = .load ty x) {ad : Addr} (hx : a.eval x = .pointer (some ad)) (cs : Array Value) (d : TypeDesc) (hc : ∀ j v, cs.toList[j]? = some v → w.cell? (ad.add j) = some v)
  (hu : P.underlying ty = some d) (hd : d.isRow = true) (hi : (P.info? ty).map (·.size) = some cs.size) : (execOp a.eval o).run P w = .ok (.value (.agg cs)) w := by
 have hl : (loadCells ad cs.size).run P w = .ok cs w := run_loadCells_list (P := P) w ad cs.toList hc
 have hv : (loadVar ty ad).run P w = .ok (.agg cs) w := by
  cases hq : P.info? ty with
  | none => simp [hq] at hi
  | some i =>
   have hs : i.size = cs.size := by simpa [hq] using hi
   have hagg : (isAgg ty).run P w = .ok true w := by
    unfold isAgg
    rw [Sem.run_bind, run_underlying hu w]
    cases d <;> simp_all [TypeDesc.isRow]
   simp [loadVar, Sem.run_bind, hagg, sizeOf, typeInfo, hq, hs, hl]
 unfold execOp
 simp only [ho, hx, Instr.loadAt, Instr.sureAddr, Sem.run_bind, Sem.run_pure, Result.andThen_ok, hv]
theorem cells_of_blk {w : World} {g : Nat} {cs : Array Value} {t : TypeId} {fr : Nat × Nat} (h : w.heap[g]? = some (.cells cs t fr)) : ∀ (j : Nat) (v : Value), cs.toList[j]? = some v → w.cell? ((⟨g, 0, none⟩ : Addr).add j) = some v := fun j v hv => by
 rw [Addr.add_lit, Nat.zero_add]
 unfold World.cell?
 simp only [h]
 simpa using hv
theorem CV_one (x : Chk) (L : Lay) : (CV x L).all (·.oneCell') = true := by simp [CV, Value.oneCell']
theorem alloc_chunk {o : Oper} {a : Act} {w : World} (ho : o.op = .alloc 41) : (execOp a.eval o).run Tryd.prog w = .ok (.value (.pointer (some ⟨w.heap.size, 0, none⟩))) (w.alloc (.cells #[.int .u8 0, .int .u8 0, .int .u32 0, .int .u16 0, .int .u16 0, .int .u32 0, .int .u32 0, .int .u32 0, .int .u16 0, .int .u16 0, .slice none 0 0, .slice none 0 0, .slice none 0 0, .slice none 0 0, .slice none 0 0] 41)) := by
 unfold execOp
 simp only [ho]
 go_simp
theorem wpList_box {ops : Array Oper} {rest : List Oper} {o1 o2 : Oper} {a : Act} {w : World} {Q : Exit → Act → World → Prop} (h1 : o1.guard = none) (h2 : o2.guard = none) (n : Tmp) (hd : o1.dst = some n) (ho1 : o1.op = .alloc 41)
  (y : Operand) (ho2 : o2.op = .store 41 (.tmp n) y) (cs : Array Value) (hx : (a.put (some n) (.pointer (some ⟨w.heap.size, 0, none⟩))).eval (.tmp n) = .pointer (some ⟨w.heap.size, 0, none⟩))
  (hy : (a.put (some n) (.pointer (some ⟨w.heap.size, 0, none⟩))).eval y = .agg cs) (hsz : (#[.int .u8 0, .int .u8 0, .int .u32 0, .int .u16 0, .int .u16 0, .int .u32 0, .int .u32 0, .int .u32 0, .int .u16 0, .int .u16 0, .slice none 0 0, .slice none 0 0, .slice none 0 0, .slice none 0 0, .slice none 0 0] : Array Value).size = cs.size) (hi : (Tryd.prog.info? 41).map (·.size) = some cs.size) (hone : cs.all (·.oneCell') = true)
  (h : wpList Tryd.prog ops Q rest ((a.put (some n) (.pointer (some ⟨w.heap.size, 0, none⟩))).put o2.dst undef) (w.alloc (.cells cs 41))) : wpList Tryd.prog ops Q (o1 :: o2 :: rest) a w := by
 have h3 : wpList Tryd.prog ops Q (o2 :: rest) (a.put (some n) (.pointer (some ⟨w.heap.size, 0, none⟩))) (w.alloc (.cells #[.int .u8 0, .int .u8 0, .int .u32 0, .int .u16 0, .int .u16 0, .int .u32 0, .int .u32 0, .int .u32 0, .int .u16 0, .int .u16 0, .slice none 0 0, .slice none 0 0, .slice none 0 0, .slice none 0 0, .slice none 0 0] 41)) := by
  refine wpList_store_row h2 41 (.tmp n) y ho2 w.heap.size cs hx hy 41 #[.int .u8 0, .int .u8 0, .int .u32 0, .int .u16 0, .int .u16 0, .int .u32 0, .int .u32 0, .int .u32 0, .int .u16 0, .int .u16 0, .slice none 0 0, .slice none 0 0, .slice none 0 0, .slice none 0 0, .slice none 0 0] (blk_new _ _) hi hsz hone ?_
  rw [World.setRow_alloc_new]
  exact h
 refine wpList_plain h1 fun _ hK => ?_
 have hK' := hK _ _ h3
 rw [← hd] at hK'
 unfold Oper.wp
 rw [alloc_chunk ho1]
 exact hK'
def WSo (ok : Nat → Prop) (w : World) (gw : Nat) (xs : List Int) : Prop := ∃ u, w.heap[gw]? = some (.cells #[u] 87 (0, 0)) ∧ (Kd.int .u8).R 5 w (gw + 1) ok u xs
theorem C_blk {g n : Nat} {w W : World} {kk : IntKind} {ns : List Int} (hg : W.heap[g]? = w.heap[g]?) (hC : (Kd.int kk).C w (some ⟨g, 0, none⟩) n ns) : (Kd.int kk).C W (some ⟨g, 0, none⟩) n ns := by
 obtain ⟨e1, e2, e3⟩ := hC
 refine ⟨e1, e2, fun hn => ?_⟩
 obtain ⟨ad, e, hc⟩ := e3 hn
 injection e with e
 subst e
 refine ⟨_, rfl, fun j p hj => ?_⟩
 obtain ⟨cs, c1, c2, c3⟩ := hc j p hj
 refine ⟨cs, c1, c2, fun i u hu => ?_⟩
 have := c3 i u hu
 have hb : (Addr.add ⟨g, 0, none⟩ (j * (Kd.int kk).sz + i)).block = g := add_block _ _
 unfold World.cell? at this ⊢
 rw [hb, hg]
 rw [hb] at this
 exact this
set_option maxHeartbeats 2000000 in
theorem wtwo_o (w : World) (gw : Nat) (ok : Nat → Prop) (hok : ∀ k, w.heap.size ≤ k → ok k) (hgo : ¬ ok gw) (xs : List Int) (A : Option Addr) (c : Nat) (ns : List Int) (hs : WSo ok w gw xs) (hA : ∀ W, Only (fun k => k = gw ∨ ok k) w W → (Kd.int .u16).C W A ns.length ns) (hx : xs.length + 2 * ns.length ≤ 140737488355328) :
  Calls Tryd.prog 53 #[.pointer (some ⟨gw, 0, none⟩), .slice A ns.length c] w fun e w' => e = .returned (.tuple #[]) ∧ WSo ok w' gw (xs ++ twoL ns) ∧ Only (fun k => k = gw ∨ ok k) w w' := by
 have HS := Lh hs
 have HA := Lh hA
 have hm := (hA w (Only.refl _ _)).2.1
 have HOK := Lh hok
 have HGO := Lh hgo
 clear hs hA hok hgo
 go_enter Tryd.func53, Tryd.ntmps53
 go_wp2
 go_loopw [5, 8] (fun v5 v8 wr => ∃ (i : Nat) (ys : List Int), i ≤ ns.length ∧ v8 = .int .i64 (i : Int) ∧ Hid (ys.length = xs.length + 2 * i) ∧ Hid (ys ++ twoL (ns.drop i) = xs ++ twoL ns) ∧ Hid (WSo ok wr gw ys) ∧ Hid (Only (fun k => k = gw ∨ ok k) w wr)) (fun _ v8 _ => ns.length - (intOf v8).toNat)
 case atStart => exact ⟨0, xs, Nat.zero_le _, rfl, (by show _ = _; omega), rfl, HS.out, Only.refl _ _⟩
 case round =>
  clear HS
  obtain ⟨i, ys, hi, rfl, HYL, HE, HW, HF⟩ := hrel
  by_cases hlt : i < ns.length
  ·obtain ⟨ad, rfl, x0⟩ := int_at (HA.out wr HF.out) i hlt
   obtain ⟨u, hg, hR⟩ := HW.out
   obtain ⟨Au, cu, rfl⟩ := Kd.R_slice hR
   have hE := HE.out
   have hd : ns.drop i = ns.getD i 0 :: ns.drop (i + 1) := by
    rw [List.drop_eq_getElem_cons hlt]
    congr 1
    simp [List.getD_eq_getElem?_getD, hlt]
   rw [hd, twoL] at hE
   generalize ns.getD i 0 = q at *
   have hE2 : (ys ++ [q / 256 % 256, q % 256]) ++ twoL (ns.drop (i + 1)) = xs ++ twoL ns := by rw [List.append_assoc]; exact hE
   have HE2 := Lh hE2
   have HG := Lh hg
   have HR := Lh hR
   have k0 : wr.cell? ⟨gw, 0, none⟩ = some (.slice Au ys.length cu) := blk_cell hg 0
   have HLT := Lh (blk_lt hg)
   clear hE hE2 hd HE HW hg hR
   go_wp2_with (at_builtin; go_must (refine Kd.R_append_row (Value.int .u8) (0 : Int) (w0 := wr.alloc (.cells #[.int .u8 (q / 256 % 256), .int .u8 (q % 256)] 5)) (W := wr.alloc (.cells #[.int .u8 (q / 256 % 256), .int .u8 (q % 256)] 5)) (gw + 1) rfl _ _ 27 5 _ 1 rfl Tryd.underlying27 info_u8 rfl (by decide) (.slice Au ys.length cu) ys [q / 256 % 256, q % 256] (some ⟨wr.heap.size, 0, none⟩) 2 2 ok rfl rfl (fun k hk => HOK.out k (by have := HF.out.size; simp at hk; omega)) (Kd.R_alloc HR.out _) (row_lit (Kd.int .u8) rfl wr 5 [.int .u8 (q / 256 % 256), .int .u8 (q % 256)] [q / 256 % 256, q % 256] rfl (by simp) (fun j v p hv hp => by rcases j with _ | _ | j <;> simp at hv hp <;> (subst hv; subst hp; rfl))) (Below.refl _ _) (by have := HLT.out; simp; omega) (by have := HYL.out; omega) ?_); (intro v1 w1 hR1 hB1 hG1 _; have HR1 := Lh hR1; have HB1 := Lh hB1; have HGR := Lh hG1; clear hR1 hB1 hG1; refine RowKit.Hid.out ?_))
   refine Lh ?_
   obtain ⟨A7, c7, hv1⟩ := Kd.R_slice HR1.out
   subst hv1
   have hown : (Value.slice Au ys.length cu).ownBlock ≠ some gw := fun e => HGO.out ((Kd.R_alloc HR.out (.cells #[.int .u8 (q / 256 % 256), .int .u8 (q % 256)] 5)).1 _ e)
   have hg1 := blk_grown (blk_alloc HG.out (.cells #[.int .u8 (q / 256 % 256), .int .u8 (q % 256)] 5)) HGR.out (fun e => hown e.symm)
   have hs := blk_cell hg1 0
   have hf := blk_frozen hg1 0
   have HG1 := Lh hg1
   have HF1 := Lh ((HF.out.alloc (.cells #[.int .u8 (q / 256 % 256), .int .u8 (q % 256)] 5)).grown HGR.out (fun k _ e => Or.inr ((Kd.R_alloc HR.out (.cells #[.int .u8 (q / 256 % 256), .int .u8 (q % 256)] 5)).1 _ e)))
   have HR2 := Lh (Kd.R_far HR1.out (p := ⟨gw, 0, none⟩) (fun k hk (e : k = gw) => HGO.out (e ▸ hk)) (.slice A7 (ys ++ [q / 256 % 256, q % 256]).length c7))
   rw [show (ys ++ [q / 256 % 256, q % 256]).length = ys.length + 2 by simp] at HR2
   clear hg1 HGR HB1 HF HR HG k0
   go_wp2
   go_roundw
   case rel => exact ⟨i + 1, ys ++ [q / 256 % 256, q % 256], by omega, by go_num, (by have := HYL.out; show _ = _; simp only [List.length_append, List.length_cons, List.length_nil]; omega), HE2, ⟨_, blk_put HG1.out 0 _ rfl, HR2.out⟩, HF1.out.setCell (fun _ => Or.inl rfl) _⟩
   case measure => simp [intOf]; omega
  ·obtain rfl : i = ns.length := by omega
   have hE := HE.out
   rw [List.drop_length, twoL, List.append_nil] at hE
   have HE2 := Lh hE
   clear hE HE HA
   go_wp2
   go_end0
   exact ⟨rfl, by rw [← HE2.out]; exact HW.out, HF.out⟩
theorem WSo.only {ok : Nat → Prop} {S : Nat → Prop} {w w' : World} {gw : Nat} {xs : List Int} (h : WSo ok w gw xs) (o : Only S w w') (hs : ∀ k, gw ≤ k → k < w.heap.size → ¬ S k) : WSo ok w' gw xs := by
 obtain ⟨u, h1, h2⟩ := h
 exact ⟨u, o.blk h1 (hs gw (Nat.le_refl _) (blk_lt h1)), R_only h2 o (fun k hk => hs k (by omega))⟩
theorem wtwo_lit_o (w : World) (gw : Nat) (ok : Nat → Prop) (hok : ∀ k, w.heap.size ≤ k → ok k) (hgo : ¬ ok gw) (xs ns : List Int) (vs : List Value) (n : Nat) (hv : vs = ns.map (Value.int .u16)) (hn : ns.length = n) (hs : WSo ok w gw xs) (hx : xs.length + 2 * ns.length ≤ 140737488355328) :
  Calls Tryd.prog 53 #[.pointer (some ⟨gw, 0, none⟩), .slice (some ⟨w.heap.size, 0, none⟩) n n] (w.alloc (.cells vs.toArray 22)) fun e w' => e = .returned (.tuple #[]) ∧ WSo ok w' gw (xs ++ twoL ns) ∧ Only (fun k => k = gw ∨ ok k) w w' := by
 subst hn
 obtain ⟨u, hg, hR⟩ := hs
 have hlt := blk_lt hg
 have hC : (Kd.int .u16).C (w.alloc (.cells vs.toArray 22)) (some ⟨w.heap.size, 0, none⟩) ns.length ns := row_lit (Kd.int .u16) rfl w _ vs ns (by rw [hv, List.length_map]) (by omega) (fun j v p h1 h2 => by
  rw [hv, List.getElem?_map, h2] at h1
  injection h1 with h1
  subst h1
  rfl)
 have hR' : (Kd.int .u8).R 5 (w.alloc (.cells vs.toArray 22)) (gw + 1) (fun k => ok k ∧ k ≠ w.heap.size) u xs := Kd.R_alloc (Kd.R_mono (Kd.R_bound hR) (fun k hk => ⟨hk.1, by have := hk.2.2.1; omega⟩)) _
 have hsz : (w.alloc (.cells vs.toArray 22)).heap.size = w.heap.size + 1 := by simp
 refine (wtwo_o (w.alloc (.cells vs.toArray 22)) gw (fun k => ok k ∧ k ≠ w.heap.size) (fun k hk => ⟨hok k (by omega), by omega⟩) (fun h => hgo h.1) xs (some ⟨w.heap.size, 0, none⟩) ns.length ns ⟨u, blk_alloc hg _, hR'⟩ (fun W hO => ?_) hx).mono ?_
 ·exact C_blk (hO.block _ (by omega) (fun h => h.elim (fun h => absurd h (by omega)) (fun h => h.2 rfl))) hC
 ·rintro e w' ⟨h1, ⟨u', h2, h3⟩, h4⟩
  exact ⟨h1, ⟨u', h2, Kd.R_mono h3 (fun k hk => hk.1)⟩, ((Only.refl _ w).alloc _).trans h4 (fun k _ h => h.elim Or.inl (fun h => Or.inr h.1))⟩
end Go.Proofs.YtdlamomabonkjaaDoor.Ch
end
