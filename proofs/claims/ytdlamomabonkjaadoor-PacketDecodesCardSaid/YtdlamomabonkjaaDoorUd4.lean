/- The texts of one proof, merged: part 4. -/
import Derived.Test.YtdlamomabonkjaaDoorUd3
import Derived.Defers
import Derived.Recover
import Derived.Laws.Pointers
import Derived.Laws.Rows
import Derived.Laws.Tables
import Derived.Deep.WholeRow
import Derived.Test.YtdlamomabonkjaaDoorProg
import Derived.WalkSpells
import Derived.Deep.RegionWith
import Derived.Lib.SlBytesConst
set_option maxRecDepth 100000
set_option linter.unusedVariables false
set_option linter.unusedSimpArgs false
section
namespace Go.Proofs.YtdlamomabonkjaaDoor.Ch
open Go.RowKit YtdlamomabonkjaaDoorW.PrintWords Base PCh ParDec
set_option maxHeartbeats 4000000 in
theorem read_data (w0 w : World) (g gc : Nat) (v : List UInt8) (fl : Int) (hs : RS w0 w g v) (hc : w.heap[gc]? = some (.cells (freshV 0 fl) 41 (0, 0))) (hB : Below w0.heap.size w0 w) (hg : w0.heap.size ≤ g) (hgc : w0.heap.size ≤ gc) (hne : g ≠ gc) (hv : v.length ≤ 140737488355328) :
  Calls Tryd.prog 92 #[.pointer (some ⟨g, 0, none⟩), .pointer (some ⟨gc, 0, none⟩)] w (ReadP w g gc (readData 0 fl v)) := by
 have HGL := Lh (show g < w.heap.size ∧ gc < w.heap.size from ⟨hs.lt, blk_lt hc⟩)
 have HBW := Lh (fun (W : World) (h : Only (fun k => k = g ∨ k = gc) w W) => hB.trans (h.below hB.size (fun k hk => by omega)))
 have HNE := Lh (show ¬ gc = g from fun e => hne e.symm)
 have HNE2 := Lh (show ¬ g = gc from hne)
 have HG := Lh hg
 have HRS := Lh hs
 unfold freshV at hc
 have HC := Lh hc
 have k0 : w.cell? ⟨gc, 0, none⟩ = some (.int .u8 0) := blk_cell hc 0
 have HO := Lh (Only.refl (fun k => k = g ∨ k = gc) w)
 clear hs hc hB hg hgc hne
 by_cases h0 : 4 ≤ v.length
 ·skip
  by_cases h1 : 6 ≤ v.length
  ·skip
   by_cases h2 : 8 ≤ v.length
   ·skip
    by_cases h3 : 12 ≤ v.length
    ·skip
     have H0 := Lh (fun (W : World) (h : RS w0 W g v) (hO : Only (fun k => k = g ∨ k = gc) w W) => four_ok w0 W g v h (HBW.out W hO) HG.out (by omega) hv)
     obtain ⟨t0, ht0⟩ : ∃ t, be (v.take 4) = t := ⟨_, rfl⟩
     rw [ht0] at H0
     have HT0 := Lh ht0
     clear ht0
     have H1 := Lh (fun (W : World) (h : RS w0 W g (v.drop 4)) (hO : Only (fun k => k = g ∨ k = gc) w W) => two_ok w0 W g (v.drop 4) h (HBW.out W hO) HG.out (by rw [List.length_drop]; omega) (by rw [List.length_drop]; omega))
     obtain ⟨t1, ht1⟩ : ∃ t, be ((v.drop 4).take 2) = t := ⟨_, rfl⟩
     rw [ht1] at H1
     have HT1 := Lh ht1
     clear ht1
     have H2 := Lh (fun (W : World) (h : RS w0 W g (v.drop 6)) (hO : Only (fun k => k = g ∨ k = gc) w W) => two_ok w0 W g (v.drop 6) h (HBW.out W hO) HG.out (by rw [List.length_drop]; omega) (by rw [List.length_drop]; omega))
     obtain ⟨t2, ht2⟩ : ∃ t, be ((v.drop 6).take 2) = t := ⟨_, rfl⟩
     rw [ht2] at H2
     have HT2 := Lh ht2
     clear ht2
     have H3 := Lh (fun (W : World) (h : RS w0 W g (v.drop 8)) (hO : Only (fun k => k = g ∨ k = gc) w W) => four_ok w0 W g (v.drop 8) h (HBW.out W hO) HG.out (by rw [List.length_drop]; omega) (by rw [List.length_drop]; omega))
     obtain ⟨t3, ht3⟩ : ∃ t, be ((v.drop 8).take 4) = t := ⟨_, rfl⟩
     rw [ht3] at H3
     have HT3 := Lh ht3
     clear ht3
     go_enter Tryd.func92, Tryd.ntmps92
     go_wp2_with fail
     refine (H0.out w HRS.out HO.out).mono ?_
     rintro e w1 ⟨rfl, hRS, hO⟩
     replace HRS := Lh (show RS w0 w1 g (v.drop 4) from by exact hRS)
     replace HC := Lh (hO.blk HC.out HNE.out)
     replace HO := Lh (HO.out.trans (hO.mono (S' := fun k => k = g ∨ k = gc) (fun k _ h => Or.inl h)) (fun k _ h => h))
     clear hRS hO H0
     go_wp2_with fail
     refine (H1.out w1 HRS.out HO.out).mono ?_
     rintro e w2 ⟨rfl, hRS, hO⟩
     replace HRS := Lh (show RS w0 w2 g (v.drop 6) from by rw [List.drop_drop] at hRS; exact hRS)
     replace HC := Lh (hO.blk HC.out HNE.out)
     replace HO := Lh (HO.out.trans (hO.mono (S' := fun k => k = g ∨ k = gc) (fun k _ h => Or.inl h)) (fun k _ h => h))
     clear hRS hO H1
     go_wp2_with fail
     refine (H2.out w2 HRS.out HO.out).mono ?_
     rintro e w3 ⟨rfl, hRS, hO⟩
     replace HRS := Lh (show RS w0 w3 g (v.drop 8) from by rw [List.drop_drop] at hRS; exact hRS)
     replace HC := Lh (hO.blk HC.out HNE.out)
     replace HO := Lh (HO.out.trans (hO.mono (S' := fun k => k = g ∨ k = gc) (fun k _ h => Or.inl h)) (fun k _ h => h))
     clear hRS hO H2
     go_wp2_with fail
     refine (H3.out w3 HRS.out HO.out).mono ?_
     rintro e w4 ⟨rfl, hRS, hO⟩
     replace HRS := Lh (show RS w0 w4 g (v.drop 12) from by rw [List.drop_drop] at hRS; exact hRS)
     replace HC := Lh (hO.blk HC.out HNE.out)
     replace HO := Lh (HO.out.trans (hO.mono (S' := fun k => k = g ∨ k = gc) (fun k _ h => Or.inl h)) (fun k _ h => h))
     clear hRS hO H3
     have k2 : w4.cell? ⟨gc, 2, none⟩ = some (.int .u32 0) := blk_cell HC.out 2
     have f2 := blk_frozen HC.out 2
     have k3 : w4.cell? ⟨gc, 3, none⟩ = some (.int .u16 0) := blk_cell HC.out 3
     have f3 := blk_frozen HC.out 3
     have k4 : w4.cell? ⟨gc, 4, none⟩ = some (.int .u16 0) := blk_cell HC.out 4
     have f4 := blk_frozen HC.out 4
     have k5 : w4.cell? ⟨gc, 5, none⟩ = some (.int .u32 0) := blk_cell HC.out 5
     have f5 := blk_frozen HC.out 5
     replace HC := Lh (blk_put (blk_put (blk_put (blk_put HC.out 2 (.int .u32 (t0 : Int)) rfl) 3 (.int .u16 (t1 : Int)) rfl) 4 (.int .u16 (t2 : Int)) rfl) 5 (.int .u32 (t3 : Int)) (show _ = #[.int .u8 0, .int .u8 fl, .int .u32 (t0 : Int), .int .u16 (t1 : Int), .int .u16 (t2 : Int), .int .u32 (t3 : Int), .int .u32 0, .int .u32 0, .int .u16 0, .int .u16 0, .slice none 0 0, .slice none 0 0, .slice none 0 0, .slice none 0 0, .slice none 0 0] from rfl))
     replace HO := Lh (((((HO.out.setCell (p := ⟨gc, 2, none⟩) (fun _ => Or.inr rfl) (.int .u32 (t0 : Int))).setCell (p := ⟨gc, 3, none⟩) (fun _ => Or.inr rfl) (.int .u16 (t1 : Int))).setCell (p := ⟨gc, 4, none⟩) (fun _ => Or.inr rfl) (.int .u16 (t2 : Int))).setCell (p := ⟨gc, 5, none⟩) (fun _ => Or.inr rfl) (.int .u32 (t3 : Int))))
     have HFAR := Lh ((((((Only.refl (· = gc) w4).setCell (p := ⟨gc, 2, none⟩) (fun _ => rfl) (.int .u32 (t0 : Int))).setCell (p := ⟨gc, 3, none⟩) (fun _ => rfl) (.int .u16 (t1 : Int))).setCell (p := ⟨gc, 4, none⟩) (fun _ => rfl) (.int .u16 (t2 : Int))).setCell (p := ⟨gc, 5, none⟩) (fun _ => rfl) (.int .u32 (t3 : Int))))
     replace HRS := Lh (HRS.out.only HFAR.out HNE2.out)
     go_upto_region 4 with (fail)
     clear k2 f2 k3 f3 k4 f4 k5 f5
     generalize ((((w4.setCell ⟨gc, 2, none⟩ (.int .u32 (t0 : Int))).setCell ⟨gc, 3, none⟩ (.int .u16 (t1 : Int))).setCell ⟨gc, 4, none⟩ (.int .u16 (t2 : Int))).setCell ⟨gc, 5, none⟩ (.int .u32 (t3 : Int))) = W5 at *
     obtain ⟨Ar, cr, hbr, hcr, hCr⟩ := HRS.out
     have kr : W5.cell? ⟨g, 0, none⟩ = some (.slice Ar (v.drop 12).length cr) := blk_cell hbr 0
     clear hbr hcr hCr
     by_cases h12 : v.length = 12
     ·have hl : (v.drop 12).length = 0 := by rw [List.length_drop]; omega
      rw [hl] at kr
      have HR := Lh (show readData 0 fl v = .error 62 from by unfold readData; rw [if_neg (by omega), if_pos h12])
      go_wp2
      exact ⟨rfl, ReadP.bad HR.out HC.out rfl HO.out⟩
     ·have hl : ((v.drop 12).length : Int) ≠ 0 := by rw [List.length_drop]; omega
      have hlb : (((v.drop 12).length : Int) == 0) = false := by simpa using hl
      have HR := Lh (show readData 0 fl v = .ok ⟨0, fl, (t0 : Int), (t1 : Int), (t2 : Int), (t3 : Int), 0, 0, 0, 0, [], [], [], intsL (v.drop 12), []⟩ from by unfold readData; rw [if_neg (by omega), if_neg h12, HT0.out, HT1.out, HT2.out, HT3.out])
      have HA := Lh (all_calls w0 W5 g (v.drop 12) HRS.out (HBW.out W5 HO.out) HG.out (by rw [List.length_drop]; omega))
      generalize (v.drop 12).length = nn at *
      go_wp2_with fail
      refine HA.out.mono ?_
      rintro e w6 ⟨u, rfl, hU, hRS, hO⟩
      obtain ⟨Au, cu, hu⟩ := Kd.R_slice hU
      replace HRS := Lh hRS
      replace HC := Lh (hO.blk HC.out HNE.out)
      have HU := Lh (Kd.R_lower (int_of_byte' hU) HO.out.size)
      replace HO := Lh (HO.out.trans (hO.mono (S' := fun k => k = g ∨ k = gc) (fun k _ h => Or.inl h)) (fun k _ h => h))
      clear hRS hO hU HA kr
      generalize (v.drop 12).length = nu at hu
      subst hu
      have k13 : w6.cell? ⟨gc, 13, none⟩ = some (.slice none 0 0) := blk_cell HC.out 13
      have f13 := blk_frozen HC.out 13
      replace HC := Lh (blk_put HC.out 13 (.slice Au nu cu) (show _ = #[.int .u8 0, .int .u8 fl, .int .u32 (t0 : Int), .int .u16 (t1 : Int), .int .u16 (t2 : Int), .int .u32 (t3 : Int), .int .u32 0, .int .u32 0, .int .u16 0, .int .u16 0, .slice none 0 0, .slice none 0 0, .slice none 0 0, .slice Au nu cu, .slice none 0 0] from rfl))
      replace HO := Lh ((HO.out.setCell (p := ⟨gc, 13, none⟩) (fun _ => Or.inr rfl) (.slice Au nu cu)))
      have HFAR := Lh (((Only.refl (· = gc) w6).setCell (p := ⟨gc, 13, none⟩) (fun _ => rfl) (.slice Au nu cu)))
      replace HRS := Lh (HRS.out.only HFAR.out HNE2.out)
      go_upto_region 27 with (fail)
      clear k13 f13
      generalize (w6.setCell ⟨gc, 13, none⟩ (.slice Au nu cu)) = W7 at *
      have HU2 := Lh (R_only HU.out HFAR.out (fun k hk _ e => by have := HGL.out.2; omega))
      obtain ⟨Ar, cr, hbr, hcr, hCr⟩ := HRS.out
      have kr : W7.cell? ⟨g, 0, none⟩ = some (.slice Ar 0 cr) := blk_cell hbr 0
      clear hbr hcr hCr
      go_wp2
      go_end0
      exact ReadP.good HR.out HC.out (k41_mkM _ _ _ (⟨0, fl, (t0 : Int), (t1 : Int), (t2 : Int), (t3 : Int), 0, 0, 0, 0, [], [], [], intsL (v.drop 12), []⟩) (Kd.R_nil _ _ _ _ _) (Kd.R_nil _ _ _ _ _) (Kd.R_nil _ _ _ _ _) HU2.out (Kd.R_nil _ _ _ _ _)) HO.out
    ·skip
     have HR := Lh (show readData 0 fl v = .error 61 from by unfold readData; rw [if_pos (by omega)])
     have H0 := Lh (fun (W : World) (h : RS w0 W g v) (hO : Only (fun k => k = g ∨ k = gc) w W) => four_ok w0 W g v h (HBW.out W hO) HG.out (by omega) hv)
     obtain ⟨t0, ht0⟩ : ∃ t, be (v.take 4) = t := ⟨_, rfl⟩
     rw [ht0] at H0
     have HT0 := Lh ht0
     clear ht0
     have H1 := Lh (fun (W : World) (h : RS w0 W g (v.drop 4)) (hO : Only (fun k => k = g ∨ k = gc) w W) => two_ok w0 W g (v.drop 4) h (HBW.out W hO) HG.out (by rw [List.length_drop]; omega) (by rw [List.length_drop]; omega))
     obtain ⟨t1, ht1⟩ : ∃ t, be ((v.drop 4).take 2) = t := ⟨_, rfl⟩
     rw [ht1] at H1
     have HT1 := Lh ht1
     clear ht1
     have H2 := Lh (fun (W : World) (h : RS w0 W g (v.drop 6)) (hO : Only (fun k => k = g ∨ k = gc) w W) => two_ok w0 W g (v.drop 6) h (HBW.out W hO) HG.out (by rw [List.length_drop]; omega) (by rw [List.length_drop]; omega))
     obtain ⟨t2, ht2⟩ : ∃ t, be ((v.drop 6).take 2) = t := ⟨_, rfl⟩
     rw [ht2] at H2
     have HT2 := Lh ht2
     clear ht2
     have H3 := Lh (fun (W : World) (h : RS w0 W g (v.drop 8)) (hO : Only (fun k => k = g ∨ k = gc) w W) => four_bad w0 W g (v.drop 8) h (HBW.out W hO) HG.out (by rw [List.length_drop]; omega) (by rw [List.length_drop]; omega))
     unfold errE at H3
     go_enter Tryd.func92, Tryd.ntmps92
     go_wp2_with fail
     refine (H0.out w HRS.out HO.out).mono ?_
     rintro e w1 ⟨rfl, hRS, hO⟩
     replace HRS := Lh (show RS w0 w1 g (v.drop 4) from by exact hRS)
     replace HC := Lh (hO.blk HC.out HNE.out)
     replace HO := Lh (HO.out.trans (hO.mono (S' := fun k => k = g ∨ k = gc) (fun k _ h => Or.inl h)) (fun k _ h => h))
     clear hRS hO H0
     go_wp2_with fail
     refine (H1.out w1 HRS.out HO.out).mono ?_
     rintro e w2 ⟨rfl, hRS, hO⟩
     replace HRS := Lh (show RS w0 w2 g (v.drop 6) from by rw [List.drop_drop] at hRS; exact hRS)
     replace HC := Lh (hO.blk HC.out HNE.out)
     replace HO := Lh (HO.out.trans (hO.mono (S' := fun k => k = g ∨ k = gc) (fun k _ h => Or.inl h)) (fun k _ h => h))
     clear hRS hO H1
     go_wp2_with fail
     refine (H2.out w2 HRS.out HO.out).mono ?_
     rintro e w3 ⟨rfl, hRS, hO⟩
     replace HRS := Lh (show RS w0 w3 g (v.drop 8) from by rw [List.drop_drop] at hRS; exact hRS)
     replace HC := Lh (hO.blk HC.out HNE.out)
     replace HO := Lh (HO.out.trans (hO.mono (S' := fun k => k = g ∨ k = gc) (fun k _ h => Or.inl h)) (fun k _ h => h))
     clear hRS hO H2
     go_wp2_with fail
     refine (H3.out w3 HRS.out HO.out).mono ?_
     rintro e w4 ⟨rfl, hO⟩
     refine ⟨rfl, ReadP.bad HR.out (hO.blk HC.out HNE.out) rfl (HO.out.trans (hO.mono (S' := fun k => k = g ∨ k = gc) (fun k _ h => Or.inl h)) (fun k _ h => h))⟩
   ·skip
    have HR := Lh (show readData 0 fl v = .error 61 from by unfold readData; rw [if_pos (by omega)])
    have H0 := Lh (fun (W : World) (h : RS w0 W g v) (hO : Only (fun k => k = g ∨ k = gc) w W) => four_ok w0 W g v h (HBW.out W hO) HG.out (by omega) hv)
    obtain ⟨t0, ht0⟩ : ∃ t, be (v.take 4) = t := ⟨_, rfl⟩
    rw [ht0] at H0
    have HT0 := Lh ht0
    clear ht0
    have H1 := Lh (fun (W : World) (h : RS w0 W g (v.drop 4)) (hO : Only (fun k => k = g ∨ k = gc) w W) => two_ok w0 W g (v.drop 4) h (HBW.out W hO) HG.out (by rw [List.length_drop]; omega) (by rw [List.length_drop]; omega))
    obtain ⟨t1, ht1⟩ : ∃ t, be ((v.drop 4).take 2) = t := ⟨_, rfl⟩
    rw [ht1] at H1
    have HT1 := Lh ht1
    clear ht1
    have H2 := Lh (fun (W : World) (h : RS w0 W g (v.drop 6)) (hO : Only (fun k => k = g ∨ k = gc) w W) => two_bad w0 W g (v.drop 6) h (by rw [List.length_drop]; omega) (by rw [List.length_drop]; omega))
    unfold errE at H2
    go_enter Tryd.func92, Tryd.ntmps92
    go_wp2_with fail
    refine (H0.out w HRS.out HO.out).mono ?_
    rintro e w1 ⟨rfl, hRS, hO⟩
    replace HRS := Lh (show RS w0 w1 g (v.drop 4) from by exact hRS)
    replace HC := Lh (hO.blk HC.out HNE.out)
    replace HO := Lh (HO.out.trans (hO.mono (S' := fun k => k = g ∨ k = gc) (fun k _ h => Or.inl h)) (fun k _ h => h))
    clear hRS hO H0
    go_wp2_with fail
    refine (H1.out w1 HRS.out HO.out).mono ?_
    rintro e w2 ⟨rfl, hRS, hO⟩
    replace HRS := Lh (show RS w0 w2 g (v.drop 6) from by rw [List.drop_drop] at hRS; exact hRS)
    replace HC := Lh (hO.blk HC.out HNE.out)
    replace HO := Lh (HO.out.trans (hO.mono (S' := fun k => k = g ∨ k = gc) (fun k _ h => Or.inl h)) (fun k _ h => h))
    clear hRS hO H1
    go_wp2_with fail
    refine (H2.out w2 HRS.out HO.out).mono ?_
    rintro e w3 ⟨rfl, rfl⟩
    exact ⟨rfl, ReadP.bad HR.out HC.out rfl HO.out⟩
  ·skip
   have HR := Lh (show readData 0 fl v = .error 61 from by unfold readData; rw [if_pos (by omega)])
   have H0 := Lh (fun (W : World) (h : RS w0 W g v) (hO : Only (fun k => k = g ∨ k = gc) w W) => four_ok w0 W g v h (HBW.out W hO) HG.out (by omega) hv)
   obtain ⟨t0, ht0⟩ : ∃ t, be (v.take 4) = t := ⟨_, rfl⟩
   rw [ht0] at H0
   have HT0 := Lh ht0
   clear ht0
   have H1 := Lh (fun (W : World) (h : RS w0 W g (v.drop 4)) (hO : Only (fun k => k = g ∨ k = gc) w W) => two_bad w0 W g (v.drop 4) h (by rw [List.length_drop]; omega) (by rw [List.length_drop]; omega))
   unfold errE at H1
   go_enter Tryd.func92, Tryd.ntmps92
   go_wp2_with fail
   refine (H0.out w HRS.out HO.out).mono ?_
   rintro e w1 ⟨rfl, hRS, hO⟩
   replace HRS := Lh (show RS w0 w1 g (v.drop 4) from by exact hRS)
   replace HC := Lh (hO.blk HC.out HNE.out)
   replace HO := Lh (HO.out.trans (hO.mono (S' := fun k => k = g ∨ k = gc) (fun k _ h => Or.inl h)) (fun k _ h => h))
   clear hRS hO H0
   go_wp2_with fail
   refine (H1.out w1 HRS.out HO.out).mono ?_
   rintro e w2 ⟨rfl, rfl⟩
   exact ⟨rfl, ReadP.bad HR.out HC.out rfl HO.out⟩
 ·skip
  have HR := Lh (show readData 0 fl v = .error 61 from by unfold readData; rw [if_pos (by omega)])
  have H0 := Lh (fun (W : World) (h : RS w0 W g v) (hO : Only (fun k => k = g ∨ k = gc) w W) => four_bad w0 W g v h (HBW.out W hO) HG.out (by omega) hv)
  unfold errE at H0
  go_enter Tryd.func92, Tryd.ntmps92
  go_wp2_with fail
  refine (H0.out w HRS.out HO.out).mono ?_
  rintro e w1 ⟨rfl, hO⟩
  refine ⟨rfl, ReadP.bad HR.out (hO.blk HC.out HNE.out) rfl (HO.out.trans (hO.mono (S' := fun k => k = g ∨ k = gc) (fun k _ h => Or.inl h)) (fun k _ h => h))⟩
end Go.Proofs.YtdlamomabonkjaaDoor.Ch
end
section
namespace Go.Proofs.YtdlamomabonkjaaDoor.Ch
open Go.RowKit YtdlamomabonkjaaDoorW.PrintWords Base PCh ParDec
set_option maxHeartbeats 4000000 in
theorem read_init (w0 w : World) (g gc : Nat) (v : List UInt8) (kd fl : Int) (hs : RS w0 w g v) (hc : w.heap[gc]? = some (.cells (freshV kd fl) 41 (0, 0))) (hB : Below w0.heap.size w0 w) (hg : w0.heap.size ≤ g) (hgc : w0.heap.size ≤ gc) (hne : g ≠ gc) (hv : v.length ≤ 140737488355328) (hk : kd = 1 ∨ kd = 2) :
  Calls Tryd.prog 92 #[.pointer (some ⟨g, 0, none⟩), .pointer (some ⟨gc, 0, none⟩)] w (ReadP w g gc (readInit kd fl v)) := by
 have hb : ((kd == 0) = false ∧ (kd == 1) = true) ∨ ((kd == 0) = false ∧ (kd == 1) = false ∧ (kd == 2) = true) := by rcases hk with rfl | rfl <;> decide
 clear hk
 rcases hb with ⟨b0, b1⟩ | ⟨b0, b1, b2⟩
 all_goals
  have HGL := Lh (show g < w.heap.size ∧ gc < w.heap.size from ⟨hs.lt, blk_lt hc⟩)
  have HBW := Lh (fun (W : World) (h : Only (fun k => k = g ∨ k = gc) w W) => hB.trans (h.below hB.size (fun k hk => by omega)))
  have HNE := Lh (show ¬ gc = g from fun e => hne e.symm)
  have HNE2 := Lh (show ¬ g = gc from hne)
  have HG := Lh hg
  have HRS := Lh hs
  unfold freshV at hc
  have HC := Lh hc
  have k0 : w.cell? ⟨gc, 0, none⟩ = some (.int .u8 kd) := blk_cell hc 0
  have HO := Lh (Only.refl (fun k => k = g ∨ k = gc) w)
  clear hs hc hB hg hgc hne
  by_cases h0 : 4 ≤ v.length
  ·skip
   by_cases h1 : 8 ≤ v.length
   ·skip
    by_cases h2 : 10 ≤ v.length
    ·skip
     by_cases h3 : 12 ≤ v.length
     ·skip
      by_cases h4 : 16 ≤ v.length
      ·skip
       have H0 := Lh (fun (W : World) (h : RS w0 W g v) (hO : Only (fun k => k = g ∨ k = gc) w W) => four_ok w0 W g v h (HBW.out W hO) HG.out (by omega) hv)
       obtain ⟨t0, ht0⟩ : ∃ t, be (v.take 4) = t := ⟨_, rfl⟩
       rw [ht0] at H0
       have HT0 := Lh ht0
       clear ht0
       have H1 := Lh (fun (W : World) (h : RS w0 W g (v.drop 4)) (hO : Only (fun k => k = g ∨ k = gc) w W) => four_ok w0 W g (v.drop 4) h (HBW.out W hO) HG.out (by rw [List.length_drop]; omega) (by rw [List.length_drop]; omega))
       obtain ⟨t1, ht1⟩ : ∃ t, be ((v.drop 4).take 4) = t := ⟨_, rfl⟩
       rw [ht1] at H1
       have HT1 := Lh ht1
       clear ht1
       have H2 := Lh (fun (W : World) (h : RS w0 W g (v.drop 8)) (hO : Only (fun k => k = g ∨ k = gc) w W) => two_ok w0 W g (v.drop 8) h (HBW.out W hO) HG.out (by rw [List.length_drop]; omega) (by rw [List.length_drop]; omega))
       obtain ⟨t2, ht2⟩ : ∃ t, be ((v.drop 8).take 2) = t := ⟨_, rfl⟩
       rw [ht2] at H2
       have HT2 := Lh ht2
       clear ht2
       have H3 := Lh (fun (W : World) (h : RS w0 W g (v.drop 10)) (hO : Only (fun k => k = g ∨ k = gc) w W) => two_ok w0 W g (v.drop 10) h (HBW.out W hO) HG.out (by rw [List.length_drop]; omega) (by rw [List.length_drop]; omega))
       obtain ⟨t3, ht3⟩ : ∃ t, be ((v.drop 10).take 2) = t := ⟨_, rfl⟩
       rw [ht3] at H3
       have HT3 := Lh ht3
       clear ht3
       have H4 := Lh (fun (W : World) (h : RS w0 W g (v.drop 12)) (hO : Only (fun k => k = g ∨ k = gc) w W) => four_ok w0 W g (v.drop 12) h (HBW.out W hO) HG.out (by rw [List.length_drop]; omega) (by rw [List.length_drop]; omega))
       obtain ⟨t4, ht4⟩ : ∃ t, be ((v.drop 12).take 4) = t := ⟨_, rfl⟩
       rw [ht4] at H4
       have HT4 := Lh ht4
       clear ht4
       go_enter Tryd.func92, Tryd.ntmps92
       go_wp2_with fail
       refine (H0.out w HRS.out HO.out).mono ?_
       rintro e w1 ⟨rfl, hRS, hO⟩
       replace HRS := Lh (show RS w0 w1 g (v.drop 4) from by exact hRS)
       replace HC := Lh (hO.blk HC.out HNE.out)
       replace HO := Lh (HO.out.trans (hO.mono (S' := fun k => k = g ∨ k = gc) (fun k _ h => Or.inl h)) (fun k _ h => h))
       clear hRS hO H0
       go_wp2_with fail
       refine (H1.out w1 HRS.out HO.out).mono ?_
       rintro e w2 ⟨rfl, hRS, hO⟩
       replace HRS := Lh (show RS w0 w2 g (v.drop 8) from by rw [List.drop_drop] at hRS; exact hRS)
       replace HC := Lh (hO.blk HC.out HNE.out)
       replace HO := Lh (HO.out.trans (hO.mono (S' := fun k => k = g ∨ k = gc) (fun k _ h => Or.inl h)) (fun k _ h => h))
       clear hRS hO H1
       go_wp2_with fail
       refine (H2.out w2 HRS.out HO.out).mono ?_
       rintro e w3 ⟨rfl, hRS, hO⟩
       replace HRS := Lh (show RS w0 w3 g (v.drop 10) from by rw [List.drop_drop] at hRS; exact hRS)
       replace HC := Lh (hO.blk HC.out HNE.out)
       replace HO := Lh (HO.out.trans (hO.mono (S' := fun k => k = g ∨ k = gc) (fun k _ h => Or.inl h)) (fun k _ h => h))
       clear hRS hO H2
       go_wp2_with fail
       refine (H3.out w3 HRS.out HO.out).mono ?_
       rintro e w4 ⟨rfl, hRS, hO⟩
       replace HRS := Lh (show RS w0 w4 g (v.drop 12) from by rw [List.drop_drop] at hRS; exact hRS)
       replace HC := Lh (hO.blk HC.out HNE.out)
       replace HO := Lh (HO.out.trans (hO.mono (S' := fun k => k = g ∨ k = gc) (fun k _ h => Or.inl h)) (fun k _ h => h))
       clear hRS hO H3
       go_wp2_with fail
       refine (H4.out w4 HRS.out HO.out).mono ?_
       rintro e w5 ⟨rfl, hRS, hO⟩
       replace HRS := Lh (show RS w0 w5 g (v.drop 16) from by rw [List.drop_drop] at hRS; exact hRS)
       replace HC := Lh (hO.blk HC.out HNE.out)
       replace HO := Lh (HO.out.trans (hO.mono (S' := fun k => k = g ∨ k = gc) (fun k _ h => Or.inl h)) (fun k _ h => h))
       clear hRS hO H4
       have k6 : w5.cell? ⟨gc, 6, none⟩ = some (.int .u32 0) := blk_cell HC.out 6
       have f6 := blk_frozen HC.out 6
       have k7 : w5.cell? ⟨gc, 7, none⟩ = some (.int .u32 0) := blk_cell HC.out 7
       have f7 := blk_frozen HC.out 7
       have k8 : w5.cell? ⟨gc, 8, none⟩ = some (.int .u16 0) := blk_cell HC.out 8
       have f8 := blk_frozen HC.out 8
       have k9 : w5.cell? ⟨gc, 9, none⟩ = some (.int .u16 0) := blk_cell HC.out 9
       have f9 := blk_frozen HC.out 9
       have k2 : w5.cell? ⟨gc, 2, none⟩ = some (.int .u32 0) := blk_cell HC.out 2
       have f2 := blk_frozen HC.out 2
       replace HC := Lh (blk_put (blk_put (blk_put (blk_put (blk_put HC.out 6 (.int .u32 (t0 : Int)) rfl) 7 (.int .u32 (t1 : Int)) rfl) 8 (.int .u16 (t2 : Int)) rfl) 9 (.int .u16 (t3 : Int)) rfl) 2 (.int .u32 (t4 : Int)) (show _ = #[.int .u8 kd, .int .u8 fl, .int .u32 (t4 : Int), .int .u16 0, .int .u16 0, .int .u32 0, .int .u32 (t0 : Int), .int .u32 (t1 : Int), .int .u16 (t2 : Int), .int .u16 (t3 : Int), .slice none 0 0, .slice none 0 0, .slice none 0 0, .slice none 0 0, .slice none 0 0] from rfl))
       replace HO := Lh ((((((HO.out.setCell (p := ⟨gc, 6, none⟩) (fun _ => Or.inr rfl) (.int .u32 (t0 : Int))).setCell (p := ⟨gc, 7, none⟩) (fun _ => Or.inr rfl) (.int .u32 (t1 : Int))).setCell (p := ⟨gc, 8, none⟩) (fun _ => Or.inr rfl) (.int .u16 (t2 : Int))).setCell (p := ⟨gc, 9, none⟩) (fun _ => Or.inr rfl) (.int .u16 (t3 : Int))).setCell (p := ⟨gc, 2, none⟩) (fun _ => Or.inr rfl) (.int .u32 (t4 : Int))))
       have HFAR := Lh (((((((Only.refl (· = gc) w5).setCell (p := ⟨gc, 6, none⟩) (fun _ => rfl) (.int .u32 (t0 : Int))).setCell (p := ⟨gc, 7, none⟩) (fun _ => rfl) (.int .u32 (t1 : Int))).setCell (p := ⟨gc, 8, none⟩) (fun _ => rfl) (.int .u16 (t2 : Int))).setCell (p := ⟨gc, 9, none⟩) (fun _ => rfl) (.int .u16 (t3 : Int))).setCell (p := ⟨gc, 2, none⟩) (fun _ => rfl) (.int .u32 (t4 : Int))))
       replace HRS := Lh (HRS.out.only HFAR.out HNE2.out)
       go_upto_region 10 with (fail)
       clear k6 f6 k7 f7 k8 f8 k9 f9 k2 f2
       generalize (((((w5.setCell ⟨gc, 6, none⟩ (.int .u32 (t0 : Int))).setCell ⟨gc, 7, none⟩ (.int .u32 (t1 : Int))).setCell ⟨gc, 8, none⟩ (.int .u16 (t2 : Int))).setCell ⟨gc, 9, none⟩ (.int .u16 (t3 : Int))).setCell ⟨gc, 2, none⟩ (.int .u32 (t4 : Int))) = W6 at *
       by_cases hcode : (decD (v.drop 16)).2.2 = 0
       ·have HP := Lh (params_ok w0 W6 g (v.drop 16) HRS.out (HBW.out W6 HO.out) HG.out (by rw [List.length_drop]; omega) hcode)
        go_wp2_with fail
        refine HP.out.mono ?_
        rintro e w7 ⟨u, rfl, hU, hRS, hO⟩
        obtain ⟨Au, cu, hu⟩ := Kd.R_slice hU
        have hUr := Kd.R_reads hU
        replace HRS := Lh hRS
        replace HC := Lh (hO.blk HC.out HNE.out)
        have HU := Lh (Kd.R_lower hU HO.out.size)
        replace HO := Lh (HO.out.trans (hO.mono (S' := fun k => k = g ∨ k = gc) (fun k _ h => Or.inl h)) (fun k _ h => h))
        clear hRS hO hU HP
        obtain ⟨nu, hnu⟩ : ∃ nu, (decD (v.drop 16)).1.length = nu := ⟨_, rfl⟩
        rw [hnu] at hu
        subst hu
        have k14 : w7.cell? ⟨gc, 14, none⟩ = some (.slice none 0 0) := blk_cell HC.out 14
        have f14 := blk_frozen HC.out 14
        replace HC := Lh (blk_put HC.out 14 (.slice Au nu cu) (show _ = #[.int .u8 kd, .int .u8 fl, .int .u32 (t4 : Int), .int .u16 0, .int .u16 0, .int .u32 0, .int .u32 (t0 : Int), .int .u32 (t1 : Int), .int .u16 (t2 : Int), .int .u16 (t3 : Int), .slice none 0 0, .slice none 0 0, .slice none 0 0, .slice none 0 0, .slice Au nu cu] from rfl))
        replace HO := Lh ((HO.out.setCell (p := ⟨gc, 14, none⟩) (fun _ => Or.inr rfl) (.slice Au nu cu)))
        have HFAR := Lh (((Only.refl (· = gc) w7).setCell (p := ⟨gc, 14, none⟩) (fun _ => rfl) (.slice Au nu cu)))
        replace HRS := Lh (HRS.out.only HFAR.out HNE2.out)
        go_upto_region 27 with (fail)
        clear k14 f14
        generalize (w7.setCell ⟨gc, 14, none⟩ (.slice Au nu cu)) = W8 at *
        have HU2 := Lh (R_only HU.out HFAR.out (fun k hk _ e => by have := HGL.out.2; omega))
        have HR := Lh (show readInit kd fl v = .ok ⟨kd, fl, (t4 : Int), 0, 0, 0, (t0 : Int), (t1 : Int), (t2 : Int), (t3 : Int), [], [], [], [], (decD (v.drop 16)).1⟩ from by unfold readInit prmsD; rw [if_neg (by omega), if_pos hcode, HT0.out, HT1.out, HT2.out, HT3.out, HT4.out])
        obtain ⟨Ar, cr, hbr, hcr, hCr⟩ := HRS.out
        have kr : W8.cell? ⟨g, 0, none⟩ = some (.slice Ar 0 cr) := blk_cell hbr 0
        clear hbr hcr hCr
        go_wp2
        go_end0
        exact ReadP.good HR.out HC.out (k41_mkM _ _ _ (⟨kd, fl, (t4 : Int), 0, 0, 0, (t0 : Int), (t1 : Int), (t2 : Int), (t3 : Int), [], [], [], [], (decD (v.drop 16)).1⟩) (Kd.R_nil _ _ _ _ _) (Kd.R_nil _ _ _ _ _) (Kd.R_nil _ _ _ _ _) (Kd.R_nil _ _ _ _ _) HU2.out) HO.out
       ·have HP := Lh (params_bad w0 W6 g (v.drop 16) HRS.out (HBW.out W6 HO.out) HG.out (by rw [List.length_drop]; omega) hcode)
        have HR := Lh (show readInit kd fl v = .error (decD (v.drop 16)).2.2 from by unfold readInit prmsD; rw [if_neg (by omega), if_neg hcode])
        unfold errE at HP
        generalize (decD (v.drop 16)).2.2 = code at *
        go_wp2_with fail
        refine HP.out.mono ?_
        rintro e w7 ⟨rfl, hO⟩
        refine ⟨rfl, ReadP.bad HR.out (hO.blk HC.out HNE.out) rfl (HO.out.trans (hO.mono (S' := fun k => k = g ∨ k = gc) (fun k _ h => Or.inl h)) (fun k _ h => h))⟩
      ·skip
       have HR := Lh (show readInit kd fl v = .error 61 from by unfold readInit; rw [if_pos (by omega)])
       have H0 := Lh (fun (W : World) (h : RS w0 W g v) (hO : Only (fun k => k = g ∨ k = gc) w W) => four_ok w0 W g v h (HBW.out W hO) HG.out (by omega) hv)
       obtain ⟨t0, ht0⟩ : ∃ t, be (v.take 4) = t := ⟨_, rfl⟩
       rw [ht0] at H0
       have HT0 := Lh ht0
       clear ht0
       have H1 := Lh (fun (W : World) (h : RS w0 W g (v.drop 4)) (hO : Only (fun k => k = g ∨ k = gc) w W) => four_ok w0 W g (v.drop 4) h (HBW.out W hO) HG.out (by rw [List.length_drop]; omega) (by rw [List.length_drop]; omega))
       obtain ⟨t1, ht1⟩ : ∃ t, be ((v.drop 4).take 4) = t := ⟨_, rfl⟩
       rw [ht1] at H1
       have HT1 := Lh ht1
       clear ht1
       have H2 := Lh (fun (W : World) (h : RS w0 W g (v.drop 8)) (hO : Only (fun k => k = g ∨ k = gc) w W) => two_ok w0 W g (v.drop 8) h (HBW.out W hO) HG.out (by rw [List.length_drop]; omega) (by rw [List.length_drop]; omega))
       obtain ⟨t2, ht2⟩ : ∃ t, be ((v.drop 8).take 2) = t := ⟨_, rfl⟩
       rw [ht2] at H2
       have HT2 := Lh ht2
       clear ht2
       have H3 := Lh (fun (W : World) (h : RS w0 W g (v.drop 10)) (hO : Only (fun k => k = g ∨ k = gc) w W) => two_ok w0 W g (v.drop 10) h (HBW.out W hO) HG.out (by rw [List.length_drop]; omega) (by rw [List.length_drop]; omega))
       obtain ⟨t3, ht3⟩ : ∃ t, be ((v.drop 10).take 2) = t := ⟨_, rfl⟩
       rw [ht3] at H3
       have HT3 := Lh ht3
       clear ht3
       have H4 := Lh (fun (W : World) (h : RS w0 W g (v.drop 12)) (hO : Only (fun k => k = g ∨ k = gc) w W) => four_bad w0 W g (v.drop 12) h (HBW.out W hO) HG.out (by rw [List.length_drop]; omega) (by rw [List.length_drop]; omega))
       unfold errE at H4
       go_enter Tryd.func92, Tryd.ntmps92
       go_wp2_with fail
       refine (H0.out w HRS.out HO.out).mono ?_
       rintro e w1 ⟨rfl, hRS, hO⟩
       replace HRS := Lh (show RS w0 w1 g (v.drop 4) from by exact hRS)
       replace HC := Lh (hO.blk HC.out HNE.out)
       replace HO := Lh (HO.out.trans (hO.mono (S' := fun k => k = g ∨ k = gc) (fun k _ h => Or.inl h)) (fun k _ h => h))
       clear hRS hO H0
       go_wp2_with fail
       refine (H1.out w1 HRS.out HO.out).mono ?_
       rintro e w2 ⟨rfl, hRS, hO⟩
       replace HRS := Lh (show RS w0 w2 g (v.drop 8) from by rw [List.drop_drop] at hRS; exact hRS)
       replace HC := Lh (hO.blk HC.out HNE.out)
       replace HO := Lh (HO.out.trans (hO.mono (S' := fun k => k = g ∨ k = gc) (fun k _ h => Or.inl h)) (fun k _ h => h))
       clear hRS hO H1
       go_wp2_with fail
       refine (H2.out w2 HRS.out HO.out).mono ?_
       rintro e w3 ⟨rfl, hRS, hO⟩
       replace HRS := Lh (show RS w0 w3 g (v.drop 10) from by rw [List.drop_drop] at hRS; exact hRS)
       replace HC := Lh (hO.blk HC.out HNE.out)
       replace HO := Lh (HO.out.trans (hO.mono (S' := fun k => k = g ∨ k = gc) (fun k _ h => Or.inl h)) (fun k _ h => h))
       clear hRS hO H2
       go_wp2_with fail
       refine (H3.out w3 HRS.out HO.out).mono ?_
       rintro e w4 ⟨rfl, hRS, hO⟩
       replace HRS := Lh (show RS w0 w4 g (v.drop 12) from by rw [List.drop_drop] at hRS; exact hRS)
       replace HC := Lh (hO.blk HC.out HNE.out)
       replace HO := Lh (HO.out.trans (hO.mono (S' := fun k => k = g ∨ k = gc) (fun k _ h => Or.inl h)) (fun k _ h => h))
       clear hRS hO H3
       go_wp2_with fail
       refine (H4.out w4 HRS.out HO.out).mono ?_
       rintro e w5 ⟨rfl, hO⟩
       refine ⟨rfl, ReadP.bad HR.out (hO.blk HC.out HNE.out) rfl (HO.out.trans (hO.mono (S' := fun k => k = g ∨ k = gc) (fun k _ h => Or.inl h)) (fun k _ h => h))⟩
     ·skip
      have HR := Lh (show readInit kd fl v = .error 61 from by unfold readInit; rw [if_pos (by omega)])
      have H0 := Lh (fun (W : World) (h : RS w0 W g v) (hO : Only (fun k => k = g ∨ k = gc) w W) => four_ok w0 W g v h (HBW.out W hO) HG.out (by omega) hv)
      obtain ⟨t0, ht0⟩ : ∃ t, be (v.take 4) = t := ⟨_, rfl⟩
      rw [ht0] at H0
      have HT0 := Lh ht0
      clear ht0
      have H1 := Lh (fun (W : World) (h : RS w0 W g (v.drop 4)) (hO : Only (fun k => k = g ∨ k = gc) w W) => four_ok w0 W g (v.drop 4) h (HBW.out W hO) HG.out (by rw [List.length_drop]; omega) (by rw [List.length_drop]; omega))
      obtain ⟨t1, ht1⟩ : ∃ t, be ((v.drop 4).take 4) = t := ⟨_, rfl⟩
      rw [ht1] at H1
      have HT1 := Lh ht1
      clear ht1
      have H2 := Lh (fun (W : World) (h : RS w0 W g (v.drop 8)) (hO : Only (fun k => k = g ∨ k = gc) w W) => two_ok w0 W g (v.drop 8) h (HBW.out W hO) HG.out (by rw [List.length_drop]; omega) (by rw [List.length_drop]; omega))
      obtain ⟨t2, ht2⟩ : ∃ t, be ((v.drop 8).take 2) = t := ⟨_, rfl⟩
      rw [ht2] at H2
      have HT2 := Lh ht2
      clear ht2
      have H3 := Lh (fun (W : World) (h : RS w0 W g (v.drop 10)) (hO : Only (fun k => k = g ∨ k = gc) w W) => two_bad w0 W g (v.drop 10) h (by rw [List.length_drop]; omega) (by rw [List.length_drop]; omega))
      unfold errE at H3
      go_enter Tryd.func92, Tryd.ntmps92
      go_wp2_with fail
      refine (H0.out w HRS.out HO.out).mono ?_
      rintro e w1 ⟨rfl, hRS, hO⟩
      replace HRS := Lh (show RS w0 w1 g (v.drop 4) from by exact hRS)
      replace HC := Lh (hO.blk HC.out HNE.out)
      replace HO := Lh (HO.out.trans (hO.mono (S' := fun k => k = g ∨ k = gc) (fun k _ h => Or.inl h)) (fun k _ h => h))
      clear hRS hO H0
      go_wp2_with fail
      refine (H1.out w1 HRS.out HO.out).mono ?_
      rintro e w2 ⟨rfl, hRS, hO⟩
      replace HRS := Lh (show RS w0 w2 g (v.drop 8) from by rw [List.drop_drop] at hRS; exact hRS)
      replace HC := Lh (hO.blk HC.out HNE.out)
      replace HO := Lh (HO.out.trans (hO.mono (S' := fun k => k = g ∨ k = gc) (fun k _ h => Or.inl h)) (fun k _ h => h))
      clear hRS hO H1
      go_wp2_with fail
      refine (H2.out w2 HRS.out HO.out).mono ?_
      rintro e w3 ⟨rfl, hRS, hO⟩
      replace HRS := Lh (show RS w0 w3 g (v.drop 10) from by rw [List.drop_drop] at hRS; exact hRS)
      replace HC := Lh (hO.blk HC.out HNE.out)
      replace HO := Lh (HO.out.trans (hO.mono (S' := fun k => k = g ∨ k = gc) (fun k _ h => Or.inl h)) (fun k _ h => h))
      clear hRS hO H2
      go_wp2_with fail
      refine (H3.out w3 HRS.out HO.out).mono ?_
      rintro e w4 ⟨rfl, rfl⟩
      exact ⟨rfl, ReadP.bad HR.out HC.out rfl HO.out⟩
    ·skip
     have HR := Lh (show readInit kd fl v = .error 61 from by unfold readInit; rw [if_pos (by omega)])
     have H0 := Lh (fun (W : World) (h : RS w0 W g v) (hO : Only (fun k => k = g ∨ k = gc) w W) => four_ok w0 W g v h (HBW.out W hO) HG.out (by omega) hv)
     obtain ⟨t0, ht0⟩ : ∃ t, be (v.take 4) = t := ⟨_, rfl⟩
     rw [ht0] at H0
     have HT0 := Lh ht0
     clear ht0
     have H1 := Lh (fun (W : World) (h : RS w0 W g (v.drop 4)) (hO : Only (fun k => k = g ∨ k = gc) w W) => four_ok w0 W g (v.drop 4) h (HBW.out W hO) HG.out (by rw [List.length_drop]; omega) (by rw [List.length_drop]; omega))
     obtain ⟨t1, ht1⟩ : ∃ t, be ((v.drop 4).take 4) = t := ⟨_, rfl⟩
     rw [ht1] at H1
     have HT1 := Lh ht1
     clear ht1
     have H2 := Lh (fun (W : World) (h : RS w0 W g (v.drop 8)) (hO : Only (fun k => k = g ∨ k = gc) w W) => two_bad w0 W g (v.drop 8) h (by rw [List.length_drop]; omega) (by rw [List.length_drop]; omega))
     unfold errE at H2
     go_enter Tryd.func92, Tryd.ntmps92
     go_wp2_with fail
     refine (H0.out w HRS.out HO.out).mono ?_
     rintro e w1 ⟨rfl, hRS, hO⟩
     replace HRS := Lh (show RS w0 w1 g (v.drop 4) from by exact hRS)
     replace HC := Lh (hO.blk HC.out HNE.out)
     replace HO := Lh (HO.out.trans (hO.mono (S' := fun k => k = g ∨ k = gc) (fun k _ h => Or.inl h)) (fun k _ h => h))
     clear hRS hO H0
     go_wp2_with fail
     refine (H1.out w1 HRS.out HO.out).mono ?_
     rintro e w2 ⟨rfl, hRS, hO⟩
     replace HRS := Lh (show RS w0 w2 g (v.drop 8) from by rw [List.drop_drop] at hRS; exact hRS)
     replace HC := Lh (hO.blk HC.out HNE.out)
     replace HO := Lh (HO.out.trans (hO.mono (S' := fun k => k = g ∨ k = gc) (fun k _ h => Or.inl h)) (fun k _ h => h))
     clear hRS hO H1
     go_wp2_with fail
     refine (H2.out w2 HRS.out HO.out).mono ?_
     rintro e w3 ⟨rfl, rfl⟩
     exact ⟨rfl, ReadP.bad HR.out HC.out rfl HO.out⟩
   ·skip
    have HR := Lh (show readInit kd fl v = .error 61 from by unfold readInit; rw [if_pos (by omega)])
    have H0 := Lh (fun (W : World) (h : RS w0 W g v) (hO : Only (fun k => k = g ∨ k = gc) w W) => four_ok w0 W g v h (HBW.out W hO) HG.out (by omega) hv)
    obtain ⟨t0, ht0⟩ : ∃ t, be (v.take 4) = t := ⟨_, rfl⟩
    rw [ht0] at H0
    have HT0 := Lh ht0
    clear ht0
    have H1 := Lh (fun (W : World) (h : RS w0 W g (v.drop 4)) (hO : Only (fun k => k = g ∨ k = gc) w W) => four_bad w0 W g (v.drop 4) h (HBW.out W hO) HG.out (by rw [List.length_drop]; omega) (by rw [List.length_drop]; omega))
    unfold errE at H1
    go_enter Tryd.func92, Tryd.ntmps92
    go_wp2_with fail
    refine (H0.out w HRS.out HO.out).mono ?_
    rintro e w1 ⟨rfl, hRS, hO⟩
    replace HRS := Lh (show RS w0 w1 g (v.drop 4) from by exact hRS)
    replace HC := Lh (hO.blk HC.out HNE.out)
    replace HO := Lh (HO.out.trans (hO.mono (S' := fun k => k = g ∨ k = gc) (fun k _ h => Or.inl h)) (fun k _ h => h))
    clear hRS hO H0
    go_wp2_with fail
    refine (H1.out w1 HRS.out HO.out).mono ?_
    rintro e w2 ⟨rfl, hO⟩
    refine ⟨rfl, ReadP.bad HR.out (hO.blk HC.out HNE.out) rfl (HO.out.trans (hO.mono (S' := fun k => k = g ∨ k = gc) (fun k _ h => Or.inl h)) (fun k _ h => h))⟩
  ·skip
   have HR := Lh (show readInit kd fl v = .error 61 from by unfold readInit; rw [if_pos (by omega)])
   have H0 := Lh (fun (W : World) (h : RS w0 W g v) (hO : Only (fun k => k = g ∨ k = gc) w W) => four_bad w0 W g v h (HBW.out W hO) HG.out (by omega) hv)
   unfold errE at H0
   go_enter Tryd.func92, Tryd.ntmps92
   go_wp2_with fail
   refine (H0.out w HRS.out HO.out).mono ?_
   rintro e w1 ⟨rfl, hO⟩
   refine ⟨rfl, ReadP.bad HR.out (hO.blk HC.out HNE.out) rfl (HO.out.trans (hO.mono (S' := fun k => k = g ∨ k = gc) (fun k _ h => Or.inl h)) (fun k _ h => h))⟩
end Go.Proofs.YtdlamomabonkjaaDoor.Ch
end
section
namespace Go.Proofs.YtdlamomabonkjaaDoor.Ch
open Go.RowKit YtdlamomabonkjaaDoorW.PrintWords Base PCh ParDec
set_option maxHeartbeats 4000000 in
theorem read_lists3 (w0 w : World) (g gc : Nat) (v : List UInt8) (fl : Int) (hs : RS w0 w g v) (hc : w.heap[gc]? = some (.cells (freshV 3 fl) 41 (0, 0))) (hB : Below w0.heap.size w0 w) (hg : w0.heap.size ≤ g) (hgc : w0.heap.size ≤ gc) (hne : g ≠ gc) (hv : v.length ≤ 140737488355328) :
  Calls Tryd.prog 92 #[.pointer (some ⟨g, 0, none⟩), .pointer (some ⟨gc, 0, none⟩)] w (ReadP w g gc (readLists false 3 fl v)) := by
 have HGL := Lh (show g < w.heap.size ∧ gc < w.heap.size from ⟨hs.lt, blk_lt hc⟩)
 have HBW := Lh (fun (W : World) (h : Only (fun k => k = g ∨ k = gc) w W) => hB.trans (h.below hB.size (fun k hk => by omega)))
 have HNE := Lh (show ¬ gc = g from fun e => hne e.symm)
 have HNE2 := Lh (show ¬ g = gc from hne)
 have HG := Lh hg
 have HGC := Lh hgc
 have HRS := Lh hs
 unfold freshV at hc
 have HC := Lh hc
 have k0 : w.cell? ⟨gc, 0, none⟩ = some (.int .u8 3) := blk_cell hc 0
 have HO := Lh (Only.refl (fun k => k = g ∨ k = gc) w)
 clear hs hc hB hg hgc hne
 have HL := Lh (fun (W : World) (h1 : RS w0 W g v) (h2 : W.heap[gc]? = some (.cells #[.int .u8 3, .int .u8 fl, .int .u32 0, .int .u16 0, .int .u16 0, .int .u32 0, .int .u32 0, .int .u32 0, .int .u16 0, .int .u16 0, .slice none 0 0, .slice none 0 0, .slice none 0 0, .slice none 0 0, .slice none 0 0] 41 (0, 0))) (hO : Only (fun k => k = g ∨ k = gc) w W) => lists_sack w0 W g gc v fl h1 h2 (HBW.out W hO) HG.out (by have := HG.out; exact HGC.out) HNE2.out hv)
 unfold ListP errE at HL
 cases hl : listsD false v with
 | error code =>
  rw [hl] at HL
  have HR := Lh (show readLists false 3 fl v = .error code from by unfold readLists; rw [hl])
  clear hl
  go_enter Tryd.func92, Tryd.ntmps92
  go_wp2_with fail
  refine (HL.out w HRS.out HC.out HO.out).mono ?_
  rintro e w1 ⟨rfl, ⟨x0, hx0, hxs⟩, hO⟩
  exact ⟨rfl, ReadP.bad HR.out hx0 hxs hO⟩
 | ok p =>
  obtain ⟨t1, t2, G, N, D⟩ := p
  rw [hl] at HL
  have HR := Lh (show readLists false 3 fl v = .ok ⟨3, fl, (t1 : Int), 0, 0, 0, 0, (t2 : Int), 0, 0, G, N, D, [], []⟩ from by unfold readLists; rw [hl])
  clear hl
  go_enter Tryd.func92, Tryd.ntmps92
  go_wp2_with fail
  refine (HL.out w HRS.out HC.out HO.out).mono ?_
  rintro e w1 ⟨rfl, vg, vn, vd, hC, hG, hN, hD, hRS, hO⟩
  have HG1 := Lh hG
  have HN1 := Lh hN
  have HD1 := Lh hD
  replace HC := Lh hC
  replace HRS := Lh hRS
  replace HO := Lh hO
  clear hC hG hN hD hRS hO HL
  obtain ⟨Ar, cr, hbr, hcr, hCr⟩ := HRS.out
  have kr : w1.cell? ⟨g, 0, none⟩ = some (.slice Ar 0 cr) := blk_cell hbr 0
  clear hbr hcr hCr
  go_wp2
  go_end0
  exact ReadP.good HR.out HC.out (k41_mkM _ _ _ (⟨3, fl, (t1 : Int), 0, 0, 0, 0, (t2 : Int), 0, 0, G, N, D, [], []⟩) HG1.out HN1.out HD1.out (Kd.R_nil _ _ _ _ _) (Kd.R_nil _ _ _ _ _)) HO.out
set_option maxHeartbeats 4000000 in
theorem read_lists16 (w0 w : World) (g gc : Nat) (v : List UInt8) (fl : Int) (hs : RS w0 w g v) (hc : w.heap[gc]? = some (.cells (freshV 16 fl) 41 (0, 0))) (hB : Below w0.heap.size w0 w) (hg : w0.heap.size ≤ g) (hgc : w0.heap.size ≤ gc) (hne : g ≠ gc) (hv : v.length ≤ 140737488355328) :
  Calls Tryd.prog 92 #[.pointer (some ⟨g, 0, none⟩), .pointer (some ⟨gc, 0, none⟩)] w (ReadP w g gc (readLists true 16 fl v)) := by
 have HGL := Lh (show g < w.heap.size ∧ gc < w.heap.size from ⟨hs.lt, blk_lt hc⟩)
 have HBW := Lh (fun (W : World) (h : Only (fun k => k = g ∨ k = gc) w W) => hB.trans (h.below hB.size (fun k hk => by omega)))
 have HNE := Lh (show ¬ gc = g from fun e => hne e.symm)
 have HNE2 := Lh (show ¬ g = gc from hne)
 have HG := Lh hg
 have HGC := Lh hgc
 have HRS := Lh hs
 unfold freshV at hc
 have HC := Lh hc
 have k0 : w.cell? ⟨gc, 0, none⟩ = some (.int .u8 16) := blk_cell hc 0
 have HO := Lh (Only.refl (fun k => k = g ∨ k = gc) w)
 clear hs hc hB hg hgc hne
 have HL := Lh (fun (W : World) (h1 : RS w0 W g v) (h2 : W.heap[gc]? = some (.cells #[.int .u8 16, .int .u8 fl, .int .u32 0, .int .u16 0, .int .u16 0, .int .u32 0, .int .u32 0, .int .u32 0, .int .u16 0, .int .u16 0, .slice none 0 0, .slice none 0 0, .slice none 0 0, .slice none 0 0, .slice none 0 0] 41 (0, 0))) (hO : Only (fun k => k = g ∨ k = gc) w W) => lists_nr w0 W g gc v fl h1 h2 (HBW.out W hO) HG.out (by have := HG.out; exact HGC.out) HNE2.out hv)
 unfold ListP errE at HL
 cases hl : listsD true v with
 | error code =>
  rw [hl] at HL
  have HR := Lh (show readLists true 16 fl v = .error code from by unfold readLists; rw [hl])
  clear hl
  go_enter Tryd.func92, Tryd.ntmps92
  go_wp2_with fail
  refine (HL.out w HRS.out HC.out HO.out).mono ?_
  rintro e w1 ⟨rfl, ⟨x0, hx0, hxs⟩, hO⟩
  exact ⟨rfl, ReadP.bad HR.out hx0 hxs hO⟩
 | ok p =>
  obtain ⟨t1, t2, G, N, D⟩ := p
  rw [hl] at HL
  have HR := Lh (show readLists true 16 fl v = .ok ⟨16, fl, (t1 : Int), 0, 0, 0, 0, (t2 : Int), 0, 0, G, N, D, [], []⟩ from by unfold readLists; rw [hl])
  clear hl
  go_enter Tryd.func92, Tryd.ntmps92
  go_wp2_with fail
  refine (HL.out w HRS.out HC.out HO.out).mono ?_
  rintro e w1 ⟨rfl, vg, vn, vd, hC, hG, hN, hD, hRS, hO⟩
  have HG1 := Lh hG
  have HN1 := Lh hN
  have HD1 := Lh hD
  replace HC := Lh hC
  replace HRS := Lh hRS
  replace HO := Lh hO
  clear hC hG hN hD hRS hO HL
  obtain ⟨Ar, cr, hbr, hcr, hCr⟩ := HRS.out
  have kr : w1.cell? ⟨g, 0, none⟩ = some (.slice Ar 0 cr) := blk_cell hbr 0
  clear hbr hcr hCr
  go_wp2
  go_end0
  exact ReadP.good HR.out HC.out (k41_mkM _ _ _ (⟨16, fl, (t1 : Int), 0, 0, 0, 0, (t2 : Int), 0, 0, G, N, D, [], []⟩) HG1.out HN1.out HD1.out (Kd.R_nil _ _ _ _ _) (Kd.R_nil _ _ _ _ _)) HO.out
end Go.Proofs.YtdlamomabonkjaaDoor.Ch
end
section
namespace Go.Proofs.YtdlamomabonkjaaDoor.Ch
open Go.RowKit YtdlamomabonkjaaDoorW.PrintWords Base PCh ParDec
theorem beat_f (a0 a1 a2 a3 a4 a5 a6 a7 a8 a9 : Int) (l10 l11 : List GapS) (l12 l13 : List Int) (ps : List PrmS) : chunk_beat.f a0 a1 a2 a3 a4 a5 a6 a7 a8 a9 l10 l11 l12 l13 ps = some (beatB ps) := by
 unfold chunk_beat.f beatB
 match ps with
 | [] => rfl
 | [p] => simp [rd_T72]; rfl
 | p :: q :: r => rw [if_neg (by simp only [List.length_cons]; omega)]
set_option maxHeartbeats 4000000 in
theorem read_prms (w0 w : World) (g gc : Nat) (v : List UInt8) (kd fl : Int) (hs : RS w0 w g v) (hc : w.heap[gc]? = some (.cells (freshV kd fl) 41 (0, 0))) (hB : Below w0.heap.size w0 w) (hg : w0.heap.size ≤ g) (hgc : w0.heap.size ≤ gc) (hne : g ≠ gc) (hv : v.length ≤ 140737488355328) (hk : kd = 6 ∨ kd = 9) :
  Calls Tryd.prog 92 #[.pointer (some ⟨g, 0, none⟩), .pointer (some ⟨gc, 0, none⟩)] w (ReadP w g gc (readPrms false kd fl v)) := by
 have hb : ((kd == 0) = false ∧ (kd == 1) = false ∧ (kd == 2) = false ∧ (kd == 3) = false ∧ (kd == 16) = false ∧ (kd == 4) = false ∧ (kd == 5) = false ∧ (kd == 6) = true) ∨ ((kd == 0) = false ∧ (kd == 1) = false ∧ (kd == 2) = false ∧ (kd == 3) = false ∧ (kd == 16) = false ∧ (kd == 4) = false ∧ (kd == 5) = false ∧ (kd == 6) = false ∧ (kd == 9) = true) := by rcases hk with rfl | rfl <;> decide
 clear hk
 rcases hb with ⟨b0, b1, b2, b3, b16, b4, b5, b6⟩ | ⟨b0, b1, b2, b3, b16, b4, b5, b6, b9⟩
 all_goals
  have HGL := Lh (show g < w.heap.size ∧ gc < w.heap.size from ⟨hs.lt, blk_lt hc⟩)
  have HBW := Lh (fun (W : World) (h : Only (fun k => k = g ∨ k = gc) w W) => hB.trans (h.below hB.size (fun k hk => by omega)))
  have HNE := Lh (show ¬ gc = g from fun e => hne e.symm)
  have HNE2 := Lh (show ¬ g = gc from hne)
  have HG := Lh hg
  have HRS := Lh hs
  unfold freshV at hc
  have HC := Lh hc
  have k0 : w.cell? ⟨gc, 0, none⟩ = some (.int .u8 kd) := blk_cell hc 0
  have HO := Lh (Only.refl (fun k => k = g ∨ k = gc) w)
  clear hs hc hB hg hgc hne
  go_enter Tryd.func92, Tryd.ntmps92
  by_cases hcode : (decD v).2.2 = 0
  ·have HP := Lh (params_ok w0 w g v HRS.out (HBW.out w HO.out) HG.out hv hcode)
   go_wp2_with fail
   refine HP.out.mono ?_
   rintro e w1 ⟨u, rfl, hU, hRS, hO⟩
   obtain ⟨Au, cu, hu⟩ := Kd.R_slice hU
   have hUr := Kd.R_reads hU
   replace HRS := Lh hRS
   replace HC := Lh (hO.blk HC.out HNE.out)
   have HU := Lh (Kd.R_lower hU HO.out.size)
   replace HO := Lh (HO.out.trans (hO.mono (S' := fun k => k = g ∨ k = gc) (fun k _ h => Or.inl h)) (fun k _ h => h))
   clear hRS hO hU HP
   obtain ⟨nu, hnu⟩ : ∃ nu, (decD v).1.length = nu := ⟨_, rfl⟩
   rw [hnu] at hu
   subst hu
   have k14 : w1.cell? ⟨gc, 14, none⟩ = some (.slice none 0 0) := blk_cell HC.out 14
   have f14 := blk_frozen HC.out 14
   replace HC := Lh (blk_put HC.out 14 (.slice Au nu cu) (show _ = #[.int .u8 kd, .int .u8 fl, .int .u32 0, .int .u16 0, .int .u16 0, .int .u32 0, .int .u32 0, .int .u32 0, .int .u16 0, .int .u16 0, .slice none 0 0, .slice none 0 0, .slice none 0 0, .slice none 0 0, .slice Au nu cu] from rfl))
   replace HO := Lh ((HO.out.setCell (p := ⟨gc, 14, none⟩) (fun _ => Or.inr rfl) (.slice Au nu cu)))
   have HFAR := Lh (((Only.refl (· = gc) w1).setCell (p := ⟨gc, 14, none⟩) (fun _ => rfl) (.slice Au nu cu)))
   replace HRS := Lh (HRS.out.only HFAR.out HNE2.out)
   go_upto_region 27 with (fail)
   clear k14 f14
   generalize (w1.setCell ⟨gc, 14, none⟩ (.slice Au nu cu)) = W2 at *
   have HU2 := Lh (R_only HU.out HFAR.out (fun k hk _ e => by have := HGL.out.2; omega))
   have HR := Lh (show readPrms false kd fl v = .ok ⟨kd, fl, 0, 0, 0, 0, 0, 0, 0, 0, [], [], [], [], (decD v).1⟩ from by unfold readPrms prmsD; rw [if_pos hcode]; rfl)
   obtain ⟨Ar, cr, hbr, hcr, hCr⟩ := HRS.out
   have kr : W2.cell? ⟨g, 0, none⟩ = some (.slice Ar 0 cr) := blk_cell hbr 0
   clear hbr hcr hCr
   go_wp2
   go_end0
   exact ReadP.good HR.out HC.out (k41_mkM _ _ _ (⟨kd, fl, 0, 0, 0, 0, 0, 0, 0, 0, [], [], [], [], (decD v).1⟩) (Kd.R_nil _ _ _ _ _) (Kd.R_nil _ _ _ _ _) (Kd.R_nil _ _ _ _ _) (Kd.R_nil _ _ _ _ _) HU2.out) HO.out
  ·have HP := Lh (params_bad w0 w g v HRS.out (HBW.out w HO.out) HG.out hv hcode)
   have HR := Lh (show readPrms false kd fl v = .error (decD v).2.2 from by unfold readPrms prmsD; rw [if_neg hcode])
   unfold errE at HP
   generalize (decD v).2.2 = code at *
   go_wp2_with fail
   refine HP.out.mono ?_
   rintro e w1 ⟨rfl, hO⟩
   refine ⟨rfl, ReadP.bad HR.out (hO.blk HC.out HNE.out) rfl (HO.out.trans (hO.mono (S' := fun k => k = g ∨ k = gc) (fun k _ h => Or.inl h)) (fun k _ h => h))⟩
set_option maxHeartbeats 4000000 in
theorem read_beat (w0 w : World) (g gc : Nat) (v : List UInt8) (kd fl : Int) (hs : RS w0 w g v) (hc : w.heap[gc]? = some (.cells (freshV kd fl) 41 (0, 0))) (hB : Below w0.heap.size w0 w) (hg : w0.heap.size ≤ g) (hgc : w0.heap.size ≤ gc) (hne : g ≠ gc) (hv : v.length ≤ 140737488355328) (hk : kd = 4 ∨ kd = 5) :
  Calls Tryd.prog 92 #[.pointer (some ⟨g, 0, none⟩), .pointer (some ⟨gc, 0, none⟩)] w (ReadP w g gc (readPrms true kd fl v)) := by
 have hb : ((kd == 0) = false ∧ (kd == 1) = false ∧ (kd == 2) = false ∧ (kd == 3) = false ∧ (kd == 16) = false ∧ (kd == 4) = true) ∨ ((kd == 0) = false ∧ (kd == 1) = false ∧ (kd == 2) = false ∧ (kd == 3) = false ∧ (kd == 16) = false ∧ (kd == 4) = false ∧ (kd == 5) = true) := by rcases hk with rfl | rfl <;> decide
 clear hk
 rcases hb with ⟨b0, b1, b2, b3, b16, b4⟩ | ⟨b0, b1, b2, b3, b16, b4, b5⟩
 all_goals
  have HGL := Lh (show g < w.heap.size ∧ gc < w.heap.size from ⟨hs.lt, blk_lt hc⟩)
  have HBW := Lh (fun (W : World) (h : Only (fun k => k = g ∨ k = gc) w W) => hB.trans (h.below hB.size (fun k hk => by omega)))
  have HNE := Lh (show ¬ gc = g from fun e => hne e.symm)
  have HNE2 := Lh (show ¬ g = gc from hne)
  have HG := Lh hg
  have HRS := Lh hs
  unfold freshV at hc
  have HC := Lh hc
  have k0 : w.cell? ⟨gc, 0, none⟩ = some (.int .u8 kd) := blk_cell hc 0
  have HO := Lh (Only.refl (fun k => k = g ∨ k = gc) w)
  clear hs hc hB hg hgc hne
  go_enter Tryd.func92, Tryd.ntmps92
  by_cases hcode : (decD v).2.2 = 0
  ·have HP := Lh (params_ok w0 w g v HRS.out (HBW.out w HO.out) HG.out hv hcode)
   go_wp2_with fail
   refine HP.out.mono ?_
   rintro e w1 ⟨u, rfl, hU, hRS, hO⟩
   obtain ⟨Au, cu, hu⟩ := Kd.R_slice hU
   have hUr := Kd.R_reads hU
   replace HRS := Lh hRS
   replace HC := Lh (hO.blk HC.out HNE.out)
   have HU := Lh (Kd.R_lower hU HO.out.size)
   replace HO := Lh (HO.out.trans (hO.mono (S' := fun k => k = g ∨ k = gc) (fun k _ h => Or.inl h)) (fun k _ h => h))
   clear hRS hO hU HP
   obtain ⟨nu, hnu⟩ : ∃ nu, (decD v).1.length = nu := ⟨_, rfl⟩
   rw [hnu] at hu
   subst hu
   have k14 : w1.cell? ⟨gc, 14, none⟩ = some (.slice none 0 0) := blk_cell HC.out 14
   have f14 := blk_frozen HC.out 14
   replace HC := Lh (blk_put HC.out 14 (.slice Au nu cu) (show _ = #[.int .u8 kd, .int .u8 fl, .int .u32 0, .int .u16 0, .int .u16 0, .int .u32 0, .int .u32 0, .int .u32 0, .int .u16 0, .int .u16 0, .slice none 0 0, .slice none 0 0, .slice none 0 0, .slice none 0 0, .slice Au nu cu] from rfl))
   replace HO := Lh ((HO.out.setCell (p := ⟨gc, 14, none⟩) (fun _ => Or.inr rfl) (.slice Au nu cu)))
   have HFAR := Lh (((Only.refl (· = gc) w1).setCell (p := ⟨gc, 14, none⟩) (fun _ => rfl) (.slice Au nu cu)))
   replace HRS := Lh (HRS.out.only HFAR.out HNE2.out)
   go_upto_region 17 with (fail)
   clear k14 f14
   generalize (w1.setCell ⟨gc, 14, none⟩ (.slice Au nu cu)) = W2 at *
   have HU2 := Lh (R_only HU.out HFAR.out (fun k hk _ e => by have := HGL.out.2; omega))
   obtain ⟨A8, c8, hu8, hle8, hC8⟩ := Kd.R_reads HU2.out
   rw [hnu] at hu8
   injection hu8 with e1 e2 e3
   subst e1 e3
   have HBT := Lh (chunk_beat.calls kd fl 0 0 0 0 0 0 0 0 none 0 [] none 0 [] none 0 [] none 0 [] Au cu (decD v).1 (beatB (decD v).1) W2 (Kd.C_nil _ _) (Nat.le_refl _) (Kd.C_nil _ _) (Nat.le_refl _) (Kd.C_nil _ _) (Nat.le_refl _) (Kd.C_nil _ _) (Nat.le_refl _) hC8 hle8 (beat_f ..))
   rw [hnu] at HBT
   clear hC8 hle8
   have k0 : W2.cell? ⟨gc, 0, none⟩ = some (.int .u8 kd) := blk_cell HC.out 0
   cases hbt : beatB (decD v).1 with
   | false =>
    have HR := Lh (show readPrms true kd fl v = .error 61 from by unfold readPrms prmsD; rw [if_pos hcode]; show (if (true && !beatB (decD v).1) = true then _ else _) = _; rw [hbt]; rfl)
    rw [hbt] at HBT
    go_wp2_with (refine wpList_load_row rfl 41 _ rfl gc rfl 41 #[.int .u8 kd, .int .u8 fl, .int .u32 0, .int .u16 0, .int .u16 0, .int .u32 0, .int .u32 0, .int .u32 0, .int .u16 0, .int .u16 0, .slice none 0 0, .slice none 0 0, .slice none 0 0, .slice none 0 0, .slice Au nu cu] (0, 0) _ HC.out Tryd.underlying41 rfl (by kernel_rfl) ?_)
    refine HBT.out.mono ?_
    rintro e w3 ⟨rfl, hB3⟩
    go_wp2
    exact ⟨rfl, ReadP.bad HR.out (blk_below HC.out hB3) rfl (Only.then_ HO.out (hB3.mono HO.out.size))⟩
   | true =>
    have HR := Lh (show readPrms true kd fl v = .ok ⟨kd, fl, 0, 0, 0, 0, 0, 0, 0, 0, [], [], [], [], (decD v).1⟩ from by unfold readPrms prmsD; rw [if_pos hcode]; show (if (true && !beatB (decD v).1) = true then _ else _) = _; rw [hbt]; rfl)
    rw [hbt] at HBT
    go_wp2_with (refine wpList_load_row rfl 41 _ rfl gc rfl 41 #[.int .u8 kd, .int .u8 fl, .int .u32 0, .int .u16 0, .int .u16 0, .int .u32 0, .int .u32 0, .int .u32 0, .int .u16 0, .int .u16 0, .slice none 0 0, .slice none 0 0, .slice none 0 0, .slice none 0 0, .slice Au nu cu] (0, 0) _ HC.out Tryd.underlying41 rfl (by kernel_rfl) ?_)
    refine HBT.out.mono ?_
    rintro e w3 ⟨rfl, hB3⟩
    replace HC := Lh (blk_below HC.out hB3)
    replace HRS := Lh (HRS.out.only (Only.of_below (S := fun _ => False) hB3) id)
    replace HU2 := Lh (Kd.R_below HU2.out hB3)
    replace HO := Lh (Only.then_ HO.out (hB3.mono HO.out.size))
    clear hB3 HBT k0
    obtain ⟨Ar, cr, hbr, hcr, hCr⟩ := HRS.out
    have kr : w3.cell? ⟨g, 0, none⟩ = some (.slice Ar 0 cr) := blk_cell hbr 0
    clear hbr hcr hCr
    go_wp2
    go_end0
    exact ReadP.good HR.out HC.out (k41_mkM _ _ _ (⟨kd, fl, 0, 0, 0, 0, 0, 0, 0, 0, [], [], [], [], (decD v).1⟩) (Kd.R_nil _ _ _ _ _) (Kd.R_nil _ _ _ _ _) (Kd.R_nil _ _ _ _ _) (Kd.R_nil _ _ _ _ _) HU2.out) HO.out
  ·have HP := Lh (params_bad w0 w g v HRS.out (HBW.out w HO.out) HG.out hv hcode)
   have HR := Lh (show readPrms true kd fl v = .error (decD v).2.2 from by unfold readPrms prmsD; rw [if_neg hcode])
   unfold errE at HP
   generalize (decD v).2.2 = code at *
   go_wp2_with fail
   refine HP.out.mono ?_
   rintro e w1 ⟨rfl, hO⟩
   refine ⟨rfl, ReadP.bad HR.out (hO.blk HC.out HNE.out) rfl (HO.out.trans (hO.mono (S' := fun k => k = g ∨ k = gc) (fun k _ h => Or.inl h)) (fun k _ h => h))⟩
end Go.Proofs.YtdlamomabonkjaaDoor.Ch
end
section
namespace Go.Proofs.YtdlamomabonkjaaDoor.Ch
open Go.RowKit YtdlamomabonkjaaDoorW.PrintWords Base PCh ParDec
set_option maxHeartbeats 4000000 in
theorem read_shut (w0 w : World) (g gc : Nat) (v : List UInt8) (fl : Int) (hs : RS w0 w g v) (hc : w.heap[gc]? = some (.cells (freshV 7 fl) 41 (0, 0))) (hB : Below w0.heap.size w0 w) (hg : w0.heap.size ≤ g) (hgc : w0.heap.size ≤ gc) (hne : g ≠ gc) (hv : v.length ≤ 140737488355328) :
  Calls Tryd.prog 92 #[.pointer (some ⟨g, 0, none⟩), .pointer (some ⟨gc, 0, none⟩)] w (ReadP w g gc (readShut 7 fl v)) := by
 have HGL := Lh (show g < w.heap.size ∧ gc < w.heap.size from ⟨hs.lt, blk_lt hc⟩)
 have HBW := Lh (fun (W : World) (h : Only (fun k => k = g ∨ k = gc) w W) => hB.trans (h.below hB.size (fun k hk => by omega)))
 have HNE := Lh (show ¬ gc = g from fun e => hne e.symm)
 have HNE2 := Lh (show ¬ g = gc from hne)
 have HG := Lh hg
 have HRS := Lh hs
 unfold freshV at hc
 have HC := Lh hc
 have k0 : w.cell? ⟨gc, 0, none⟩ = some (.int .u8 7) := blk_cell hc 0
 have HO := Lh (Only.refl (fun k => k = g ∨ k = gc) w)
 clear hs hc hB hg hgc hne
 by_cases h0 : 4 ≤ v.length
 ·skip
  have H0 := Lh (fun (W : World) (h : RS w0 W g v) (hO : Only (fun k => k = g ∨ k = gc) w W) => four_ok w0 W g v h (HBW.out W hO) HG.out (by omega) hv)
  obtain ⟨t0, ht0⟩ : ∃ t, be (v.take 4) = t := ⟨_, rfl⟩
  rw [ht0] at H0
  have HT0 := Lh ht0
  clear ht0
  go_enter Tryd.func92, Tryd.ntmps92
  go_wp2_with fail
  refine (H0.out w HRS.out HO.out).mono ?_
  rintro e w1 ⟨rfl, hRS, hO⟩
  replace HRS := Lh (show RS w0 w1 g (v.drop 4) from by exact hRS)
  replace HC := Lh (hO.blk HC.out HNE.out)
  replace HO := Lh (HO.out.trans (hO.mono (S' := fun k => k = g ∨ k = gc) (fun k _ h => Or.inl h)) (fun k _ h => h))
  clear hRS hO H0
  have k2 : w1.cell? ⟨gc, 2, none⟩ = some (.int .u32 0) := blk_cell HC.out 2
  have f2 := blk_frozen HC.out 2
  replace HC := Lh (blk_put HC.out 2 (.int .u32 (t0 : Int)) (show _ = #[.int .u8 7, .int .u8 fl, .int .u32 (t0 : Int), .int .u16 0, .int .u16 0, .int .u32 0, .int .u32 0, .int .u32 0, .int .u16 0, .int .u16 0, .slice none 0 0, .slice none 0 0, .slice none 0 0, .slice none 0 0, .slice none 0 0] from rfl))
  replace HO := Lh ((HO.out.setCell (p := ⟨gc, 2, none⟩) (fun _ => Or.inr rfl) (.int .u32 (t0 : Int))))
  have HFAR := Lh (((Only.refl (· = gc) w1).setCell (p := ⟨gc, 2, none⟩) (fun _ => rfl) (.int .u32 (t0 : Int))))
  replace HRS := Lh (HRS.out.only HFAR.out HNE2.out)
  go_upto_region 27 with (fail)
  clear k2 f2
  generalize (w1.setCell ⟨gc, 2, none⟩ (.int .u32 (t0 : Int))) = W2 at *
  obtain ⟨Ar, cr, hbr, hcr, hCr⟩ := HRS.out
  have kr : W2.cell? ⟨g, 0, none⟩ = some (.slice Ar (v.drop 4).length cr) := blk_cell hbr 0
  clear hbr hcr hCr
  by_cases h4 : v.length = 4
  ·have hl : (v.drop 4).length = 0 := by rw [List.length_drop]; omega
   rw [hl] at kr
   have ht := HT0.out
   rw [List.take_of_length_le (by omega)] at ht
   have HR := Lh (show readShut 7 fl v = .ok ⟨7, fl, (t0 : Int), 0, 0, 0, 0, 0, 0, 0, [], [], [], [], []⟩ from by unfold readShut; rw [if_pos h4, ht])
   go_wp2
   go_end0
   exact ReadP.good HR.out HC.out (k41_mkM _ _ _ (⟨7, fl, (t0 : Int), 0, 0, 0, 0, 0, 0, 0, [], [], [], [], []⟩) (Kd.R_nil _ _ _ _ _) (Kd.R_nil _ _ _ _ _) (Kd.R_nil _ _ _ _ _) (Kd.R_nil _ _ _ _ _) (Kd.R_nil _ _ _ _ _)) HO.out
  ·have hl : 0 < (v.drop 4).length := by rw [List.length_drop]; omega
   have hli : (0 : Int) < ((v.drop 4).length : Int) := by omega
   have HR := Lh (show readShut 7 fl v = .error 61 from by unfold readShut; rw [if_neg (by omega)])
   generalize (v.drop 4).length = nn at *
   go_wp2
   exact ⟨rfl, ReadP.bad HR.out HC.out rfl HO.out⟩
 ·skip
  have HR := Lh (show readShut 7 fl v = .error 61 from by unfold readShut; rw [if_neg (by omega)])
  have H0 := Lh (fun (W : World) (h : RS w0 W g v) (hO : Only (fun k => k = g ∨ k = gc) w W) => four_bad w0 W g v h (HBW.out W hO) HG.out (by omega) hv)
  unfold errE at H0
  go_enter Tryd.func92, Tryd.ntmps92
  go_wp2_with fail
  refine (H0.out w HRS.out HO.out).mono ?_
  rintro e w1 ⟨rfl, hO⟩
  refine ⟨rfl, ReadP.bad HR.out (hO.blk HC.out HNE.out) rfl (HO.out.trans (hO.mono (S' := fun k => k = g ∨ k = gc) (fun k _ h => Or.inl h)) (fun k _ h => h))⟩
set_option maxHeartbeats 4000000 in
theorem read_none (w0 w : World) (g gc : Nat) (v : List UInt8) (kd fl : Int) (hs : RS w0 w g v) (hc : w.heap[gc]? = some (.cells (freshV kd fl) 41 (0, 0))) (hB : Below w0.heap.size w0 w) (hg : w0.heap.size ≤ g) (hgc : w0.heap.size ≤ gc) (hne : g ≠ gc) (hv : v.length ≤ 140737488355328) (hk : kd = 8 ∨ kd = 11 ∨ kd = 14) :
  Calls Tryd.prog 92 #[.pointer (some ⟨g, 0, none⟩), .pointer (some ⟨gc, 0, none⟩)] w (ReadP w g gc (readNone kd fl v)) := by
 have hb : ((kd == 0) = false ∧ (kd == 1) = false ∧ (kd == 2) = false ∧ (kd == 3) = false ∧ (kd == 16) = false ∧ (kd == 4) = false ∧ (kd == 5) = false ∧ (kd == 6) = false ∧ (kd == 9) = false ∧ (kd == 7) = false ∧ (kd == 8) = true) ∨ ((kd == 0) = false ∧ (kd == 1) = false ∧ (kd == 2) = false ∧ (kd == 3) = false ∧ (kd == 16) = false ∧ (kd == 4) = false ∧ (kd == 5) = false ∧ (kd == 6) = false ∧ (kd == 9) = false ∧ (kd == 7) = false ∧ (kd == 8) = false ∧ (kd == 11) = true) ∨ ((kd == 0) = false ∧ (kd == 1) = false ∧ (kd == 2) = false ∧ (kd == 3) = false ∧ (kd == 16) = false ∧ (kd == 4) = false ∧ (kd == 5) = false ∧ (kd == 6) = false ∧ (kd == 9) = false ∧ (kd == 7) = false ∧ (kd == 8) = false ∧ (kd == 11) = false ∧ (kd == 14) = true) := by rcases hk with rfl | rfl | rfl <;> decide
 clear hk
 rcases hb with ⟨b0, b1, b2, b3, b16, b4, b5, b6, b9, b7, b8⟩ | ⟨b0, b1, b2, b3, b16, b4, b5, b6, b9, b7, b8, b11⟩ | ⟨b0, b1, b2, b3, b16, b4, b5, b6, b9, b7, b8, b11, b14⟩
 all_goals
  have HGL := Lh (show g < w.heap.size ∧ gc < w.heap.size from ⟨hs.lt, blk_lt hc⟩)
  have HBW := Lh (fun (W : World) (h : Only (fun k => k = g ∨ k = gc) w W) => hB.trans (h.below hB.size (fun k hk => by omega)))
  have HNE := Lh (show ¬ gc = g from fun e => hne e.symm)
  have HNE2 := Lh (show ¬ g = gc from hne)
  have HG := Lh hg
  have HRS := Lh hs
  unfold freshV at hc
  have HC := Lh hc
  have k0 : w.cell? ⟨gc, 0, none⟩ = some (.int .u8 kd) := blk_cell hc 0
  have HO := Lh (Only.refl (fun k => k = g ∨ k = gc) w)
  clear hs hc hB hg hgc hne
  obtain ⟨Ar, cr, hbr, hcr, hCr⟩ := HRS.out
  have kr : w.cell? ⟨g, 0, none⟩ = some (.slice Ar v.length cr) := blk_cell hbr 0
  clear hbr hcr hCr
  by_cases h0 : v.length = 0
  ·have HR := Lh (show readNone kd fl v = .ok (chk0 kd fl) from by unfold readNone; rw [if_pos h0])
   rw [h0] at kr
   go_enter Tryd.func92, Tryd.ntmps92
   go_wp2
   go_end0
   exact ReadP.good HR.out HC.out (k41_mkM _ _ _ (chk0 kd fl) (Kd.R_nil _ _ _ _ _) (Kd.R_nil _ _ _ _ _) (Kd.R_nil _ _ _ _ _) (Kd.R_nil _ _ _ _ _) (Kd.R_nil _ _ _ _ _)) HO.out
  ·have HR := Lh (show readNone kd fl v = .error 61 from by unfold readNone; rw [if_neg h0])
   have hli : (0 : Int) < (v.length : Int) := by omega
   generalize v.length = nn at *
   go_enter Tryd.func92, Tryd.ntmps92
   go_wp2
   exact ⟨rfl, ReadP.bad HR.out HC.out rfl HO.out⟩
set_option maxHeartbeats 4000000 in
theorem read_body (w0 w : World) (g gc : Nat) (v : List UInt8) (kd fl : Int) (hs : RS w0 w g v) (hc : w.heap[gc]? = some (.cells (freshV kd fl) 41 (0, 0))) (hB : Below w0.heap.size w0 w) (hg : w0.heap.size ≤ g) (hgc : w0.heap.size ≤ gc) (hne : g ≠ gc) (hv : v.length ≤ 140737488355328) (hk : ∀ c ∈ ([0, 1, 2, 3, 16, 4, 5, 6, 9, 7, 8, 11, 14] : List Int), kd ≠ c) :
  Calls Tryd.prog 92 #[.pointer (some ⟨g, 0, none⟩), .pointer (some ⟨gc, 0, none⟩)] w (ReadP w g gc (readBody kd fl v)) := by
 have HGL := Lh (show g < w.heap.size ∧ gc < w.heap.size from ⟨hs.lt, blk_lt hc⟩)
 have HBW := Lh (fun (W : World) (h : Only (fun k => k = g ∨ k = gc) w W) => hB.trans (h.below hB.size (fun k hk => by omega)))
 have HNE := Lh (show ¬ gc = g from fun e => hne e.symm)
 have HNE2 := Lh (show ¬ g = gc from hne)
 have HG := Lh hg
 have HRS := Lh hs
 unfold freshV at hc
 have HC := Lh hc
 have k0 : w.cell? ⟨gc, 0, none⟩ = some (.int .u8 kd) := blk_cell hc 0
 have HO := Lh (Only.refl (fun k => k = g ∨ k = gc) w)
 clear hs hc hB hg hgc hne
 have HR := Lh (show readBody kd fl v = .ok ⟨kd, fl, 0, 0, 0, 0, 0, 0, 0, 0, [], [], [], intsL v, []⟩ from rfl)
 have HA := Lh (all_calls w0 w g v HRS.out (HBW.out w HO.out) HG.out hv)
 have q0 : (kd == 0) = false := by simpa using hk 0 (by decide)
 have q1 : (kd == 1) = false := by simpa using hk 1 (by decide)
 have q2 : (kd == 2) = false := by simpa using hk 2 (by decide)
 have q3 : (kd == 3) = false := by simpa using hk 3 (by decide)
 have q16 : (kd == 16) = false := by simpa using hk 16 (by decide)
 have q4 : (kd == 4) = false := by simpa using hk 4 (by decide)
 have q5 : (kd == 5) = false := by simpa using hk 5 (by decide)
 have q6 : (kd == 6) = false := by simpa using hk 6 (by decide)
 have q9 : (kd == 9) = false := by simpa using hk 9 (by decide)
 have q7 : (kd == 7) = false := by simpa using hk 7 (by decide)
 have q8 : (kd == 8) = false := by simpa using hk 8 (by decide)
 have q11 : (kd == 11) = false := by simpa using hk 11 (by decide)
 have q14 : (kd == 14) = false := by simpa using hk 14 (by decide)
 go_enter Tryd.func92, Tryd.ntmps92
 go_wp2_with fail
 refine HA.out.mono ?_
 rintro e w1 ⟨u, rfl, hU, hRS, hO⟩
 obtain ⟨Au, cu, hu⟩ := Kd.R_slice hU
 replace HRS := Lh hRS
 replace HC := Lh (hO.blk HC.out HNE.out)
 have HU := Lh (Kd.R_lower (int_of_byte' hU) HO.out.size)
 replace HO := Lh (HO.out.trans (hO.mono (S' := fun k => k = g ∨ k = gc) (fun k _ h => Or.inl h)) (fun k _ h => h))
 clear hRS hO hU HA
 generalize v.length = nu at hu
 subst hu
 have k13 : w1.cell? ⟨gc, 13, none⟩ = some (.slice none 0 0) := blk_cell HC.out 13
 have f13 := blk_frozen HC.out 13
 replace HC := Lh (blk_put HC.out 13 (.slice Au nu cu) (show _ = #[.int .u8 kd, .int .u8 fl, .int .u32 0, .int .u16 0, .int .u16 0, .int .u32 0, .int .u32 0, .int .u32 0, .int .u16 0, .int .u16 0, .slice none 0 0, .slice none 0 0, .slice none 0 0, .slice Au nu cu, .slice none 0 0] from rfl))
 replace HO := Lh ((HO.out.setCell (p := ⟨gc, 13, none⟩) (fun _ => Or.inr rfl) (.slice Au nu cu)))
 have HFAR := Lh (((Only.refl (· = gc) w1).setCell (p := ⟨gc, 13, none⟩) (fun _ => rfl) (.slice Au nu cu)))
 replace HRS := Lh (HRS.out.only HFAR.out HNE2.out)
 go_upto_region 27 with (fail)
 clear k13 f13
 generalize (w1.setCell ⟨gc, 13, none⟩ (.slice Au nu cu)) = W2 at *
 have HU2 := Lh (R_only HU.out HFAR.out (fun k hk _ e => by have := HGL.out.2; omega))
 obtain ⟨Ar, cr, hbr, hcr, hCr⟩ := HRS.out
 have kr : W2.cell? ⟨g, 0, none⟩ = some (.slice Ar 0 cr) := blk_cell hbr 0
 clear hbr hcr hCr
 go_wp2
 go_end0
 exact ReadP.good HR.out HC.out (k41_mkM _ _ _ (⟨kd, fl, 0, 0, 0, 0, 0, 0, 0, 0, [], [], [], intsL v, []⟩) (Kd.R_nil _ _ _ _ _) (Kd.R_nil _ _ _ _ _) (Kd.R_nil _ _ _ _ _) HU2.out (Kd.R_nil _ _ _ _ _)) HO.out
end Go.Proofs.YtdlamomabonkjaaDoor.Ch
end
section
namespace Go.Proofs.YtdlamomabonkjaaDoor.Ch
open Go.RowKit YtdlamomabonkjaaDoorW.PrintWords Base PCh ParDec
theorem read_calls (w0 w : World) (g gc : Nat) (v : List UInt8) (kd fl : Int) (hs : RS w0 w g v) (hc : w.heap[gc]? = some (.cells (freshV kd fl) 41 (0, 0))) (hB : Below w0.heap.size w0 w) (hg : w0.heap.size ≤ g) (hgc : w0.heap.size ≤ gc) (hne : g ≠ gc) (hv : v.length ≤ 140737488355328) :
  Calls Tryd.prog 92 #[.pointer (some ⟨g, 0, none⟩), .pointer (some ⟨gc, 0, none⟩)] w (ReadP w g gc (readD kd fl v)) := by
 by_cases h0 : kd = 0
 ·subst h0; exact read_data w0 w g gc v fl hs hc hB hg hgc hne hv
 by_cases h1 : kd = 1
 ·subst h1; exact read_init w0 w g gc v 1 fl hs hc hB hg hgc hne hv (Or.inl rfl)
 by_cases h2 : kd = 2
 ·subst h2; exact read_init w0 w g gc v 2 fl hs hc hB hg hgc hne hv (Or.inr rfl)
 by_cases h3 : kd = 3
 ·subst h3; exact read_lists3 w0 w g gc v fl hs hc hB hg hgc hne hv
 by_cases h16 : kd = 16
 ·subst h16; exact read_lists16 w0 w g gc v fl hs hc hB hg hgc hne hv
 by_cases h4 : kd = 4
 ·subst h4; exact read_beat w0 w g gc v 4 fl hs hc hB hg hgc hne hv (Or.inl rfl)
 by_cases h5 : kd = 5
 ·subst h5; exact read_beat w0 w g gc v 5 fl hs hc hB hg hgc hne hv (Or.inr rfl)
 by_cases h6 : kd = 6
 ·subst h6; exact read_prms w0 w g gc v 6 fl hs hc hB hg hgc hne hv (Or.inl rfl)
 by_cases h9 : kd = 9
 ·subst h9; exact read_prms w0 w g gc v 9 fl hs hc hB hg hgc hne hv (Or.inr rfl)
 by_cases h7 : kd = 7
 ·subst h7; exact read_shut w0 w g gc v fl hs hc hB hg hgc hne hv
 by_cases h8 : kd = 8
 ·subst h8; exact read_none w0 w g gc v 8 fl hs hc hB hg hgc hne hv (Or.inl rfl)
 by_cases h11 : kd = 11
 ·subst h11; exact read_none w0 w g gc v 11 fl hs hc hB hg hgc hne hv (Or.inr (Or.inl rfl))
 by_cases h14 : kd = 14
 ·subst h14; exact read_none w0 w g gc v 14 fl hs hc hB hg hgc hne hv (Or.inr (Or.inr rfl))
 have e : readD kd fl v = readBody kd fl v := by
  unfold readD
  rw [if_neg h0, if_neg (by omega), if_neg h3, if_neg h16, if_neg (by omega), if_neg (by omega), if_neg h7, if_neg (by omega)]
 rw [e]
 exact read_body w0 w g gc v kd fl hs hc hB hg hgc hne hv (by intro c hc'; simp only [List.mem_cons, List.not_mem_nil, or_false] at hc'; omega)
def maskD (kd : Int) : Int := if kd = 0 then 7 else if kd = 6 ∨ kd = 14 then 1 else if kd ≤ 11 ∨ kd = 16 then 0 else 255
theorem mask_f (kd : Int) : chunk_mask.f 1 kd = some (maskD kd) := by
 by_cases h0 : kd = 0
 ·simp [chunk_mask.f, maskD, h0]
 by_cases h6 : kd = 6
 ·simp [chunk_mask.f, chunk_mask.j0, maskD, h6, chunk_plain.f]
 by_cases h14 : kd = 14
 ·simp [chunk_mask.f, chunk_mask.j0, maskD, h14]
 by_cases h11 : kd ≤ 11
 ·simp [chunk_mask.f, chunk_mask.j0, maskD, h0, h6, h14, h11, chunk_plain.f]
 by_cases h16 : kd = 16
 ·simp [chunk_mask.f, chunk_mask.j0, maskD, h16, chunk_plain.f]
 ·simp [chunk_mask.f, chunk_mask.j0, maskD, h0, h6, h14, h11, h16, chunk_plain.f]
theorem mask_calls (kd : Int) (w : World) : Calls Tryd.prog 88 #[.int .u8 kd] w fun e w' => e = .returned (.int .u8 (maskD kd)) ∧ Drawn0 w w' := chunk_mask.calls 1 kd _ w (mask_f kd)
theorem padded_calls (n : Nat) (hn : n ≤ 140737488355328) (w : World) : Calls Tryd.prog 54 #[.int .i64 (n : Int)] w fun e w' => e = .returned (.int .i64 (((n + 3) / 4 * 4 : Nat) : Int)) ∧ Drawn0 w w' := by
 refine chunk_padded.calls (n : Int) (((n + 3) / 4 * 4 : Nat) : Int) w ?_
 unfold chunk_padded.f
 congr 1
 have e1 : wrap64 ((n : Int) + 3) = ((n + 3 : Nat) : Int) := by unfold wrap64; omega
 rw [e1, show Int.tdiv ((n + 3 : Nat) : Int) 4 = (((n + 3) / 4 : Nat) : Int) from rfl]
 have e2 : wrap64 (((n + 3) / 4 : Nat) : Int) = (((n + 3) / 4 : Nat) : Int) := by unfold wrap64; omega
 rw [e2]
 have e3 : (((n + 3) / 4 : Nat) : Int) * 4 = (((n + 3) / 4 * 4 : Nat) : Int) := by omega
 rw [e3]
 unfold wrap64
 omega
theorem catch_idle (a b c : Addr) (w : World) :
  CallsD Tryd.prog 91 #[.pointer (some a), .pointer (some b), .pointer (some c)] .returning w fun e u' w' => e = .returned (.tuple #[]) ∧ u' = .returning ∧ w' = w := by
 refine callsD_of_wpS Tryd.func91 rfl fun c₀ cs hu => ?_
 apply wpS_seq
 apply wpS_region
 simp [wpOpsS, go_sem, recoverD, hu, Tryd.ntmps91, Exit.thenS]
 have ht : (#[Value.pointer (some a), Value.pointer (some b), Value.pointer (some c)] ++ ((Array.replicate 16 undef).setIfInBounds 3 Value.nilIface).setIfInBounds 0 Value.nilIface) = #[.pointer (some a), .pointer (some b), .pointer (some c), .nilIface, undef, undef, .nilIface, undef, undef, undef, undef, undef, undef, undef, undef, undef, undef, undef, undef] := by kernel_rfl
 rw [ht]
 refine wpS_of_wp ?_
 go_wp2
 cases c₀
 simp_all [bodyPostS, results, Tryd.results91]
def errV (code : Int) : Value := .iface 28 (.int .i64 code)
theorem catch_err (a b c : Nat) (code : Int) (older : List PanicEntry) (w : World) (x0 : Array Value) (x1 x2 : Value) (t1 t2 : TypeId)
  (h0 : w.heap[a]? = some (.cells x0 41 (0, 0))) (hx0 : x0.size = 15) (h1 : w.heap[b]? = some (.cells #[x1] t1 (0, 0))) (h2 : w.heap[c]? = some (.cells #[x2] t2 (0, 0))) (hab : a ≠ b) (hac : a ≠ c) (hbc : b ≠ c) :
  CallsD Tryd.prog 91 #[.pointer (some ⟨a, 0, none⟩), .pointer (some ⟨b, 0, none⟩), .pointer (some ⟨c, 0, none⟩)] (.panicking ({ v := errV code, recovered := false } :: older)) w fun e u' w' => e = .returned (.tuple #[]) ∧ u' = .panicking ({ v := errV code, recovered := true } :: older) ∧
   w'.heap[a]? = some (.cells (freshV 0 0) 41 (0, 0)) ∧ w'.heap[b]? = some (.cells #[.int .i64 0] t1 (0, 0)) ∧ w'.heap[c]? = some (.cells #[.int .i64 code] t2 (0, 0)) ∧ Only (fun k => k = a ∨ k = b ∨ k = c) w w' := by
 unfold errV freshV
 refine callsD_of_wpS Tryd.func91 rfl fun c₀ cs hu => ?_
 apply wpS_seq
 apply wpS_region
 simp [wpOpsS, go_sem, recoverD, hu, Tryd.ntmps91, Exit.thenS]
 generalize hfv : (Value.iface 28 (.int .i64 code)) = fv at *
 have ht : ∀ fv : Value, (#[Value.pointer (some ⟨a, 0, none⟩), Value.pointer (some ⟨b, 0, none⟩), Value.pointer (some ⟨c, 0, none⟩)] ++ ((Array.replicate 16 undef).setIfInBounds 3 fv).setIfInBounds 0 fv) = #[.pointer (some ⟨a, 0, none⟩), .pointer (some ⟨b, 0, none⟩), .pointer (some ⟨c, 0, none⟩), fv, undef, undef, fv, undef, undef, undef, undef, undef, undef, undef, undef, undef, undef, undef, undef] := fun fv => by kernel_rfl
 rw [ht]
 subst hfv
 have hta : ∀ W : World, (Instr.typeAssert (Value.iface 28 (.int .i64 code)) 20 28 true).run Tryd.prog W = .ok (.tuple #[.int .i64 code, .bool true]) W := fun W => by rfl
 refine wpS_of_wp ?_
 have H0 := Lh h0
 have HX0 := Lh hx0
 have ha : (w.setRow a #[.int .u8 0, .int .u8 0, .int .u32 0, .int .u16 0, .int .u16 0, .int .u32 0, .int .u32 0, .int .u32 0, .int .u16 0, .int .u16 0, .slice none 0 0, .slice none 0 0, .slice none 0 0, .slice none 0 0, .slice none 0 0]).heap[a]? = some (.cells #[.int .u8 0, .int .u8 0, .int .u32 0, .int .u16 0, .int .u16 0, .int .u32 0, .int .u32 0, .int .u32 0, .int .u16 0, .int .u16 0, .slice none 0 0, .slice none 0 0, .slice none 0 0, .slice none 0 0, .slice none 0 0] 41 (0, 0)) := setRow_heap _ _ _ _ _ _ h0
 have hb : (w.setRow a #[.int .u8 0, .int .u8 0, .int .u32 0, .int .u16 0, .int .u16 0, .int .u32 0, .int .u32 0, .int .u32 0, .int .u16 0, .int .u16 0, .slice none 0 0, .slice none 0 0, .slice none 0 0, .slice none 0 0, .slice none 0 0]).heap[b]? = some (.cells #[x1] t1 (0, 0)) := (setRow_other _ _ _ _ (by omega)).trans h1
 have hc : (w.setRow a #[.int .u8 0, .int .u8 0, .int .u32 0, .int .u16 0, .int .u16 0, .int .u32 0, .int .u32 0, .int .u32 0, .int .u16 0, .int .u16 0, .slice none 0 0, .slice none 0 0, .slice none 0 0, .slice none 0 0, .slice none 0 0]).heap[c]? = some (.cells #[x2] t2 (0, 0)) := (setRow_other _ _ _ _ (by omega)).trans h2
 have hc2 := blk_far (p := ⟨b, 0, none⟩) hc (Ne.symm hbc) (.int .i64 0)
 have kb : (w.setRow a #[.int .u8 0, .int .u8 0, .int .u32 0, .int .u16 0, .int .u16 0, .int .u32 0, .int .u32 0, .int .u32 0, .int .u16 0, .int .u16 0, .slice none 0 0, .slice none 0 0, .slice none 0 0, .slice none 0 0, .slice none 0 0]).cell? ⟨b, 0, none⟩ = some x1 := blk_cell hb 0
 have fb := blk_frozen hb 0
 have kc := (blk_cell hc2 0).trans (show (#[x2] : Array Value)[0]? = some x2 from rfl)
 have fc := blk_frozen hc2 0
 have kc1 : (w.setRow a #[.int .u8 0, .int .u8 0, .int .u32 0, .int .u16 0, .int .u16 0, .int .u32 0, .int .u32 0, .int .u32 0, .int .u16 0, .int .u16 0, .slice none 0 0, .slice none 0 0, .slice none 0 0, .slice none 0 0, .slice none 0 0]).cell? ⟨c, 0, none⟩ = some x2 := blk_cell hc 0
 have fc1 := blk_frozen hc 0
 have HA := Lh (blk_far (p := ⟨c, 0, none⟩) (blk_far (p := ⟨b, 0, none⟩) ha hab (.int .i64 0)) hac (.int .i64 code))
 have HB := Lh (blk_far (p := ⟨c, 0, none⟩) (blk_put hb 0 (.int .i64 0) rfl) hbc (.int .i64 code))
 have HC := Lh (blk_put hc2 0 (.int .i64 code) rfl)
 have HO := Lh ((((show Only (fun k => k = a ∨ k = b ∨ k = c) w (w.setRow a #[.int .u8 0, .int .u8 0, .int .u32 0, .int .u16 0, .int .u16 0, .int .u32 0, .int .u32 0, .int .u32 0, .int .u16 0, .int .u16 0, .slice none 0 0, .slice none 0 0, .slice none 0 0, .slice none 0 0, .slice none 0 0]) from ⟨rfl, rfl, rfl, by simp, fun k hk hn => setRow_other _ _ _ _ (fun e => hn (Or.inl e))⟩).setCell (p := ⟨b, 0, none⟩) (fun _ => Or.inr (Or.inl rfl)) (.int .i64 0)).setCell (p := ⟨c, 0, none⟩) (fun _ => Or.inr (Or.inr rfl)) (.int .i64 code)))
 clear h0 h1 h2 ha hb hc hc2
 go_wp2_with (refine wpList_store_row rfl 41 _ _ rfl a #[.int .u8 0, .int .u8 0, .int .u32 0, .int .u16 0, .int .u16 0, .int .u32 0, .int .u32 0, .int .u32 0, .int .u16 0, .int .u16 0, .slice none 0 0, .slice none 0 0, .slice none 0 0, .slice none 0 0, .slice none 0 0] rfl rfl 41 x0 H0.out (by kernel_rfl) HX0.out (by simp [Value.oneCell']) ?_)
 show bodyPostS _ _ _ _ _ _ _ _ _
 cases c₀
 simp only at hu
 subst hu
 exact ⟨rfl, _, rfl, _, results_none rfl _ _ _, rfl, rfl, HA.out, HB.out, HC.out, HO.out⟩
end Go.Proofs.YtdlamomabonkjaaDoor.Ch
end
section
namespace Go.Proofs.YtdlamomabonkjaaDoor.Ch
open Go.RowKit YtdlamomabonkjaaDoorW.PrintWords YtdlamomabonkjaaDoorW.PrintLast YtdlamomabonkjaaDoorW.PrintMore Base PCh ParDec
attribute [local go_sem] min2_int min_two
def decAT8 : Bool × List (List Nat × List Nat) := (true, [([], []), ([0], [0]), ([1], [1]), ([], []), ([3], [3]), ([4], [4]), ([2, 5], [2, 5]), ([0, 1, 2, 3, 4, 5, 6], []), ([7, 6, 5, 0, 1, 2, 3, 4, 5, 6], [6, 7])])
def decAB8 : List Nat := [0, 1, 3, 0, 8, 24, 63, 127, 255]
theorem decAtab8 : Go.Proofs.YtdlamomabonkjaaDoorW.PrintLast.rtab .any (Go.Proofs.YtdlamomabonkjaaDoorW.PrintLast.opsOf Tryd.f81 8) = decAT8 := by kernel_rfl
theorem decAbits8 : Go.Proofs.YtdlamomabonkjaaDoorW.PrintLast.waitsOk decAT8.2 decAB8 = true := by kernel_rfl
def decBT11 : Bool × List (List Nat × List Nat) := (true, [([], []), ([], []), ([1], [1]), ([], []), ([3], [3]), ([2, 4], [2, 4]), ([0, 2, 0, 2], [0]), ([5, 6, 0, 1, 2, 3, 4, 5, 6], [5]), ([7, 0, 1, 2, 3, 4, 5, 6, 7], [])])
def decBB11 : List Nat := [0, 0, 2, 0, 8, 30, 7, 127, 255]
theorem decBtab11 : Go.Proofs.YtdlamomabonkjaaDoorW.PrintLast.rtab .any (Go.Proofs.YtdlamomabonkjaaDoorW.PrintLast.opsOf Tryd.f81 11) = decBT11 := by kernel_rfl
theorem decBbits11 : Go.Proofs.YtdlamomabonkjaaDoorW.PrintLast.waitsOk decBT11.2 decBB11 = true := by kernel_rfl
def calmQ (Q : Exit → Act → World → Prop) : Exit → Act → World → Prop := fun e a w => (match e with | .panic _ => False | _ => True) ∧ Q e a w
theorem calm {P : Program} {c : Code} {Q : Exit → Act → World → Prop} {a : Act} {w : World} (h : c.wp P (calmQ Q) a w) : c.wp P Q a w := Code.wp_mono (fun _ _ _ h => h.2) h
def flD (kd b1 : Int) : Int := bits .and .u8 b1 (maskD kd)
def decC (b : List UInt8) : Chk × Int × Int :=
 if b.length < 4 then (chk0 0 0, 0, 60)
 else if be ((b.drop 2).take 2) < 4 ∨ b.length < be ((b.drop 2).take 2) then (chk0 0 0, 0, 60)
 else match readD ((b.getD 0 0).toNat : Int) (flD ((b.getD 0 0).toNat : Int) ((b.getD 1 0).toNat : Int)) ((b.take (be ((b.drop 2).take 2))).drop 4) with
 | .error c => (chk0 0 0, 0, c)
 | .ok d => (d, (min ((be ((b.drop 2).take 2) + 3) / 4 * 4) b.length : Nat), 0)
def DecCP (b : List UInt8) (w : World) (e : Ending) (w' : World) : Prop :=
 ∃ cs, e = .returned (.tuple #[.agg cs, .int .i64 (decC b).2.1, .int .i64 (decC b).2.2]) ∧ k41.M w' w.heap.size (fun _ => True) (decC b).1 cs.toList ∧ Below w.heap.size w w'
def wc3 (w : World) : World := (((w.alloc (.cells (freshV 0 0) 41)).alloc (.cells #[.int .i64 0] 3)).alloc (.cells #[.int .i64 0] 28))
theorem wc3_size (w : World) : (wc3 w).heap.size = w.heap.size + 3 := by simp [wc3]
theorem wc3_below (w : World) : Below w.heap.size w (wc3 w) := below_alloc (below_alloc (below_alloc (Below.refl _ _) _) _) _
theorem wc3_blk (w : World) : (wc3 w).heap[w.heap.size]? = some (.cells (freshV 0 0) 41 (0, 0)) ∧ (wc3 w).heap[w.heap.size + 1]? = some (.cells #[.int .i64 0] 3 (0, 0)) ∧ (wc3 w).heap[w.heap.size + 1 + 1]? = some (.cells #[.int .i64 0] 28 (0, 0)) := by
 have s1 : (w.alloc (.cells (freshV 0 0) 41)).heap.size = w.heap.size + 1 := by simp
 have s2 : ((w.alloc (.cells (freshV 0 0) 41)).alloc (.cells #[.int .i64 0] 3)).heap.size = w.heap.size + 1 + 1 := by simp
 have h0 := blk_new w (.cells (freshV 0 0) 41)
 have h1 := blk_new (w.alloc (.cells (freshV 0 0) 41)) (.cells #[.int .i64 0] 3)
 have h2 := blk_new ((w.alloc (.cells (freshV 0 0) 41)).alloc (.cells #[.int .i64 0] 3)) (.cells #[.int .i64 0] 28)
 rw [s1] at h1
 rw [s2] at h2
 exact ⟨blk_alloc (blk_alloc h0 _) _, blk_alloc h1 _, h2⟩
theorem decC_results (tmps : Array Value) (w : World) (a b c : Nat) (cs : Array Value) (v1 v2 : Value) (t0 : tmps.getD 2 undef = .pointer (some ⟨a, 0, none⟩)) (t1 : tmps.getD 3 undef = .pointer (some ⟨b, 0, none⟩)) (t2 : tmps.getD 4 undef = .pointer (some ⟨c, 0, none⟩))
  (hcs : cs.size = 15) (h0 : w.heap[a]? = some (.cells cs 41 (0, 0))) (h1 : w.heap[b]? = some (.cells #[v1] 3 (0, 0))) (h2 : w.heap[c]? = some (.cells #[v2] 28 (0, 0))) :
  (results Tryd.f81 tmps).run Tryd.prog w = .ok (.tuple #[.agg cs, v1, v2]) w := by
 have k1 := blk_cell h1 0
 have k2 := blk_cell h2 0
 have hi : (Tryd.prog.info? 41).map (·.size) = some cs.size := by rw [hcs]; kernel_rfl
 have hl := run_loadVar_row w a 41 41 cs (0, 0) _ h0 Tryd.underlying41 rfl hi
 rw [Array.getD_eq_getD_getElem?] at t0 t1 t2
 have l1 : (loadVar 3 ⟨b, 0, none⟩).run Tryd.prog w = .ok v1 w := by simp [go_sem, k1]
 have l2 : (loadVar 28 ⟨c, 0, none⟩).run Tryd.prog w = .ok v2 w := by simp [go_sem, k2]
 simp [results, Tryd.results81, asAddr, t0, t1, t2, hl, l1, l2]
theorem mnil (w : World) (base : Nat) (kd fl : Int) : k41.M w base (fun _ => True) (chk0 kd fl) (freshV kd fl).toList := k41_mkM _ _ _ (chk0 kd fl) (Kd.R_nil _ _ _ _ _) (Kd.R_nil _ _ _ _ _) (Kd.R_nil _ _ _ _ _) (Kd.R_nil _ _ _ _ _) (Kd.R_nil _ _ _ _ _)
theorem M_only {α : Type} {d : Kd α} {w w' : World} {base : Nat} {ok : Nat → Prop} {x : α} {cs : List Value} {S : Nat → Prop} (h : d.M w base ok x cs) (o : Only S w w') (hs : ∀ k, base ≤ k → k < w.heap.size → ¬ S k) : d.M w' base ok x cs :=
 d.M_mono (fun k hk => hk.1) (d.M_move (fun k hk => o.block k hk.2.2.1 (hs k hk.2.1 hk.2.2.1)) (d.M_bound h))
theorem below_setRow {B g : Nat} {a w : World} (h : Below B a w) (hg : B ≤ g) (cs : Array Value) : Below B a (w.setRow g cs) :=
 ⟨h.os, h.tape, h.output, by rw [setRow_size]; exact h.size, fun k hk => (setRow_other _ _ _ _ (by omega)).trans (h.block k hk)⟩
theorem exec_store_row {P : Program} {o : Oper} {a : Act} {w : World} (ty : TypeId) (x y : Operand) (ho : o.op = .store ty x y) {g : Nat} {cells : Array Value} (hx : a.eval x = .pointer (some ⟨g, 0, none⟩)) (hy : a.eval y = .agg cells) {t : TypeId} {old : Array Value} (hg : w.heap[g]? = some (.cells old t (0, 0))) (hi : (P.info? ty).map (·.size) = some cells.size)
  (hold : old.size = cells.size) (h1 : cells.all (·.oneCell') = true) : (execOp a.eval o).run P w = .ok .skip (w.setRow g cells) := by
 unfold execOp
 simp only [ho, hx, hy, Instr.storeAt, Instr.sureAddr, Sem.run_bind, Sem.run_pure, Result.andThen_ok, run_storeVar_row w g t ty old cells hg hi hold h1]
set_option maxHeartbeats 4000000 in
theorem decC_with (w : World) (A : Option Addr) (lb : List UInt8) (c : Nat) (hb : byte.C w A lb.length lb) (hc : lb.length ≤ c) (hn : lb.length ≤ 140737488355328)
  (HRD : 4 ≤ lb.length → ∀ (kd fl : Int) (v : List UInt8), ((lb.getD 0 0).toNat : Int) = kd → v = (lb.take (be ((lb.drop 2).take 2))).drop 4 → ∀ (w0 w : World) (g gc : Nat), RS w0 w g v → w.heap[gc]? = some (.cells (freshV kd fl) 41 (0, 0)) → Below w0.heap.size w0 w → w0.heap.size ≤ g → w0.heap.size ≤ gc → g ≠ gc → v.length ≤ 140737488355328 →
   Calls Tryd.prog 92 #[.pointer (some ⟨g, 0, none⟩), .pointer (some ⟨gc, 0, none⟩)] w (ReadP w g gc (readD kd fl v))) :
  Calls Tryd.prog 81 #[.slice A lb.length c] w (DecCP lb w) := by
 have hmf : ∀ (fn : Fn) (first cap : Array Value) (w : World), (Instr.makeFunc fn first cap).run Tryd.prog w = .ok (.func fn first cap) w := fun _ _ _ _ => rfl
 have HRX := Lh HRD
 clear HRD
 by_cases h4 : lb.length < 4
 ·have HDE := Lh (show decC lb = (chk0 0 0, 0, 60) from by unfold decC; rw [if_pos h4])
  have hl : (lb.length : Int) < 4 := by omega
  clear hb hc
  generalize lb.length = L at *
  go_enter_defers Tryd.func81, Tryd.ntmps81
  go_wp2
  refine leaves_cons (f := 91) (args := #[.pointer (some ⟨w.heap.size, 0, none⟩), .pointer (some ⟨w.heap.size + 1, 0, none⟩), .pointer (some ⟨w.heap.size + 1 + 1, 0, none⟩)]) (by simp) (by simp [go_sem]) ?_
  refine (catch_err w.heap.size (w.heap.size + 1) (w.heap.size + 1 + 1) 60 [] _ _ _ _ _ _ (wc3_blk w).1 rfl (wc3_blk w).2.1 (wc3_blk w).2.2 (by omega) (by omega) (by omega)).mono ?_
  rintro e u' w'' ⟨rfl, rfl, h0, h1, h2, hO⟩
  exact ⟨_, decC_results _ _ _ _ _ _ _ _ rfl rfl rfl rfl h0 h1 h2, freshV 0 0, by rw [HDE.out], by rw [HDE.out]; exact mnil _ _ _ _, (wc3_below w).trans (hO.below (by rw [show _ = (wc3 w).heap.size from rfl, wc3_size]; omega) (fun k hk => by omega))⟩
 ·have hl : ¬ (lb.length : Int) < 4 := by omega
  obtain ⟨ad, rfl, x0⟩ := byte_at hb 0 (by omega)
  obtain ⟨ad', e', x1⟩ := byte_at hb 1 (by omega)
  cases e'
  obtain ⟨ad', e', x2⟩ := byte_at hb 2 (by omega)
  cases e'
  obtain ⟨ad', e', x3⟩ := byte_at hb 3 (by omega)
  cases e'
  have hsz : be ((lb.drop 2).take 2) = (lb.getD 2 0).toNat * 256 + (lb.getD 3 0).toNat := by
   have : ∀ l : List UInt8, 4 ≤ l.length → be ((l.drop 2).take 2) = (l.getD 2 0).toNat * 256 + (l.getD 3 0).toNat := by
    intro l hl
    obtain ⟨b0, b1, b2, b3, r, rfl⟩ := take_four hl
    exact be_two _ _
   exact this lb (by omega)
  have hor := or_bytes (lb.getD 2 0) (lb.getD 3 0)
  have hb2 : (lb.getD 2 0).toNat < 256 := (lb.getD 2 0).toNat_lt
  have hb3 : (lb.getD 3 0).toNat < 256 := (lb.getD 3 0).toNat_lt
  rw [← hsz] at hor
  replace x0 : w.cell? ad = some (.int .u8 ((lb.getD 0 0).toNat : Int)) := x0
  have X1 := Lh (show w.cell? ⟨ad.block, ad.off + 1, none⟩ = some (.int .u8 ((lb.getD 1 0).toNat : Int)) by
   rw [show ad.add 1 = ad.add (0 + 1) from rfl, add_field _ _ 1 (by omega)] at x1
   exact x1)
  replace x2 : w.cell? ⟨ad.block, ad.off + 2, none⟩ = some (.int .u8 ((lb.getD 2 0).toNat : Int)) := by
   rw [show ad.add 2 = ad.add (0 + 2) from rfl, add_field _ _ 2 (by omega)] at x2
   exact x2
  replace x3 : w.cell? ⟨ad.block, ad.off + 3, none⟩ = some (.int .u8 ((lb.getD 3 0).toNat : Int)) := by
   rw [show ad.add 3 = ad.add (0 + 3) from rfl, add_field _ _ 3 (by omega)] at x3
   exact x3
  clear x1
  have hszb : be ((lb.drop 2).take 2) < 65536 := be_two_lt _
  obtain ⟨sz, hs⟩ : ∃ sz, be ((lb.drop 2).take 2) = sz := ⟨_, rfl⟩
  rw [hs] at hor hszb
  have HS := Lh hs
  clear hs hsz
  generalize hy2 : ((lb.getD 2 0).toNat : Int) = y2 at *
  generalize hy3 : ((lb.getD 3 0).toNat : Int) = y3 at *
  obtain ⟨kd, hkd⟩ : ∃ kd : Int, ((lb.getD 0 0).toNat : Int) = kd := ⟨_, rfl⟩
  obtain ⟨b1, hb1⟩ : ∃ b1 : Int, ((lb.getD 1 0).toNat : Int) = b1 := ⟨_, rfl⟩
  rw [hkd] at x0
  rw [hb1] at X1
  have HKD := Lh hkd
  have HB1 := Lh hb1
  clear hkd hb1
  have HB := Lh (show Below w.heap.size w (((w.alloc (.cells #[.int .u8 0, .int .u8 0, .int .u32 0, .int .u16 0, .int .u16 0, .int .u32 0, .int .u32 0, .int .u32 0, .int .u16 0, .int .u16 0, .slice none 0 0, .slice none 0 0, .slice none 0 0, .slice none 0 0, .slice none 0 0] 41)).alloc (.cells #[.int .i64 0] 3)).alloc (.cells #[.int .i64 0] 28)) from wc3_below w)
  have HC := Lh (show (((w.alloc (.cells #[.int .u8 0, .int .u8 0, .int .u32 0, .int .u16 0, .int .u16 0, .int .u32 0, .int .u32 0, .int .u32 0, .int .u16 0, .int .u16 0, .slice none 0 0, .slice none 0 0, .slice none 0 0, .slice none 0 0, .slice none 0 0] 41)).alloc (.cells #[.int .i64 0] 3)).alloc (.cells #[.int .i64 0] 28)).heap[w.heap.size]? = some (.cells #[.int .u8 0, .int .u8 0, .int .u32 0, .int .u16 0, .int .u16 0, .int .u32 0, .int .u32 0, .int .u32 0, .int .u16 0, .int .u16 0, .slice none 0 0, .slice none 0 0, .slice none 0 0, .slice none 0 0, .slice none 0 0] 41 (0, 0)) from (wc3_blk w).1)
  have HN := Lh (show (((w.alloc (.cells #[.int .u8 0, .int .u8 0, .int .u32 0, .int .u16 0, .int .u16 0, .int .u32 0, .int .u32 0, .int .u32 0, .int .u16 0, .int .u16 0, .slice none 0 0, .slice none 0 0, .slice none 0 0, .slice none 0 0, .slice none 0 0] 41)).alloc (.cells #[.int .i64 0] 3)).alloc (.cells #[.int .i64 0] 28)).heap[w.heap.size + 1]? = some (.cells #[.int .i64 0] 3 (0, 0)) from (wc3_blk w).2.1)
  have HE := Lh (show (((w.alloc (.cells #[.int .u8 0, .int .u8 0, .int .u32 0, .int .u16 0, .int .u16 0, .int .u32 0, .int .u32 0, .int .u32 0, .int .u16 0, .int .u16 0, .slice none 0 0, .slice none 0 0, .slice none 0 0, .slice none 0 0, .slice none 0 0] 41)).alloc (.cells #[.int .i64 0] 3)).alloc (.cells #[.int .i64 0] 28)).heap[w.heap.size + 1 + 1]? = some (.cells #[.int .i64 0] 28 (0, 0)) from (wc3_blk w).2.2)
  have HBY := Lh hb
  replace x0 := pw_cell_below HB.out x0
  replace x2 := pw_cell_below HB.out x2
  replace x3 := pw_cell_below HB.out x3
  clear hb
  generalize hL : lb.length = L at *
  go_enter_defers Tryd.func81, Tryd.ntmps81
  go_upto_region 1 with (fail)
  generalize (((w.alloc (.cells #[.int .u8 0, .int .u8 0, .int .u32 0, .int .u16 0, .int .u16 0, .int .u32 0, .int .u32 0, .int .u32 0, .int .u16 0, .int .u16 0, .slice none 0 0, .slice none 0 0, .slice none 0 0, .slice none 0 0, .slice none 0 0] 41)).alloc (.cells #[.int .i64 0] 3)).alloc (.cells #[.int .i64 0] 28)) = W at *
  generalize hge : w.heap.size + 1 + 1 = ge at *
  generalize hgn : w.heap.size + 1 = gn at *
  obtain ⟨gc, hgc⟩ : ∃ gc, w.heap.size = gc := ⟨_, rfl⟩
  rw [hgc]
  rw [hgc] at HC
  have HG := Lh (show w.heap.size = gc ∧ gn = gc + 1 ∧ ge = gc + 2 from ⟨hgc, by omega, by omega⟩)
  clear hge hgn hgc
  by_cases hbad : sz < 4 ∨ L < sz
  ·have HDE := Lh (show decC lb = (chk0 0 0, 0, 60) from by unfold decC; rw [if_neg (by omega), HS.out, if_pos (by omega)])
   by_cases hs4 : sz < 4
   ·have hs4' : (sz : Int) < 4 := by omega
    go_wp2
    go_quiet (fail)
    go_wp2
    refine leaves_cons (f := 91) (args := #[.pointer (some ⟨gc, 0, none⟩), .pointer (some ⟨gn, 0, none⟩), .pointer (some ⟨ge, 0, none⟩)]) (by simp) (by simp [go_sem]) ?_
    refine (catch_err gc gn ge 60 [] _ _ _ _ _ _ (blk_drewN HC.out _) rfl (blk_drewN HN.out _) (blk_drewN HE.out _) (by have := HG.out; omega) (by have := HG.out; omega) (by have := HG.out; omega)).mono ?_
    rintro e u' w'' ⟨rfl, rfl, h0, h1, h2, hO⟩
    exact ⟨_, decC_results _ _ _ _ _ _ _ _ rfl rfl rfl rfl h0 h1 h2, freshV 0 0, by rw [HDE.out], by rw [HDE.out]; exact mnil _ _ _ _, (pw_below_drewN HB.out _).trans (hO.below (pw_below_drewN HB.out _).size (fun k hk => by have := HG.out; omega))⟩
   ·have hs4' : ¬ (sz : Int) < 4 := by omega
    have hs5 : (L : Int) < (sz : Int) := by omega
    go_wp2
    go_quiet (fail)
    go_wp2
    refine leaves_cons (f := 91) (args := #[.pointer (some ⟨gc, 0, none⟩), .pointer (some ⟨gn, 0, none⟩), .pointer (some ⟨ge, 0, none⟩)]) (by simp) (by simp [go_sem]) ?_
    refine (catch_err gc gn ge 60 [] _ _ _ _ _ _ (blk_drewN HC.out _) rfl (blk_drewN HN.out _) (blk_drewN HE.out _) (by have := HG.out; omega) (by have := HG.out; omega) (by have := HG.out; omega)).mono ?_
    rintro e u' w'' ⟨rfl, rfl, h0, h1, h2, hO⟩
    exact ⟨_, decC_results _ _ _ _ _ _ _ _ rfl rfl rfl rfl h0 h1 h2, freshV 0 0, by rw [HDE.out], by rw [HDE.out]; exact mnil _ _ _ _, (pw_below_drewN HB.out _).trans (hO.below (pw_below_drewN HB.out _).size (fun k hk => by have := HG.out; omega))⟩
  ·have hs4 : ¬ (sz : Int) < 4 := by omega
   have hs5 : ¬ (L : Int) < (sz : Int) := by omega
   go_wp2
   go_quiet (fail)
   go_upto_region 8 with (refine wpList_store_row rfl 41 _ _ rfl gc #[.int .u8 kd, .int .u8 0, .int .u32 0, .int .u16 0, .int .u16 0, .int .u32 0, .int .u32 0, .int .u32 0, .int .u16 0, .int .u16 0, .slice none 0 0, .slice none 0 0, .slice none 0 0, .slice none 0 0, .slice none 0 0] rfl rfl 41 #[.int .u8 0, .int .u8 0, .int .u32 0, .int .u16 0, .int .u16 0, .int .u32 0, .int .u32 0, .int .u32 0, .int .u16 0, .int .u16 0, .slice none 0 0, .slice none 0 0, .slice none 0 0, .slice none 0 0, .slice none 0 0] (blk_drewN HC.out _) (by kernel_rfl) rfl (by simp [Value.oneCell']) ?_)
   have HC2 := Lh (setRow_heap _ _ _ #[.int .u8 kd, .int .u8 0, .int .u32 0, .int .u16 0, .int .u16 0, .int .u32 0, .int .u32 0, .int .u32 0, .int .u16 0, .int .u16 0, .slice none 0 0, .slice none 0 0, .slice none 0 0, .slice none 0 0, .slice none 0 0] _ _ (blk_drewN HC.out nq))
   have HN2 := Lh ((setRow_other (W.drewN nq) gc gn #[.int .u8 kd, .int .u8 0, .int .u32 0, .int .u16 0, .int .u16 0, .int .u32 0, .int .u32 0, .int .u32 0, .int .u16 0, .int .u16 0, .slice none 0 0, .slice none 0 0, .slice none 0 0, .slice none 0 0, .slice none 0 0] (by have := HG.out; omega)).trans (blk_drewN HN.out nq))
   have HE2 := Lh ((setRow_other (W.drewN nq) gc ge #[.int .u8 kd, .int .u8 0, .int .u32 0, .int .u16 0, .int .u16 0, .int .u32 0, .int .u32 0, .int .u32 0, .int .u16 0, .int .u16 0, .slice none 0 0, .slice none 0 0, .slice none 0 0, .slice none 0 0, .slice none 0 0] (by have := HG.out; omega)).trans (blk_drewN HE.out nq))
   have HB2 := Lh (below_setRow (pw_below_drewN HB.out nq) (by have := HG.out; omega) #[.int .u8 kd, .int .u8 0, .int .u32 0, .int .u16 0, .int .u16 0, .int .u32 0, .int .u32 0, .int .u32 0, .int .u16 0, .int .u16 0, .slice none 0 0, .slice none 0 0, .slice none 0 0, .slice none 0 0, .slice none 0 0] (g := gc))
   clear HC HN HE HB x0 x2 x3
   generalize (W.drewN nq).setRow gc #[.int .u8 kd, .int .u8 0, .int .u32 0, .int .u16 0, .int .u16 0, .int .u32 0, .int .u32 0, .int .u32 0, .int .u16 0, .int .u16 0, .slice none 0 0, .slice none 0 0, .slice none 0 0, .slice none 0 0, .slice none 0 0] = W at *
   have HC := HC2
   have HN := HN2
   have HE := HE2
   have HB := HB2
   have x1 := Lh (pw_cell_below HB.out X1.out)
   clear HC2 HN2 HE2 HB2
   obtain ⟨fl, hfl⟩ : ∃ fl, flD kd b1 = fl := ⟨_, rfl⟩
   have HFL := Lh (show bits .and .u8 b1 (maskD kd) = fl from hfl)
   have HFL2 := Lh hfl
   clear hfl
   have HL1 := Lh (show ¬ (L : Int) ≤ 1 by omega)
   have B := True.intro
   refine calm ?_
   refine start_ (n := 9) (S := fun w' => True) (ds := []) #[false, false, false, false, false, false, false, false, false] (by kernel_rfl) rfl rfl trivial (fun hHeld => ?_)
   refine with_tabW decAtab8 decAbits8 (fun HT_ HW_ => ?_)
   refine pu 0 35 ?_ rfl rfl (any_of HT_.out (by kernel_rfl)) (fun _ _ _ h => h.1.elim) (by rfl) ?_ ?_ ?_ ?_
   rotate_left
   ·intro w'
    go_simp
    with_reducible rfl
   rotate_left
   ·simp only [sL]
    rfl
   refine inv_at [1, 2, 3, 4, 5, 6, 7, 8] (fun a0_ b a w' => a = putSel a0_ b [(1, 36, .pointer (some ⟨ad.block, ad.off + 1, none⟩)), (2, 37, .int .u8 b1), (3, 38, .pointer (some ⟨gc, 0, none⟩)), (4, 39, .int .u8 kd), (5, 40, .int .u8 (maskD kd)), (6, 41, .int .u8 fl), (7, 42, .pointer (some ⟨gc, 1, none⟩))] ∧ (b 8 = false → Drawn0 W w') ∧ (b 8 = true → ∃ w2, Drawn0 W w2 ∧ w' = w2.setCell ⟨gc, 1, none⟩ (.int .u8 fl))) HT_.out HW_.out (by kernel_rfl) (by kernel_rfl) ?_ ?_ ?_
   ·exact ⟨by simp only [putSel, Bool.false_eq_true, if_false], fun _ => ⟨1, rfl⟩, fun h_ => absurd h_ (by decide)⟩
   ·skip
    clear B
    refine sc rfl ?_ ?_
    ·rintro b a w' ⟨ha, Q_B, Q_S⟩ hb_ hon hoff K hK
     have e35 : a.tmps[35]? = some (.slice (some ad) L c) := by rw [ha]; exact (putSel_off rfl).trans rfl
     replace ha := Am ha
     have hl1 := HL1.out
     refine value_ (w1 := w') (v := .pointer (some ⟨ad.block, ad.off + 1, none⟩)) (by rfl) rfl ?_ ?_
     ·go_simp
      (try simp only [i64_w])
      try rfl
     refine hK.out _ _ ⟨(puk ha 0 hb_ rfl rfl rfl), Q_B, fun h0_ => hof (hoff 8 (by kernel_rfl)) h0_⟩
    refine sc rfl ?_ ?_
    ·rintro b a w' ⟨ha, Q_B, Q_S⟩ hb_ hon hoff K hK
     have e36 := psn ha 0 rfl rfl (hon 1 (by kernel_rfl)) rfl
     replace ha := Am ha
     have B := Am (Q_B (hoff 8 (by kernel_rfl)))
     have hs := pw_cell_below (drawn_below B.out) x1.out
     refine value_ (w1 := w') (v := .int .u8 b1) (by rfl) rfl ?_ ?_
     ·go_simp
      (try simp only [i64_w])
      try rfl
     refine hK.out _ _ ⟨(puk ha 1 hb_ rfl rfl rfl), Q_B, fun h0_ => hof (hoff 8 (by kernel_rfl)) h0_⟩
    refine sc rfl ?_ ?_
    ·rintro b a w' ⟨ha, Q_B, Q_S⟩ hb_ hon hoff K hK
     have e2 : a.tmps[2]? = some (.pointer (some ⟨gc, 0, none⟩)) := by rw [ha]; exact (putSel_off rfl).trans rfl
     replace ha := Am ha
     refine value_ (w1 := w') (v := .pointer (some ⟨gc, 0, none⟩)) (by rfl) rfl ?_ ?_
     ·go_simp
      (try simp only [i64_w])
      try rfl
     refine hK.out _ _ ⟨(puk ha 2 hb_ rfl rfl rfl), Q_B, fun h0_ => hof (hoff 8 (by kernel_rfl)) h0_⟩
    refine sc rfl ?_ ?_
    ·rintro b a w' ⟨ha, Q_B, Q_S⟩ hb_ hon hoff K hK
     have e38 := psn ha 2 rfl rfl (hon 3 (by kernel_rfl)) rfl
     replace ha := Am ha
     have B := Am (Q_B (hoff 8 (by kernel_rfl)))
     have hs : w'.cell? ⟨gc, 0, none⟩ = some (.int .u8 kd) := blk_cell (blk_below HC.out (drawn_below B.out)) 0
     refine value_ (w1 := w') (v := .int .u8 kd) (by rfl) rfl ?_ ?_
     ·go_simp
      (try simp only [i64_w])
      try rfl
     refine hK.out _ _ ⟨(puk ha 3 hb_ rfl rfl rfl), Q_B, fun h0_ => hof (hoff 8 (by kernel_rfl)) h0_⟩
    refine sc rfl ?_ ?_
    ·rintro b a w' ⟨ha, Q_B, Q_S⟩ hb_ hon hoff K hK
     have e39 := psn ha 3 rfl rfl (hon 4 (by kernel_rfl)) rfl
     replace ha := Am ha
     have B := Am (Q_B (hoff 8 (by kernel_rfl)))
     refine goes_ Tryd.func88 (by kernel_rfl) rfl #[.int .u8 kd] (by rfl) rfl rfl (by first | (simp only [List.map_toArray, List.map_cons, List.map_nil, Act.eval, Array.getD_eq_getD_getElem?, Option.getD_some, e39]; done) | (simp only [List.map_toArray, List.map_cons, List.map_nil, Act.eval, Array.getD_eq_getD_getElem?, Option.getD_some, e39]; rfl)) ?_
     refine (mask_calls kd w').mono ?_
     rintro e w1 ⟨rfl, hD1⟩
     refine ⟨_, rfl, ?_⟩
     refine hK.out _ _ ⟨(puk ha 4 hb_ rfl rfl rfl), fun _ => drawn_trans B.out hD1, fun h0_ => hof (hoff 8 (by kernel_rfl)) h0_⟩
    refine sc rfl ?_ ?_
    ·rintro b a w' ⟨ha, Q_B, Q_S⟩ hb_ hon hoff K hK
     have e37 := psn ha 1 rfl rfl (hon 2 (by kernel_rfl)) rfl
     have e40 := psn ha 4 rfl rfl (hon 5 (by kernel_rfl)) rfl
     replace ha := Am ha
     have B := Am (Q_B (hoff 8 (by kernel_rfl)))
     refine value_ (w1 := w') (v := .int .u8 fl) (by rfl) rfl (by go_simp; first | done | exact HFL.out) ?_
     refine hK.out _ _ ⟨(puk ha 5 hb_ rfl rfl rfl), fun _ => B.out, fun h0_ => hof (hoff 8 (by kernel_rfl)) h0_⟩
    refine sc rfl ?_ ?_
    ·rintro b a w' ⟨ha, Q_B, Q_S⟩ hb_ hon hoff K hK
     have e2 : a.tmps[2]? = some (.pointer (some ⟨gc, 0, none⟩)) := by rw [ha]; exact (putSel_off rfl).trans rfl
     replace ha := Am ha
     refine value_ (w1 := w') (v := .pointer (some ⟨gc, 1, none⟩)) (by rfl) rfl ?_ ?_
     ·go_simp
      (try simp only [i64_w])
      try rfl
     refine hK.out _ _ ⟨(puk ha 6 hb_ rfl rfl rfl), Q_B, fun h0_ => hof (hoff 8 (by kernel_rfl)) h0_⟩
    refine sc rfl ?_ ?_
    ·rintro b a w' ⟨ha, Q_B, Q_S⟩ hb_ hon hoff K hK
     have e42 := psn ha 6 rfl rfl (hon 7 (by kernel_rfl)) rfl
     have e41 := psn ha 5 rfl rfl (hon 6 (by kernel_rfl)) rfl
     replace ha := Am ha
     have B := Am (Q_B hb_)
     have hs : w'.cell? ⟨gc, 1, none⟩ = some (.int .u8 0) := blk_cell (blk_below HC.out (drawn_below B.out)) 1
     have hf := blk_frozen (blk_below HC.out (drawn_below B.out)) 1
     refine skip_ (w1 := w'.setCell ⟨gc, 1, none⟩ (.int .u8 fl)) (by rfl) rfl (by go_simp; try rfl) ?_
     refine hK.out _ _ ⟨(by rw [ha.out]; exact putSel_none (v := undef) rfl), fun h0_ => absurd ((up_self b 8).symm.trans h0_) (by decide), fun _ => ⟨w', B.out, rfl⟩⟩
    exact steps_nil
   rintro b a w' hall ⟨ha, Q_B, Q_S⟩
   clear B
   have hb1_ := hall 1 (by kernel_rfl)
   have hb2_ := hall 2 (by kernel_rfl)
   have hb3_ := hall 3 (by kernel_rfl)
   have hb4_ := hall 4 (by kernel_rfl)
   have hb5_ := hall 5 (by kernel_rfl)
   have hb6_ := hall 6 (by kernel_rfl)
   have hb7_ := hall 7 (by kernel_rfl)
   have hb8_ := hall 8 (by kernel_rfl)
   subst ha
   simp only [putSel, hb1_, hb2_, hb3_, hb4_, hb5_, hb6_, hb7_, hb8_, if_true, Act.put, List.setIfInBounds_toArray, List.set_cons_zero, List.set_cons_succ]
   clear Q_B
   have S := Am (Q_S hb8_)
   clear Q_S
   clear hall hb1_ hb2_ hb3_ hb4_ hb5_ hb6_ hb7_ hb8_
   refine ⟨trivial, ?_⟩
   obtain ⟨w2, hD, hw⟩ := S.out
   have hs2 := (drawn_below hD).size
   have HC2 := Lh (blk_put (blk_below HC.out (drawn_below hD)) 1 (.int .u8 fl) (show _ = freshV kd fl from rfl))
   have HN2 := Lh (blk_far (p := ⟨gc, 1, none⟩) (blk_below HN.out (drawn_below hD)) (by have := HG.out; show gn ≠ gc; omega) (.int .u8 fl))
   have HE2 := Lh (blk_far (p := ⟨gc, 1, none⟩) (blk_below HE.out (drawn_below hD)) (by have := HG.out; show ge ≠ gc; omega) (.int .u8 fl))
   have HB2 := Lh ((below_then HB.out HB.out.size (drawn_below hD)).setCell (p := ⟨gc, 1, none⟩) (by have := HG.out; show w.heap.size ≤ gc; omega) (.int .u8 fl))
   rw [← hw] at HC2 HN2 HE2 HB2
   clear HC HN HE HB S x1 hw hD hs2 HFL
   have HC := HC2
   have HN := HN2
   have HE := HE2
   have HB := HB2
   clear HC2 HN2 HE2 HB2
   generalize w' = W at *
   obtain ⟨Av, hcut, hCv, hcl⟩ := mid_bytes (w := w) (A := some ad) (c := c) (l := lb) (by rw [hL]; exact HBY.out) (by omega) 4 sz (by omega) (by omega)
   rw [hL] at hcut
   have hvl : ((lb.take sz).drop 4).length ≤ 65536 := by rw [List.length_drop, List.length_take]; omega
   have HDD := Lh (show ∀ d, readD kd fl ((lb.take sz).drop 4) = .ok d → decC lb = (d, ((min ((sz + 3) / 4 * 4) L : Nat) : Int), 0) from fun d hd => by unfold decC; rw [if_neg (by omega), HS.out, if_neg (by omega), HKD.out, HB1.out, HFL2.out, hd, hL])
   have HDB := Lh (show ∀ code, readD kd fl ((lb.take sz).drop 4) = .error code → decC lb = (chk0 0 0, 0, code) from fun d hd => by unfold decC; rw [if_neg (by omega), HS.out, if_neg (by omega), HKD.out, HB1.out, HFL2.out, hd])
   have HRC := Lh (HRX.out (by omega) kd fl ((lb.take sz).drop 4) HKD.out (by rw [HS.out]))
   clear HRX
   generalize (lb.take sz).drop 4 = v at *
   have hcut2 : ∀ W : World, (Instr.slice 27 (.slice (some ad) L c) (some (.int .i64 4)) (some (.int .i64 (sz : Int))) none).run Tryd.prog W = .ok (.slice Av v.length (c - 4)) W := hcut
   have HR := Lh (fun o : Obj => fun (ho : o = .cells #[.slice Av v.length (c - 4)] 133) => HRC.out w (W.alloc o) W.heap.size gc ⟨Av, c - 4, by rw [ho]; exact blk_new _ _, hcl, hCv⟩ (blk_alloc HC.out _) (HB.out.alloc HB.out.size _) HB.out.size (by have := HG.out; omega) (fun e => by have := blk_lt HC.out; omega) (by omega))
   clear hcut hCv hcl hvl
   generalize v.length = nv at *
   generalize c - 4 = c4 at *
   go_wp2_with fail
   refine (HR.out _ rfl).mono ?_
   intro e W4 hP
   have hgN := blk_lt HN.out
   have hgE := blk_lt HE.out
   have hgC := blk_lt HC.out
   unfold ReadP at hP
   cases hr : readD kd fl v with
   | error code =>
    rw [hr] at hP
    obtain ⟨rfl, ⟨x0', hx0, hxs⟩, hO⟩ := hP
    have HDE := Lh (HDB.out code hr)
    unfold errE
    have hN4 := hO.blk (blk_alloc HN.out _) (fun h => by have := HG.out; omega)
    have hE4 := hO.blk (blk_alloc HE.out _) (fun h => by have := HG.out; omega)
    have hB4 := (HB.out.alloc HB.out.size _).trans (hO.below (by have := HB.out.size; simp; omega) (fun k hk => by have := HG.out; have := HB.out.size; omega))
    go_wp2
    refine leaves_cons (f := 91) (args := #[.pointer (some ⟨gc, 0, none⟩), .pointer (some ⟨gn, 0, none⟩), .pointer (some ⟨ge, 0, none⟩)]) (by simp) (by simp [go_sem]) ?_
    refine (catch_err gc gn ge code [] _ _ _ _ _ _ hx0 hxs hN4 hE4 (by have := HG.out; omega) (by have := HG.out; omega) (by have := HG.out; omega)).mono ?_
    rintro e u' w'' ⟨rfl, rfl, h0, h1, h2, hO2⟩
    exact ⟨_, decC_results _ _ _ _ _ _ _ _ rfl rfl rfl rfl h0 h1 h2, freshV 0 0, by rw [HDE.out], by rw [HDE.out]; exact mnil _ _ _ _, hB4.trans (hO2.below hB4.size (fun k hk => by have := HG.out; omega))⟩
   | ok d =>
    rw [hr] at hP
    obtain ⟨rfl, cs, hc4, hm4, hO⟩ := hP
    have HDE := Lh (HDD.out d hr)
    have HN4 := Lh (hO.blk (blk_alloc HN.out _) (fun h => by have := HG.out; omega))
    have HE4 := Lh (hO.blk (blk_alloc HE.out _) (fun h => by have := HG.out; omega))
    have HB4 := Lh ((HB.out.alloc HB.out.size _).trans (hO.below (by have := HB.out.size; simp; omega) (fun k hk => by have := HG.out; have := HB.out.size; omega)))
    have hcs : cs.size = 15 := by
     have h15 : cs.toList.length = 15 := Kd.K_len _ (Kd.K_of_M _ hm4)
     rw [Array.length_toList] at h15
     exact h15
    have HCI := Lh (show (Tryd.prog.info? 41).map (·.size) = some cs.size by rw [hcs]; kernel_rfl)
    have HC1 := Lh (show cs.all (·.oneCell') = true by
     rw [← Array.all_toList]
     exact List.all_eq_true.2 (fun u hu => Kd.K_one _ (Kd.K_of_M _ hm4) u hu))
    have HM4 := Lh (Kd.M_lower _ (base' := W.heap.size) (by simp) hm4)
    have HBS := Lh HB.out.size
    clear HC HN HE HB hO hm4 HR
    have HGB := Lh (show w.heap.size ≤ W.heap.size from HBS.out)
    generalize W.heap.size = gw at *
    have HC := Lh hc4
    have HN := HN4
    have HE := HE4
    have HB := HB4
    clear hc4 HN4 HE4 HB4
    have HW := Lh (show gw < W4.heap.size ∨ True from Or.inr trivial)
    generalize W4 = W at *
    obtain ⟨pd, hpd⟩ : ∃ pd, (sz + 3) / 4 * 4 = pd := ⟨_, rfl⟩
    have HPD := Lh (fun W : World => padded_calls sz (by omega) W)
    rw [hpd] at HPD HDE
    obtain ⟨mn, hmn⟩ : ∃ mn, min pd L = mn := ⟨_, rfl⟩
    rw [hmn] at HDE
    have hmin : Hid ((if L < pd then (L : Int) else (pd : Int)) = (mn : Int)) := by
     show _ = _
     split <;> omega
    have HCN := Lh (show gc ≠ gn by have := HG.out; omega)
    have HCE := Lh (show gc ≠ ge by have := HG.out; omega)
    have HEN := Lh (show ge ≠ gn by have := HG.out; omega)
    have HNE := Lh (show gn ≠ ge by have := HG.out; omega)
    have HGW := Lh (show gn < gw ∧ ge < gw from ⟨hgN, hgE⟩)
    have HCS := Lh hcs
    clear hpd hmn hgN hgE hgC hcs hr
    go_upto_region 11 with (fail)
    have B := True.intro
    have C := True.intro
    have N := True.intro
    have E := True.intro
    refine calm ?_
    refine start_ (n := 9) (S := fun w' => True) (ds := []) #[false, false, false, false, false, false, false, false, false] (by kernel_rfl) rfl rfl trivial (fun hHeld => ?_)
    refine with_tabW decBtab11 decBbits11 (fun HT_ HW_ => ?_)
    refine pu 1 52 ?_ rfl rfl (any_of HT_.out (by kernel_rfl)) (fun _ _ _ h => h.1.elim) (by rfl) ?_ ?_ ?_ ?_
    rotate_left
    ·intro w'
     go_simp
     with_reducible rfl
    rotate_left
    ·simp only [sL]
     rfl
    refine pu 3 54 ?_ rfl rfl (any_of HT_.out (by kernel_rfl)) (fun _ _ _ h => h.1.elim) (by rfl) ?_ ?_ ?_ ?_
    rotate_left
    ·intro w'
     go_simp
     with_reducible rfl
    rotate_left
    ·simp only [sL]
     rfl
    refine inv_at [0, 2, 4, 5, 6, 7, 8] (fun a0_ b a w' => a = putSel a0_ b [(0, 51, .agg cs), (2, 53, .int .i64 (pd : Int)), (4, 55, .int .i64 (L : Int)), (5, 56, .int .i64 (mn : Int))] ∧ (Only (fun k => k = gn ∨ k = ge) W w') ∧ (w'.heap[gc]? = some (.cells cs 41 (0, 0))) ∧ (b 7 = false → w'.heap[gn]? = some (.cells #[.int .i64 0] 3 (0, 0))) ∧ (b 7 = true → w'.heap[gn]? = some (.cells #[.int .i64 (mn : Int)] 3 (0, 0))) ∧ (w'.heap[ge]? = some (.cells #[.int .i64 0] 28 (0, 0)))) HT_.out HW_.out (by kernel_rfl) (by kernel_rfl) ?_ ?_ ?_
    ·exact ⟨by simp only [putSel, Bool.false_eq_true, if_false], (Only.refl _ _).drew, HC.out, fun _ => HN.out, fun h_ => absurd h_ (by decide), HE.out⟩
    ·skip
     clear B C E N
     refine sc rfl ?_ ?_
     ·rintro b a w' ⟨ha, Q_B, Q_C, Q_N, Q_N2, Q_E⟩ hb_ hon hoff K hK
      have e2 : a.tmps[2]? = some (.pointer (some ⟨gc, 0, none⟩)) := by rw [ha]; exact (putSel_off rfl).trans rfl
      replace ha := Am ha
      have B := Am Q_B
      have C := Am Q_C
      have N := Am (Q_N (hoff 7 (by kernel_rfl)))
      have E := Am Q_E
      refine value_ (w1 := w') (v := .agg cs) (by rfl) rfl (exec_load_row 41 (.tmp 2) rfl (eval_of e2) C.out Tryd.underlying41 rfl HCI.out) ?_
      refine hK.out _ _ ⟨(puk ha 0 hb_ rfl rfl rfl), B.out, C.out, fun _ => N.out, fun h0_ => hof (hoff 7 (by kernel_rfl)) h0_, E.out⟩
     refine sc rfl ?_ ?_
     ·rintro b a w' ⟨ha, Q_B, Q_C, Q_N, Q_N2, Q_E⟩ hb_ hon hoff K hK
      have e52 : a.tmps[52]? = some (.int .i64 (sz : Int)) := by rw [ha]; exact (putSel_off rfl).trans rfl
      replace ha := Am ha
      have B := Am Q_B
      have C := Am Q_C
      have N := Am (Q_N (hoff 7 (by kernel_rfl)))
      have E := Am Q_E
      refine goes_ Tryd.func54 (by kernel_rfl) rfl #[.int .i64 (sz : Int)] (by rfl) rfl rfl (by first | (simp only [List.map_toArray, List.map_cons, List.map_nil, Act.eval, Array.getD_eq_getD_getElem?, Option.getD_some, e52]; done) | (simp only [List.map_toArray, List.map_cons, List.map_nil, Act.eval, Array.getD_eq_getD_getElem?, Option.getD_some, e52]; rfl)) ?_
      refine (HPD.out w').mono ?_
      rintro e w1 ⟨rfl, hD1⟩
      refine ⟨_, rfl, ?_⟩
      refine hK.out _ _ ⟨(puk ha 1 hb_ rfl rfl rfl), B.out.trans (Only.of_below (S := fun _ => False) (drawn_below hD1)) (fun k _ h => h.elim), blk_below C.out (drawn_below hD1), fun _ => blk_below N.out (drawn_below hD1), fun h0_ => hof (hoff 7 (by kernel_rfl)) h0_, blk_below E.out (drawn_below hD1)⟩
     refine sc rfl ?_ ?_
     ·rintro b a w' ⟨ha, Q_B, Q_C, Q_N, Q_N2, Q_E⟩ hb_ hon hoff K hK
      have e54 : a.tmps[54]? = some (.slice (some ad) L c) := by rw [ha]; exact (putSel_off rfl).trans rfl
      replace ha := Am ha
      refine value_ (w1 := w') (v := .int .i64 (L : Int)) (by rfl) rfl ?_ ?_
      ·go_simp
       (try simp only [i64_w])
       try rfl
      refine hK.out _ _ ⟨(puk ha 2 hb_ rfl rfl rfl), Q_B, Q_C, Q_N, fun h0_ => hof (hoff 7 (by kernel_rfl)) h0_, Q_E⟩
     refine sc rfl ?_ ?_
     ·rintro b a w' ⟨ha, Q_B, Q_C, Q_N, Q_N2, Q_E⟩ hb_ hon hoff K hK
      have e53 := psn ha 1 rfl rfl (hon 2 (by kernel_rfl)) rfl
      have e55 := psn ha 2 rfl rfl (hon 4 (by kernel_rfl)) rfl
      replace ha := Am ha
      have B := Am Q_B
      have C := Am Q_C
      have N := Am (Q_N (hoff 7 (by kernel_rfl)))
      have E := Am Q_E
      have hm2 := hmin.out
      refine value_ (w1 := w') (v := .int .i64 (mn : Int)) (by rfl) rfl (by go_simp; first | done | exact hm2 | rw [hm2]) ?_
      refine hK.out _ _ ⟨(puk ha 3 hb_ rfl rfl rfl), B.out, C.out, fun _ => N.out, fun h0_ => hof (hoff 7 (by kernel_rfl)) h0_, E.out⟩
     refine sc rfl ?_ ?_
     ·rintro b a w' ⟨ha, Q_B, Q_C, Q_N, Q_N2, Q_E⟩ hb_ hon hoff K hK
      have e2 : a.tmps[2]? = some (.pointer (some ⟨gc, 0, none⟩)) := by rw [ha]; exact (putSel_off rfl).trans rfl
      have e51 := psn ha 0 rfl rfl (hon 0 (by kernel_rfl)) rfl
      replace ha := Am ha
      have B := Am Q_B
      have C := Am Q_C
      have N := Am (Q_N (hoff 7 (by kernel_rfl)))
      have E := Am Q_E
      refine skip_ (w1 := w'.setRow gc cs) (by rfl) rfl (exec_store_row 41 (.tmp 2) (.tmp 51) rfl (eval_of e2) (eval_of e51) C.out HCI.out rfl HC1.out) ?_
      rw [setRow_self _ _ _ _ _ C.out]
      refine hK.out _ _ ⟨(by rw [ha.out]; exact putSel_none (v := undef) rfl), B.out, C.out, fun _ => N.out, fun h0_ => hof (hoff 7 (by kernel_rfl)) h0_, E.out⟩
     refine sc rfl ?_ ?_
     ·rintro b a w' ⟨ha, Q_B, Q_C, Q_N, Q_N2, Q_E⟩ hb_ hon hoff K hK
      have e3 : a.tmps[3]? = some (.pointer (some ⟨gn, 0, none⟩)) := by rw [ha]; exact (putSel_off rfl).trans rfl
      have e56 := psn ha 3 rfl rfl (hon 5 (by kernel_rfl)) rfl
      replace ha := Am ha
      have B := Am Q_B
      have C := Am Q_C
      have N := Am (Q_N hb_)
      have E := Am Q_E
      have hs : w'.cell? ⟨gn, 0, none⟩ = some (.int .i64 0) := blk_cell N.out 0
      have hf := blk_frozen N.out 0
      refine skip_ (w1 := w'.setCell ⟨gn, 0, none⟩ (.int .i64 (mn : Int))) (by rfl) rfl (by go_simp; try rfl) ?_
      refine hK.out _ _ ⟨(by rw [ha.out]; exact putSel_none (v := undef) rfl), B.out.setCell (fun _ => Or.inl rfl) _, blk_far (p := ⟨gn, 0, none⟩) C.out HCN.out _, fun h0_ => absurd ((up_self b 7).symm.trans h0_) (by decide), fun _ => blk_put N.out 0 (.int .i64 (mn : Int)) rfl, blk_far (p := ⟨gn, 0, none⟩) E.out HEN.out _⟩
     refine sc rfl ?_ ?_
     ·rintro b a w' ⟨ha, Q_B, Q_C, Q_N, Q_N2, Q_E⟩ hb_ hon hoff K hK
      have e4 : a.tmps[4]? = some (.pointer (some ⟨ge, 0, none⟩)) := by rw [ha]; exact (putSel_off rfl).trans rfl
      replace ha := Am ha
      have B := Am Q_B
      have C := Am Q_C
      have N2 := Am (Q_N2 (hon 7 (by kernel_rfl)))
      have E := Am Q_E
      have hs : w'.cell? ⟨ge, 0, none⟩ = some (.int .i64 0) := blk_cell E.out 0
      have hf := blk_frozen E.out 0
      refine skip_ (w1 := w'.setCell ⟨ge, 0, none⟩ (.int .i64 0)) (by rfl) rfl (by go_simp; try rfl) ?_
      refine hK.out _ _ ⟨(by rw [ha.out]; exact putSel_none (v := undef) rfl), B.out.setCell (fun _ => Or.inr rfl) _, blk_far (p := ⟨ge, 0, none⟩) C.out HCE.out _, fun h0_ => absurd ((hon 7 (by kernel_rfl)).symm.trans h0_) (by decide), fun _ => blk_far (p := ⟨ge, 0, none⟩) N2.out HNE.out _, blk_put E.out 0 (.int .i64 0) rfl⟩
     exact steps_nil
    rintro b a w' hall ⟨ha, Q_B, Q_C, Q_N, Q_N2, Q_E⟩
    clear B C E N
    have hb0_ := hall 0 (by kernel_rfl)
    have hb2_ := hall 2 (by kernel_rfl)
    have hb4_ := hall 4 (by kernel_rfl)
    have hb5_ := hall 5 (by kernel_rfl)
    have hb6_ := hall 6 (by kernel_rfl)
    have hb7_ := hall 7 (by kernel_rfl)
    have hb8_ := hall 8 (by kernel_rfl)
    subst ha
    simp only [putSel, hb0_, hb2_, hb4_, hb5_, hb6_, hb7_, hb8_, if_true, Act.put, List.setIfInBounds_toArray, List.set_cons_zero, List.set_cons_succ]
    have B := Am Q_B
    clear Q_B
    have C := Am Q_C
    clear Q_C
    clear Q_N
    have N2 := Am (Q_N2 hb7_)
    clear Q_N2
    have E := Am Q_E
    clear Q_E
    clear hall hb0_ hb2_ hb4_ hb5_ hb6_ hb7_ hb8_
    refine ⟨trivial, ?_⟩
    have HB9 := Lh B.out
    have HC9 := Lh C.out
    have HN9 := Lh N2.out
    have HE9 := Lh E.out
    clear B C N2 E HC HN HE
    go_wp2
    refine leaves_cons (f := 91) (args := #[.pointer (some ⟨gc, 0, none⟩), .pointer (some ⟨gn, 0, none⟩), .pointer (some ⟨ge, 0, none⟩)]) (by simp) (by simp [go_sem]) ?_
    refine (catch_idle _ _ _ _).mono ?_
    rintro e u' w'' ⟨rfl, rfl, rfl⟩
    exact ⟨_, decC_results _ _ _ _ _ _ _ _ rfl rfl rfl HCS.out HC9.out HN9.out HE9.out, cs, by rw [HDE.out], by rw [HDE.out]; exact Kd.M_lower _ HGB.out (M_only HM4.out HB9.out (fun k hk _ h => by have := HGW.out; omega)), HB.out.trans (HB9.out.below HB.out.size (fun k hk => by have := HG.out; omega))⟩
theorem decC_calls (w : World) (A : Option Addr) (lb : List UInt8) (c : Nat) (hb : byte.C w A lb.length lb) (hc : lb.length ≤ c) (hn : lb.length ≤ 140737488355328) :
  Calls Tryd.prog 81 #[.slice A lb.length c] w (DecCP lb w) :=
 decC_with w A lb c hb hc hn fun _ kd fl v _ _ w0 w g gc hs hc hB hg hgc hne hv => read_calls w0 w g gc v kd fl hs hc hB hg hgc hne hv
end Go.Proofs.YtdlamomabonkjaaDoor.Ch
end
section
namespace Go.Proofs.YtdlamomabonkjaaDoor.Ch
open Go.RowKit YtdlamomabonkjaaDoorW.PrintWords Base PCh
def WS (w : World) (gw : Nat) (xs : List Int) : Prop := ∃ u, w.heap[gw]? = some (.cells #[u] 87 (0, 0)) ∧ (Kd.int .u8).R 5 w (gw + 1) (fun k => k ≠ gw) u xs
structure Fr (gw : Nat) (w W : World) : Prop where
 below : Below gw w W
 kept : ∀ (k : Nat) (cells : Array Value) (t : TypeId), t ≠ 5 → t ≠ 87 → w.heap[k]? = some (Obj.cells cells t (0, 0)) → W.heap[k]? = some (Obj.cells cells t (0, 0))
theorem Fr.refl (gw : Nat) (w : World) : Fr gw w w := ⟨Below.refl _ _, fun _ _ _ _ _ h => h⟩
theorem Fr.trans {gw : Nat} {a b c : World} (h : Fr gw a b) (k : Fr gw b c) : Fr gw a c := ⟨h.below.trans k.below, fun i cells t h1 h2 h3 => k.kept i cells t h1 h2 (h.kept i cells t h1 h2 h3)⟩
theorem Fr.alloc {gw : Nat} {a b : World} (h : Fr gw a b) (hg : gw ≤ b.heap.size) (x : Obj) : Fr gw a (b.alloc x) := ⟨h.below.alloc hg x, fun i cells t h1 h2 h3 => blk_alloc (h.kept i cells t h1 h2 h3) x⟩
theorem Fr.drewN {gw : Nat} {a b : World} (h : Fr gw a b) (n : Nat) : Fr gw a (b.drewN n) := ⟨pw_below_drewN h.below n, fun i cells t h1 h2 h3 => blk_drewN (h.kept i cells t h1 h2 h3) n⟩
theorem Fr.set {gw : Nat} {a b : World} (h : Fr gw a b) {cs : Array Value} (hg : b.heap[gw]? = some (.cells cs 87 (0, 0))) (i : Nat) (u : Value) : Fr gw a (b.setCell ⟨gw, i, none⟩ u) :=
 ⟨h.below.setCell (Nat.le_refl _) u, fun k cells t h1 h2 h3 => blk_far (h.kept k cells t h1 h2 h3) (by
  intro e
  have h4 := h.kept k cells t h1 h2 h3
  dsimp only at e
  subst e
  rw [hg] at h4
  injection h4 with h4
  injection h4 with _ h5 _
  exact h2 h5.symm) u⟩
theorem Fr.grown {gw base : Nat} {a b c : World} {u : Value} {xs : List Int} {ok : Nat → Prop} (h : Fr gw a b) (hR : (Kd.int .u8).R 5 b base ok u xs) (hB : Below gw b c) (hG : b.grownBy c u.ownBlock) : Fr gw a c :=
 ⟨h.below.trans hB, fun k cells t h1 h2 h3 => blk_grown (h.kept k cells t h1 h2 h3) hG (Kd.R_ne hR (h.kept k cells t h1 h2 h3) (fun e => h1 e.symm))⟩
theorem Fr.C_lit {gw g t n : Nat} {w W : World} {cells : Array Value} {kk : IntKind} {ns : List Int} (h : Fr gw w W) (h1 : t ≠ 5) (h2 : t ≠ 87) (hg : w.heap[g]? = some (.cells cells t (0, 0))) (hC : (Kd.int kk).C w (some ⟨g, 0, none⟩) n ns) : (Kd.int kk).C W (some ⟨g, 0, none⟩) n ns := by
 obtain ⟨e1, e2, e3⟩ := hC
 refine ⟨e1, e2, fun hn => ?_⟩
 obtain ⟨ad, e, hc⟩ := e3 hn
 injection e with e
 subst e
 refine ⟨_, rfl, fun j p hj => ?_⟩
 obtain ⟨cs, c1, c2, c3⟩ := hc j p hj
 refine ⟨cs, c1, c2, fun i u hu => ?_⟩
 have := c3 i u hu
 have hb : (Addr.add ⟨g, 0, none⟩ (j * (Kd.int kk).sz + i)).block = g := add_block _ _
 unfold World.cell? at this ⊢
 rw [hb, h.kept g cells t h1 h2 hg]
 rw [hb, hg] at this
 exact this
def twoL : List Int → List Int
 | [] => []
 | n :: r => [n / 256 % 256, n % 256] ++ twoL r
def fourL : List Int → List Int
 | [] => []
 | n :: r => [n / 16777216 % 256, n / 65536 % 256, n / 256 % 256, n % 256] ++ fourL r
theorem twoL_length (l : List Int) : (twoL l).length = 2 * l.length := by
 induction l with
 | nil => rfl
 | cons n r ih => simp only [twoL, List.length_append, List.length_cons, List.length_nil, ih]; omega
theorem fourL_length (l : List Int) : (fourL l).length = 4 * l.length := by
 induction l with
 | nil => rfl
 | cons n r ih => simp only [fourL, List.length_append, List.length_cons, List.length_nil, ih]; omega
set_option maxHeartbeats 2000000 in
theorem wtwo_calls (w : World) (gw : Nat) (xs : List Int) (A : Option Addr) (c : Nat) (ns : List Int) (hs : WS w gw xs) (hA : ∀ W, Fr gw w W → (Kd.int .u16).C W A ns.length ns) (hx : xs.length + 2 * ns.length ≤ 140737488355328) :
  Calls Tryd.prog 53 #[.pointer (some ⟨gw, 0, none⟩), .slice A ns.length c] w fun e w' => e = .returned (.tuple #[]) ∧ WS w' gw (xs ++ twoL ns) ∧ Fr gw w w' := by
 have HS := Lh hs
 have HA := Lh hA
 have hm := (hA w (Fr.refl _ _)).2.1
 clear hs hA
 go_enter Tryd.func53, Tryd.ntmps53
 go_wp2
 go_loopw [5, 8] (fun v5 v8 wr => ∃ (i : Nat) (ys : List Int), i ≤ ns.length ∧ v8 = .int .i64 (i : Int) ∧ Hid (ys.length = xs.length + 2 * i) ∧ Hid (ys ++ twoL (ns.drop i) = xs ++ twoL ns) ∧ Hid (WS wr gw ys) ∧ Hid (Fr gw w wr)) (fun _ v8 _ => ns.length - (intOf v8).toNat)
 case atStart => exact ⟨0, xs, Nat.zero_le _, rfl, (by show _ = _; omega), rfl, HS.out, Fr.refl _ _⟩
 case round =>
  clear HS
  obtain ⟨i, ys, hi, rfl, HYL, HE, HW, HF⟩ := hrel
  by_cases hlt : i < ns.length
  ·obtain ⟨ad, rfl, x0⟩ := int_at (HA.out wr HF.out) i hlt
   obtain ⟨u, hg, hR⟩ := HW.out
   obtain ⟨Au, cu, rfl⟩ := Kd.R_slice hR
   have hE := HE.out
   have hd : ns.drop i = ns.getD i 0 :: ns.drop (i + 1) := by
    rw [List.drop_eq_getElem_cons hlt]
    congr 1
    simp [List.getD_eq_getElem?_getD, hlt]
   rw [hd, twoL] at hE
   generalize ns.getD i 0 = q at *
   have hE2 : (ys ++ [q / 256 % 256, q % 256]) ++ twoL (ns.drop (i + 1)) = xs ++ twoL ns := by rw [List.append_assoc]; exact hE
   have HE2 := Lh hE2
   have HG := Lh hg
   have HR := Lh hR
   have k0 : wr.cell? ⟨gw, 0, none⟩ = some (.slice Au ys.length cu) := blk_cell hg 0
   have HLT := Lh (blk_lt hg)
   clear hE hE2 hd HE HW hg hR
   go_wp2_with (at_builtin; go_must (refine Kd.R_append_row (Value.int .u8) (0 : Int) (w0 := wr.alloc (.cells #[.int .u8 (q / 256 % 256), .int .u8 (q % 256)] 5)) (W := wr.alloc (.cells #[.int .u8 (q / 256 % 256), .int .u8 (q % 256)] 5)) (gw + 1) rfl _ _ 27 5 _ 1 rfl Tryd.underlying27 info_u8 rfl (by decide) (.slice Au ys.length cu) ys [q / 256 % 256, q % 256] (some ⟨wr.heap.size, 0, none⟩) 2 2 (fun k => k ≠ gw) rfl rfl (fun k hk => by have := HLT.out; simp at hk; omega) (Kd.R_alloc HR.out _) (row_lit (Kd.int .u8) rfl wr 5 [.int .u8 (q / 256 % 256), .int .u8 (q % 256)] [q / 256 % 256, q % 256] rfl (by simp) (fun j v p hv hp => by rcases j with _ | _ | j <;> simp at hv hp <;> (subst hv; subst hp; rfl))) (Below.refl _ _) (by have := HLT.out; simp; omega) (by have := HYL.out; omega) ?_); (intro v1 w1 hR1 hB1 hG1 _; have HR1 := Lh hR1; have HB1 := Lh hB1; have HGR := Lh hG1; clear hR1 hB1 hG1; refine RowKit.Hid.out ?_))
   refine Lh ?_
   obtain ⟨A7, c7, hv1⟩ := Kd.R_slice HR1.out
   subst hv1
   have hown : (Value.slice Au ys.length cu).ownBlock ≠ some gw := fun e => (Kd.R_alloc HR.out (.cells #[.int .u8 (q / 256 % 256), .int .u8 (q % 256)] 5)).1 _ e rfl
   have hg1 := blk_grown (blk_alloc HG.out (.cells #[.int .u8 (q / 256 % 256), .int .u8 (q % 256)] 5)) HGR.out (fun e => hown e.symm)
   have hs := blk_cell hg1 0
   have hf := blk_frozen hg1 0
   have HG1 := Lh hg1
   have HF1 := Lh (Fr.grown (HF.out.alloc (Nat.le_of_lt HLT.out) (.cells #[.int .u8 (q / 256 % 256), .int .u8 (q % 256)] 5)) (Kd.R_alloc HR.out _) (HB1.out.mono (Nat.le_succ _)) HGR.out)
   have HR2 := Lh (Kd.R_far HR1.out (p := ⟨gw, 0, none⟩) (fun k hk => hk) (.slice A7 (ys ++ [q / 256 % 256, q % 256]).length c7))
   rw [show (ys ++ [q / 256 % 256, q % 256]).length = ys.length + 2 by simp] at HR2
   clear hg1 HGR HB1 HF HR HG k0
   go_wp2
   go_roundw
   case rel => exact ⟨i + 1, ys ++ [q / 256 % 256, q % 256], by omega, by go_num, (by have := HYL.out; show _ = _; simp only [List.length_append, List.length_cons, List.length_nil]; omega), HE2, ⟨_, blk_put HG1.out 0 _ rfl, HR2.out⟩, HF1.out.set HG1.out 0 _⟩
   case measure => simp [intOf]; omega
  ·obtain rfl : i = ns.length := by omega
   have hE := HE.out
   rw [List.drop_length, twoL, List.append_nil] at hE
   have HE2 := Lh hE
   clear hE HE HA
   go_wp2
   go_end0
   exact ⟨rfl, by rw [← HE2.out]; exact HW.out, HF.out⟩
set_option maxHeartbeats 2000000 in
theorem wfour_calls (w : World) (gw : Nat) (xs : List Int) (A : Option Addr) (c : Nat) (ns : List Int) (hs : WS w gw xs) (hA : ∀ W, Fr gw w W → (Kd.int .u32).C W A ns.length ns) (hx : xs.length + 4 * ns.length ≤ 140737488355328) :
  Calls Tryd.prog 76 #[.pointer (some ⟨gw, 0, none⟩), .slice A ns.length c] w fun e w' => e = .returned (.tuple #[]) ∧ WS w' gw (xs ++ fourL ns) ∧ Fr gw w w' := by
 have HS := Lh hs
 have HA := Lh hA
 have hm := (hA w (Fr.refl _ _)).2.1
 clear hs hA
 go_enter Tryd.func76, Tryd.ntmps76
 go_wp2
 go_loopw [5, 8] (fun v5 v8 wr => ∃ (i : Nat) (ys : List Int), i ≤ ns.length ∧ v8 = .int .i64 (i : Int) ∧ Hid (ys.length = xs.length + 4 * i) ∧ Hid (ys ++ fourL (ns.drop i) = xs ++ fourL ns) ∧ Hid (WS wr gw ys) ∧ Hid (Fr gw w wr)) (fun _ v8 _ => ns.length - (intOf v8).toNat)
 case atStart => exact ⟨0, xs, Nat.zero_le _, rfl, (by show _ = _; omega), rfl, HS.out, Fr.refl _ _⟩
 case round =>
  clear HS
  obtain ⟨i, ys, hi, rfl, HYL, HE, HW, HF⟩ := hrel
  by_cases hlt : i < ns.length
  ·obtain ⟨ad, rfl, x0⟩ := int_at (HA.out wr HF.out) i hlt
   obtain ⟨u, hg, hR⟩ := HW.out
   obtain ⟨Au, cu, rfl⟩ := Kd.R_slice hR
   have hE := HE.out
   have hd : ns.drop i = ns.getD i 0 :: ns.drop (i + 1) := by
    rw [List.drop_eq_getElem_cons hlt]
    congr 1
    simp [List.getD_eq_getElem?_getD, hlt]
   rw [hd, fourL] at hE
   generalize ns.getD i 0 = q at *
   have hE2 : (ys ++ [q / 16777216 % 256, q / 65536 % 256, q / 256 % 256, q % 256]) ++ fourL (ns.drop (i + 1)) = xs ++ fourL ns := by rw [List.append_assoc]; exact hE
   have HE2 := Lh hE2
   have HG := Lh hg
   have HR := Lh hR
   have k0 : wr.cell? ⟨gw, 0, none⟩ = some (.slice Au ys.length cu) := blk_cell hg 0
   have HLT := Lh (blk_lt hg)
   clear hE hE2 hd HE HW hg hR
   go_wp2_with (at_builtin; go_must (refine Kd.R_append_row (Value.int .u8) (0 : Int) (w0 := wr.alloc (.cells #[.int .u8 (q / 16777216 % 256), .int .u8 (q / 65536 % 256), .int .u8 (q / 256 % 256), .int .u8 (q % 256)] 5)) (W := wr.alloc (.cells #[.int .u8 (q / 16777216 % 256), .int .u8 (q / 65536 % 256), .int .u8 (q / 256 % 256), .int .u8 (q % 256)] 5)) (gw + 1) rfl _ _ 27 5 _ 1 rfl Tryd.underlying27 info_u8 rfl (by decide) (.slice Au ys.length cu) ys [q / 16777216 % 256, q / 65536 % 256, q / 256 % 256, q % 256] (some ⟨wr.heap.size, 0, none⟩) 4 4 (fun k => k ≠ gw) rfl rfl (fun k hk => by have := HLT.out; simp at hk; omega) (Kd.R_alloc HR.out _) (row_lit (Kd.int .u8) rfl wr 5 [.int .u8 (q / 16777216 % 256), .int .u8 (q / 65536 % 256), .int .u8 (q / 256 % 256), .int .u8 (q % 256)] [q / 16777216 % 256, q / 65536 % 256, q / 256 % 256, q % 256] rfl (by simp) (fun j v p hv hp => by rcases j with _ | _ | _ | _ | j <;> simp at hv hp <;> (subst hv; subst hp; rfl))) (Below.refl _ _) (by have := HLT.out; simp; omega) (by have := HYL.out; omega) ?_); (intro v1 w1 hR1 hB1 hG1 _; have HR1 := Lh hR1; have HB1 := Lh hB1; have HGR := Lh hG1; clear hR1 hB1 hG1; refine RowKit.Hid.out ?_))
   refine Lh ?_
   obtain ⟨A7, c7, hv1⟩ := Kd.R_slice HR1.out
   subst hv1
   have hown : (Value.slice Au ys.length cu).ownBlock ≠ some gw := fun e => (Kd.R_alloc HR.out (.cells #[.int .u8 (q / 16777216 % 256), .int .u8 (q / 65536 % 256), .int .u8 (q / 256 % 256), .int .u8 (q % 256)] 5)).1 _ e rfl
   have hg1 := blk_grown (blk_alloc HG.out (.cells #[.int .u8 (q / 16777216 % 256), .int .u8 (q / 65536 % 256), .int .u8 (q / 256 % 256), .int .u8 (q % 256)] 5)) HGR.out (fun e => hown e.symm)
   have hs := blk_cell hg1 0
   have hf := blk_frozen hg1 0
   have HG1 := Lh hg1
   have HF1 := Lh (Fr.grown (HF.out.alloc (Nat.le_of_lt HLT.out) (.cells #[.int .u8 (q / 16777216 % 256), .int .u8 (q / 65536 % 256), .int .u8 (q / 256 % 256), .int .u8 (q % 256)] 5)) (Kd.R_alloc HR.out _) (HB1.out.mono (Nat.le_succ _)) HGR.out)
   have HR2 := Lh (Kd.R_far HR1.out (p := ⟨gw, 0, none⟩) (fun k hk => hk) (.slice A7 (ys ++ [q / 16777216 % 256, q / 65536 % 256, q / 256 % 256, q % 256]).length c7))
   rw [show (ys ++ [q / 16777216 % 256, q / 65536 % 256, q / 256 % 256, q % 256]).length = ys.length + 4 by simp] at HR2
   clear hg1 HGR HB1 HF HR HG k0
   go_wp2
   go_roundw
   case rel => exact ⟨i + 1, ys ++ [q / 16777216 % 256, q / 65536 % 256, q / 256 % 256, q % 256], by omega, by go_num, (by have := HYL.out; show _ = _; simp only [List.length_append, List.length_cons, List.length_nil]; omega), HE2, ⟨_, blk_put HG1.out 0 _ rfl, HR2.out⟩, HF1.out.set HG1.out 0 _⟩
   case measure => simp [intOf]; omega
  ·obtain rfl : i = ns.length := by omega
   have hE := HE.out
   rw [List.drop_length, fourL, List.append_nil] at hE
   have HE2 := Lh hE
   clear hE HE HA
   go_wp2
   go_end0
   exact ⟨rfl, by rw [← HE2.out]; exact HW.out, HF.out⟩
end Go.Proofs.YtdlamomabonkjaaDoor.Ch
end
section
namespace Go.Proofs.YtdlamomabonkjaaDoor.Ch
open Go.RowKit YtdlamomabonkjaaDoorW.PrintWords YtdlamomabonkjaaDoorW.PrintLast Base PCh ParDec
theorem or8 (x y : Nat) (hx : x < 16777216) (hy : y < 256) : bits .or .u32 ((x : Int) * 256) (y : Int) = ((x * 256 + y : Nat) : Int) := by
 have h := (bits_nat .u32 32 (by decide) (fun n h0 h1 => by simp [IntKind.wrap, IntKind.bits, IntKind.signed]; omega) (x * 256) y (by omega) (by omega)).2
 have e : x * 256 ||| y = x * 256 + y := by
  have := Nat.shiftLeft_add_eq_or_of_lt (i := 8) (b := y) (by omega) x
  rw [Nat.shiftLeft_eq] at this
  exact this.symm
 rw [e] at h
 rw [show ((x : Int) * 256) = ((x * 256 : Nat) : Int) from (Int.natCast_mul x 256).symm]
 exact h
theorem get_run (b : List UInt8) (hb : b.length ≤ 140737488355328) (at_ n : Nat) (hn : n ≤ 4) (h : at_ + n ≤ b.length) (m : Nat) : ∀ (i x : Nat), i + m = n → x < 256 ^ i → ropewalkref06_get.l0 (m + 1) (ints b) (at_ : Int) (n : Int) (x : Int) (i : Int) = some ((((b.drop (at_ + i)).take m).foldl (fun a b => a * 256 + b.toNat) x : Nat) : Int) := by
 induction m with
 | zero =>
  intro i x hi hx
  unfold ropewalkref06_get.l0
  rw [if_neg (by omega), List.take_zero]
  rfl
 | succ m ih =>
  intro i x hi hx
  have hi3 : i ≤ 3 := by omega
  have hx3 : x < 16777216 := Nat.lt_of_lt_of_le hx (Nat.le_trans (Nat.pow_le_pow_right (by decide) hi3) (by decide))
  have hlt : at_ + i < b.length := by omega
  have e1 : wrap64 ((at_ : Int) + (i : Int)) = ((at_ + i : Nat) : Int) := by unfold wrap64; omega
  have e2 : wrap64 ((i : Int) + 1) = ((i + 1 : Nat) : Int) := by unfold wrap64; omega
  have e3 := rd_ints b (at_ + i) hlt
  have hy : (b.getD (at_ + i) 0).toNat < 256 := UInt8.toNat_lt _
  unfold ropewalkref06_get.l0
  rw [e1, e2, if_pos (by omega), if_pos (by omega), if_pos (by rw [ints_length]; omega), e3,
   show ((x : Int) * 256) % 4294967296 = (x : Int) * 256 by omega, show (((b.getD (at_ + i) 0).toNat : Nat) : Int) % 4294967296 = (((b.getD (at_ + i) 0).toNat : Nat) : Int) by omega, or8 x _ hx3 hy,
   ih (i + 1) (x * 256 + (b.getD (at_ + i) 0).toNat) (by omega) (by
    rw [Nat.pow_succ]
    omega)]
  rw [List.drop_eq_getElem_cons hlt, List.take_succ_cons, List.foldl_cons, getD_lt _ _ _ hlt]
  rfl
theorem get_f (b : List UInt8) (hb : b.length ≤ 140737488355328) (at_ n : Nat) (hn : n ≤ 4) (h : at_ + n ≤ b.length) : ropewalkref06_get.f (n + 1) (ints b) (at_ : Int) (n : Int) = some ((be ((b.drop at_).take n) : Nat) : Int) := by
 have := get_run b hb at_ n hn h n 0 0 (by omega) (by decide)
 unfold ropewalkref06_get.f
 exact this
theorem C_ints {w : World} {A : Option Addr} {b : List UInt8} (h : byte.C w A b.length b) : (Kd.int .u8).C w A (ints b).length (ints b) := by
 rw [ints_length]
 exact Kd.C_of_reads (d := (0 : Int)) (ints_of_bytes h)
theorem get_calls (w : World) (A : Option Addr) (b : List UInt8) (c : Nat) (hb : byte.C w A b.length b) (hc : b.length ≤ c) (hl : b.length ≤ 140737488355328) (at_ n : Nat) (z y : Int) (hz : z = (at_ : Int)) (hy : y = (n : Int)) (hn : n ≤ 4) (h : at_ + n ≤ b.length) :
  Calls Tryd.prog 86 #[.slice A b.length c, .int .i64 z, .int .i64 y] w fun e w' => e = .returned (.int .u32 ((be ((b.drop at_).take n) : Nat) : Int)) ∧ Drawn0 w w' := by
 have := ropewalkref06_get.calls (n + 1) A c (ints b) z y _ w (C_ints hb) (by rw [ints_length]; exact hc) (by rw [hz, hy]; exact get_f b hl at_ n hn h)
 rw [ints_length] at this
 exact this
theorem u16_be (l : List UInt8) : IntKind.u16.wrap ((be (l.take 2) : Nat) : Int) = ((be (l.take 2) : Nat) : Int) := by
 have := be_two_lt l
 simp [IntKind.wrap, IntKind.bits, IntKind.signed]
 omega
theorem blocks_run (b : List UInt8) (hb : b.length ≤ 140737488355328) (at_ n : Nat) (hn : n ≤ 4096) (h : at_ + 4 * n ≤ b.length) (m : Nat) : ∀ (i : Nat) (acc : List S117), i + m = n → acc.length = i → ropewalkref06_blocks.l0 (m + 4) (ints b) (at_ : Int) (n : Int) acc (i : Int) = some (acc ++ gapsD m (b.drop (at_ + 4 * i))) := by
 induction m with
 | zero =>
  intro i acc hi ha
  unfold ropewalkref06_blocks.l0
  rw [if_neg (by omega)]
  simp [gapsD]
 | succ m ih =>
  intro i acc hi ha
  have g1 := get_f b hb (at_ + 4 * i) 2 (by decide) (by omega)
  have g2 := get_f b hb (at_ + 4 * i + 2) 2 (by decide) (by omega)
  have e1 : wrap64 ((at_ : Int) + wrap64 (4 * (i : Int))) = ((at_ + 4 * i : Nat) : Int) := by unfold wrap64; omega
  have e2 : wrap64 (((at_ + 4 * i : Nat) : Int) + 2) = ((at_ + 4 * i + 2 : Nat) : Int) := by unfold wrap64; omega
  have e3 : wrap64 ((i : Int) + 1) = ((i + 1 : Nat) : Int) := by unfold wrap64; omega
  have m1 : ∀ k, ropewalkref06_get.f (k + 3) (ints b) ((at_ + 4 * i : Nat) : Int) 2 = some ((be ((b.drop (at_ + 4 * i)).take 2) : Nat) : Int) := fun k => by
   induction k with
   | zero => exact g1
   | succ k ihk => exact ropewalkref06_get.mono _ _ _ _ _ ihk
  have m2 : ∀ k, ropewalkref06_get.f (k + 3) (ints b) ((at_ + 4 * i + 2 : Nat) : Int) 2 = some ((be ((b.drop (at_ + 4 * i + 2)).take 2) : Nat) : Int) := fun k => by
   induction k with
   | zero => exact g2
   | succ k ihk => exact ropewalkref06_get.mono _ _ _ _ _ ihk
  rw [show m + 1 + 4 = (m + 4) + 1 from rfl]
  unfold ropewalkref06_blocks.l0
  rw [if_pos (by omega), e1, e2, e3, show m + 4 = (m + 1) + 3 from rfl, m1, m2]
  simp only [Option.bind_some]
  rw [if_pos (by omega), show m + 1 + 3 = m + 4 from rfl, ih (i + 1) _ (by omega) (by simp [ha]), u16_be, u16_be, List.append_assoc]
  have d1 : b.drop (at_ + 4 * (i + 1)) = (b.drop (at_ + 4 * i)).drop 4 := by rw [List.drop_drop]; congr 1
  have d2 : b.drop (at_ + 4 * i + 2) = (b.drop (at_ + 4 * i)).drop 2 := by rw [List.drop_drop]
  rw [d1, d2]
  rfl
theorem blocks_calls (w : World) (A : Option Addr) (b : List UInt8) (c : Nat) (hb : byte.C w A b.length b) (hc : b.length ≤ c) (hl : b.length ≤ 140737488355328) (at_ n : Nat) (z y : Int) (hz : z = (at_ : Int)) (hy : y = (n : Int)) (hn : n ≤ 4096) (h : at_ + 4 * n ≤ b.length) :
  Calls Tryd.prog 102 #[.slice A b.length c, .int .i64 z, .int .i64 y] w fun e w' => ∃ v, e = .returned v ∧ Kd.R k117 117 w' w.heap.size (fun _ => True) v (gapsD n (b.drop at_)) ∧ Below w.heap.size w w' := by
 have := ropewalkref06_blocks.calls (n + 4) A c (ints b) z y (gapsD n (b.drop at_)) w (C_ints hb) (by rw [ints_length]; exact hc) (by
  rw [hz, hy]
  unfold ropewalkref06_blocks.f
  exact blocks_run b hl at_ n hn h n 0 [] (by omega) rfl)
 rw [ints_length] at this
 exact this
end Go.Proofs.YtdlamomabonkjaaDoor.Ch
end
section
namespace Go.Proofs.YtdlamomabonkjaaDoor.Ch
open Go.RowKit YtdlamomabonkjaaDoorW.PrintWords YtdlamomabonkjaaDoorW.PrintLast Base PCh ParDec
abbrev zerV : Array Value := #[.int .u8 0, .int .u8 0, .int .u32 0, .int .u16 0, .int .u16 0, .int .u32 0, .int .u32 0, .int .u32 0, .int .u16 0, .int .u16 0, .slice none 0 0, .slice none 0 0, .slice none 0 0, .slice none 0 0, .slice none 0 0]
theorem wpList_ret_row {ops : Array Oper} {rest : List Oper} {o1 o2 : Oper} {a : Act} {w : World} {Q : Exit → Act → World → Prop} (n : Tmp) (hd : o1.dst = some n) (h1 : o1.guard = none) (h2 : o2.guard = none) (x y : Operand) (ho1 : o1.op = .load 41 x) (ho2 : o2.op = .store 41 y (.tmp n)) (hd2 : o2.dst = none)
  (g gr : Nat) (cs old : Array Value) (e2 : a.eval x = .pointer (some ⟨g, 0, none⟩)) (e3 : (a.put (some n) (.agg cs)).eval (.tmp n) = .agg cs) (e4 : (a.put (some n) (.agg cs)).eval y = .pointer (some ⟨gr, 0, none⟩)) (hg : w.heap[g]? = some (.cells cs 41 (0, 0))) (hr : w.heap[gr]? = some (.cells old 41 (0, 0))) (hs : cs.size = 15) (hold : old.size = 15) (hone : cs.all (·.oneCell') = true)
  (h : wpList Tryd.prog ops Q rest (a.put (some n) (.agg cs)) (w.setRow gr cs)) : wpList Tryd.prog ops Q (o1 :: o2 :: rest) a w := by
 have hi : (Tryd.prog.info? 41).map (·.size) = some cs.size := by rw [hs]; kernel_rfl
 refine wpList_load_row h1 41 x ho1 g e2 41 cs (0, 0) _ hg Tryd.underlying41 rfl hi ?_
 rw [hd]
 refine wpList_store_row h2 41 y (.tmp n) ho2 gr cs e4 e3 41 old hr hi (by omega) hone ?_
 rw [hd2]
 exact h
theorem row_results (f : Func) (hf : f.results = #[ResultVar.cell 4 41, ResultVar.tmp 5]) (tmps : Array Value) (w : World) (g : Nat) (cs : Array Value) (code : Int) (t4 : tmps.getD 4 undef = .pointer (some ⟨g, 0, none⟩)) (t5 : tmps.getD 5 undef = .int .i64 code) (hb : w.heap[g]? = some (.cells cs 41 (0, 0))) (hs : cs.size = 15) :
  (results f tmps).run Tryd.prog w = .ok (.tuple #[.agg cs, .int .i64 code]) w := by
 have hi : (Tryd.prog.info? 41).map (·.size) = some cs.size := by rw [hs]; kernel_rfl
 have hl := run_loadVar_row w g 41 41 cs (0, 0) _ hb Tryd.underlying41 rfl hi
 rw [Array.getD_eq_getD_getElem?] at t4 t5
 simp [results, hf, asAddr, t4, t5, hl]
def RReadP (w : World) (r : Except Int Chk) (e : Ending) (w' : World) : Prop :=
 ∃ cs code, e = .returned (.tuple #[.agg cs, .int .i64 code]) ∧ cs.size = 15 ∧ cs.all (·.oneCell') = true ∧ Below w.heap.size w w' ∧ (match r with
  | .error c => code = c
  | .ok d => code = 0 ∧ k41.M w' w.heap.size (fun _ => True) d cs.toList)
theorem RReadP.bad {w w' : World} {r : Except Int Chk} {code : Int} {cs : Array Value} (h : r = .error code) (hs : cs.size = 15) (ho : cs.all (·.oneCell') = true) (hB : Below w.heap.size w w') : RReadP w r (.returned (.tuple #[.agg cs, .int .i64 code])) w' := by
 subst h
 exact ⟨cs, code, rfl, hs, ho, hB, rfl⟩
theorem RReadP.good {w w' : World} {r : Except Int Chk} {d : Chk} {cs : Array Value} (h : r = .ok d) (hs : cs.size = 15) (ho : cs.all (·.oneCell') = true) (hB : Below w.heap.size w w') (hM : k41.M w' w.heap.size (fun _ => True) d cs.toList) : RReadP w r (.returned (.tuple #[.agg cs, .int .i64 0])) w' := by
 subst h
 exact ⟨cs, 0, rfl, hs, ho, hB, rfl, hM⟩
theorem ret_bad {f : Func} (hf : f.results = #[ResultVar.cell 4 41, ResultVar.tmp 5]) {a : Act} {w W : World} {r : Except Int Chk} {code : Int} {cs old : Array Value} {gr : Nat} (hd : a.defers = []) (t4 : a.tmps.getD 4 undef = .pointer (some ⟨gr, 0, none⟩)) (t5 : a.tmps.getD 5 undef = .int .i64 code) (hg : W.heap[gr]? = some (.cells old 41 (0, 0))) (h : r = .error code) (hs : cs.size = 15) (ho : cs.all (·.oneCell') = true) (hB : Below w.heap.size w W) (hl : w.heap.size ≤ gr) :
  bodyPost Tryd.prog f (RReadP w r) Exit.ret a (W.setRow gr cs) :=
 bodyPost_ret (row_results f hf a.tmps _ gr cs code t4 t5 (setRow_heap _ _ _ _ _ _ hg) hs) hd (.bad h hs ho (below_setRow hB hl cs))
theorem ret_good {f : Func} (hf : f.results = #[ResultVar.cell 4 41, ResultVar.tmp 5]) {a : Act} {w W : World} {r : Except Int Chk} {d : Chk} {cs old : Array Value} {gr : Nat} (hd : a.defers = []) (t4 : a.tmps.getD 4 undef = .pointer (some ⟨gr, 0, none⟩)) (t5 : a.tmps.getD 5 undef = .int .i64 0) (hg : W.heap[gr]? = some (.cells old 41 (0, 0))) (h : r = .ok d) (hs : cs.size = 15) (ho : cs.all (·.oneCell') = true) (hB : Below w.heap.size w W) (hl : w.heap.size ≤ gr)
  (hM : k41.M (W.setRow gr cs) w.heap.size (fun _ => True) d cs.toList) :
  bodyPost Tryd.prog f (RReadP w r) Exit.ret a (W.setRow gr cs) :=
 bodyPost_ret (row_results f hf a.tmps _ gr cs 0 t4 t5 (setRow_heap _ _ _ _ _ _ hg) hs) hd (.good h hs ho (below_setRow hB hl cs) hM)
theorem setRow_only (w : World) (g : Nat) (cs : Array Value) : Only (· = g) w (w.setRow g cs) :=
 ⟨rfl, rfl, rfl, by rw [setRow_size]; exact Nat.le_refl _, fun k hk hn => setRow_other _ _ _ _ hn⟩
theorem wp_gen {P : Program} {c : Code} {Q : Exit → Act → World → Prop} {a : Act} {W0 : World} (Pd : World → Prop) (h0 : Pd W0) (h : ∀ W, Pd W → c.wp P Q a W) : c.wp P Q a W0 := h W0 h0
structure Bx (w : World) (cs : Array Value) (W : World) : Prop where
 x0 : W.heap[w.heap.size]? = some (.cells cs 41 (0, 0))
 x1 : W.heap[w.heap.size + 1]? = some (.cells zerV 41 (0, 0))
 x2 : Below w.heap.size w W
 x3 : w.heap.size + 2 ≤ W.heap.size
theorem Bx.drewN {w W : World} {cs : Array Value} (h : Bx w cs W) (n : Nat) : Bx w cs (W.drewN n) := ⟨blk_drewN h.x0 n, blk_drewN h.x1 n, pw_below_drewN h.x2 n, by have := (pw_below_drewN (Below.refl W.heap.size W) n).size; have := h.x3; omega⟩
theorem Bx.set {w W : World} {cs : Array Value} (h : Bx w cs W) (i : Nat) (v : Value) : Bx w (cs.setIfInBounds i v) (W.setCell ⟨w.heap.size, i, none⟩ v) :=
 ⟨blk_put h.x0 i v rfl, (Below.heap_setCell _ ⟨w.heap.size, i, none⟩ _ _ (Nat.succ_ne_self _)).trans h.x1, h.x2.setCell (p := ⟨w.heap.size, i, none⟩) (Nat.le_refl _) v, by have := h.x3; simp [World.setCell]; exact this⟩
theorem Bx.below {w W W' : World} {cs : Array Value} (h : Bx w cs W) (hb : Below W.heap.size W W') : Bx w cs W' := ⟨blk_below h.x0 hb, blk_below h.x1 hb, below_then h.x2 h.x2.size hb, Nat.le_trans h.x3 hb.size⟩
theorem Bx.cell {w W : World} {cs : Array Value} (h : Bx w cs W) (i : Nat) : W.cell? ⟨w.heap.size, i, none⟩ = cs[i]? := blk_cell h.x0 i
theorem Bx.frozen {w W : World} {cs : Array Value} (h : Bx w cs W) (i : Nat) : W.frozen? ⟨w.heap.size, i, none⟩ = false := blk_frozen h.x0 i
theorem Bx.new (w : World) (cs : Array Value) : Bx w cs ((w.alloc (.cells cs 41)).alloc (.cells zerV 41)) := by
 refine ⟨blk_alloc (blk_new _ _) _, ?_, below_alloc (below_alloc (Below.refl _ _) _) _, by simp⟩
 have h := blk_new (w.alloc (.cells cs 41)) (.cells zerV 41)
 rw [World.size_alloc] at h
 exact h
theorem reps_nil {α : Type} {F : α → List Value → Prop} (s : Nat) : Reps F s [] [] := And.intro (by simp) (fun j p h => by cases h)
theorem C_intsL {w : World} {A : Option Addr} {b : List UInt8} (h : byte.C w A b.length b) : (Kd.int .u8).C w A b.length (intsL b) := Kd.C_of_reads (d := (0 : Int)) (ints_of_bytes h)
theorem fresh_one (kd fl : Int) : (freshV kd fl).all (·.oneCell') = true := by simp [freshV, Value.oneCell']
end Go.Proofs.YtdlamomabonkjaaDoor.Ch
end
section
namespace Go.Proofs.YtdlamomabonkjaaDoor.Base
open Go.RowKit YtdlamomabonkjaaDoorW.PrintWords YtdlamomabonkjaaDoorW.PrintLast
theorem wanted_none0 {ops : Array Oper} {a : Act} {o : Oper} (h : o.guard = none) : Region.wanted o (yielded ops a.tmps) = true := by unfold Region.wanted; rw [h]
theorem set_same {α : Type} {l : List α} {k : Nat} {x : α} (h : l[k]? = some x) : l.set k x = l := by
 obtain ⟨h1, h2⟩ := List.getElem?_eq_some_iff.1 h
 rw [← h2, List.set_getElem_self]
def celSel (CD : Array Value) (b : Nat → Bool) (LS : List (Nat × Tmp × Value)) : Array Value := (putSel ⟨CD, []⟩ b LS).tmps
theorem celSel_size (CD : Array Value) (b : Nat → Bool) (LS : List (Nat × Tmp × Value)) : (celSel CD b LS).size = CD.size := (putSel_size b LS ⟨CD, []⟩).1
theorem putSel_congr {b b' : Nat → Bool} : ∀ {L : List (Nat × Tmp × Value)} {a : Act}, (∀ e ∈ L, b e.1 = b' e.1) → putSel a b L = putSel a b' L
 | [], _, _ => rfl
 | e :: r, a, h => by
  unfold putSel
  rw [h e List.mem_cons_self]
  exact putSel_congr (fun x hx => h x (List.mem_cons_of_mem _ hx))
def CpI (W : World) (gd : Nat) (T : TypeId) (CD : Array Value) (L LS : List (Nat × Tmp × Value)) (a0 : Act) (b : Nat → Bool) (a : Act) (w : World) : Prop :=
 a = putSel a0 b L ∧ Only (· = gd) W w ∧ w.heap[gd]? = some (.cells (celSel CD b LS) T (0, 0))
section
variable {P : Program} {ops : Array Oper} {Q : Exit → Act → World → Prop} {B O : List Nat} {W : World} {gd : Nat} {T : TypeId} {CD : Array Value} {L LS : List (Nat × Tmp × Value)} {a0 : Act}
theorem cp_addr (i k : Nat) (p : Tmp) {t : Tmp} {gq j : Nat} {oi : Oper} (ho : ops[i]? = some oi) (hg : oi.guard = none) (hd : oi.dst = some t) (hL : L[k]? = some (i, t, .pointer (some ⟨gq, j, none⟩)))
  (hdist : ((L.take k ++ L.drop (k + 1)).all fun e => !(e.1 == i) && !(e.2.1 == t)) = true) (hLS : (LS.all fun e => !(e.1 == i)) = true) (hpl : (L.all fun e => !(e.2.1 == p)) = true) (hp : a0.tmps[p]? = some (.pointer (some ⟨gq, 0, none⟩)))
  (hrun : ∀ (a : Act) (w : World), a.tmps[p]? = some (.pointer (some ⟨gq, 0, none⟩)) → (execOp a.eval oi).run P w = .ok (.value (.pointer (some ⟨gq, j, none⟩))) w) : StepAt P ops Q B O (CpI W gd T CD L LS a0) i := by
 rintro b a w ⟨ha, hO, hC⟩ hb hon hoff
 refine ⟨oi, ho, fun K hK => ?_⟩
 rw [hd]
 refine value_ (w1 := w) (v := .pointer (some ⟨gq, j, none⟩)) (wanted_none0 hg) hd (hrun a w (by rw [ha]; exact (putSel_off hpl).trans hp)) (hK.out _ _ ⟨?_, hO, ?_⟩)
 ·rw [ha]
  exact putSel_upk k hb hL (set_same hL) hdist
 ·rw [hC]
  unfold celSel
  rw [putSel_same hLS]
theorem cp_op (i k kp qp : Nat) {t : Tmp} {v : Value} {ep : Nat × Tmp × Value} {oi : Oper} (ho : ops[i]? = some oi) (hg : oi.guard = none) (hd : oi.dst = some t) (hL : L[k]? = some (i, t, v))
  (hdist : ((L.take k ++ L.drop (k + 1)).all fun e => !(e.1 == i) && !(e.2.1 == t)) = true) (hLS : (LS.all fun e => !(e.1 == i)) = true)
  (hP : L[kp]? = some ep) (hPd : ((L.drop (kp + 1)).all fun x => !(x.2.1 == ep.2.1)) = true) (hq : ep.1 = qp) (hon : (O.contains qp && (B.getD i 0).testBit qp) = true) (hsz : Nat.ble (ep.2.1 + 1) a0.tmps.size = true)
  (hrun : ∀ (a : Act) (w : World), Only (· = gd) W w → a.tmps[ep.2.1]? = some ep.2.2 → (execOp a.eval oi).run P w = .ok (.value v) w) : StepAt P ops Q B O (CpI W gd T CD L LS a0) i := by
 rintro b a w ⟨ha, hO, hC⟩ hb hon' hoff
 refine ⟨oi, ho, fun K hK => ?_⟩
 rw [hd]
 refine value_ (w1 := w) (v := v) (wanted_none0 hg) hd (hrun a w hO (by rw [ha]; exact putSel_on kp hP hPd (hon' _ (hq ▸ hon)) hsz)) (hK.out _ _ ⟨?_, hO, ?_⟩)
 ·rw [ha]
  exact putSel_upk k hb hL (set_same hL) hdist
 ·rw [hC]
  unfold celSel
  rw [putSel_same hLS]
theorem cp_store (i k kp kv qp qv : Nat) {j : Nat} {v : Value} {ep ev : Nat × Tmp × Value} {oi : Oper} (ho : ops[i]? = some oi) (hg : oi.guard = none) (hd : oi.dst = none) (hLk : LS[k]? = some (i, j, v))
  (hdist : ((LS.take k ++ LS.drop (k + 1)).all fun e => !(e.1 == i) && !(e.2.1 == j)) = true) (hLi : (L.all fun e => !(e.1 == i)) = true) (hj : j < CD.size)
  (hP : L[kp]? = some ep) (hPd : ((L.drop (kp + 1)).all fun x => !(x.2.1 == ep.2.1)) = true) (hqp : ep.1 = qp) (hPo : (O.contains qp && (B.getD i 0).testBit qp) = true) (hsz : Nat.ble (ep.2.1 + 1) a0.tmps.size = true)
  (hV : L[kv]? = some ev) (hVd : ((L.drop (kv + 1)).all fun x => !(x.2.1 == ev.2.1)) = true) (hqv : ev.1 = qv) (hVo : (O.contains qv && (B.getD i 0).testBit qv) = true) (hvz : Nat.ble (ev.2.1 + 1) a0.tmps.size = true)
  (hrun : ∀ (a : Act) (w : World) (old : Value), a.tmps[ep.2.1]? = some ep.2.2 → a.tmps[ev.2.1]? = some ev.2.2 → w.cell? ⟨gd, j, none⟩ = some old → w.frozen? ⟨gd, j, none⟩ = false → (execOp a.eval oi).run P w = .ok .skip (w.setCell ⟨gd, j, none⟩ v)) : StepAt P ops Q B O (CpI W gd T CD L LS a0) i := by
 rintro b a w ⟨ha, hO, hC⟩ hb hon' hoff
 refine ⟨oi, ho, fun K hK => ?_⟩
 obtain ⟨old, hold⟩ : ∃ old, (celSel CD b LS)[j]? = some old := ⟨_, Array.getElem?_eq_getElem (by rw [celSel_size]; exact hj)⟩
 rw [hd]
 refine skip_ (w1 := w.setCell ⟨gd, j, none⟩ v) (wanted_none0 hg) hd (hrun a w old (by rw [ha]; exact putSel_on kp hP hPd (hon' _ (hqp ▸ hPo)) hsz) (by rw [ha]; exact putSel_on kv hV hVd (hon' _ (hqv ▸ hVo)) hvz) ((blk_cell hC j).trans hold) (blk_frozen hC j)) (hK.out _ _ ⟨?_, hO.setCell (fun _ => rfl) v, ?_⟩)
 ·rw [ha]
  exact (putSel_same hLi).symm
 ·refine blk_put hC j v ?_
  have := congrArg Act.tmps (putSel_upk (a := ⟨CD, []⟩) k hb hLk (set_same hLk) hdist)
  exact this
theorem copy_region {id : Nat} (O L LS : List _) {n : Nat} {l : Array Bool} {Tb : Bool × List (List Nat × List Nat)} (hm : P.follows .mixedOrders = true) (hn : ops.size = n) (hl : Array.replicate n false = l) (hT : rtab .any ops = Tb) (hw : waitsOk Tb.2 B = true) (hk : baseOk Tb.2 O = true) (hl2 : (lof Tb.2.length O (fun _ => false) == l.toList && O.length == n) = true)
  (hLO : (L.all fun e => O.contains e.1) = true) (hSO : (LS.all fun e => O.contains e.1) = true) (hC : W.heap[gd]? = some (.cells CD T (0, 0))) (hs : ∀ i ∈ O, StepAt P ops Q B O (CpI W.drew gd T CD L LS a0) i)
  (hend : ∀ w, Only (· = gd) W w → w.heap[gd]? = some (.cells (celSel CD (fun _ => true) LS) T (0, 0)) → Q .normal (putSel a0 (fun _ => true) L) w) : Code.wp P (Code.region id ops true) Q a0 W := by
 refine start_ (S := fun _ => True) (ds := []) l hm hn hl trivial (fun _ => ?_)
 refine inv_at O (fun a0 => CpI W.drew gd T CD L LS a0) hT hw hk hl2 ⟨?_, Only.refl _ _, ?_⟩ hs ?_
 ·clear hLO hSO hs hC hend
  induction L with
  | nil => rfl
  | cons e r ih => unfold putSel; exact ih
 ·have h0 : celSel CD (fun _ => false) LS = CD := by
   clear hLO hSO hs hend
   unfold celSel
   induction LS with
   | nil => rfl
   | cons e r ih => unfold putSel; exact ih
  rw [h0]
  exact hC
 ·rintro b a w hall ⟨ha, hO, hC'⟩
  have e1 : putSel a0 b L = putSel a0 (fun _ => true) L := putSel_congr (fun e he => hall _ (List.all_eq_true.1 hLO e he))
  have e2 : celSel CD b LS = celSel CD (fun _ => true) LS := congrArg Act.tmps (putSel_congr (fun e he => hall _ (List.all_eq_true.1 hSO e he)))
  rw [ha, e1]
  exact hend w ⟨hO.os, hO.tape, hO.output, hO.size, hO.block⟩ (by rw [hC', e2])
end
end Go.Proofs.YtdlamomabonkjaaDoor.Base
end
section
namespace Go.Proofs.YtdlamomabonkjaaDoor.Ch
open Go.RowKit YtdlamomabonkjaaDoorW.PrintWords YtdlamomabonkjaaDoorW.PrintLast Base PCh ParDec
def hasF (kd : Int) (i : Nat) : Bool :=
 if kd = 0 then i == 2 || i == 3 || i == 4 || i == 5 || i == 13
 else if kd = 1 ∨ kd = 2 then i == 2 || i == 6 || i == 7 || i == 8 || i == 9 || i == 14
 else if kd = 16 then i == 2 || i == 7 || i == 10 || i == 11 || i == 12
 else if kd = 3 then i == 2 || i == 7 || i == 10 || i == 12
 else if kd = 4 ∨ kd = 5 ∨ kd = 6 ∨ kd = 9 then i == 14
 else if kd = 7 then i == 2
 else if kd = 8 ∨ kd = 11 ∨ kd = 14 then false
 else i == 13
def keepF (p : Nat → Bool) (fl : Int) (x : Chk) : Chk := ⟨x.f0, fl, if p 2 then x.f2 else 0, if p 3 then x.f3 else 0, if p 4 then x.f4 else 0, if p 5 then x.f5 else 0, if p 6 then x.f6 else 0, if p 7 then x.f7 else 0, if p 8 then x.f8 else 0, if p 9 then x.f9 else 0, if p 10 then x.f10 else [], if p 11 then x.f11 else [], if p 12 then x.f12 else [], if p 13 then x.f13 else [], if p 14 then x.f14 else []⟩
def keepL (p : Nat → Bool) (L : Lay) : Lay := ⟨if p 10 then L.A10 else none, if p 10 then L.c10 else 0, if p 11 then L.A11 else none, if p 11 then L.c11 else 0, if p 12 then L.A12 else none, if p 12 then L.c12 else 0, if p 13 then L.A13 else none, if p 13 then L.c13 else 0, if p 14 then L.A14 else none, if p 14 then L.c14 else 0⟩
def bareD (x : Chk) : Chk := keepF (hasF x.f0) (flD x.f0 x.f1) x
def bareT1 : Bool × List (List Nat × List Nat) := (true, [([], []), ([0], [0]), ([], []), ([2], [2]), ([], []), ([4], [4]), ([5], [5]), ([3, 6], [3, 6]), ([1, 7], [1, 7]), ([], []), ([9, 8, 6, 0, 1, 2, 3, 4, 5, 6, 7, 8, 9], [8, 9])])
def bareB1 : List Nat := [0, 1, 0, 4, 0, 16, 48, 124, 255, 0, 1023]
theorem baretab1 : Go.Proofs.YtdlamomabonkjaaDoorW.PrintLast.rtab .any (Go.Proofs.YtdlamomabonkjaaDoorW.PrintLast.opsOf Tryd.f71 1) = bareT1 := by kernel_rfl
theorem barebits1 : Go.Proofs.YtdlamomabonkjaaDoorW.PrintLast.waitsOk bareT1.2 bareB1 = true := by kernel_rfl
structure By (w : World) (CX cs : Array Value) (g3 : Nat) (W : World) : Prop where
 bx : Bx w CX W
 x3 : W.heap[g3]? = some (.cells cs 41 (0, 0))
 hg : w.heap.size + 2 ≤ g3
theorem By.only {w W W' : World} {CX cs cs' : Array Value} {g3 : Nat} (h : By w CX cs g3 W) (hO : Only (· = g3) W W') (h3 : W'.heap[g3]? = some (.cells cs' 41 (0, 0))) : By w CX cs' g3 W' :=
 ⟨⟨hO.blk h.bx.x0 (by have := h.hg; omega), hO.blk h.bx.x1 (by have := h.hg; omega), h.bx.x2.trans (hO.below h.bx.x2.size (fun k hk => by have := h.hg; omega)), Nat.le_trans h.bx.x3 hO.size⟩, h3, h.hg⟩
theorem By.set {w W : World} {CX cs : Array Value} {g3 : Nat} (h : By w CX cs g3 W) (i : Nat) (v : Value) : By w CX (cs.setIfInBounds i v) g3 (W.setCell ⟨g3, i, none⟩ v) := h.only ((Only.refl (· = g3) W).setCell (fun _ => rfl) v) (blk_put h.x3 i v rfl)
theorem row_end {f : Func} (hf : f.results = #[ResultVar.cell 2 41]) {a : Act} {w W : World} {cs old r : Array Value} {gr : Nat} (hd : a.defers = []) (t2 : a.tmps.getD 2 undef = .pointer (some ⟨gr, 0, none⟩)) (hg : W.heap[gr]? = some (.cells old 41 (0, 0))) (hs : cs.size = 15) (hB : Below w.heap.size w W) (hl : w.heap.size ≤ gr) (h : cs = r) :
  bodyPost Tryd.prog f (fun e w' => e = .returned (.agg r) ∧ Below w.heap.size w w') Exit.ret a (W.setRow gr cs) := by
 have hi : (Tryd.prog.info? 41).map (·.size) = some cs.size := by rw [hs]; kernel_rfl
 have hl2 := run_loadVar_row (W.setRow gr cs) gr 41 41 cs (0, 0) _ (setRow_heap _ _ _ _ _ _ hg) Tryd.underlying41 rfl hi
 rw [Array.getD_eq_getD_getElem?] at t2
 exact bodyPost_ret (v := .agg cs) (by simp [results, hf, asAddr, t2, hl2]) hd ⟨by rw [h], below_setRow hB hl cs⟩
end Go.Proofs.YtdlamomabonkjaaDoor.Ch
end
section
namespace Go.Proofs.YtdlamomabonkjaaDoor.Ch
open Go.RowKit YtdlamomabonkjaaDoorW.PrintWords YtdlamomabonkjaaDoorW.PrintLast Base PCh ParDec ParEnc
def encP (ps : List PrmS) : List Int × Int := if ps.length > 256 then ([], 3) else runB [] ps
def gapL : List GapS → List Int
 | [] => []
 | g :: r => [g.f0, g.f1] ++ gapL r
def valData (x : Chk) : List Int := fourL [x.f2] ++ twoL [x.f3, x.f4] ++ fourL [x.f5] ++ x.f13
def valueD (x : Chk) : List Int :=
 if x.f0 = 0 then valData x
 else if x.f0 = 1 ∨ x.f0 = 2 then fourL [x.f6, x.f7] ++ twoL [x.f8, x.f9] ++ fourL [x.f2] ++ (encP x.f14).1
 else if x.f0 = 3 then fourL [x.f2, x.f7] ++ twoL [IntKind.u16.wrap (x.f10.length : Int), IntKind.u16.wrap (x.f12.length : Int)] ++ twoL (gapL x.f10) ++ fourL x.f12
 else if x.f0 = 16 then fourL [x.f2, x.f7] ++ twoL [IntKind.u16.wrap (x.f10.length : Int), IntKind.u16.wrap (x.f11.length : Int), IntKind.u16.wrap (x.f12.length : Int), 0] ++ twoL (gapL x.f10) ++ twoL (gapL x.f11) ++ fourL x.f12
 else if x.f0 = 4 ∨ x.f0 = 5 ∨ x.f0 = 6 ∨ x.f0 = 9 then (encP x.f14).1
 else if x.f0 = 7 then fourL [x.f2]
 else if x.f0 = 8 ∨ x.f0 = 11 ∨ x.f0 = 14 then []
 else x.f13
def ValP (xs : List Int) (w : World) (e : Ending) (w' : World) : Prop := ∃ A c, e = .returned (.slice A xs.length c) ∧ xs.length ≤ c ∧ (Kd.int .u8).C w' A xs.length xs ∧ Below w.heap.size w w'
def ValQ (b0 : Nat) (xs : List Int) (w : World) (e : Ending) (w' : World) : Prop :=
 ∃ A c, e = .returned (.slice A xs.length c) ∧ xs.length ≤ c ∧ (∀ W, Only (fun k => b0 ≤ k ∧ k < w.heap.size) w' W → (Kd.int .u8).C W A xs.length xs) ∧ Below w.heap.size w w'
theorem ValQ.P {b0 : Nat} {xs : List Int} {w w' : World} {e : Ending} (h : ValQ b0 xs w e w') : ValP xs w e w' := by
 obtain ⟨A, c, h1, h2, h3, h4⟩ := h
 exact ⟨A, c, h1, h2, h3 _ (Only.refl _ _), h4⟩
theorem ValQ.of_R {b0 base : Nat} {ok : Nat → Prop} {v : Value} {xs : List Int} {w w' : World} (hR : (Kd.int .u8).R 5 w' base ok v xs) (hb : w.heap.size ≤ base) (hB : Below w.heap.size w w') : ValQ b0 xs w (.returned v) w' := by
 obtain ⟨A, c, rfl, hle, hC⟩ := Kd.R_reads hR
 refine ⟨A, c, rfl, hle, fun W hO => ?_, hB⟩
 obtain ⟨A2, c2, he, _, hC2⟩ := Kd.R_reads (R_only hR hO (fun k hk _ h => by omega))
 injection he with e1 _ _
 rw [e1]
 exact hC2
theorem wfour_lit (w : World) (gw : Nat) (xs ns : List Int) (vs : List Value) (n : Nat) (hv : vs = ns.map (Value.int .u32)) (hn : ns.length = n) (hs : WS w gw xs) (hx : xs.length + 4 * ns.length ≤ 140737488355328) :
  Calls Tryd.prog 76 #[.pointer (some ⟨gw, 0, none⟩), .slice (some ⟨w.heap.size, 0, none⟩) n n] (w.alloc (.cells vs.toArray 23)) fun e w' => e = .returned (.tuple #[]) ∧ WS w' gw (xs ++ fourL ns) ∧ Fr gw w w' := by
 subst hn
 obtain ⟨u, hg, hR⟩ := hs
 have hlt := blk_lt hg
 have hC : (Kd.int .u32).C (w.alloc (.cells vs.toArray 23)) (some ⟨w.heap.size, 0, none⟩) ns.length ns := row_lit (Kd.int .u32) rfl w _ vs ns (by rw [hv, List.length_map]) (by omega) (fun j v p h1 h2 => by
  rw [hv, List.getElem?_map, h2] at h1
  injection h1 with h1
  subst h1
  rfl)
 refine (wfour_calls (w.alloc (.cells vs.toArray 23)) gw xs (some ⟨w.heap.size, 0, none⟩) ns.length ns ⟨u, blk_alloc hg _, Kd.R_alloc hR _⟩ (fun W hF => hF.C_lit (by decide) (by decide) (blk_new _ _) hC) hx).mono ?_
 rintro e w' ⟨h1, h2, h3⟩
 exact ⟨h1, h2, ((Fr.refl gw w).alloc (Nat.le_of_lt hlt) _).trans h3⟩
theorem wtwo_lit (w : World) (gw : Nat) (xs ns : List Int) (vs : List Value) (n : Nat) (hv : vs = ns.map (Value.int .u16)) (hn : ns.length = n) (hs : WS w gw xs) (hx : xs.length + 2 * ns.length ≤ 140737488355328) :
  Calls Tryd.prog 53 #[.pointer (some ⟨gw, 0, none⟩), .slice (some ⟨w.heap.size, 0, none⟩) n n] (w.alloc (.cells vs.toArray 22)) fun e w' => e = .returned (.tuple #[]) ∧ WS w' gw (xs ++ twoL ns) ∧ Fr gw w w' := by
 subst hn
 obtain ⟨u, hg, hR⟩ := hs
 have hlt := blk_lt hg
 have hC : (Kd.int .u16).C (w.alloc (.cells vs.toArray 22)) (some ⟨w.heap.size, 0, none⟩) ns.length ns := row_lit (Kd.int .u16) rfl w _ vs ns (by rw [hv, List.length_map]) (by omega) (fun j v p h1 h2 => by
  rw [hv, List.getElem?_map, h2] at h1
  injection h1 with h1
  subst h1
  rfl)
 refine (wtwo_calls (w.alloc (.cells vs.toArray 22)) gw xs (some ⟨w.heap.size, 0, none⟩) ns.length ns ⟨u, blk_alloc hg _, Kd.R_alloc hR _⟩ (fun W hF => hF.C_lit (by decide) (by decide) (blk_new _ _) hC) hx).mono ?_
 rintro e w' ⟨h1, h2, h3⟩
 exact ⟨h1, h2, ((Fr.refl gw w).alloc (Nat.le_of_lt hlt) _).trans h3⟩
end Go.Proofs.YtdlamomabonkjaaDoor.Ch
end
section
namespace Go.Proofs.YtdlamomabonkjaaDoor.Ch
open Go.RowKit YtdlamomabonkjaaDoorW.PrintWords YtdlamomabonkjaaDoorW.PrintLast Base PCh ParDec ParEnc
def checkT1 : Bool × List (List Nat × List Nat) := (true, [([], []), ([], []), ([1], [1]), ([0, 2, 2], [0, 2]), ([3], [3]), ([4, 3], [4])])
def checkB1 : List Nat := [0, 0, 2, 7, 15, 31]
theorem checktab1 : Go.Proofs.YtdlamomabonkjaaDoorW.PrintLast.rtab .any (Go.Proofs.YtdlamomabonkjaaDoorW.PrintLast.opsOf Tryd.f46 1) = checkT1 := by kernel_rfl
theorem checkbits1 : Go.Proofs.YtdlamomabonkjaaDoorW.PrintLast.waitsOk checkT1.2 checkB1 = true := by kernel_rfl
noncomputable def checkD (x : Chk) : Int :=
 if decide (x = bareD x) = false then 63
 else if x.f0 = 0 ∧ x.f13.length = 0 then 62
 else if (x.f0 = 4 ∨ x.f0 = 5) ∧ beatB x.f14 = false then 61
 else if 4096 < x.f10.length ∨ 4096 < x.f11.length ∨ 4096 < x.f12.length then 3
 else if (encP x.f14).2 ≠ 0 then (encP x.f14).2
 else if 65531 < (valueD x).length then 2 else 0
def ValOk (x : Chk) (L : Lay) : Prop := ∀ W, CR W x L → x = bareD x → x.f10.length ≤ 4096 → x.f11.length ≤ 4096 → x.f12.length ≤ 4096 → (encP x.f14).2 = 0 → Calls Tryd.prog 52 #[.agg (CV x L)] W (ValP (valueD x) W)
theorem isBeat_f (a : Int) : chunk_isBeat.f a = some (decide (a = 4 ∨ a = 5)) := by
 unfold chunk_isBeat.f
 by_cases h4 : a = 4
 ·simp [h4]
 ·by_cases h5 : a = 5
  ·simp [h5]
  ·simp [h4, h5]
theorem isBeat_calls (a : Int) (w : World) : Calls Tryd.prog 72 #[.int .u8 a] w fun e w' => e = .returned (.bool (decide (a = 4 ∨ a = 5))) ∧ Drawn0 w w' := chunk_isBeat.calls a _ w (isBeat_f a)
end Go.Proofs.YtdlamomabonkjaaDoor.Ch
end
section
namespace Go.Proofs.YtdlamomabonkjaaDoor.Ch
open Go.RowKit YtdlamomabonkjaaDoorW.PrintWords YtdlamomabonkjaaDoorW.PrintLast Base PCh ParDec ParEnc
def padL (n : Nat) : List Int := List.replicate ((n + 3) / 4 * 4 - n) 0
noncomputable def chunkL (x : Chk) : List Int := [x.f0, x.f1] ++ twoL [IntKind.u16.wrap (4 + ((valueD x).length : Int))] ++ valueD x ++ padL (valueD x).length
noncomputable def runE : List Int → List Chk → List Int × Int
 | acc, [] => (acc, 0)
 | acc, x :: r => if 65536 < (acc ++ chunkL x).length then ([], 2) else runE (acc ++ chunkL x) r
noncomputable def chkAll : List Chk → Int
 | [] => 0
 | x :: r => if checkD x = 0 then chkAll r else checkD x
noncomputable def encD (xs : List Chk) : List Int × Int := if chkAll xs = 0 then runE [] xs else ([], chkAll xs)
theorem checkD_len {x : Chk} (h : checkD x = 0) : (valueD x).length ≤ 65531 := by
 unfold checkD at h
 split at h
 ·cases h
 ·split at h
  ·cases h
  ·split at h
   ·cases h
   ·split at h
    ·cases h
    ·split at h
     ·contradiction
     ·split at h
      ·cases h
      ·omega
theorem chkAll_mem {xs : List Chk} (h : chkAll xs = 0) {x : Chk} (hx : x ∈ xs) : checkD x = 0 := by
 induction xs with
 | nil => cases hx
 | cons y r ih =>
  unfold chkAll at h
  split at h
  ·rcases List.mem_cons.1 hx with rfl | hx
   ·assumption
   ·exact ih h hx
  ·contradiction
theorem _root_.Go.Proofs.YtdlamomabonkjaaDoor.Base.Only.grown {S : Nat → Prop} {a b c : World} {own : Option Nat} (h : Only S a b) (hG : b.grownBy c own) (hS : ∀ k, k < a.heap.size → own = some k → S k) : Only S a c :=
 ⟨hG.os.trans h.os, hG.tape.trans h.tape, hG.output.trans h.output, Nat.le_trans h.size hG.size, fun k hk hn => (hG.block k (Nat.lt_of_lt_of_le hk h.size) (fun e => hn (hS k hk e.symm))).trans (h.block k hk hn)⟩
theorem chk_at {w : World} {A : Option Addr} {xs : List Chk} (h : Kd.C k41 w A xs.length xs) (i : Nat) (hi : i < xs.length) :
  ∃ ad x L, A = some ad ∧ xs.drop i = x :: xs.drop (i + 1) ∧ x ∈ xs ∧ (∀ j v, (CV x L).toList[j]? = some v → w.cell? ((ad.add (i * 15)).add j) = some v) ∧ CR w x L := by
 obtain ⟨ad, c, e, _, hK, hc0⟩ := Kd.C_get h xs[i] (i : Int) (by omega) (by omega)
 rw [Int.toNat_natCast] at hK hc0
 have e2 : xs.getD i xs[i] = xs[i] := getD_lt _ _ _ hi
 rw [e2] at hK
 obtain ⟨L, rfl, hx⟩ := CR.of_K hK
 refine ⟨ad, xs[i], L, e, List.drop_eq_getElem_cons hi, List.getElem_mem hi, fun j v hv => ?_, hx⟩
 rw [Addr.add_add]
 exact hc0 j v hv
theorem wpList_load_cells {P : Program} {ops : Array Oper} {rest : List Oper} {op : Oper} {a : Act} {w : World} {Q : Exit → Act → World → Prop} (hgd : op.guard = none) (ty : TypeId) (x : Operand) (ho : op.op = .load ty x)
  {ad : Addr} (hx : a.eval x = .pointer (some ad)) (cs : Array Value) (d : TypeDesc) (hc : ∀ j v, cs.toList[j]? = some v → w.cell? (ad.add j) = some v)
  (hu : P.underlying ty = some d) (hd : d.isRow = true) (hi : (P.info? ty).map (·.size) = some cs.size)
  (h : wpList P ops Q rest (a.put op.dst (.agg cs)) w) : wpList P ops Q (op :: rest) a w := by
 have hl : (loadCells ad cs.size).run P w = .ok cs w := run_loadCells_list (P := P) w ad cs.toList hc
 have hv : (loadVar ty ad).run P w = .ok (.agg cs) w := by
  cases hq : P.info? ty with
  | none => simp [hq] at hi
  | some i =>
   have hs : i.size = cs.size := by simpa [hq] using hi
   have hagg : (isAgg ty).run P w = .ok true w := by
    unfold isAgg
    rw [Sem.run_bind, run_underlying hu w]
    cases d <;> simp_all [TypeDesc.isRow]
   simp [loadVar, Sem.run_bind, hagg, sizeOf, typeInfo, hq, hs, hl]
 refine wpList_plain hgd fun _ hK => ?_
 have hK' := hK _ _ h
 unfold Oper.wp execOp
 simp only [ho, hx, Instr.loadAt, Instr.sureAddr, Sem.run_bind, Sem.run_pure, Result.andThen_ok, hv]
 exact hK'
theorem exec_load_cells {P : Program} {o : Oper} {a : Act} {w : World} (ty : TypeId) (x : Operand) (ho : o.op = .load ty x) {ad : Addr} (hx : a.eval x = .pointer (some ad)) (cs : Array Value) (d : TypeDesc) (hc : ∀ j v, cs.toList[j]? = some v → w.cell? (ad.add j) = some v)
  (hu : P.underlying ty = some d) (hd : d.isRow = true) (hi : (P.info? ty).map (·.size) = some cs.size) : (execOp a.eval o).run P w = .ok (.value (.agg cs)) w := by
 have hl : (loadCells ad cs.size).run P w = .ok cs w := run_loadCells_list (P := P) w ad cs.toList hc
 have hv : (loadVar ty ad).run P w = .ok (.agg cs) w := by
  cases hq : P.info? ty with
  | none => simp [hq] at hi
  | some i =>
   have hs : i.size = cs.size := by simpa [hq] using hi
   have hagg : (isAgg ty).run P w = .ok true w := by
    unfold isAgg
    rw [Sem.run_bind, run_underlying hu w]
    cases d <;> simp_all [TypeDesc.isRow]
   simp [loadVar, Sem.run_bind, hagg, sizeOf, typeInfo, hq, hs, hl]
 unfold execOp
 simp only [ho, hx, Instr.loadAt, Instr.sureAddr, Sem.run_bind, Sem.run_pure, Result.andThen_ok, hv]
theorem cells_of_blk {w : World} {g : Nat} {cs : Array Value} {t : TypeId} {fr : Nat × Nat} (h : w.heap[g]? = some (.cells cs t fr)) : ∀ (j : Nat) (v : Value), cs.toList[j]? = some v → w.cell? ((⟨g, 0, none⟩ : Addr).add j) = some v := fun j v hv => by
 rw [Addr.add_lit, Nat.zero_add]
 unfold World.cell?
 simp only [h]
 simpa using hv
theorem CV_one (x : Chk) (L : Lay) : (CV x L).all (·.oneCell') = true := by simp [CV, Value.oneCell']
theorem alloc_chunk {o : Oper} {a : Act} {w : World} (ho : o.op = .alloc 41) : (execOp a.eval o).run Tryd.prog w = .ok (.value (.pointer (some ⟨w.heap.size, 0, none⟩))) (w.alloc (.cells #[.int .u8 0, .int .u8 0, .int .u32 0, .int .u16 0, .int .u16 0, .int .u32 0, .int .u32 0, .int .u32 0, .int .u16 0, .int .u16 0, .slice none 0 0, .slice none 0 0, .slice none 0 0, .slice none 0 0, .slice none 0 0] 41)) := by
 unfold execOp
 simp only [ho]
 go_simp
theorem wpList_box {ops : Array Oper} {rest : List Oper} {o1 o2 : Oper} {a : Act} {w : World} {Q : Exit → Act → World → Prop} (h1 : o1.guard = none) (h2 : o2.guard = none) (n : Tmp) (hd : o1.dst = some n) (ho1 : o1.op = .alloc 41)
  (y : Operand) (ho2 : o2.op = .store 41 (.tmp n) y) (cs : Array Value) (hx : (a.put (some n) (.pointer (some ⟨w.heap.size, 0, none⟩))).eval (.tmp n) = .pointer (some ⟨w.heap.size, 0, none⟩))
  (hy : (a.put (some n) (.pointer (some ⟨w.heap.size, 0, none⟩))).eval y = .agg cs) (hsz : (#[.int .u8 0, .int .u8 0, .int .u32 0, .int .u16 0, .int .u16 0, .int .u32 0, .int .u32 0, .int .u32 0, .int .u16 0, .int .u16 0, .slice none 0 0, .slice none 0 0, .slice none 0 0, .slice none 0 0, .slice none 0 0] : Array Value).size = cs.size) (hi : (Tryd.prog.info? 41).map (·.size) = some cs.size) (hone : cs.all (·.oneCell') = true)
  (h : wpList Tryd.prog ops Q rest ((a.put (some n) (.pointer (some ⟨w.heap.size, 0, none⟩))).put o2.dst undef) (w.alloc (.cells cs 41))) : wpList Tryd.prog ops Q (o1 :: o2 :: rest) a w := by
 have h3 : wpList Tryd.prog ops Q (o2 :: rest) (a.put (some n) (.pointer (some ⟨w.heap.size, 0, none⟩))) (w.alloc (.cells #[.int .u8 0, .int .u8 0, .int .u32 0, .int .u16 0, .int .u16 0, .int .u32 0, .int .u32 0, .int .u32 0, .int .u16 0, .int .u16 0, .slice none 0 0, .slice none 0 0, .slice none 0 0, .slice none 0 0, .slice none 0 0] 41)) := by
  refine wpList_store_row h2 41 (.tmp n) y ho2 w.heap.size cs hx hy 41 #[.int .u8 0, .int .u8 0, .int .u32 0, .int .u16 0, .int .u16 0, .int .u32 0, .int .u32 0, .int .u32 0, .int .u16 0, .int .u16 0, .slice none 0 0, .slice none 0 0, .slice none 0 0, .slice none 0 0, .slice none 0 0] (blk_new _ _) hi hsz hone ?_
  rw [World.setRow_alloc_new]
  exact h
 refine wpList_plain h1 fun _ hK => ?_
 have hK' := hK _ _ h3
 rw [← hd] at hK'
 unfold Oper.wp
 rw [alloc_chunk ho1]
 exact hK'
def WSo (ok : Nat → Prop) (w : World) (gw : Nat) (xs : List Int) : Prop := ∃ u, w.heap[gw]? = some (.cells #[u] 87 (0, 0)) ∧ (Kd.int .u8).R 5 w (gw + 1) ok u xs
theorem C_blk {g n : Nat} {w W : World} {kk : IntKind} {ns : List Int} (hg : W.heap[g]? = w.heap[g]?) (hC : (Kd.int kk).C w (some ⟨g, 0, none⟩) n ns) : (Kd.int kk).C W (some ⟨g, 0, none⟩) n ns := by
 obtain ⟨e1, e2, e3⟩ := hC
 refine ⟨e1, e2, fun hn => ?_⟩
 obtain ⟨ad, e, hc⟩ := e3 hn
 injection e with e
 subst e
 refine ⟨_, rfl, fun j p hj => ?_⟩
 obtain ⟨cs, c1, c2, c3⟩ := hc j p hj
 refine ⟨cs, c1, c2, fun i u hu => ?_⟩
 have := c3 i u hu
 have hb : (Addr.add ⟨g, 0, none⟩ (j * (Kd.int kk).sz + i)).block = g := add_block _ _
 unfold World.cell? at this ⊢
 rw [hb, hg]
 rw [hb] at this
 exact this
set_option maxHeartbeats 2000000 in
theorem wtwo_o (w : World) (gw : Nat) (ok : Nat → Prop) (hok : ∀ k, w.heap.size ≤ k → ok k) (hgo : ¬ ok gw) (xs : List Int) (A : Option Addr) (c : Nat) (ns : List Int) (hs : WSo ok w gw xs) (hA : ∀ W, Only (fun k => k = gw ∨ ok k) w W → (Kd.int .u16).C W A ns.length ns) (hx : xs.length + 2 * ns.length ≤ 140737488355328) :
  Calls Tryd.prog 53 #[.pointer (some ⟨gw, 0, none⟩), .slice A ns.length c] w fun e w' => e = .returned (.tuple #[]) ∧ WSo ok w' gw (xs ++ twoL ns) ∧ Only (fun k => k = gw ∨ ok k) w w' := by
 have HS := Lh hs
 have HA := Lh hA
 have hm := (hA w (Only.refl _ _)).2.1
 have HOK := Lh hok
 have HGO := Lh hgo
 clear hs hA hok hgo
 go_enter Tryd.func53, Tryd.ntmps53
 go_wp2
 go_loopw [5, 8] (fun v5 v8 wr => ∃ (i : Nat) (ys : List Int), i ≤ ns.length ∧ v8 = .int .i64 (i : Int) ∧ Hid (ys.length = xs.length + 2 * i) ∧ Hid (ys ++ twoL (ns.drop i) = xs ++ twoL ns) ∧ Hid (WSo ok wr gw ys) ∧ Hid (Only (fun k => k = gw ∨ ok k) w wr)) (fun _ v8 _ => ns.length - (intOf v8).toNat)
 case atStart => exact ⟨0, xs, Nat.zero_le _, rfl, (by show _ = _; omega), rfl, HS.out, Only.refl _ _⟩
 case round =>
  clear HS
  obtain ⟨i, ys, hi, rfl, HYL, HE, HW, HF⟩ := hrel
  by_cases hlt : i < ns.length
  ·obtain ⟨ad, rfl, x0⟩ := int_at (HA.out wr HF.out) i hlt
   obtain ⟨u, hg, hR⟩ := HW.out
   obtain ⟨Au, cu, rfl⟩ := Kd.R_slice hR
   have hE := HE.out
   have hd : ns.drop i = ns.getD i 0 :: ns.drop (i + 1) := by
    rw [List.drop_eq_getElem_cons hlt]
    congr 1
    simp [List.getD_eq_getElem?_getD, hlt]
   rw [hd, twoL] at hE
   generalize ns.getD i 0 = q at *
   have hE2 : (ys ++ [q / 256 % 256, q % 256]) ++ twoL (ns.drop (i + 1)) = xs ++ twoL ns := by rw [List.append_assoc]; exact hE
   have HE2 := Lh hE2
   have HG := Lh hg
   have HR := Lh hR
   have k0 : wr.cell? ⟨gw, 0, none⟩ = some (.slice Au ys.length cu) := blk_cell hg 0
   have HLT := Lh (blk_lt hg)
   clear hE hE2 hd HE HW hg hR
   go_wp2_with (at_builtin; go_must (refine Kd.R_append_row (Value.int .u8) (0 : Int) (w0 := wr.alloc (.cells #[.int .u8 (q / 256 % 256), .int .u8 (q % 256)] 5)) (W := wr.alloc (.cells #[.int .u8 (q / 256 % 256), .int .u8 (q % 256)] 5)) (gw + 1) rfl _ _ 27 5 _ 1 rfl Tryd.underlying27 info_u8 rfl (by decide) (.slice Au ys.length cu) ys [q / 256 % 256, q % 256] (some ⟨wr.heap.size, 0, none⟩) 2 2 ok rfl rfl (fun k hk => HOK.out k (by have := HF.out.size; simp at hk; omega)) (Kd.R_alloc HR.out _) (row_lit (Kd.int .u8) rfl wr 5 [.int .u8 (q / 256 % 256), .int .u8 (q % 256)] [q / 256 % 256, q % 256] rfl (by simp) (fun j v p hv hp => by rcases j with _ | _ | j <;> simp at hv hp <;> (subst hv; subst hp; rfl))) (Below.refl _ _) (by have := HLT.out; simp; omega) (by have := HYL.out; omega) ?_); (intro v1 w1 hR1 hB1 hG1 _; have HR1 := Lh hR1; have HB1 := Lh hB1; have HGR := Lh hG1; clear hR1 hB1 hG1; refine RowKit.Hid.out ?_))
   refine Lh ?_
   obtain ⟨A7, c7, hv1⟩ := Kd.R_slice HR1.out
   subst hv1
   have hown : (Value.slice Au ys.length cu).ownBlock ≠ some gw := fun e => HGO.out ((Kd.R_alloc HR.out (.cells #[.int .u8 (q / 256 % 256), .int .u8 (q % 256)] 5)).1 _ e)
   have hg1 := blk_grown (blk_alloc HG.out (.cells #[.int .u8 (q / 256 % 256), .int .u8 (q % 256)] 5)) HGR.out (fun e => hown e.symm)
   have hs := blk_cell hg1 0
   have hf := blk_frozen hg1 0
   have HG1 := Lh hg1
   have HF1 := Lh ((HF.out.alloc (.cells #[.int .u8 (q / 256 % 256), .int .u8 (q % 256)] 5)).grown HGR.out (fun k _ e => Or.inr ((Kd.R_alloc HR.out (.cells #[.int .u8 (q / 256 % 256), .int .u8 (q % 256)] 5)).1 _ e)))
   have HR2 := Lh (Kd.R_far HR1.out (p := ⟨gw, 0, none⟩) (fun k hk (e : k = gw) => HGO.out (e ▸ hk)) (.slice A7 (ys ++ [q / 256 % 256, q % 256]).length c7))
   rw [show (ys ++ [q / 256 % 256, q % 256]).length = ys.length + 2 by simp] at HR2
   clear hg1 HGR HB1 HF HR HG k0
   go_wp2
   go_roundw
   case rel => exact ⟨i + 1, ys ++ [q / 256 % 256, q % 256], by omega, by go_num, (by have := HYL.out; show _ = _; simp only [List.length_append, List.length_cons, List.length_nil]; omega), HE2, ⟨_, blk_put HG1.out 0 _ rfl, HR2.out⟩, HF1.out.setCell (fun _ => Or.inl rfl) _⟩
   case measure => simp [intOf]; omega
  ·obtain rfl : i = ns.length := by omega
   have hE := HE.out
   rw [List.drop_length, twoL, List.append_nil] at hE
   have HE2 := Lh hE
   clear hE HE HA
   go_wp2
   go_end0
   exact ⟨rfl, by rw [← HE2.out]; exact HW.out, HF.out⟩
theorem WSo.only {ok : Nat → Prop} {S : Nat → Prop} {w w' : World} {gw : Nat} {xs : List Int} (h : WSo ok w gw xs) (o : Only S w w') (hs : ∀ k, gw ≤ k → k < w.heap.size → ¬ S k) : WSo ok w' gw xs := by
 obtain ⟨u, h1, h2⟩ := h
 exact ⟨u, o.blk h1 (hs gw (Nat.le_refl _) (blk_lt h1)), R_only h2 o (fun k hk => hs k (by omega))⟩
theorem wtwo_lit_o (w : World) (gw : Nat) (ok : Nat → Prop) (hok : ∀ k, w.heap.size ≤ k → ok k) (hgo : ¬ ok gw) (xs ns : List Int) (vs : List Value) (n : Nat) (hv : vs = ns.map (Value.int .u16)) (hn : ns.length = n) (hs : WSo ok w gw xs) (hx : xs.length + 2 * ns.length ≤ 140737488355328) :
  Calls Tryd.prog 53 #[.pointer (some ⟨gw, 0, none⟩), .slice (some ⟨w.heap.size, 0, none⟩) n n] (w.alloc (.cells vs.toArray 22)) fun e w' => e = .returned (.tuple #[]) ∧ WSo ok w' gw (xs ++ twoL ns) ∧ Only (fun k => k = gw ∨ ok k) w w' := by
 subst hn
 obtain ⟨u, hg, hR⟩ := hs
 have hlt := blk_lt hg
 have hC : (Kd.int .u16).C (w.alloc (.cells vs.toArray 22)) (some ⟨w.heap.size, 0, none⟩) ns.length ns := row_lit (Kd.int .u16) rfl w _ vs ns (by rw [hv, List.length_map]) (by omega) (fun j v p h1 h2 => by
  rw [hv, List.getElem?_map, h2] at h1
  injection h1 with h1
  subst h1
  rfl)
 have hR' : (Kd.int .u8).R 5 (w.alloc (.cells vs.toArray 22)) (gw + 1) (fun k => ok k ∧ k ≠ w.heap.size) u xs := Kd.R_alloc (Kd.R_mono (Kd.R_bound hR) (fun k hk => ⟨hk.1, by have := hk.2.2.1; omega⟩)) _
 have hsz : (w.alloc (.cells vs.toArray 22)).heap.size = w.heap.size + 1 := by simp
 refine (wtwo_o (w.alloc (.cells vs.toArray 22)) gw (fun k => ok k ∧ k ≠ w.heap.size) (fun k hk => ⟨hok k (by omega), by omega⟩) (fun h => hgo h.1) xs (some ⟨w.heap.size, 0, none⟩) ns.length ns ⟨u, blk_alloc hg _, hR'⟩ (fun W hO => ?_) hx).mono ?_
 ·exact C_blk (hO.block _ (by omega) (fun h => h.elim (fun h => absurd h (by omega)) (fun h => h.2 rfl))) hC
 ·rintro e w' ⟨h1, ⟨u', h2, h3⟩, h4⟩
  exact ⟨h1, ⟨u', h2, Kd.R_mono h3 (fun k hk => hk.1)⟩, ((Only.refl _ w).alloc _).trans h4 (fun k _ h => h.elim Or.inl (fun h => Or.inr h.1))⟩
end Go.Proofs.YtdlamomabonkjaaDoor.Ch
end
section
namespace Go.Proofs.YtdlamomabonkjaaDoor.Ch
open Go.RowKit YtdlamomabonkjaaDoorW.PrintWords YtdlamomabonkjaaDoorW.PrintLast Base PCh ParDec ParEnc
def encAT13 : Bool × List (List Nat × List Nat) := (true, [([], []), ([], []), ([1], [1]), ([2], [2]), ([3], [3]), ([], []), ([5], [5]), ([], []), ([7], [7]), ([6, 8], [6, 8]), ([4, 9], [4, 9]), ([0, 0, 1, 2, 3, 4, 5, 6, 7, 8, 9, 10], [0]), ([11, 0, 1, 2, 3, 4, 5, 6, 7, 8, 9, 10], [11]), ([12, 10, 10, 0, 1, 2, 3, 4, 5, 6, 7, 8, 9, 10], [10, 12])])
def encAB13 : List Nat := [0, 0, 2, 6, 14, 0, 32, 0, 128, 480, 1022, 2047, 4095, 8191]
theorem encAtab13 : Go.Proofs.YtdlamomabonkjaaDoorW.PrintLast.rtab .any (Go.Proofs.YtdlamomabonkjaaDoorW.PrintLast.opsOf Tryd.f28 13) = encAT13 := by kernel_rfl
theorem encAbits13 : Go.Proofs.YtdlamomabonkjaaDoorW.PrintLast.waitsOk encAT13.2 encAB13 = true := by kernel_rfl
def encBT16 : Bool × List (List Nat × List Nat) := (true, [([], []), ([], []), ([1], [1]), ([2], [2]), ([3], [3]), ([], []), ([5], [5]), ([6], [6]), ([], []), ([8], [8]), ([7, 9], [7, 9]), ([4, 10, 7], [4, 10]), ([0, 0, 1, 2, 3, 4, 5, 6, 7, 8, 9, 10, 11], [0]), ([12, 0, 1, 2, 3, 4, 5, 6, 7, 8, 9, 10, 11], [12]), ([13, 11, 11, 0, 1, 2, 3, 4, 5, 6, 7, 8, 9, 10, 11], [11, 13])])
def encBB16 : List Nat := [0, 0, 2, 6, 14, 0, 32, 96, 0, 256, 992, 2046, 4095, 8191, 16383]
theorem encBtab16 : Go.Proofs.YtdlamomabonkjaaDoorW.PrintLast.rtab .any (Go.Proofs.YtdlamomabonkjaaDoorW.PrintLast.opsOf Tryd.f28 16) = encBT16 := by kernel_rfl
theorem encBbits16 : Go.Proofs.YtdlamomabonkjaaDoorW.PrintLast.waitsOk encBT16.2 encBB16 = true := by kernel_rfl
set_option maxHeartbeats 4000000 in
theorem encode_chunks (w : World) (A : Option Addr) (c : Nat) (l : List Chk) (hl : Kd.C k41 w A l.length l)
  (hck : ∀ x ∈ l, ∀ W L, CR W x L → Calls Tryd.prog 46 #[.agg (CV x L)] W fun e w' => e = .returned (.int .i64 (checkD x)) ∧ Below W.heap.size W w')
  (hval : ∀ x ∈ l, checkD x = 0 → ∀ W L, w.heap.size ≤ W.heap.size → (∀ W', Below w.heap.size W W' → CR W' x L) → Calls Tryd.prog 52 #[.agg (CV x L)] W (ValQ w.heap.size (valueD x) W)) :
  Calls Tryd.prog 28 #[.slice A l.length c] w fun e w' => ∃ v, e = .returned (.tuple #[v, .int .i64 (encD l).2]) ∧ (Kd.int .u8).R 5 w' w.heap.size (fun _ => True) v (encD l).1 ∧ Below w.heap.size w w' := by
 have HLC := Lh (fun (W : World) (h : Below w.heap.size w W) => Kd.C_below hl h)
 have HCK := Lh hck
 have HVAL := Lh hval
 have HMX := Lh hl.2.1
 obtain ⟨E, hE⟩ : ∃ E, encD l = E := ⟨_, rfl⟩
 rw [hE]
 have HE := Lh hE
 clear hl hck hval hE
 go_enter Tryd.func28, Tryd.ntmps28
 have hm := HMX.out
 go_wp2
 go_loopw [13] (fun v13 wr => ∃ (i : Nat), i ≤ l.length ∧ v13 = .int .i64 (i : Int) ∧ Hid (chkAll (l.drop i) = chkAll l) ∧ Hid (Below w.heap.size w wr)) (fun v13 _ => l.length - (intOf v13).toNat)
 case atStart => exact ⟨0, Nat.zero_le _, rfl, rfl, Below.refl _ _⟩
 case round =>
  obtain ⟨i, hi, rfl, HA, HB⟩ := hrel
  by_cases hlt : i < l.length
  ·obtain ⟨ad, x, L, rfl, hd, hxm, hcell, hx⟩ := chk_at (HLC.out wr HB.out) i hlt
   have hA := HA.out
   rw [hd, chkAll] at hA
   have HCX := Lh (HCK.out x hxm (wr.alloc (.cells (CV x L) 41)) L (hx.below (below_alloc (Below.refl _ _) _)))
   have HCL := Lh hcell
   have HXS := Lh (show (Tryd.prog.info? 41).map (·.size) = some (CV x L).size by kernel_rfl)
   have HXZ := Lh (show (#[.int .u8 0, .int .u8 0, .int .u32 0, .int .u16 0, .int .u16 0, .int .u32 0, .int .u32 0, .int .u32 0, .int .u16 0, .int .u16 0, .slice none 0 0, .slice none 0 0, .slice none 0 0, .slice none 0 0, .slice none 0 0] : Array Value).size = (CV x L).size from rfl)
   have HXO := Lh (CV_one x L)
   clear hcell hd hxm
   generalize checkD x = q at *
   generalize CV x L = CX at *
   clear hx HA
   have HA2 := Lh hA
   clear hA
   go_wp2_with (first | (with_reducible refine gate_dst (N := 16) rfl ?_; go_must (refine wpList_load_cells rfl 41 (.tmp 15) rfl rfl CX _ (fun j v hv => HCL.out j v hv) Tryd.underlying41 rfl HXS.out ?_)) | (with_reducible refine gate_dst (N := 5) rfl ?_; go_must (refine wpList_box rfl rfl 5 rfl rfl (.tmp 16) rfl CX rfl rfl HXZ.out HXS.out HXO.out ?_)) | (with_reducible refine gate_dst (N := 17) rfl ?_; go_must (refine wpList_load_cells rfl 41 (.tmp 5) rfl rfl CX _ (cells_of_blk (blk_new wr (.cells CX 41))) Tryd.underlying41 rfl HXS.out ?_)))
   refine HCX.out.mono ?_
   rintro e w1 ⟨rfl, hB1⟩
   have HB2 := Lh (below_then HB.out (by have := HB.out.size; exact this) (below_then (below_alloc (Below.refl wr.heap.size wr) (.cells CX 41)) (by simp) hB1))
   clear hB1 HB HCL
   by_cases hq : q = 0
   ·subst hq
    have hA := HA2.out
    rw [if_pos rfl] at hA
    have HA := Lh hA
    clear hA HA2
    go_wp2
    go_roundw
    case rel => exact ⟨i + 1, by omega, by go_num, HA, HB2⟩
    case measure => simp [intOf]; omega
   ·have hA := HA2.out
    rw [if_neg hq] at hA
    have HA := Lh hA
    clear hA HA2
    go_wp2
    go_ret2
    have hE : encD l = ([], q) := by unfold encD; rw [← HA.out, if_neg hq]
    rw [← HE.out, hE]
    exact ⟨_, rfl, Kd.R_nil _ _ _ _ _, HB2.out⟩
  ·obtain rfl : i = l.length := by omega
   have hA := HA.out
   rw [List.drop_length, chkAll] at hA
   have HAL := Lh hA.symm
   have HRE := Lh (show runE [] l = E by have := HE.out; unfold encD at this; rw [if_pos hA.symm] at this; exact this)
   clear hA HA HCK HE
   go_wp2
   have HW0 := Lh (show WS (wr.alloc (.cells #[.slice none 0 0] 87)) wr.heap.size [] from ⟨_, blk_new _ _, Kd.R_nil _ _ _ _ _⟩)
   have HBW := Lh (below_alloc HB.out (.cells #[.slice none 0 0] 87))
   have HGW := Lh (show w.heap.size ≤ wr.heap.size from HB.out.size)
   clear HB
   generalize wr.alloc (.cells #[.slice none 0 0] 87) = W0 at *
   generalize wr.heap.size = gw at *
   go_loopw [27] (fun v27 wr => ∃ (i : Nat) (acc : List Int), i ≤ l.length ∧ v27 = .int .i64 (i : Int) ∧ Hid (runE acc (l.drop i) = E) ∧ Hid (acc.length ≤ 65536) ∧ Hid (WS wr gw acc) ∧ Hid (Below w.heap.size w wr)) (fun v27 _ => l.length - (intOf v27).toNat)
   case atStart => exact ⟨0, [], Nat.zero_le _, rfl, HRE.out, (by show _ ≤ _; simp), HW0.out, HBW.out⟩
   case round =>
    obtain ⟨i, acc, hi, rfl, HA, HLA, HW, HB⟩ := hrel
    by_cases hlt : i < l.length
    ·obtain ⟨ad, x, L, rfl, hd, hxm, hcell, hx⟩ := chk_at (HLC.out w (Below.refl _ _)) i hlt
     have hA := HA.out
     rw [hd, runE, chunkL] at hA
     have hc0 := chkAll_mem HAL.out hxm
     have hvl := checkD_len hc0
     have HCL := Lh (fun j v hv => pw_cell_below HB.out (hcell j v hv))
     have HV := Lh (HVAL.out x hxm hc0 (wr.alloc (.cells (CV x L) 41)) L (by have := HB.out.size; rw [World.size_alloc]; omega) (fun W' h => hx.below ((below_alloc HB.out _).trans h)))
     have HXS := Lh (show (Tryd.prog.info? 41).map (·.size) = some (CV x L).size by kernel_rfl)
     have HXZ := Lh (show (#[.int .u8 0, .int .u8 0, .int .u32 0, .int .u16 0, .int .u16 0, .int .u32 0, .int .u32 0, .int .u32 0, .int .u16 0, .int .u16 0, .slice none 0 0, .slice none 0 0, .slice none 0 0, .slice none 0 0, .slice none 0 0] : Array Value).size = (CV x L).size from rfl)
     have HXO := Lh (CV_one x L)
     have HY0 := Lh (show (CV x L)[0]? = some (.int .u8 x.f0) from rfl)
     have HY1 := Lh (show (CV x L)[1]? = some (.int .u8 x.f1) from rfl)
     clear hcell hd hxm hx hc0 HA HAL HRE HW0 HBW HLC HVAL
     generalize CV x L = CX at *
     generalize valueD x = v at *
     generalize x.f0 = a0 at *
     generalize x.f1 = a1 at *
     obtain ⟨pad, hpad⟩ : ∃ m : Nat, (v.length + 3) / 4 * 4 - v.length = m := ⟨_, rfl⟩
     unfold padL at hA
     rw [hpad] at hA
     simp only [← List.append_assoc] at hA
     have HPL := Lh (show pad ≤ 3 by omega)
     have HSUB := Lh (show wrap64 ((((v.length + 3) / 4 * 4 : Nat) : Int) - (v.length : Int)) = ((pad : Nat) : Int) by unfold wrap64; omega)
     have HPD := Lh (fun W : World => padded_calls v.length (by omega) W)
     have HVL := Lh hvl
     have HA2 := Lh hA
     clear hA hpad hvl
     obtain ⟨n, hn⟩ : ∃ n, v.length = n := ⟨_, rfl⟩
     rw [hn] at HSUB HPD HVL HA2
     have HNV := Lh hn
     clear hn
     generalize hpn : (n + 3) / 4 * 4 = pn at *
     clear hpn
     go_wp2_with (first | (with_reducible refine gate_dst (N := 30) rfl ?_; go_must (refine wpList_load_cells rfl 41 (.tmp 29) rfl rfl CX _ (fun j v hv => HCL.out j v hv) Tryd.underlying41 rfl HXS.out ?_)) | (with_reducible refine gate_dst (N := 9) rfl ?_; go_must (refine wpList_box rfl rfl 9 rfl rfl (.tmp 30) rfl CX rfl rfl HXZ.out HXS.out HXO.out ?_)) | (with_reducible refine gate_dst (N := 31) rfl ?_; go_must (refine wpList_load_cells rfl 41 (.tmp 9) rfl rfl CX _ (cells_of_blk (blk_new wr (.cells CX 41))) Tryd.underlying41 rfl HXS.out ?_)))
     refine HV.out.mono ?_
     rintro e W ⟨Av, cv, rfl, hvc, hVC, hB1⟩
     obtain ⟨u, hg, hR⟩ := HW.out
     obtain ⟨Au, cu, rfl⟩ := Kd.R_slice hR
     have hgx := blk_lt hg
     have hsz : (wr.alloc (.cells CX 41)).heap.size = wr.heap.size + 1 := by simp
     have hWz := hB1.size
     rw [hsz] at hWz
     obtain ⟨okW, hokW⟩ : ∃ f : Nat → Prop, ∀ k, f k ↔ (gw < k ∧ (k < wr.heap.size ∨ W.heap.size ≤ k)) := ⟨fun k => gw < k ∧ (k < wr.heap.size ∨ W.heap.size ≤ k), fun k => Iff.rfl⟩
     have HC := Lh (blk_below (blk_alloc hg (.cells CX 41)) hB1)
     have HR := Lh (show (Kd.int .u8).R 5 W (gw + 1) okW (.slice Au acc.length cu) acc from R_only (Kd.R_alloc (Kd.R_mono (Kd.R_bound hR) (fun k hk => (hokW k).2 ⟨by have := hk.2.1; omega, Or.inl hk.2.2.1⟩)) _) (Only.of_below (S := fun _ => False) hB1) (fun _ _ _ h => h))
     have HXB := Lh (blk_below (blk_new wr (.cells CX 41)) hB1)
     have HNX := Lh (show ¬ (wr.heap.size = gw ∨ okW wr.heap.size) from fun h => h.elim (fun h => by omega) (fun h => by have := (hokW _).1 h; omega))
     have HOK := Lh (show ∀ k, W.heap.size ≤ k → okW k from fun k hk => (hokW k).2 ⟨by omega, Or.inr hk⟩)
     have HGO := Lh (show ¬ okW gw from fun h => by have := (hokW _).1 h; omega)
     have HVC := Lh (show ∀ W', Only (fun k => k = gw ∨ okW k) W W' → (Kd.int .u8).C W' Av n v from fun W' hO => by
      rw [← HNV.out]
      exact hVC W' (hO.mono (fun k hk h => by
       rw [hsz]
       have := HGW.out
       rcases h with rfl | h
       ·omega
       ·have h2 := (hokW k).1 h
        omega)))
     have HBW := Lh ((below_alloc HB.out (.cells CX 41)).trans (hB1.mono (by have := HB.out.size; omega)))
     have HBO := Lh (show ∀ k, (k = gw ∨ okW k) → w.heap.size ≤ k from fun k h => by
      have := HGW.out
      rcases h with rfl | h
      ·omega
      ·have h2 := (hokW k).1 h
       omega)
     have HXL := Lh (show acc.length ≤ 65536 from HLA.out)
     rw [HNV.out]
     clear hokW hVC hB1 hWz hsz hgx hg hR HW HB HV HCL HLA hvc HXS HXZ HXO
     generalize wr.heap.size = gx at *
     generalize acc = xs at *
     clear wr
     go_upto_region 13 with (fail)
     have B := True.intro
     have C := True.intro
     have R := True.intro
     have D := True.intro
     refine start_ (n := 14) (S := fun w' => True) (ds := []) #[false, false, false, false, false, false, false, false, false, false, false, false, false, false] (by kernel_rfl) rfl rfl trivial (fun hHeld => ?_)
     refine with_tabW encAtab13 encAbits13 (fun HT_ HW_ => ?_)
     refine pu 0 33 ?_ rfl rfl (any_of HT_.out (by kernel_rfl)) (fun _ _ _ h => h) (by rfl) ?_ ?_ ?_ ?_
     rotate_left
     ·intro w'
      go_simp
      with_reducible rfl
     rotate_left
     ·simp only [sL]
      rfl
     refine pu 1 34 ?_ rfl rfl (any_of HT_.out (by kernel_rfl)) (fun _ _ _ h => h) (by rfl) ?_ ?_ ?_ ?_
     rotate_left
     ·intro w'
      go_simp
      with_reducible rfl
     rotate_left
     ·simp only [sL]
      rfl
     refine inv_at [2, 3, 4, 5, 6, 7, 8, 9, 10, 11, 12, 13] (fun a0_ b a w' => ∃ (g9 : Nat) (v9 : Value) (m9_ : Value), a = putSel a0_ b [(2, 35, .pointer (some ⟨gw, 0, none⟩)), (3, 36, .pointer (some ⟨gw, 0, none⟩)), (4, 37, .slice Au xs.length cu), (5, 38, .pointer (some ⟨gx, 0, none⟩)), (6, 39, .int .u8 a0), (7, 40, .pointer (some ⟨gx, 1, none⟩)), (8, 41, .int .u8 a1), (9, 42, m9_), (10, 43, v9), (11, 44, .pointer (some ⟨gw, 0, none⟩)), (12, 45, .pointer (some ⟨gw, 0, none⟩))] ∧ (b 10 = false → Only (fun k => k = gw ∨ okW k) W w') ∧ (b 10 = false → w'.heap[gw]? = some (.cells #[.slice Au xs.length cu] 87 (0, 0))) ∧ (b 10 = false → (Kd.int .u8).R 5 w' (gw + 1) okW (.slice Au xs.length cu) (xs)) ∧ (b 9 = true → b 10 = false → (Kd.int .u8).C w' (some ⟨g9, 0, none⟩) 2 [a0, a1]) ∧ (b 10 = true → b 13 = false → (Kd.int .u8).R 5 w' (gw + 1) okW (v9) (xs ++ [a0, a1]) ∧ w'.heap[gw]? = some (.cells #[.slice Au xs.length cu] 87 (0, 0)) ∧ Only (fun k => k = gw ∨ okW k) W w') ∧ (b 13 = true → ∃ u, w'.heap[gw]? = some (.cells #[u] 87 (0, 0)) ∧ (Kd.int .u8).R 5 w' (gw + 1) okW (u) (xs ++ [a0, a1]) ∧ Only (fun k => k = gw ∨ okW k) W w') ∧ (b 9 = true → (m9_ : Value) = .slice (some ⟨g9, 0, none⟩) 2 2)) HT_.out HW_.out (by kernel_rfl) (by kernel_rfl) ?_ ?_ ?_
     ·exact ⟨0, .bool false, .bool false, by simp only [putSel, Bool.false_eq_true, if_false], fun _ => (Only.refl _ _).drewN 1, fun _ => HC.out, fun _ => HR.out, fun h_ => absurd h_ (by decide), fun h_ => absurd h_ (by decide), fun h_ => absurd h_ (by decide), fun h_ => absurd h_ (by decide)⟩
     ·skip
      clear B C R
      refine sc rfl ?_ ?_
      ·rintro b a w' ⟨g9, v9, m9_, ha, Q_B, Q_C, Q_R, Q_D, Q_S1, Q_S2, Q_X9_⟩ hb_ hon hoff K hK
       have e34 : a.tmps[34]? = some (.pointer (some ⟨gw, 0, none⟩)) := by rw [ha]; exact (putSel_off rfl).trans rfl
       replace ha := Am ha
       refine value_ (w1 := w') (v := .pointer (some ⟨gw, 0, none⟩)) (by rfl) rfl ?_ ?_
       ·go_simp
        (try simp only [i64_w])
        try rfl
       refine hK.out _ _ ⟨g9, v9, m9_, (puk ha 0 hb_ rfl rfl rfl), Q_B, Q_C, Q_R, Q_D, fun h0_ _ => hof (hoff 10 (by kernel_rfl)) h0_, fun h0_ => hof (hoff 13 (by kernel_rfl)) h0_, Q_X9_⟩
      refine sc rfl ?_ ?_
      ·rintro b a w' ⟨g9, v9, m9_, ha, Q_B, Q_C, Q_R, Q_D, Q_S1, Q_S2, Q_X9_⟩ hb_ hon hoff K hK
       have e35 := psn ha 0 rfl rfl (hon 2 (by kernel_rfl)) rfl
       replace ha := Am ha
       refine value_ (w1 := w') (v := .pointer (some ⟨gw, 0, none⟩)) (by rfl) rfl ?_ ?_
       ·go_simp
        (try simp only [i64_w])
        try rfl
       refine hK.out _ _ ⟨g9, v9, m9_, (puk ha 1 hb_ rfl rfl rfl), Q_B, Q_C, Q_R, Q_D, fun h0_ _ => hof (hoff 10 (by kernel_rfl)) h0_, fun h0_ => hof (hoff 13 (by kernel_rfl)) h0_, Q_X9_⟩
      refine sc rfl ?_ ?_
      ·rintro b a w' ⟨g9, v9, m9_, ha, Q_B, Q_C, Q_R, Q_D, Q_S1, Q_S2, Q_X9_⟩ hb_ hon hoff K hK
       have e36 := psn ha 1 rfl rfl (hon 3 (by kernel_rfl)) rfl
       replace ha := Am ha
       have C := Am (Q_C (hoff 10 (by kernel_rfl)))
       have hs := blk_cell C.out 0
       refine value_ (w1 := w') (v := .slice Au xs.length cu) (by rfl) rfl ?_ ?_
       ·go_simp
        (try simp only [i64_w])
        try rfl
       refine hK.out _ _ ⟨g9, v9, m9_, (puk ha 2 hb_ rfl rfl rfl), Q_B, Q_C, Q_R, Q_D, fun h0_ _ => hof (hoff 10 (by kernel_rfl)) h0_, fun h0_ => hof (hoff 13 (by kernel_rfl)) h0_, Q_X9_⟩
      refine sc rfl ?_ ?_
      ·rintro b a w' ⟨g9, v9, m9_, ha, Q_B, Q_C, Q_R, Q_D, Q_S1, Q_S2, Q_X9_⟩ hb_ hon hoff K hK
       have e9 : a.tmps[9]? = some (.pointer (some ⟨gx, 0, none⟩)) := by rw [ha]; exact (putSel_off rfl).trans rfl
       replace ha := Am ha
       refine value_ (w1 := w') (v := .pointer (some ⟨gx, 0, none⟩)) (by rfl) rfl ?_ ?_
       ·go_simp
        (try simp only [i64_w])
        try rfl
       refine hK.out _ _ ⟨g9, v9, m9_, (puk ha 3 hb_ rfl rfl rfl), Q_B, Q_C, Q_R, fun h0_ _ => hof (hoff 9 (by kernel_rfl)) h0_, fun h0_ _ => hof (hoff 10 (by kernel_rfl)) h0_, fun h0_ => hof (hoff 13 (by kernel_rfl)) h0_, fun h0_ => hof (hoff 9 (by kernel_rfl)) h0_⟩
      refine sc rfl ?_ ?_
      ·rintro b a w' ⟨g9, v9, m9_, ha, Q_B, Q_C, Q_R, Q_D, Q_S1, Q_S2, Q_X9_⟩ hb_ hon hoff K hK
       have e38 := psn ha 3 rfl rfl (hon 5 (by kernel_rfl)) rfl
       replace ha := Am ha
       have B := Am (Q_B (hoff 10 (by kernel_rfl)))
       have hs : w'.cell? ⟨gx, 0, none⟩ = some (.int .u8 a0) := (blk_cell (B.out.blk HXB.out HNX.out) 0).trans HY0.out
       refine value_ (w1 := w') (v := .int .u8 a0) (by rfl) rfl ?_ ?_
       ·go_simp
        (try simp only [i64_w])
        try rfl
       refine hK.out _ _ ⟨g9, v9, m9_, (puk ha 4 hb_ rfl rfl rfl), Q_B, Q_C, Q_R, fun h0_ _ => hof (hoff 9 (by kernel_rfl)) h0_, fun h0_ _ => hof (hoff 10 (by kernel_rfl)) h0_, fun h0_ => hof (hoff 13 (by kernel_rfl)) h0_, fun h0_ => hof (hoff 9 (by kernel_rfl)) h0_⟩
      refine sc rfl ?_ ?_
      ·rintro b a w' ⟨g9, v9, m9_, ha, Q_B, Q_C, Q_R, Q_D, Q_S1, Q_S2, Q_X9_⟩ hb_ hon hoff K hK
       have e9 : a.tmps[9]? = some (.pointer (some ⟨gx, 0, none⟩)) := by rw [ha]; exact (putSel_off rfl).trans rfl
       replace ha := Am ha
       refine value_ (w1 := w') (v := .pointer (some ⟨gx, 1, none⟩)) (by rfl) rfl ?_ ?_
       ·go_simp
        (try simp only [i64_w])
        try rfl
       refine hK.out _ _ ⟨g9, v9, m9_, (puk ha 5 hb_ rfl rfl rfl), Q_B, Q_C, Q_R, fun h0_ _ => hof (hoff 9 (by kernel_rfl)) h0_, fun h0_ _ => hof (hoff 10 (by kernel_rfl)) h0_, fun h0_ => hof (hoff 13 (by kernel_rfl)) h0_, fun h0_ => hof (hoff 9 (by kernel_rfl)) h0_⟩
      refine sc rfl ?_ ?_
      ·rintro b a w' ⟨g9, v9, m9_, ha, Q_B, Q_C, Q_R, Q_D, Q_S1, Q_S2, Q_X9_⟩ hb_ hon hoff K hK
       have e40 := psn ha 5 rfl rfl (hon 7 (by kernel_rfl)) rfl
       replace ha := Am ha
       have B := Am (Q_B (hoff 10 (by kernel_rfl)))
       have hs : w'.cell? ⟨gx, 1, none⟩ = some (.int .u8 a1) := (blk_cell (B.out.blk HXB.out HNX.out) 1).trans HY1.out
       refine value_ (w1 := w') (v := .int .u8 a1) (by rfl) rfl ?_ ?_
       ·go_simp
        (try simp only [i64_w])
        try rfl
       refine hK.out _ _ ⟨g9, v9, m9_, (puk ha 6 hb_ rfl rfl rfl), Q_B, Q_C, Q_R, fun h0_ _ => hof (hoff 9 (by kernel_rfl)) h0_, fun h0_ _ => hof (hoff 10 (by kernel_rfl)) h0_, fun h0_ => hof (hoff 13 (by kernel_rfl)) h0_, fun h0_ => hof (hoff 9 (by kernel_rfl)) h0_⟩
      refine sc rfl ?_ ?_
      ·rintro b a w' ⟨g9, v9, m9_, ha, Q_B, Q_C, Q_R, Q_D, Q_S1, Q_S2, Q_X9_⟩ hb_ hon hoff K hK
       have e39 := psn ha 4 rfl rfl (hon 6 (by kernel_rfl)) rfl
       have e41 := psn ha 6 rfl rfl (hon 8 (by kernel_rfl)) rfl
       replace ha := Am ha
       have B := Am (Q_B (hoff 10 (by kernel_rfl)))
       have C := Am (Q_C (hoff 10 (by kernel_rfl)))
       have R := Am (Q_R (hoff 10 (by kernel_rfl)))
       refine value_ (w1 := w'.alloc (.cells #[.int .u8 a0, .int .u8 a1] 5)) (v := .slice (some ⟨w'.heap.size, 0, none⟩) 2 2) (by rfl) rfl (by go_simp; try rfl) ?_
       refine hK.out _ _ ⟨w'.heap.size, v9, (.slice (some ⟨w'.heap.size, 0, none⟩) 2 2), (puk ha 7 hb_ rfl rfl rfl), fun _ => B.out.alloc _, fun _ => blk_alloc C.out _, fun _ => Kd.R_alloc R.out _, fun _ _ => (by have := blk_lt C.out; exact row_lit (Kd.int .u8) rfl w' 5 [.int .u8 a0, .int .u8 a1] [a0, a1] rfl (by simp) (fun j v p hv hp => by rcases j with _ | _ | j <;> simp at hv hp <;> (subst hv; subst hp; rfl))), fun h0_ _ => hof (hoff 10 (by kernel_rfl)) h0_, fun h0_ => hof (hoff 13 (by kernel_rfl)) h0_, fun _ => rfl⟩
      refine sc rfl ?_ ?_
      ·rintro b a w' ⟨g9, v9, m9_, ha, Q_B, Q_C, Q_R, Q_D, Q_S1, Q_S2, Q_X9_⟩ hb_ hon hoff K hK
       have e37 := psn ha 2 rfl rfl (hon 4 (by kernel_rfl)) rfl
       have e42 := psn ha 7 rfl rfl (hon 9 (by kernel_rfl)) rfl
       rw [Q_X9_ (hon 9 (by kernel_rfl))] at e42
       replace ha := Am ha
       have B := Am (Q_B hb_)
       have C := Am (Q_C hb_)
       have R := Am (Q_R hb_)
       have D := Am (Q_D (hon 9 (by kernel_rfl)) hb_)
       refine Kd.R_append_rows_step (Kd.int .u8) (Rr := (Kd.int .u8).K w') (w0 := w') (W := w') (gw + 1) (by rfl) _ _ 27 5 _ 1 rfl Tryd.underlying27 info_u8 rfl (by decide) (by decide) (.slice Au xs.length cu) xs [a0, a1] (some ⟨g9, 0, none⟩) 2 2 okW (fun _ => False) (by simp [Act.eval, Array.getD_eq_getD_getElem?, e37]) (by simp [Act.eval, Array.getD_eq_getD_getElem?, e42]) R.out (D.out) (fun _ _ h => h) (fun _ h => h.elim) (fun k hk => HOK.out k (by have := B.out.size; omega)) (Below.refl _ _) (by have := blk_lt C.out; omega) (by have := HXL.out; simp; omega) ?_
       intro v1 w1 hR1 hB1 hG1 _
       refine hK.out _ _ ⟨g9, v1, m9_, (puk ha 8 hb_ rfl rfl rfl), fun h0_ => absurd ((up_self b 10).symm.trans h0_) (by decide), fun h0_ => absurd ((up_self b 10).symm.trans h0_) (by decide), fun h0_ => absurd ((up_self b 10).symm.trans h0_) (by decide), fun _ h1_ => absurd ((up_self b 10).symm.trans h1_) (by decide), fun _ _ => ⟨hR1, blk_grown C.out hG1 (fun e => HGO.out (R.out.1 _ e.symm)), B.out.grown hG1 (fun k _ e => Or.inr (R.out.1 k e))⟩, fun h0_ => hof (hoff 13 (by kernel_rfl)) h0_, Q_X9_⟩
      refine sc rfl ?_ ?_
      ·rintro b a w' ⟨g9, v9, m9_, ha, Q_B, Q_C, Q_R, Q_D, Q_S1, Q_S2, Q_X9_⟩ hb_ hon hoff K hK
       have e33 : a.tmps[33]? = some (.pointer (some ⟨gw, 0, none⟩)) := by rw [ha]; exact (putSel_off rfl).trans rfl
       replace ha := Am ha
       refine value_ (w1 := w') (v := .pointer (some ⟨gw, 0, none⟩)) (by rfl) rfl ?_ ?_
       ·go_simp
        (try simp only [i64_w])
        try rfl
       refine hK.out _ _ ⟨g9, v9, m9_, (puk ha 9 hb_ rfl rfl rfl), fun h0_ => absurd ((hon 10 (by kernel_rfl)).symm.trans h0_) (by decide), fun h0_ => absurd ((hon 10 (by kernel_rfl)).symm.trans h0_) (by decide), fun h0_ => absurd ((hon 10 (by kernel_rfl)).symm.trans h0_) (by decide), fun _ h1_ => absurd ((hon 10 (by kernel_rfl)).symm.trans h1_) (by decide), Q_S1, fun h0_ => hof (hoff 13 (by kernel_rfl)) h0_, Q_X9_⟩
      refine sc rfl ?_ ?_
      ·rintro b a w' ⟨g9, v9, m9_, ha, Q_B, Q_C, Q_R, Q_D, Q_S1, Q_S2, Q_X9_⟩ hb_ hon hoff K hK
       have e44 := psn ha 9 rfl rfl (hon 11 (by kernel_rfl)) rfl
       replace ha := Am ha
       refine value_ (w1 := w') (v := .pointer (some ⟨gw, 0, none⟩)) (by rfl) rfl ?_ ?_
       ·go_simp
        (try simp only [i64_w])
        try rfl
       refine hK.out _ _ ⟨g9, v9, m9_, (puk ha 10 hb_ rfl rfl rfl), fun h0_ => absurd ((hon 10 (by kernel_rfl)).symm.trans h0_) (by decide), fun h0_ => absurd ((hon 10 (by kernel_rfl)).symm.trans h0_) (by decide), fun h0_ => absurd ((hon 10 (by kernel_rfl)).symm.trans h0_) (by decide), fun _ h1_ => absurd ((hon 10 (by kernel_rfl)).symm.trans h1_) (by decide), Q_S1, fun h0_ => hof (hoff 13 (by kernel_rfl)) h0_, Q_X9_⟩
      refine sc rfl ?_ ?_
      ·rintro b a w' ⟨g9, v9, m9_, ha, Q_B, Q_C, Q_R, Q_D, Q_S1, Q_S2, Q_X9_⟩ hb_ hon hoff K hK
       have e45 := psn ha 10 rfl rfl (hon 12 (by kernel_rfl)) rfl
       have e43 := psn ha 8 rfl rfl (hon 10 (by kernel_rfl)) rfl
       replace ha := Am ha
       have S1 := Am (Q_S1 (hon 10 (by kernel_rfl)) hb_)
       obtain ⟨hR1, hC1, hF1⟩ := S1.out
       obtain ⟨A8, c8, hv9⟩ := Kd.R_slice hR1
       have hs := blk_cell hC1 0
       have hf := blk_frozen hC1 0
       refine skip_ (w1 := w'.setCell ⟨gw, 0, none⟩ v9) (by rfl) rfl (by generalize (xs ++ [a0, a1]).length = zl at hv9; rw [hv9] at e43 ⊢; go_simp; try rfl) ?_
       refine hK.out _ _ ⟨g9, v9, m9_, (by rw [ha.out]; exact putSel_none (v := undef) rfl), fun h0_ => absurd ((hon 10 (by kernel_rfl)).symm.trans h0_) (by decide), fun h0_ => absurd ((hon 10 (by kernel_rfl)).symm.trans h0_) (by decide), fun h0_ => absurd ((hon 10 (by kernel_rfl)).symm.trans h0_) (by decide), fun _ h1_ => absurd ((hon 10 (by kernel_rfl)).symm.trans h1_) (by decide), fun _ h1_ => absurd ((up_self b 13).symm.trans h1_) (by decide), fun _ => ⟨v9, blk_put hC1 0 v9 rfl, Kd.R_far hR1 (p := ⟨gw, 0, none⟩) (fun k hk (e : k = gw) => HGO.out (e ▸ hk)) v9, hF1.setCell (fun _ => Or.inl rfl) v9⟩, Q_X9_⟩
      exact steps_nil
     rintro b a w' hall ⟨g9, v9, m9_, ha, Q_B, Q_C, Q_R, Q_D, Q_S1, Q_S2, Q_X9_⟩
     clear B C R
     have hb2_ := hall 2 (by kernel_rfl)
     have hb3_ := hall 3 (by kernel_rfl)
     have hb4_ := hall 4 (by kernel_rfl)
     have hb5_ := hall 5 (by kernel_rfl)
     have hb6_ := hall 6 (by kernel_rfl)
     have hb7_ := hall 7 (by kernel_rfl)
     have hb8_ := hall 8 (by kernel_rfl)
     have hb9_ := hall 9 (by kernel_rfl)
     have hb10_ := hall 10 (by kernel_rfl)
     have hb11_ := hall 11 (by kernel_rfl)
     have hb12_ := hall 12 (by kernel_rfl)
     have hb13_ := hall 13 (by kernel_rfl)
     subst ha
     obtain rfl := Q_X9_ hb9_
     simp only [putSel, hb2_, hb3_, hb4_, hb5_, hb6_, hb7_, hb8_, hb9_, hb10_, hb11_, hb12_, hb13_, if_true, Act.put, List.setIfInBounds_toArray, List.set_cons_zero, List.set_cons_succ]
     clear Q_B
     clear Q_C
     clear Q_R
     clear Q_D
     clear Q_S1
     have S2 := Am (Q_S2 hb13_)
     clear Q_S2
     clear hall hb2_ hb3_ hb4_ hb5_ hb6_ hb7_ hb8_ hb9_ hb10_ hb11_ hb12_ hb13_
     obtain ⟨u, hg, hR, hF⟩ := S2.out
     clear S2 HC HR HY0 HY1 HXB HNX
     have HS := Lh (show WSo okW w' gw (xs ++ [a0, a1]) from ⟨u, hg, hR⟩)
     have HF := Lh hF
     clear hg hR hF
     clear u
     obtain ⟨q, hq⟩ : ∃ q, IntKind.u16.wrap (4 + (n : Int)) = q := ⟨_, rfl⟩
     have HQ := Lh (show IntKind.u16.wrap (wrap64 (4 + (n : Int))) = q by rw [show wrap64 (4 + (n : Int)) = 4 + (n : Int) by unfold wrap64; have := HVL.out; omega, hq])
     rw [hq] at HA2
     clear hq
     have HXL3 := Lh (show (xs ++ [a0, a1]).length + 2 * [q].length ≤ 140737488355328 by have := HXL.out; simp only [List.length_append, List.length_cons, List.length_nil]; omega)
     go_wp2_with fail
     rw [HQ.out]
     refine (wtwo_lit_o w' gw okW (fun k hk => HOK.out k (Nat.le_trans HF.out.size hk)) HGO.out (xs ++ [a0, a1]) [q] [.int .u16 q] 1 rfl rfl HS.out HXL3.out).mono ?_
     rintro e w4 ⟨rfl, hS4, hO4⟩
     have HF4 := Lh (HF.out.trans hO4 (fun k _ h => h))
     have hxl : (xs ++ [a0, a1] ++ twoL [q]).length ≤ 65540 := by have := HXL.out; simp [twoL_length]; omega
     have HXL4 := Lh hxl
     generalize xs ++ [a0, a1] ++ twoL [q] = ys at *
     obtain ⟨u, hg, hR⟩ := hS4
     obtain ⟨Au4, cu4, rfl⟩ := Kd.R_slice hR
     have k0 : w4.cell? ⟨gw, 0, none⟩ = some (.slice Au4 ys.length cu4) := blk_cell hg 0
     have HG4 := Lh hg
     have HR4 := Lh hR
     have HVC4 := Lh (HVC.out w4 HF4.out)
     clear hO4 hxl hg hR HS HF HQ HVC HXL HXL3
     go_wp2_with (at_builtin; go_must (refine Kd.R_append_row (Value.int .u8) (0 : Int) (w0 := w4) (W := w4) (gw + 1) rfl _ _ 27 5 _ 1 rfl Tryd.underlying27 info_u8 rfl (by decide) (.slice Au4 ys.length cu4) ys v Av n cv okW rfl rfl (fun k hk => HOK.out k (Nat.le_trans HF4.out.size hk)) HR4.out HVC4.out (Below.refl _ _) (by have := blk_lt HG4.out; omega) (by have := HXL4.out; have := HVL.out; have := HNV.out; omega) ?_); (intro v1 w1 hR1 hB1 hG1 _; have HR1 := Lh hR1; have HB1 := Lh hB1; have HGR := Lh hG1; clear hR1 hB1 hG1; refine RowKit.Hid.out ?_))
     refine Lh ?_
     obtain ⟨A7, c7, hv1⟩ := Kd.R_slice HR1.out
     subst hv1
     have hg1 := blk_grown HG4.out HGR.out (fun e => HGO.out (HR4.out.1 _ e.symm))
     have hs := blk_cell hg1 0
     have hf := blk_frozen hg1 0
     have HF5 := Lh ((HF4.out.grown HGR.out (fun k _ e => Or.inr (HR4.out.1 k e))).setCell (p := ⟨gw, 0, none⟩) (fun _ => Or.inl rfl) (.slice A7 (ys ++ v).length c7))
     have HR5 := Lh (Kd.R_far HR1.out (p := ⟨gw, 0, none⟩) (fun k hk (e : k = gw) => HGO.out (e ▸ hk)) (.slice A7 (ys ++ v).length c7))
     have HC5 := Lh (blk_put hg1 0 (.slice A7 (ys ++ v).length c7) rfl)
     have HXL5 := Lh (show (ys ++ v).length ≤ 131071 by have := HXL4.out; have := HVL.out; have := HNV.out; rw [List.length_append]; omega)
     clear hg1 HR1 HB1 HGR HG4 HR4 HVC4 HF4 HXL4 k0 HNV
     generalize hzl : (ys ++ v).length = zl at *
     go_upto_region 16 with (fail)
     generalize w1.setCell ⟨gw, 0, none⟩ (.slice A7 zl c7) = W5 at *
     subst hzl
     generalize ys ++ v = xs at *
     have HC := HC5
     have HR := HR5
     have HXL := HXL5
     have HM := HPL
     have HOK5 := Lh (show ∀ k, W5.heap.size ≤ k → okW k from fun k hk => HOK.out k (Nat.le_trans HF5.out.size hk))
     clear HC5 HR5 HXL5 HPL hs hf HOK
     have B := True.intro
     have C := True.intro
     have R := True.intro
     refine start_ (n := 15) (S := fun w' => True) (ds := []) #[false, false, false, false, false, false, false, false, false, false, false, false, false, false, false] (by kernel_rfl) rfl rfl trivial (fun hHeld => ?_)
     refine with_tabW encBtab16 encBbits16 (fun HT_ HW_ => ?_)
     refine pu 0 62 ?_ rfl rfl (any_of HT_.out (by kernel_rfl)) (fun _ _ _ h => h) (by rfl) ?_ ?_ ?_ ?_
     rotate_left
     ·intro w'
      go_simp
      with_reducible rfl
     rotate_left
     ·simp only [sL]
      rfl
     refine pu 1 63 ?_ rfl rfl (any_of HT_.out (by kernel_rfl)) (fun _ _ _ h => h) (by rfl) ?_ ?_ ?_ ?_
     rotate_left
     ·intro w'
      go_simp
      with_reducible rfl
     rotate_left
     ·simp only [sL]
      rfl
     refine pu 5 67 ?_ rfl rfl (any_of HT_.out (by kernel_rfl)) (fun _ _ _ h => h) (by rfl) ?_ ?_ ?_ ?_
     rotate_left
     ·intro w'
      go_simp
      with_reducible rfl
     rotate_left
     ·simp only [sL]
      rfl
     refine pu 8 70 ?_ rfl rfl (any_of HT_.out (by kernel_rfl)) (fun _ _ _ h => h) (by rfl) ?_ ?_ ?_ ?_
     rotate_left
     ·intro w'
      go_simp
      with_reducible rfl
     rotate_left
     ·simp only [sL]
      rfl
     refine inv_at [2, 3, 4, 6, 7, 9, 10, 11, 12, 13, 14] (fun a0_ b a w' => ∃ (v9 : Value), a = putSel a0_ b [(2, 64, .pointer (some ⟨gw, 0, none⟩)), (3, 65, .pointer (some ⟨gw, 0, none⟩)), (4, 66, .slice A7 xs.length c7), (6, 68, .int .i64 (n : Int)), (7, 69, .int .i64 (pn : Int)), (9, 71, .int .i64 (n : Int)), (10, 72, .int .i64 (pad : Int)), (11, 73, v9), (12, 74, .pointer (some ⟨gw, 0, none⟩)), (13, 75, .pointer (some ⟨gw, 0, none⟩))] ∧ (b 11 = false → Only (fun k => k = gw ∨ okW k) W5 w') ∧ (b 11 = false → w'.heap[gw]? = some (.cells #[.slice A7 xs.length c7] 87 (0, 0))) ∧ (b 11 = false → (Kd.int .u8).R 5 w' (gw + 1) okW (.slice A7 xs.length c7) (xs)) ∧ (b 11 = true → b 14 = false → (Kd.int .u8).R 5 w' (gw + 1) okW (v9) (xs ++ List.replicate pad 0) ∧ w'.heap[gw]? = some (.cells #[.slice A7 xs.length c7] 87 (0, 0)) ∧ Only (fun k => k = gw ∨ okW k) W5 w') ∧ (b 14 = true → ∃ u, w'.heap[gw]? = some (.cells #[u] 87 (0, 0)) ∧ (Kd.int .u8).R 5 w' (gw + 1) okW (u) (xs ++ List.replicate pad 0) ∧ Only (fun k => k = gw ∨ okW k) W5 w')) HT_.out HW_.out (by kernel_rfl) (by kernel_rfl) ?_ ?_ ?_
     ·exact ⟨.bool false, by simp only [putSel, Bool.false_eq_true, if_false], fun _ => (Only.refl _ _).drewN 1, fun _ => HC.out, fun _ => HR.out, fun h_ => absurd h_ (by decide), fun h_ => absurd h_ (by decide)⟩
     ·skip
      clear B C R
      refine sc rfl ?_ ?_
      ·rintro b a w' ⟨v9, ha, Q_B, Q_C, Q_R, Q_S1, Q_S2⟩ hb_ hon hoff K hK
       have e63 : a.tmps[63]? = some (.pointer (some ⟨gw, 0, none⟩)) := by rw [ha]; exact (putSel_off rfl).trans rfl
       replace ha := Am ha
       refine value_ (w1 := w') (v := .pointer (some ⟨gw, 0, none⟩)) (by rfl) rfl ?_ ?_
       ·go_simp
        (try simp only [i64_w])
        try rfl
       refine hK.out _ _ ⟨v9, (puk ha 0 hb_ rfl rfl rfl), Q_B, Q_C, Q_R, fun h0_ _ => hof (hoff 11 (by kernel_rfl)) h0_, fun h0_ => hof (hoff 14 (by kernel_rfl)) h0_⟩
      refine sc rfl ?_ ?_
      ·rintro b a w' ⟨v9, ha, Q_B, Q_C, Q_R, Q_S1, Q_S2⟩ hb_ hon hoff K hK
       have e64 := psn ha 0 rfl rfl (hon 2 (by kernel_rfl)) rfl
       replace ha := Am ha
       refine value_ (w1 := w') (v := .pointer (some ⟨gw, 0, none⟩)) (by rfl) rfl ?_ ?_
       ·go_simp
        (try simp only [i64_w])
        try rfl
       refine hK.out _ _ ⟨v9, (puk ha 1 hb_ rfl rfl rfl), Q_B, Q_C, Q_R, fun h0_ _ => hof (hoff 11 (by kernel_rfl)) h0_, fun h0_ => hof (hoff 14 (by kernel_rfl)) h0_⟩
      refine sc rfl ?_ ?_
      ·rintro b a w' ⟨v9, ha, Q_B, Q_C, Q_R, Q_S1, Q_S2⟩ hb_ hon hoff K hK
       have e65 := psn ha 1 rfl rfl (hon 3 (by kernel_rfl)) rfl
       replace ha := Am ha
       have C := Am (Q_C (hoff 11 (by kernel_rfl)))
       have hs := blk_cell C.out 0
       refine value_ (w1 := w') (v := .slice A7 xs.length c7) (by rfl) rfl ?_ ?_
       ·go_simp
        (try simp only [i64_w])
        try rfl
       refine hK.out _ _ ⟨v9, (puk ha 2 hb_ rfl rfl rfl), Q_B, Q_C, Q_R, fun h0_ _ => hof (hoff 11 (by kernel_rfl)) h0_, fun h0_ => hof (hoff 14 (by kernel_rfl)) h0_⟩
      refine sc rfl ?_ ?_
      ·rintro b a w' ⟨v9, ha, Q_B, Q_C, Q_R, Q_S1, Q_S2⟩ hb_ hon hoff K hK
       have e67 : a.tmps[67]? = some (.slice Av n cv) := by rw [ha]; exact (putSel_off rfl).trans rfl
       replace ha := Am ha
       refine value_ (w1 := w') (v := .int .i64 (n : Int)) (by rfl) rfl ?_ ?_
       ·go_simp
        (try simp only [i64_w])
        try rfl
       refine hK.out _ _ ⟨v9, (puk ha 3 hb_ rfl rfl rfl), Q_B, Q_C, Q_R, fun h0_ _ => hof (hoff 11 (by kernel_rfl)) h0_, fun h0_ => hof (hoff 14 (by kernel_rfl)) h0_⟩
      refine sc rfl ?_ ?_
      ·rintro b a w' ⟨v9, ha, Q_B, Q_C, Q_R, Q_S1, Q_S2⟩ hb_ hon hoff K hK
       have e68 := psn ha 3 rfl rfl (hon 6 (by kernel_rfl)) rfl
       replace ha := Am ha
       have B := Am (Q_B (hoff 11 (by kernel_rfl)))
       have C := Am (Q_C (hoff 11 (by kernel_rfl)))
       have R := Am (Q_R (hoff 11 (by kernel_rfl)))
       refine goes_ Tryd.func54 (by kernel_rfl) rfl #[.int .i64 (n : Int)] (by rfl) rfl rfl (by first | (simp only [List.map_toArray, List.map_cons, List.map_nil, Act.eval, Array.getD_eq_getD_getElem?, Option.getD_some, e68]; done) | (simp only [List.map_toArray, List.map_cons, List.map_nil, Act.eval, Array.getD_eq_getD_getElem?, Option.getD_some, e68]; rfl)) ?_
       refine (HPD.out w').mono ?_
       rintro e w1 ⟨rfl, hD1⟩
       refine ⟨_, rfl, ?_⟩
       refine hK.out _ _ ⟨v9, (puk ha 4 hb_ rfl rfl rfl), fun _ => B.out.trans (Only.of_below (S := fun _ => False) (drawn_below hD1)) (fun k _ h => h.elim), fun _ => blk_below C.out (drawn_below hD1), fun _ => R_only R.out (Only.of_below (S := fun _ => False) (drawn_below hD1)) (fun _ _ _ h => h), fun h0_ _ => hof (hoff 11 (by kernel_rfl)) h0_, fun h0_ => hof (hoff 14 (by kernel_rfl)) h0_⟩
      refine sc rfl ?_ ?_
      ·rintro b a w' ⟨v9, ha, Q_B, Q_C, Q_R, Q_S1, Q_S2⟩ hb_ hon hoff K hK
       have e70 : a.tmps[70]? = some (.slice Av n cv) := by rw [ha]; exact (putSel_off rfl).trans rfl
       replace ha := Am ha
       refine value_ (w1 := w') (v := .int .i64 (n : Int)) (by rfl) rfl ?_ ?_
       ·go_simp
        (try simp only [i64_w])
        try rfl
       refine hK.out _ _ ⟨v9, (puk ha 5 hb_ rfl rfl rfl), Q_B, Q_C, Q_R, fun h0_ _ => hof (hoff 11 (by kernel_rfl)) h0_, fun h0_ => hof (hoff 14 (by kernel_rfl)) h0_⟩
      refine sc rfl ?_ ?_
      ·rintro b a w' ⟨v9, ha, Q_B, Q_C, Q_R, Q_S1, Q_S2⟩ hb_ hon hoff K hK
       have e69 := psn ha 4 rfl rfl (hon 7 (by kernel_rfl)) rfl
       have e71 := psn ha 5 rfl rfl (hon 9 (by kernel_rfl)) rfl
       replace ha := Am ha
       have B := Am (Q_B (hoff 11 (by kernel_rfl)))
       have C := Am (Q_C (hoff 11 (by kernel_rfl)))
       have R := Am (Q_R (hoff 11 (by kernel_rfl)))
       have hs := HSUB.out
       refine value_ (w1 := w') (v := .int .i64 (pad : Int)) (by rfl) rfl (by go_simp; simp only [i64_w]; exact hs) ?_
       refine hK.out _ _ ⟨v9, (puk ha 6 hb_ rfl rfl rfl), fun _ => B.out, fun _ => C.out, fun _ => R.out, fun h0_ _ => hof (hoff 11 (by kernel_rfl)) h0_, fun h0_ => hof (hoff 14 (by kernel_rfl)) h0_⟩
      refine sc rfl ?_ ?_
      ·rintro b a w' ⟨v9, ha, Q_B, Q_C, Q_R, Q_S1, Q_S2⟩ hb_ hon hoff K hK
       have e66 := psn ha 2 rfl rfl (hon 4 (by kernel_rfl)) rfl
       have e72 := psn ha 6 rfl rfl (hon 10 (by kernel_rfl)) rfl
       replace ha := Am ha
       have B := Am (Q_B hb_)
       have C := Am (Q_C hb_)
       have R := Am (Q_R hb_)
       refine Kd.R_append_zeros_step (kx := .i64) (Kd.int .u8) (w0 := w') (W := w') (gw + 1) (by rfl) _ _ 27 3 5 (.int .u8 0) 1 rfl Tryd.underlying27 Tryd.underlying3 info_u8 rfl (by decide) (by decide) (.slice A7 xs.length c7) xs 0 (pad : Int) okW (by simp [Act.eval, Array.getD_eq_getD_getElem?, e66]) (by simp [Act.eval, Array.getD_eq_getD_getElem?, e72]) rfl (fun k hk => HOK5.out k (by have := B.out.size; omega)) R.out (by omega) (Below.refl _ _) (by have := blk_lt C.out; omega) (by have := HXL.out; have := HM.out; omega) ?_
       intro v1 w1 hR1 hB1 hG1 _
       rw [Int.toNat_natCast] at hR1
       refine hK.out _ _ ⟨v1, (puk ha 7 hb_ rfl rfl rfl), fun h0_ => absurd ((up_self b 11).symm.trans h0_) (by decide), fun h0_ => absurd ((up_self b 11).symm.trans h0_) (by decide), fun h0_ => absurd ((up_self b 11).symm.trans h0_) (by decide), fun _ _ => ⟨hR1, blk_grown C.out hG1 (fun e => HGO.out (R.out.1 _ e.symm)), B.out.grown hG1 (fun k _ e => Or.inr (R.out.1 k e))⟩, fun h0_ => hof (hoff 14 (by kernel_rfl)) h0_⟩
      refine sc rfl ?_ ?_
      ·rintro b a w' ⟨v9, ha, Q_B, Q_C, Q_R, Q_S1, Q_S2⟩ hb_ hon hoff K hK
       have e62 : a.tmps[62]? = some (.pointer (some ⟨gw, 0, none⟩)) := by rw [ha]; exact (putSel_off rfl).trans rfl
       replace ha := Am ha
       refine value_ (w1 := w') (v := .pointer (some ⟨gw, 0, none⟩)) (by rfl) rfl ?_ ?_
       ·go_simp
        (try simp only [i64_w])
        try rfl
       refine hK.out _ _ ⟨v9, (puk ha 8 hb_ rfl rfl rfl), fun h0_ => absurd ((hon 11 (by kernel_rfl)).symm.trans h0_) (by decide), fun h0_ => absurd ((hon 11 (by kernel_rfl)).symm.trans h0_) (by decide), fun h0_ => absurd ((hon 11 (by kernel_rfl)).symm.trans h0_) (by decide), Q_S1, fun h0_ => hof (hoff 14 (by kernel_rfl)) h0_⟩
      refine sc rfl ?_ ?_
      ·rintro b a w' ⟨v9, ha, Q_B, Q_C, Q_R, Q_S1, Q_S2⟩ hb_ hon hoff K hK
       have e74 := psn ha 8 rfl rfl (hon 12 (by kernel_rfl)) rfl
       replace ha := Am ha
       refine value_ (w1 := w') (v := .pointer (some ⟨gw, 0, none⟩)) (by rfl) rfl ?_ ?_
       ·go_simp
        (try simp only [i64_w])
        try rfl
       refine hK.out _ _ ⟨v9, (puk ha 9 hb_ rfl rfl rfl), fun h0_ => absurd ((hon 11 (by kernel_rfl)).symm.trans h0_) (by decide), fun h0_ => absurd ((hon 11 (by kernel_rfl)).symm.trans h0_) (by decide), fun h0_ => absurd ((hon 11 (by kernel_rfl)).symm.trans h0_) (by decide), Q_S1, fun h0_ => hof (hoff 14 (by kernel_rfl)) h0_⟩
      refine sc rfl ?_ ?_
      ·rintro b a w' ⟨v9, ha, Q_B, Q_C, Q_R, Q_S1, Q_S2⟩ hb_ hon hoff K hK
       have e75 := psn ha 9 rfl rfl (hon 13 (by kernel_rfl)) rfl
       have e73 := psn ha 7 rfl rfl (hon 11 (by kernel_rfl)) rfl
       replace ha := Am ha
       have S1 := Am (Q_S1 (hon 11 (by kernel_rfl)) hb_)
       obtain ⟨hR1, hC1, hF1⟩ := S1.out
       obtain ⟨A8, c8, hv9⟩ := Kd.R_slice hR1
       have hs := blk_cell hC1 0
       have hf := blk_frozen hC1 0
       refine skip_ (w1 := w'.setCell ⟨gw, 0, none⟩ v9) (by rfl) rfl (by generalize (xs ++ List.replicate pad 0).length = zl at hv9; rw [hv9] at e73 ⊢; go_simp; try rfl) ?_
       refine hK.out _ _ ⟨v9, (by rw [ha.out]; exact putSel_none (v := undef) rfl), fun h0_ => absurd ((hon 11 (by kernel_rfl)).symm.trans h0_) (by decide), fun h0_ => absurd ((hon 11 (by kernel_rfl)).symm.trans h0_) (by decide), fun h0_ => absurd ((hon 11 (by kernel_rfl)).symm.trans h0_) (by decide), fun _ h1_ => absurd ((up_self b 14).symm.trans h1_) (by decide), fun _ => ⟨v9, blk_put hC1 0 v9 rfl, Kd.R_far hR1 (p := ⟨gw, 0, none⟩) (fun k hk (e : k = gw) => HGO.out (e ▸ hk)) v9, hF1.setCell (fun _ => Or.inl rfl) v9⟩⟩
      exact steps_nil
     rintro b a w' hall ⟨v9, ha, Q_B, Q_C, Q_R, Q_S1, Q_S2⟩
     clear B C R
     have hb2_ := hall 2 (by kernel_rfl)
     have hb3_ := hall 3 (by kernel_rfl)
     have hb4_ := hall 4 (by kernel_rfl)
     have hb6_ := hall 6 (by kernel_rfl)
     have hb7_ := hall 7 (by kernel_rfl)
     have hb9_ := hall 9 (by kernel_rfl)
     have hb10_ := hall 10 (by kernel_rfl)
     have hb11_ := hall 11 (by kernel_rfl)
     have hb12_ := hall 12 (by kernel_rfl)
     have hb13_ := hall 13 (by kernel_rfl)
     have hb14_ := hall 14 (by kernel_rfl)
     subst ha
     simp only [putSel, hb2_, hb3_, hb4_, hb6_, hb7_, hb9_, hb10_, hb11_, hb12_, hb13_, hb14_, if_true, Act.put, List.setIfInBounds_toArray, List.set_cons_zero, List.set_cons_succ]
     clear Q_B
     clear Q_C
     clear Q_R
     clear Q_S1
     have S2 := Am (Q_S2 hb14_)
     clear Q_S2
     clear hall hb2_ hb3_ hb4_ hb6_ hb7_ hb9_ hb10_ hb11_ hb12_ hb13_ hb14_
     obtain ⟨u, hg, hR, hF⟩ := S2.out
     clear S2 HC HR HSUB HPD
     obtain ⟨A9, c9, rfl⟩ := Kd.R_slice hR
     have HB9 := Lh (HBW.out.trans ((HF5.out.trans hF (fun k _ h => h)).below HBW.out.size HBO.out))
     have HR9 := Lh (Kd.R_mono (ok' := fun k => k ≠ gw) hR (fun k hk (e : k = gw) => HGO.out (e ▸ hk)))
     have HC9 := Lh hg
     have k0 : w'.cell? ⟨gw, 0, none⟩ = some (.slice A9 (xs ++ List.replicate pad 0).length c9) := blk_cell hg 0
     have hxl : (xs ++ List.replicate pad (0 : Int)).length ≤ 131074 := by have := HXL.out; have := HM.out; simp; omega
     clear hg hR hF HF5 HOK5 HXL HM HGO HBO HBW
     generalize hacc : xs ++ List.replicate pad (0 : Int) = acc2 at *
     obtain ⟨nl, hnl⟩ : ∃ nl, acc2.length = nl := ⟨_, rfl⟩
     rw [hnl] at k0 hxl
     have HNL := Lh hnl
     have hA3 := HA2.out
     rw [hnl] at hA3
     by_cases hb : 65536 < nl
     ·rw [if_pos hb] at hA3
      subst hA3
      clear HA2 HR9 HC9 hnl HNL hacc
      go_wp2
      go_ret2
      exact ⟨_, rfl, Kd.R_nil _ _ _ _ _, HB9.out⟩
     ·rw [if_neg hb] at hA3
      have HA3 := Lh hA3
      clear HA2 hA3 hacc hnl
      go_wp2
      go_roundw
      case rel => exact ⟨i + 1, acc2, by omega, by go_num, HA3, (by have := HNL.out; show _ ≤ _; omega), ⟨_, HC9.out, HR9.out⟩, HB9⟩
      case measure => simp [intOf]; omega
    ·obtain rfl : i = l.length := by omega
     have hA := HA.out
     rw [List.drop_length, runE] at hA
     subst hA
     obtain ⟨u, hg, hR⟩ := HW.out
     obtain ⟨Au, cu, rfl⟩ := Kd.R_slice hR
     have k0 : wr.cell? ⟨gw, 0, none⟩ = some (.slice Au acc.length cu) := blk_cell hg 0
     have HR := Lh (Kd.R_mono (ok' := fun _ => True) (Kd.R_lower hR (base' := w.heap.size) (by have := HGW.out; omega)) (fun _ _ => trivial))
     clear HRE HW0 HBW HVAL HLC HA hg hR HW HAL
     generalize hnl : acc.length = nl at *
     go_wp2
     go_ret2
     exact ⟨_, rfl, HR.out, HB.out⟩
end Go.Proofs.YtdlamomabonkjaaDoor.Ch
end
section
namespace Go.Proofs.YtdlamomabonkjaaDoor.Pk
open Go.RowKit YtdlamomabonkjaaDoorW.PrintWords YtdlamomabonkjaaDoorW.PrintLast Base PCh ParDec ParEnc Ch
def aloneK (k : Int) : Bool := k == 1 || k == 2 || k == 14
theorem alone_calls (k : Int) (w : World) : Calls Tryd.prog 18 #[.int .u8 k] w fun e w' => e = .returned (.bool (aloneK k)) ∧ Drawn0 w w' := by
 refine packet_Alone.calls k (aloneK k) w ?_
 unfold packet_Alone.f aloneK
 by_cases h1 : k = 1
 ·subst h1; rfl
 by_cases h2 : k = 2
 ·subst h2; rfl
 rw [if_neg h1, if_neg h2]
 have e1 : (k == 1) = false := by simp [h1]
 have e2 : (k == 2) = false := by simp [h2]
 rw [e1, e2]; rfl
def anyAlone (l : List Chk) : Bool := l.any fun x => aloneK x.f0
set_option maxHeartbeats 4000000 in
theorem apart1_calls (w : World) (x : Chk) (L : Lay) : Calls Tryd.prog 51 #[.agg (CV x L)] w fun e w' => e = .returned (.bool (aloneK x.f0)) ∧ Below w.heap.size w w' := by
 have HA := Lh (fun (W : World) => alone_calls x.f0 W)
 have HXS := Lh (show (Tryd.prog.info? 41).map (·.size) = some (CV x L).size by kernel_rfl)
 have HXZ := Lh (show (#[.int .u8 0, .int .u8 0, .int .u32 0, .int .u16 0, .int .u16 0, .int .u32 0, .int .u32 0, .int .u32 0, .int .u16 0, .int .u16 0, .slice none 0 0, .slice none 0 0, .slice none 0 0, .slice none 0 0, .slice none 0 0] : Array Value).size = (CV x L).size from rfl)
 have HXO := Lh (CV_one x L)
 have H0 : (CV x L)[0]? = some (.int .u8 x.f0) := rfl
 generalize x.f0 = k at *
 generalize CV x L = CX at *
 have H0 := Lh H0
 go_enter Tryd.func51, Tryd.ntmps51
 go_wp2_with fail
 refine (HA.out _).mono ?_
 rintro e w1 ⟨rfl, hD⟩
 have HB := Lh (below_then (below_alloc (Below.refl w.heap.size w) (.cells CX 41)) (by simp) hD.below)
 clear hD HA HXS HXZ HXO H0
 go_wp2
 go_ret
 exact ⟨rfl, HB.out⟩
def aloneI : Nat → List Chk → Int
 | _, [] => -1
 | i, x :: r => if aloneK x.f0 = true then (i : Int) else aloneI (i + 1) r
theorem aloneI_any (l : List Chk) : ∀ i, decide (0 ≤ aloneI i l) = anyAlone l := by
 induction l with
 | nil => intro i; rfl
 | cons x r ih =>
  intro i
  unfold aloneI anyAlone
  by_cases h : aloneK x.f0 = true
  ·rw [if_pos h, List.any_cons, h, Bool.true_or]; exact decide_eq_true (by omega)
  ·rw [if_neg h, ih (i + 1), List.any_cons, Bool.eq_false_iff.2 h, Bool.false_or]; rfl
set_option maxHeartbeats 4000000 in
theorem index_calls (w : World) (A : Option Addr) (c : Nat) (l : List Chk) (hl : Kd.C k41 w A l.length l) :
  Calls Tryd.prog 75 #[.slice A l.length c, .func (.func 51) #[] #[]] w fun e w' => e = .returned (.int .i64 (aloneI 0 l)) ∧ Below w.heap.size w w' := by
 have HLC := Lh (fun (W : World) (h : Below w.heap.size w W) => Kd.C_below hl h)
 have HMX := Lh hl.2.1
 clear hl
 go_enter Tryd.func75, Tryd.ntmps75
 have hm := HMX.out
 go_wp2
 go_loopw [8] (fun v8 w' => ∃ i : Nat, i ≤ l.length ∧ v8 = .int .i64 i ∧ Hid (aloneI 0 l = aloneI i (l.drop i)) ∧ Hid (Below w.heap.size w w')) (fun v8 _ => l.length - (intOf v8).toNat)
 case atStart => exact ⟨0, by omega, rfl, rfl, Below.refl _ _⟩
 case round =>
  obtain ⟨i, hi, rfl, HS, HB⟩ := hrel
  by_cases hlt : i < l.length
  ·obtain ⟨ad, x, L, rfl, hd, hxm, hcell, hx⟩ := chk_at (HLC.out wr HB.out) i hlt
   have hA := HS.out
   rw [hd, aloneI] at hA
   have HF := Lh (fun W => apart1_calls W x L)
   have HCL := Lh hcell
   have HXS := Lh (show (Tryd.prog.info? 41).map (·.size) = some (CV x L).size by kernel_rfl)
   clear hcell hd hxm HS
   generalize CV x L = CX at *
   clear hx
   generalize aloneK x.f0 = q at *
   have HA := Lh hA
   clear hA
   go_wp2_with (first | (with_reducible refine gate_dst (N := 15) rfl ?_; go_must (refine wpList_load_cells rfl 41 (.tmp 14) rfl rfl CX _ (fun j v hv => HCL.out j v hv) Tryd.underlying41 rfl HXS.out ?_)))
   refine (HF.out _).mono ?_
   rintro e w1 ⟨rfl, hB1⟩
   have HB2 := Lh (below_then HB.out HB.out.size hB1)
   clear hB1 HB HCL HF HXS
   cases q with
   | true =>
    have hA := HA.out
    rw [if_pos rfl] at hA
    clear HA
    have HA := Lh hA
    clear hA
    go_wp2
    go_ret
    exact ⟨by rw [HA.out]; rfl, HB2.out⟩
   | false =>
    have hA := HA.out
    rw [if_neg Bool.false_ne_true] at hA
    clear HA
    have HA := Lh hA
    clear hA
    go_wp2
    go_roundw
    case rel => exact ⟨i + 1, by omega, by go_num, HA, HB2⟩
    case measure => simp [intOf]; omega
  ·obtain rfl : i = l.length := by omega
   have HD := Lh (show aloneI 0 l = -1 by rw [HS.out, List.drop_length]; rfl)
   go_wp2
   go_ret
   exact ⟨by rw [HD.out]; rfl, HB.out⟩
set_option maxHeartbeats 4000000 in
theorem contains_calls (w : World) (A : Option Addr) (c : Nat) (l : List Chk) (hl : Kd.C k41 w A l.length l) :
  Calls Tryd.prog 50 #[.slice A l.length c, .func (.func 51) #[] #[]] w fun e w' => e = .returned (.bool (anyAlone l)) ∧ Below w.heap.size w w' := by
 have HX := Lh (index_calls w A c l hl)
 rw [← aloneI_any l 0]
 generalize aloneI 0 l = k at *
 go_enter Tryd.func50, Tryd.ntmps50
 go_wp2_with fail
 refine HX.out.mono ?_
 rintro e w1 ⟨rfl, hB⟩
 have HB := Lh hB
 clear hB HX hl
 go_wp2
 go_ret
 exact ⟨rfl, HB.out⟩
def apartB (l : List Chk) : Bool := decide (1 < l.length) && anyAlone l
set_option maxHeartbeats 4000000 in
theorem apart_calls (w : World) (A : Option Addr) (c : Nat) (l : List Chk) (hl : Kd.C k41 w A l.length l) :
  Calls Tryd.prog 27 #[.slice A l.length c] w fun e w' => e = .returned (.bool (apartB l)) ∧ Below w.heap.size w w' := by
 have HX := Lh (fun W (h : Below w.heap.size w W) => contains_calls W A c l (Kd.C_below hl h))
 clear hl
 unfold apartB
 by_cases h1 : 1 < l.length
 ·rw [decide_eq_true h1, Bool.true_and]
  generalize anyAlone l = q at *
  have h2 : (1 : Int) < (l.length : Int) := by omega
  generalize l.length = m at *
  go_enter Tryd.func27, Tryd.ntmps27
  go_wp2_with fail
  refine (HX.out w (Below.refl _ _)).mono ?_
  rintro e w1 ⟨rfl, hB⟩
  have HB := Lh hB
  clear hB HX
  go_wp2
  go_ret
  exact ⟨rfl, HB.out⟩
 ·rw [decide_eq_false h1, Bool.false_and]
  clear HX
  go_enter Tryd.func27, Tryd.ntmps27
  go_wp2
  go_ret
  exact ⟨rfl, Below.refl _ _⟩
end Go.Proofs.YtdlamomabonkjaaDoor.Pk
end
section
namespace Go.Proofs.YtdlamomabonkjaaDoor.Pk
open Go.RowKit YtdlamomabonkjaaDoorW.PrintWords YtdlamomabonkjaaDoorW.PrintLast Base PCh ParDec Ch
def errP (at_ code : Int) : Ending := .panicked [{ v := .iface 93 (.agg #[.int .i64 at_, .int .i64 code]), recovered := false }]
theorem must_ok (w : World) (a c : Int) : Calls Tryd.prog 59 #[.bool true, .int .i64 a, .int .i64 c] w fun e w' => e = .returned (.tuple #[]) ∧ w' = w := by
 go_enter Tryd.func59, Tryd.ntmps59
 go_wp2
 exact ⟨rfl, _, results_none rfl _ _ _, rfl, rfl⟩
theorem must_bad (w : World) (a c : Int) : Calls Tryd.prog 59 #[.bool false, .int .i64 a, .int .i64 c] w fun e w' => e = errP a c ∧ w' = w := by
 unfold errP
 go_enter Tryd.func59, Tryd.ntmps59
 go_wp2
 exact ⟨rfl, rfl, rfl⟩
def PS (w0 w : World) (g : Nat) (v : List UInt8) (f t q : Int) (CH : Value) : Prop := ∃ A c, w.heap[g]? = some (.cells #[.slice A v.length c, .int .u16 f, .int .u16 t, .int .u32 q, CH] 99 (0, 0)) ∧ v.length ≤ c ∧ byte.C w0 A v.length v
theorem or24 (x y : Nat) (hx : x < 16777216) (hy : y < 256) : bits .or .u32 ((x : Int) * 256) (y : Int) = ((x * 256 + y : Nat) : Int) := by
 have h := (bits_nat .u32 32 (by decide) (fun n h0 h1 => by simp [IntKind.wrap, IntKind.bits, IntKind.signed]; omega) (x * 256) y (by omega) (by omega)).2
 have e : x * 256 ||| y = x * 256 + y := by
  have := Nat.shiftLeft_add_eq_or_of_lt (i := 8) (b := y) (by omega) x
  rw [Nat.shiftLeft_eq] at this
  exact this.symm
 rw [e] at h
 rw [show ((x : Int) * 256) = ((x * 256 : Nat) : Int) from (Int.natCast_mul x 256).symm]
 exact h
theorem u32_small (n : Int) (h : 0 ≤ n) (h2 : n < 4294967296) : IntKind.u32.wrap n = n := by simp only [IntKind.wrap, IntKind.bits, IntKind.signed]; simp; omega
theorem be_snoc (l : List UInt8) (b : UInt8) : be (l ++ [b]) = be l * 256 + b.toNat := by simp [be]
theorem fold_lt (l : List UInt8) : ∀ a : Nat, l.foldl (fun a b => a * 256 + b.toNat) a < (a + 1) * 256 ^ l.length := by
 induction l with
 | nil => intro a; simp
 | cons b l ih =>
  intro a
  rw [List.foldl_cons, List.length_cons, Nat.pow_succ]
  have h := ih (a * 256 + b.toNat)
  have hb := b.toNat_lt
  have h2 : (a * 256 + b.toNat + 1) * 256 ^ l.length ≤ ((a + 1) * 256) * 256 ^ l.length := Nat.mul_le_mul_right _ (by omega)
  calc _ < _ := h
   _ ≤ _ := h2
   _ = (a + 1) * (256 ^ l.length * 256) := by rw [Nat.mul_assoc, Nat.mul_comm 256]
theorem be_lt3 (l : List UInt8) (h : l.length ≤ 3) : be l < 16777216 := by
 have h1 := fold_lt l 0
 have h2 : 256 ^ l.length ≤ 256 ^ 3 := Nat.pow_le_pow_right (by decide) h
 unfold be
 omega
set_option maxHeartbeats 4000000 in
theorem number_calls (w0 w : World) (g n : Nat) (v : List UInt8) (f t q : Int) (CH : Value) (hs : PS w0 w g v f t q CH) (hB : Below w0.heap.size w0 w) (hg : w0.heap.size ≤ g) (hn : n ≤ v.length) (h4 : n ≤ 4) (hv : v.length ≤ 140737488355328) :
  Calls Tryd.prog 80 #[.pointer (some ⟨g, 0, none⟩), .int .i64 (n : Int)] w fun e w' => e = .returned (.int .u32 (be (v.take n) : Nat)) ∧ PS w0 w' g (v.drop n) f t q CH ∧ Only (· = g) w w' := by
 obtain ⟨A, c, hb, hc, hC⟩ := hs
 have k0 : w.cell? ⟨g, 0, none⟩ = some (.slice A v.length c) := blk_cell hb 0
 have HBK := Lh (fun (W : World) (h : Below w.heap.size w W) => blk_below hb h)
 have HC := Lh (fun (W : World) (h : Below w.heap.size w W) => Kd.C_below hC (below_then hB hB.size h))
 have HC0 := Lh hC
 have hnc : n ≤ c := Nat.le_trans hn hc
 obtain ⟨ht1, ht2, ht3⟩ := take_bytes hC hc n (n : Int) rfl hn
 obtain ⟨A2, hd1, hd2, hd3⟩ := drop_bytes hC hc n (n : Int) rfl hn
 have HP := Lh (fun (W : World) (h : Below w.heap.size w W) => (⟨⟨A2, c - n, blk_put (blk_below hb h) 0 _ rfl, hd3, hd2⟩, (Only.setCell (S := (· = g)) (Only.of_below h) (fun _ => rfl) _)⟩ : PS w0 (W.setCell ⟨g, 0, none⟩ (.slice A2 (v.drop n).length (c - n))) g (v.drop n) f t q CH ∧ Only (· = g) w (W.setCell ⟨g, 0, none⟩ (.slice A2 (v.drop n).length (c - n)))))
 have HF := Lh (fun (W : World) (h : Below w.heap.size w W) => blk_frozen (blk_below hb h) 0)
 clear ht2 ht3 hd2 hd3 hb hC
 have hlt1 : (v.take n).length = n := by rw [List.length_take]; omega
 rw [hlt1] at ht1
 clear hlt1
 generalize c - n = c2 at *
 generalize (v.drop n).length = n2 at *
 go_enter Tryd.func80, Tryd.ntmps80
 go_wp2
 go_loopw [5, 15] (fun v5 v15 W => ∃ i : Nat, i ≤ n ∧ v5 = .int .u32 (be (v.take i) : Nat) ∧ v15 = .int .i64 i ∧ Hid (Below w.heap.size w W)) (fun _ v15 _ => n - (intOf v15).toNat)
 case atStart => exact ⟨0, by omega, rfl, rfl, Below.refl _ _⟩
 case round =>
  obtain ⟨i, hi, rfl, rfl, HB⟩ := hrel
  by_cases hlt : i < n
  ·obtain ⟨ad, rfl, x0⟩ := byte_at (HC.out wr HB.out) i (by omega)
   have ht : v.take (i + 1) = v.take i ++ [v.getD i 0] := by
    rw [List.take_succ_eq_append_getElem (by omega)]
    congr 2
    simp [List.getD_eq_getElem?_getD, show i < v.length by omega]
   have hbe : be (v.take (i + 1)) = be (v.take i) * 256 + (v.getD i 0).toNat := by rw [ht, be_snoc]
   have hx : be (v.take i) < 16777216 := be_lt3 _ (by rw [List.length_take]; omega)
   have hy : (v.getD i 0).toNat < 256 := (v.getD i 0).toNat_lt
   have hor := or24 _ _ hx hy
   rw [← hbe] at hor
   have HBE := Lh (show ∃ z : Nat, be (v.take (i + 1)) = z ∧ True from ⟨_, rfl, trivial⟩)
   have hw1 : IntKind.u32.wrap ((v.getD i 0).toNat : Int) = ((v.getD i 0).toNat : Int) := u32_small _ (by omega) (by omega)
   have hw3 : IntKind.u32.wrap ((be (v.take i) : Int) * 256) = (be (v.take i) : Int) * 256 := u32_small _ (by omega) (by omega)
   clear ht hbe HBK HC HC0 HBE HP HF
   obtain ⟨z, hz⟩ : ∃ z, be (v.take (i + 1)) = z := ⟨_, rfl⟩
   have HZ := Lh hz
   rw [hz] at hor
   clear hz
   generalize be (v.take i) = x at *
   generalize (v.getD i 0).toNat = y at *
   go_wp2
   go_roundw
   case rel => exact ⟨i + 1, by omega, by rw [HZ.out], by go_num, HB⟩
   case measure => simp [intOf]; omega
  ·have hin : i = n := by omega
   have hbk := HBK.out wr HB.out
   have k0 : wr.cell? ⟨g, 0, none⟩ = some (.slice A v.length c) := blk_cell hbk 0
   have f0 := HF.out wr HB.out
   have HP1 := Lh (HP.out wr HB.out)
   clear hbk HBK HP HF HC HC0
   subst hin
   go_wp2
   go_ret
   exact ⟨rfl, HP1.out⟩
end Go.Proofs.YtdlamomabonkjaaDoor.Pk
end
section
namespace Go.Proofs.YtdlamomabonkjaaDoor.Base
open Go.RowKit YtdlamomabonkjaaDoorW.PrintWords YtdlamomabonkjaaDoorW.PrintLast
abbrev Sel := List (Nat × Tmp × Value)
def GrI (C : List Nat) (I : Nat → Value → World → Prop) (u0 : Value) (L : (Nat → Value) → Sel) (a0 : Act) (b : Nat → Bool) (a : Act) (w : World) : Prop :=
 ∃ (s : Nat) (vs : Nat → Value), s ≤ C.length ∧ vs 0 = u0 ∧ (∀ j c, C[j]? = some c → (j < s → b c = true) ∧ (s ≤ j → b c = false)) ∧ a = putSel a0 b (L vs) ∧ I s (vs s) w
def Rd (O B : List Nat) (i : Nat) (L : (Nat → Value) → Sel) (a0 : Act) (p : Tmp) (f : (Nat → Value) → Value) : Prop :=
 ∀ (b : Nat → Bool) (vs : Nat → Value), (∀ j, (O.contains j && (B.getD i 0).testBit j) = true → b j = true) → (∀ d, (O.contains d && (B.getD d 0).testBit i) = true → b d = false) → (putSel a0 b (L vs)).tmps[p]? = some (f vs)
def Ar (O B : List Nat) (i : Nat) (L : (Nat → Value) → Sel) (a0 : Act) (os : List Operand) (vals : List Value) : Prop :=
 ∀ (b : Nat → Bool) (vs : Nat → Value), (∀ j, (O.contains j && (B.getD i 0).testBit j) = true → b j = true) → (∀ d, (O.contains d && (B.getD d 0).testBit i) = true → b d = false) → os.map (putSel a0 b (L vs)).eval = vals
section
variable {P : Program} {ops : Array Oper} {Q : Exit → Act → World → Prop} {B O C : List Nat} {W : World} {I : Nat → Value → World → Prop} {u0 : Value} {L : (Nat → Value) → Sel} {a0 : Act} {i : Nat} {p : Tmp}
theorem rd_on {f : (Nat → Value) → Value} (kp qp : Nat) (hP : ∀ vs, (L vs)[kp]? = some (qp, p, f vs)) (hPd : ∀ vs, ((L vs).drop (kp + 1)).all (fun x => !(x.2.1 == p)) = true) (hon : (O.contains qp && (B.getD i 0).testBit qp) = true) (hsz : Nat.ble (p + 1) a0.tmps.size = true) : Rd O B i L a0 p f :=
 fun b vs h1 h2 => putSel_on kp (hP vs) (hPd vs) (h1 qp hon) hsz
theorem rd_off {v : Value} (h : ∀ vs, (L vs).all (fun e => !(e.2.1 == p)) = true) (hp : a0.tmps[p]? = some v) : Rd O B i L a0 p (fun _ => v) := fun b vs _ _ => (putSel_off (h vs)).trans hp
theorem ar_n : Ar O B i L a0 [] [] := fun _ _ _ _ => rfl
theorem ar_c (c : Value) {os : List Operand} {vals : List Value} (h : Ar O B i L a0 os vals) : Ar O B i L a0 (.const c :: os) (c :: vals) := fun b vs h1 h2 => by rw [List.map_cons, h b vs h1 h2]; rfl
theorem ar_t {v : Value} {os : List Operand} {vals : List Value} (h0 : Rd O B i L a0 p (fun _ => v)) (h : Ar O B i L a0 os vals) : Ar O B i L a0 (.tmp p :: os) (v :: vals) := fun b vs h1 h2 => by rw [List.map_cons, h b vs h1 h2, eval_of (h0 b vs h1 h2)]
theorem gr_op (J : World → Prop) (i k : Nat) {t : Tmp} {u v : Value} {oi : Oper} (ho : ops[i]? = some oi) (hg : oi.guard = none) (hd : oi.dst = some t) (hL : ∀ vs, (L vs)[k]? = some (i, t, v))
  (hdist : ∀ vs, ((L vs).take k ++ (L vs).drop (k + 1)).all (fun e => !(e.1 == i) && !(e.2.1 == t)) = true) (hC : C.contains i = false) (hr : Rd O B i L a0 p (fun _ => u)) (hJ : ∀ s x w, I s x w → J w)
  (hrun : ∀ (a : Act) (w : World), J w → a.tmps[p]? = some u → (execOp a.eval oi).run P w = .ok (.value v) w) : StepAt P ops Q B O (GrI C I u0 L a0) i := by
 rintro b a w ⟨s, vs, h0, hu, h1, ha, hI⟩ hb hon hoff
 refine ⟨oi, ho, fun K hK => ?_⟩
 rw [hd]
 refine value_ (w1 := w) (v := v) (wanted_none0 hg) hd (hrun a w (hJ _ _ _ hI) (by rw [ha]; exact hr b vs hon hoff)) (hK.out _ _ ⟨s, vs, h0, hu, fun j c hc => ?_, ?_, hI⟩)
 ·have hne : c ≠ i := fun e => by
   rw [e] at hc
   have := List.mem_of_getElem? hc
   rw [List.contains_iff_mem.2 this] at hC
   cases hC
  rw [up_ne hne]
  exact h1 j c hc
 ·rw [ha]
  exact putSel_upk k hb (hL vs) (set_same (hL vs)) (hdist vs)
theorem gr_step (i k m : Nat) {t : Tmp} (hm : C[m]? = some i) (hL : ∀ vs, (L vs)[k]? = some (i, t, vs (m + 1))) (hset : ∀ vs v', (L vs).set k (i, t, v') = L (fun j => if j = m + 1 then v' else vs j))
  (hdist : ∀ vs, ((L vs).take k ++ (L vs).drop (k + 1)).all (fun e => !(e.1 == i) && !(e.2.1 == t)) = true) (hnd : (C.take m ++ C.drop (m + 1)).contains i = false) (hprev : (C.take m).all (fun q => O.contains q && (B.getD i 0).testBit q) = true)
  {b : Nat → Bool} {a : Act} {w : World} (hI : GrI C I u0 L a0 b a w) (hb : b i = false) (hon : ∀ j, (O.contains j && (B.getD i 0).testBit j) = true → b j = true) :
  ∃ vs, vs 0 = u0 ∧ a = putSel a0 b (L vs) ∧ I m (vs m) w ∧ ∀ v' w', I (m + 1) v' w' → GrI C I u0 L a0 (up b i) (a.put (some t) v') w' := by
 obtain ⟨s, vs, h0, hu, h1, ha, hI⟩ := hI
 have hs : s = m := by
  have e1 := h1 m i hm
  rcases Nat.lt_trichotomy s m with h | h | h
  ·have hlt : s < C.length := by
    have := (List.getElem?_eq_some_iff.1 hm).1
    omega
   have hc := List.getElem?_eq_getElem hlt
   have e2 := (h1 s _ hc).2 (Nat.le_refl _)
   have e3 := List.all_eq_true.1 hprev C[s] (List.mem_take_iff_getElem.2 ⟨s, by omega, rfl⟩)
   rw [hon _ e3] at e2
   cases e2
  ·exact h
  ·rw [e1.1 h] at hb
   cases hb
 subst hs
 refine ⟨vs, hu, ha, hI, fun v' w' hI' => ⟨s + 1, fun j => if j = s + 1 then v' else vs j, ?_, ?_, fun j c hc => ?_, ?_, ?_⟩⟩
 ·have := (List.getElem?_eq_some_iff.1 hm).1
  omega
 ·show (if 0 = s + 1 then v' else vs 0) = u0
  rw [if_neg (by omega)]
  exact hu
 ·by_cases hj : j = s
  ·subst hj
   rw [hm] at hc
   injection hc with hc
   subst hc
   exact ⟨fun _ => up_self _ _, fun h => absurd h (by omega)⟩
  ·have hne : c ≠ i := fun e => by
    subst e
    have hmem : c ∈ C.take s ++ C.drop (s + 1) := by
     rw [List.mem_append]
     have hl := (List.getElem?_eq_some_iff.1 hc)
     obtain ⟨hl1, hl2⟩ := hl
     by_cases h : j < s
     ·exact Or.inl (List.mem_take_iff_getElem.2 ⟨j, by omega, hl2⟩)
     ·refine Or.inr (List.mem_drop_iff_getElem.2 ⟨j - (s + 1), by omega, ?_⟩)
      rw [← hl2]
      congr 1
      omega
    rw [List.contains_iff_mem.2 hmem] at hnd
    cases hnd
   rw [up_ne hne]
   have := h1 j c hc
   exact ⟨fun h => this.1 (by omega), fun h => this.2 (by omega)⟩
 ·rw [ha]
  exact putSel_upk k hb (hL vs) (hset vs v') (hdist vs)
 ·show I (s + 1) (if s + 1 = s + 1 then v' else vs (s + 1)) w'
  rw [if_pos rfl]
  exact hI'
theorem gr_call (i k m : Nat) {t : Tmp} {fv : (Nat → Value) → Value} {os : List Operand} {vals : List Value} {oi : Oper} {f : FuncId} {fn : Func} {ax : Array Operand} {ts : Array TypeId} (ho : ops[i]? = some oi) (hg : oi.guard = none) (hd : oi.dst = some t) (hm : C[m]? = some i) (hL : ∀ vs, (L vs)[k]? = some (i, t, vs (m + 1)))
  (hset : ∀ vs v', (L vs).set k (i, t, v') = L (fun j => if j = m + 1 then v' else vs j)) (hdist : ∀ vs, ((L vs).take k ++ (L vs).drop (k + 1)).all (fun e => !(e.1 == i) && !(e.2.1 == t)) = true) (hnd : (C.take m ++ C.drop (m + 1)).contains i = false) (hprev : (C.take m).all (fun q => O.contains q && (B.getD i 0).testBit q) = true)
  (hf : P.funcs[f]? = some fn) (hname : (fn.name == "runtime.NumGoroutine") = false) (hbd : fn.body.isSome = true) (hop : oi.op = .call { callee := .value (.func f), args := ax, argTypes := ts }) (has : ax.toList = .tmp p :: os)
  (hr : Rd O B i L a0 p fv) (hfv : ∀ vs, vs 0 = u0 → fv vs = vs m) (har : Ar O B i L a0 os vals) (hcall : ∀ u w, I m u w → Calls P f (u :: vals).toArray w fun e w' => ∃ v', e = .returned v' ∧ I (m + 1) v' w') : StepAt P ops Q B O (GrI C I u0 L a0) i := by
 rintro b a w hG hb hon hoff
 obtain ⟨vs, hu, ha, hI, hK2⟩ := gr_step i k m hm hL hset hdist hnd hprev hG hb hon
 refine ⟨oi, ho, fun K hK => ?_⟩
 rw [hd]
 have e1 := hr b vs hon hoff
 have e2 := har b vs hon hoff
 refine goes_ hf hname hbd (vs m :: vals).toArray (wanted_none0 hg) hd hop ?_ ?_
 ·apply Array.toList_inj.1
  rw [Array.toList_map, has, List.map_cons, ha, eval_of e1, e2, hfv vs hu]
 ·refine (hcall (vs m) w hI).mono ?_
  rintro e w' ⟨v', rfl, hI'⟩
  exact ⟨v', rfl, hK.out _ _ (hK2 v' w' hI')⟩
theorem gr_last (i k m : Nat) {t : Tmp} {fv : (Nat → Value) → Value} {oi : Oper} (ho : ops[i]? = some oi) (hg : oi.guard = none) (hd : oi.dst = some t) (hm : C[m]? = some i) (hL : ∀ vs, (L vs)[k]? = some (i, t, vs (m + 1)))
  (hset : ∀ vs v', (L vs).set k (i, t, v') = L (fun j => if j = m + 1 then v' else vs j)) (hdist : ∀ vs, ((L vs).take k ++ (L vs).drop (k + 1)).all (fun e => !(e.1 == i) && !(e.2.1 == t)) = true) (hnd : (C.take m ++ C.drop (m + 1)).contains i = false) (hprev : (C.take m).all (fun q => O.contains q && (B.getD i 0).testBit q) = true)
  (hr : Rd O B i L a0 p fv) (hfv : ∀ vs, vs 0 = u0 → fv vs = vs m) (hrun : ∀ (a : Act) (w : World) (u : Value), a.tmps[p]? = some u → (execOp a.eval oi).run P w = .ok (.value u) w) (hI2 : ∀ u w, I m u w → I (m + 1) u w) : StepAt P ops Q B O (GrI C I u0 L a0) i := by
 rintro b a w hG hb hon hoff
 obtain ⟨vs, hu, ha, hI, hK2⟩ := gr_step i k m hm hL hset hdist hnd hprev hG hb hon
 refine ⟨oi, ho, fun K hK => ?_⟩
 rw [hd]
 have e1 := hr b vs hon hoff
 rw [hfv vs hu] at e1
 exact value_ (w1 := w) (v := vs m) (wanted_none0 hg) hd (hrun a w (vs m) (by rw [ha]; exact e1)) (hK.out _ _ (hK2 _ _ (hI2 _ _ hI)))
theorem grow_region {id : Nat} (O C : List Nat) (I : Nat → Value → World → Prop) (u0 : Value) (L : (Nat → Value) → Sel) {n : Nat} {l : Array Bool} {Tb : Bool × List (List Nat × List Nat)} (hm : P.follows .mixedOrders = true) (hn : ops.size = n) (hl : Array.replicate n false = l) (hT : rtab .any ops = Tb) (hw : waitsOk Tb.2 B = true) (hk : baseOk Tb.2 O = true) (hl2 : (lof Tb.2.length O (fun _ => false) == l.toList && O.length == n) = true)
  (hLO : ∀ vs, (L vs).all (fun e => O.contains e.1) = true) (hCO : (C.all fun e => O.contains e) = true) (h0 : I 0 u0 W.drew) (hs : ∀ i ∈ O, StepAt P ops Q B O (GrI C I u0 L a0) i)
  (hend : ∀ (vs : Nat → Value) (w : World), I C.length (vs C.length) w → Q .normal (putSel a0 (fun _ => true) (L vs)) w) : Code.wp P (Code.region id ops true) Q a0 W := by
 refine start_ (S := fun _ => True) (ds := []) l hm hn hl trivial (fun _ => ?_)
 refine inv_at O (fun a0 => GrI C I u0 L a0) hT hw hk hl2 ⟨0, fun _ => u0, Nat.zero_le _, rfl, fun j c _ => ⟨fun h => absurd h (Nat.not_lt_zero _), fun _ => rfl⟩, ?_, h0⟩ hs ?_
 ·generalize L (fun _ => u0) = LL
  clear hLO hs hend
  induction LL with
  | nil => rfl
  | cons e r ih => unfold putSel; exact ih
 ·rintro b a w hall ⟨s, vs, hs1, hu, h1, ha, hI⟩
  have e1 : putSel a0 b (L vs) = putSel a0 (fun _ => true) (L vs) := putSel_congr (fun e he => hall _ (List.all_eq_true.1 (hLO vs) e he))
  have e2 : s = C.length := by
   rcases Nat.lt_or_ge s C.length with h | h
   ·have hc := List.getElem?_eq_getElem h
    have e2 := (h1 s _ hc).2 (Nat.le_refl _)
    rw [hall _ (List.all_eq_true.1 hCO _ (List.getElem_mem h))] at e2
    cases e2
   ·omega
  rw [ha, e1]
  rw [e2] at hI
  exact hend vs w hI
end
end Go.Proofs.YtdlamomabonkjaaDoor.Base
end
section
namespace Go.Proofs.YtdlamomabonkjaaDoor.Base
open Go.RowKit YtdlamomabonkjaaDoorW.PrintWords YtdlamomabonkjaaDoorW.PrintLast
section
variable {P : Program} {ops : Array Oper} {Q : Exit → Act → World → Prop} {B O C : List Nat} {W : World} {I : Nat → Value → World → Prop} {u0 : Value} {L : (Nat → Value) → Sel} {a0 : Act} {i : Nat} {p : Tmp}
theorem gr_callc (i k m : Nat) {t : Tmp} {vals : List Value} {oi : Oper} {f : FuncId} {fn : Func} {ax : Array Operand} {ts : Array TypeId} (ho : ops[i]? = some oi) (hg : oi.guard = none) (hd : oi.dst = some t) (hm : C[m]? = some i) (hL : ∀ vs, (L vs)[k]? = some (i, t, vs (m + 1)))
  (hset : ∀ vs v', (L vs).set k (i, t, v') = L (fun j => if j = m + 1 then v' else vs j)) (hdist : ∀ vs, ((L vs).take k ++ (L vs).drop (k + 1)).all (fun e => !(e.1 == i) && !(e.2.1 == t)) = true) (hnd : (C.take m ++ C.drop (m + 1)).contains i = false) (hprev : (C.take m).all (fun q => O.contains q && (B.getD i 0).testBit q) = true)
  (hf : P.funcs[f]? = some fn) (hname : (fn.name == "runtime.NumGoroutine") = false) (hbd : fn.body.isSome = true) (hop : oi.op = .call { callee := .value (.func f), args := ax, argTypes := ts })
  (har : Ar O B i L a0 ax.toList vals) (hcall : ∀ u w, I m u w → Calls P f vals.toArray w fun e w' => ∃ v', e = .returned v' ∧ I (m + 1) v' w') : StepAt P ops Q B O (GrI C I u0 L a0) i := by
 rintro b a w hG hb hon hoff
 obtain ⟨vs, hu, ha, hI, hK2⟩ := gr_step i k m hm hL hset hdist hnd hprev hG hb hon
 refine ⟨oi, ho, fun K hK => ?_⟩
 rw [hd]
 have e2 := har b vs hon hoff
 refine goes_ hf hname hbd vals.toArray (wanted_none0 hg) hd hop ?_ ?_
 ·apply Array.toList_inj.1
  rw [Array.toList_map, ha, e2]
 ·refine (hcall (vs m) w hI).mono ?_
  rintro e w' ⟨v', rfl, hI'⟩
  exact ⟨v', rfl, hK.out _ _ (hK2 v' w' hI')⟩
end
end Go.Proofs.YtdlamomabonkjaaDoor.Base
end
section
namespace CrcMath
def poly : Nat := 2197175160
theorem poly_eq : poly = 2197175160 := rfl
attribute [irreducible] poly
def bitStep (n : Nat) : Nat := if n % 2 = 1 then (n / 2) ^^^ poly else n / 2
def bitSteps : Nat → Nat → Nat
 | 0, n => n
 | k + 1, n => bitSteps k (bitStep n)
theorem half_xor (a b : Nat) : (a ^^^ b) / 2 = a / 2 ^^^ b / 2 := by
 have := Nat.xor_div_two (a := a) (b := b)
 exact this
theorem bitStep_xor (a b : Nat) : bitStep (a ^^^ b) = bitStep a ^^^ bitStep b := by
 unfold bitStep
 have h : (a ^^^ b) % 2 = (a % 2 + b % 2) % 2 := by
  have := Nat.xor_mod_two_pow (a := a) (b := b) (n := 1)
  rcases Nat.mod_two_eq_zero_or_one a with ha | ha <;> rcases Nat.mod_two_eq_zero_or_one b with hb | hb <;> simp [ha, hb] at this ⊢ <;> omega
 rw [h, half_xor]
 generalize poly = p
 rcases Nat.mod_two_eq_zero_or_one a with ha | ha <;> rcases Nat.mod_two_eq_zero_or_one b with hb | hb <;> simp [ha, hb]
 ·exact (Nat.xor_assoc _ _ _)
 ·ac_rfl
 ·rw [show a / 2 ^^^ p ^^^ (b / 2 ^^^ p) = (a / 2 ^^^ b / 2) ^^^ (p ^^^ p) by ac_rfl, Nat.xor_self, Nat.xor_zero]
theorem bitSteps_xor (k a b : Nat) : bitSteps k (a ^^^ b) = bitSteps k a ^^^ bitSteps k b := by
 induction k generalizing a b with
 | zero => rfl
 | succ k ih => simp only [bitSteps, bitStep_xor, ih]
theorem bitSteps_add (j k n : Nat) : bitSteps (j + k) n = bitSteps k (bitSteps j n) := by
 induction j generalizing n with
 | zero => simp [bitSteps]
 | succ j ih => rw [Nat.succ_add]; simp only [bitSteps, ih]
theorem bitSteps_shift (k n : Nat) : bitSteps k (n <<< k) = n := by
 induction k generalizing n with
 | zero => simp [bitSteps]
 | succ k ih =>
  have : n <<< (k + 1) = 2 * (n <<< k) := by simp [Nat.shiftLeft_eq, Nat.pow_succ]; ac_rfl
  simp only [bitSteps, bitStep]
  rw [this, if_neg (by omega), Nat.mul_div_cancel_left _ (by decide)]
  exact ih n
theorem bitSteps_nil (n : Nat) : bitSteps 0 n = n := rfl
theorem bitSteps_one (n : Nat) : bitSteps 1 n = if n % 2 = 1 then (n / 2) ^^^ poly else n / 2 := rfl
theorem bitStep_lt {n : Nat} (h : n < 4294967296) : bitStep n < 4294967296 := by
 unfold bitStep
 have h1 : n / 2 < 4294967296 := by omega
 split
 ·exact Nat.xor_lt_two_pow (n := 32) h1 (by rw [poly_eq]; decide)
 ·exact h1
theorem bitSteps_lt {k n : Nat} (h : n < 4294967296) : bitSteps k n < 4294967296 := by
 induction k generalizing n with
 | zero => exact h
 | succ k ih => exact ih (bitStep_lt h)
def byteStep (r : Nat) (c : UInt8) : Nat := bitSteps 8 (r ^^^ c.toNat)
theorem byteStep_lt {r : Nat} (h : r < 4294967296) (c : UInt8) : byteStep r c < 4294967296 :=
 bitSteps_lt (Nat.xor_lt_two_pow (n := 32) h (by have := c.toNat_lt; omega))
theorem byteStep_eq (r : Nat) (c : UInt8) : byteStep r c = bitSteps 8 (r ^^^ c.toNat) := rfl
attribute [irreducible] byteStep
def ext (r : Nat) (l : List UInt8) : Nat := l.foldl byteStep r
theorem ext_append (r : Nat) (a b : List UInt8) : ext r (a ++ b) = ext (ext r a) b := List.foldl_append
theorem ext_lt {r : Nat} (h : r < 4294967296) (l : List UInt8) : ext r l < 4294967296 := by
 induction l generalizing r with
 | nil => exact h
 | cons c l ih => exact ih (byteStep_lt h c)
def nib : Nat → Nat := fun i => [0, 274646895, 549293790, 820201905, 1098587580, 1361435347, 1640403810, 1905808397, 2197175160, 2460548119, 2722870694, 2987750089, 3280807620, 3553878443, 3811616794, 4084100981].getD i 0
theorem nib_tab : ∀ i : Nat, i < 16 → bitSteps 4 i = nib i := by
 unfold bitSteps bitSteps bitSteps bitSteps bitSteps bitStep
 rw [poly_eq]
 decide +kernel
theorem split4 (r : Nat) : r = (r / 2 ^ 4) <<< 4 ^^^ (r % 2 ^ 4) := by
 apply Nat.eq_of_testBit_eq
 intro i
 rw [Nat.testBit_xor, Nat.testBit_shiftLeft, Nat.testBit_mod_two_pow, Nat.testBit_div_two_pow]
 by_cases h : i < 4
 ·simp [h, show ¬ 4 ≤ i by omega]
 ·simp [h, show 4 ≤ i by omega, show i - 4 + 4 = i by omega]
attribute [irreducible] nib bitSteps
theorem four' (r a b : Nat) (h1 : r = a <<< 4 ^^^ b) : bitSteps 4 r = a ^^^ bitSteps 4 b := by
 rw [h1, bitSteps_xor, bitSteps_shift]
theorem four (r : Nat) : bitSteps 4 r = r / 16 ^^^ nib (r % 16) :=
 (four' r _ _ (split4 r)).trans (congrArg (r / 16 ^^^ ·) (nib_tab _ (Nat.mod_lt _ (by decide))))
theorem eight (r : Nat) : bitSteps 8 r = (r / 16 ^^^ nib (r % 16)) / 16 ^^^ nib ((r / 16 ^^^ nib (r % 16)) % 16) := by
 rw [show (8 : Nat) = 4 + 4 from rfl, bitSteps_add, four (bitSteps 4 r), four r]
def sumL (l : List UInt8) : Nat := ext 4294967295 l ^^^ 4294967295
theorem sumL_eq (l : List UInt8) : sumL l = ext 4294967295 l ^^^ 4294967295 := rfl
theorem sumL_lt (l : List UInt8) : sumL l < 4294967296 := Nat.xor_lt_two_pow (n := 32) (ext_lt (by decide) l) (by decide)
def puts (l : List UInt8) (s : Nat) : Nat → List UInt8
 | 0 => l
 | i + 1 => (puts l s i).set (8 + i) (UInt8.ofNat (s >>> (8 * i)))
theorem puts_length (l : List UInt8) (s k : Nat) : (puts l s k).length = l.length := by
 induction k with
 | zero => rfl
 | succ k ih => simp [puts, ih]
def noSum (l : List UInt8) : List UInt8 := l.take 8 ++ [0, 0, 0, 0] ++ l.drop 12
theorem puts_four (l : List UInt8) (s : Nat) (h : 12 ≤ l.length) : puts l s 4 = l.take 8 ++ [UInt8.ofNat s, UInt8.ofNat (s >>> 8), UInt8.ofNat (s >>> 16), UInt8.ofNat (s >>> 24)] ++ l.drop 12 := by
 match l, h with
 | _ :: _ :: _ :: _ :: _ :: _ :: _ :: _ :: _ :: _ :: _ :: _ :: r, _ => rfl
theorem noSum_length (l : List UInt8) (h : 12 ≤ l.length) : (noSum l).length = l.length := by simp [noSum]; omega
theorem puts_noSum (l : List UInt8) (h : 12 ≤ l.length) : puts l 0 4 = noSum l := by rw [puts_four l 0 h]; rfl
theorem puts_again (l : List UInt8) (s t : Nat) (h : 12 ≤ l.length) : puts (puts l s 4) t 4 = puts l t 4 := by
 match l, h with
 | _ :: _ :: _ :: _ :: _ :: _ :: _ :: _ :: _ :: _ :: _ :: _ :: r, _ => rfl
theorem noSum_puts (l : List UInt8) (s : Nat) (h : 12 ≤ l.length) : noSum (puts l s 4) = noSum l := by
 match l, h with
 | _ :: _ :: _ :: _ :: _ :: _ :: _ :: _ :: _ :: _ :: _ :: _ :: r, _ => rfl
def putL (l : List UInt8) : List UInt8 := puts l (sumL (noSum l)) 4
theorem putL_eq (l : List UInt8) : putL l = puts l (sumL (noSum l)) 4 := rfl
theorem putL_length (l : List UInt8) : (putL l).length = l.length := puts_length _ _ _
def checkL (l : List UInt8) : Int := if l.length < 12 then 20 else if putL l = l then 0 else 21
theorem check_put (l : List UInt8) (h : 12 ≤ l.length) : checkL (putL l) = 0 := by
 have h1 : putL (putL l) = putL l := by
  rw [putL_eq (putL l), putL_eq l, noSum_puts _ _ h, puts_again _ _ _ h]
 rw [checkL, if_neg (by rw [putL_length]; omega), if_pos h1]
attribute [irreducible] sumL
end CrcMath
end
section
namespace Go.Proofs.YtdlamomabonkjaaDoor.Crc
open Go.RowKit YtdlamomabonkjaaDoorW.PrintWords Base CrcMath
structure Table (w : World) : Prop where mk :: (out : ∀ i : Nat, i < 16 → w.cell? ⟨0, i, none⟩ = some (.int .u32 (nib i : Int)))
theorem xor32 (a b : Nat) (ha : a < 4294967296) (hb : b < 4294967296) : bits .xor .u32 (a : Int) (b : Int) = ((a ^^^ b : Nat) : Int) := by
 have ha' : a % 2 ^ 32 = a := Nat.mod_eq_of_lt ha
 have hb' : b % 2 ^ 32 = b := Nat.mod_eq_of_lt hb
 have := Nat.xor_lt_two_pow (n := 32) ha hb
 have e : (BitVec.ofNat 32 a ^^^ BitVec.ofNat 32 b).toNat = a ^^^ b := by rw [BitVec.toNat_xor, BitVec.toNat_ofNat, BitVec.toNat_ofNat, ha', hb']
 have e2 : bits .xor .u32 (a : Int) (b : Int) = IntKind.u32.wrap ((BitVec.ofNat 32 a ^^^ BitVec.ofNat 32 b).toNat : Nat) := by
  rfl
 rw [e2, e, IntKind.wrap_u32]
 omega
theorem and15 (a : Nat) (ha : a < 4294967296) : bits .and .u32 (a : Int) 15 = ((a % 16 : Nat) : Int) := by
 have := bits_mask .u32 32 (by decide) (fun n h0 h1 => by rw [IntKind.wrap_u32]; omega) 4 (by decide) (a : Int) (by omega) (by omega)
 rw [show (2 : Int) ^ 4 - 1 = 15 from rfl] at this
 rw [this]
 rfl
theorem and15_lt (a : Nat) : a % 16 < 16 := Nat.mod_lt _ (by decide)
theorem nib_lt (i : Nat) (h : i < 16) : nib i < 4294967296 := by
 have : ∀ i : Nat, i < 16 → nib i < 4294967296 := by decide +kernel
 exact this i h
theorem byte_round {w : World} (ht : Table w) (r : Nat) (hr : r < 4294967296) (c : UInt8) : ∃ x i n y i2 n2 : Nat,
  bits .xor .u32 (r : Int) ((c.toNat : Int) % 4294967296) = (x : Int) ∧ bits .and .u32 (x : Int) 15 = (i : Int) ∧ i < 16 ∧ w.cell? ⟨0, i, none⟩ = some (.int .u32 (n : Int)) ∧
  bits .xor .u32 ((x : Int) / 16) (n : Int) = (y : Int) ∧ bits .and .u32 (y : Int) 15 = (i2 : Int) ∧ i2 < 16 ∧ w.cell? ⟨0, i2, none⟩ = some (.int .u32 (n2 : Int)) ∧
  bits .xor .u32 ((y : Int) / 16) (n2 : Int) = (byteStep r c : Nat) := by
 have hc : c.toNat < 4294967296 := by have := c.toNat_lt; omega
 have h1 : r ^^^ c.toNat < 4294967296 := Nat.xor_lt_two_pow (n := 32) hr hc
 have h2 : ∀ x : Nat, x < 4294967296 → x / 16 ^^^ nib (x % 16) < 4294967296 := fun x hx => Nat.xor_lt_two_pow (n := 32) (by omega) (nib_lt _ (and15_lt _))
 have h3 : ∀ x : Nat, x < 4294967296 → bits .xor .u32 ((x : Int) / 16) (nib (x % 16) : Int) = ((x / 16 ^^^ nib (x % 16) : Nat) : Int) := fun x hx => by
  rw [show ((x : Int) / 16) = ((x / 16 : Nat) : Int) from rfl]
  exact xor32 _ _ (by omega) (nib_lt _ (and15_lt _))
 refine ⟨_, _, _, _, _, _, by rw [Int.emod_eq_of_lt (by omega) (by omega)]; exact xor32 r c.toNat hr hc, and15 _ h1, and15_lt _, ht.out _ (and15_lt _), h3 _ h1, and15 _ (h2 _ h1), and15_lt _, ht.out _ (and15_lt _), ?_⟩
 rw [h3 _ (h2 _ h1), byteStep_eq, eight]
theorem ext_take_succ (r : Nat) (p : List UInt8) (j : Nat) (h : j < p.length) : ext r (p.take (j + 1)) = byteStep (ext r (p.take j)) (p.getD j 0) := by
 rw [List.take_succ_eq_append_getElem h, ext_append, getD_lt _ _ _ h]
 rfl
theorem flatten_take_succ (r : Nat) (l : List (List UInt8)) (k : Nat) (h : k < l.length) : ext r (l.take (k + 1)).flatten = ext (ext r (l.take k).flatten) (l.getD k []) := by
 rw [List.take_succ_eq_append_getElem h, List.flatten_append, ext_append, getD_lt _ _ _ h]
 simp
theorem extend_calls (r : Nat) (hr : r < 4294967296) (A : Option Addr) (c : Nat) (parts : List (List UInt8)) (w : World) (ht : Table w) (hp : bytesK.C w A parts.length parts) :
  Calls Tryd.prog 90 #[.int .u32 (r : Int), .slice A parts.length c] w fun e w' => e = .returned (.int .u32 (ext r parts.flatten : Nat)) ∧ w = w' := by
 have hlen := hp.2.1
 go_enter Tryd.func90, Tryd.ntmps90
 go_wp2
 go_loop [0, 11] (fun v0 v11 => ∃ k : Nat, k ≤ parts.length ∧ v11 = .int .i64 k ∧ v0 = .int .u32 (ext r (parts.take k).flatten : Nat)) (fun _ i => parts.length - (intOf i).toNat)
 case atStart => exact ⟨0, Nat.zero_le _, rfl, rfl⟩
 case round =>
  obtain ⟨k, hk, rfl, rfl⟩ := hrel
  by_cases hlt : k < parts.length
  ·obtain ⟨ad, A0, c0, rfl, hx, hl0, hb⟩ := bytes_at hp k hlt
   have hlen0 := hb.2.1
   generalize hP : parts.getD k [] = p at *
   have HP := Lh hP
   clear hP
   generalize hR : ext r (parts.take k).flatten = r0 at *
   have HR := Lh hR
   have hr0 : r0 < 4294967296 := hR ▸ ext_lt hr _
   clear hR
   go_wp2
   go_loop [0, 17] (fun v0 v17 => ∃ j : Nat, j ≤ p.length ∧ v17 = .int .i64 j ∧ v0 = .int .u32 (ext r0 (p.take j) : Nat)) (fun _ i => p.length - (intOf i).toNat)
   case atStart => exact ⟨0, Nat.zero_le _, rfl, rfl⟩
   case round =>
    obtain ⟨j, hj, rfl, rfl⟩ := hrel
    by_cases hjl : j < p.length
    ·obtain ⟨ad1, rfl, hy⟩ := byte_at hb j hjl
     generalize hR1 : ext r0 (p.take j) = r1 at *
     have hr1 : r1 < 4294967296 := hR1 ▸ ext_lt hr0 _
     have HR1 := Lh hR1
     clear hR1
     obtain ⟨x, i, n, y, i2, n2, e1, e2, l1, t1, e3, e4, l2, t2, e5⟩ := byte_round ht r1 hr1 (p.getD j 0)
     generalize hB : byteStep r1 (p.getD j 0) = b at *
     have HB := Lh hB
     clear hB
     generalize hC : (p.getD j 0).toNat = cn at *
     clear hC
     go_wp2
     go_round
     case rel => exact ⟨j + 1, by omega, by go_num, by rw [ext_take_succ _ _ _ hjl, HR1.out, HB.out]⟩
     case measure => simp [intOf]; omega
    ·obtain rfl : j = p.length := by omega
     go_wp2
     go_round
     case rel => exact ⟨k + 1, by omega, by go_num, by rw [flatten_take_succ _ _ _ hlt, HR.out, HP.out, List.take_length]⟩
     case measure => simp [intOf]; omega
  ·obtain rfl : k = parts.length := by omega
   go_wp2
   go_ret
   exact ⟨rfl, rfl⟩
end Go.Proofs.YtdlamomabonkjaaDoor.Crc
end
section
namespace Go.Proofs.YtdlamomabonkjaaDoor.Crc
open Go.RowKit YtdlamomabonkjaaDoorW.PrintWords Base CrcMath
theorem sum_calls (A : Option Addr) (c : Nat) (parts : List (List UInt8)) (w : World) (ht : Table w) (hp : bytesK.C w A parts.length parts) :
  Calls Tryd.prog 78 #[.slice A parts.length c] w fun e w' => e = .returned (.int .u32 (sumL parts.flatten : Nat)) ∧ w = w' := by
 have h := extend_calls 4294967295 (by decide) A c parts w ht hp
 have hx := ext_lt (r := 4294967295) (by decide) parts.flatten
 have hS := sumL_eq parts.flatten
 have hm : IntKind.u32.max = 4294967295 := rfl
 have hs : IntKind.u32.signed = false := rfl
 generalize ext 4294967295 parts.flatten = x at *
 have e1 : bits .xor .u32 4294967295 (x : Int) = ((sumL parts.flatten : Nat) : Int) := by rw [hS, Nat.xor_comm]; exact xor32 4294967295 x (by decide) hx
 clear hS
 generalize sumL parts.flatten = y at *
 go_enter Tryd.func78, Tryd.ntmps78
 go_wp2_with (go_at_call 90; refine h.mono ?_; rintro e w' ⟨rfl, rfl⟩)
 go_ret
 exact ⟨rfl, rfl⟩
theorem and1 (a : Nat) (ha : a < 4294967296) : bits .and .u32 (a : Int) 1 = ((a % 2 : Nat) : Int) := by
 have := bits_mask .u32 32 (by decide) (fun n h0 h1 => by rw [IntKind.wrap_u32]; omega) 1 (by decide) (a : Int) (by omega) (by omega)
 rw [show (2 : Int) ^ 1 - 1 = 1 from rfl] at this
 rw [this]
 rfl
theorem bit_round (y : Nat) (hy : y < 4294967296) : ∃ y1 : Nat, Hid (bitSteps 1 y = y1) ∧ (y % 2 = 1 → bits .xor .u32 ((y : Int) / 2) 2197175160 = (y1 : Int)) ∧ (y % 2 = 0 → (y : Int) / 2 = (y1 : Int)) := by
 refine ⟨bitSteps 1 y, rfl, fun h => ?_, fun h => ?_⟩
 ·rw [bitSteps_one, if_pos h, poly_eq]
  exact xor32 (y / 2) 2197175160 (by omega) (by decide)
 ·rw [bitSteps_one, if_neg (by omega)]
  rfl
theorem refExtend_calls (r : Nat) (hr : r < 4294967296) (A : Option Addr) (c : Nat) (l : List UInt8) (w : World) (hb : byte.C w A l.length l) :
  Calls Tryd.prog 85 #[.int .u32 (r : Int), .slice A l.length c] w fun e w' => e = .returned (.int .u32 (ext r l : Nat)) ∧ w = w' := by
 have hlen := hb.2.1
 go_enter Tryd.func85, Tryd.ntmps85
 go_wp2
 go_loop [0, 5] (fun v0 v5 => ∃ k : Nat, k ≤ l.length ∧ v5 = .int .i64 k ∧ v0 = .int .u32 (ext r (l.take k) : Nat)) (fun _ i => l.length - (intOf i).toNat)
 case atStart => exact ⟨0, Nat.zero_le _, rfl, rfl⟩
 case round =>
  obtain ⟨k, hk, rfl, rfl⟩ := hrel
  by_cases hlt : k < l.length
  ·obtain ⟨ad1, rfl, hy⟩ := byte_at hb k hlt
   generalize hR1 : ext r (l.take k) = r1 at *
   have hr1 : r1 < 4294967296 := hR1 ▸ ext_lt hr _
   have HR1 := Lh hR1
   clear hR1
   have HB := Lh (byteStep_eq r1 (l.getD k 0))
   generalize hC : l.getD k 0 = cb at *
   have HC := Lh hC
   clear hC
   have hcb : cb.toNat < 256 := cb.toNat_lt
   have e1 : bits .xor .u32 (r1 : Int) (cb.toNat : Int) = ((r1 ^^^ cb.toNat : Nat) : Int) := xor32 _ _ hr1 (by omega)
   have hx : r1 ^^^ cb.toNat < 4294967296 := Nat.xor_lt_two_pow (n := 32) hr1 (by omega)
   generalize r1 ^^^ cb.toNat = x at *
   generalize cb.toNat = cn at *
   go_wp2
   go_loop [0, 6] (fun v0 v6 => ∃ j : Nat, j ≤ 8 ∧ v6 = .int .i64 j ∧ v0 = .int .u32 (bitSteps j x : Nat)) (fun _ i => 8 - (intOf i).toNat)
   case atStart => exact ⟨0, by omega, rfl, by rw [bitSteps_nil]⟩
   case round =>
    obtain ⟨j, hj, rfl, rfl⟩ := hrel
    have hs := bitSteps_add j 1 x
    have hx1 : bitSteps j x < 4294967296 := bitSteps_lt hx
    generalize hY : bitSteps j x = y at *
    have HY := Lh hY
    clear hY
    have HS := Lh hs
    clear hs
    by_cases hj8 : j < 8
    ·obtain ⟨y1, hy1, ho, he⟩ := bit_round y hx1
     have ho' := ho
     have hev : y % 2 = 1 ∨ y % 2 = 0 := by omega
     have e2 : bits .and .u32 (y : Int) 1 = ((y % 2 : Nat) : Int) := and1 y hx1
     rcases hev with hev | hev
     ·have e3 : ((bits .and .u32 (y : Int) 1) == 1) = true := by rw [e2, hev]; rfl
      have e4 := ho hev
      clear ho ho' he e2
      have HE := Lh hev
      clear hev
      go_wp2
      go_round
      case rel => exact ⟨j + 1, by omega, by go_num, by rw [HS.out, ← hy1.out]⟩
      case measure => simp [intOf]; omega
     ·have e3 : ((bits .and .u32 (y : Int) 1) == 1) = false := by rw [e2, hev]; rfl
      have e4 := he hev
      clear ho ho' he e2
      have HE := Lh hev
      clear hev
      go_wp2
      go_round
      case rel => exact ⟨j + 1, by omega, by go_num, by rw [HS.out, ← hy1.out]⟩
      case measure => simp [intOf]; omega
    ·obtain rfl : j = 8 := by omega
     go_wp2
     go_round
     case rel => exact ⟨k + 1, by omega, by go_num, by rw [ext_take_succ _ _ _ hlt, HR1.out, HC.out, HB.out, HY.out]⟩
     case measure => simp [intOf]; omega
  ·obtain rfl : k = l.length := by omega
   go_wp2
   go_ret
   exact ⟨rfl, rfl⟩
theorem refSum_calls (A : Option Addr) (c : Nat) (l : List UInt8) (w : World) (hb : byte.C w A l.length l) :
  Calls Tryd.prog 69 #[.slice A l.length c] w fun e w' => e = .returned (.int .u32 (sumL l : Nat)) ∧ w = w' := by
 have h := refExtend_calls 4294967295 (by decide) A c l w hb
 have hx := ext_lt (r := 4294967295) (by decide) l
 have hS := sumL_eq l
 generalize ext 4294967295 l = x at *
 have e1 : bits .xor .u32 (x : Int) 4294967295 = ((sumL l : Nat) : Int) := by rw [hS]; exact xor32 x 4294967295 hx (by decide)
 clear hS
 generalize sumL l = y at *
 go_enter Tryd.func69, Tryd.ntmps69
 go_wp2_with (go_at_call 85; refine h.mono ?_; rintro e w' ⟨rfl, rfl⟩)
 go_ret
 exact ⟨rfl, rfl⟩
theorem Table.below {w w1 : World} (ht : Table w) (hb : Below w.heap.size w w1) : Table w1 := ⟨fun i hi => pw_cell_below hb (ht.out i hi)⟩
end Go.Proofs.YtdlamomabonkjaaDoor.Crc
end
section
namespace Go.Proofs.YtdlamomabonkjaaDoor.Base
open Go.RowKit YtdlamomabonkjaaDoorW.PrintWords
theorem take_eq_succ {α : Type} (l l' : List α) (k : Nat) (h : k < l.length) (h' : k < l'.length) (ht : l.take k = l'.take k) (he : l[k] = l'[k]) : l.take (k + 1) = l'.take (k + 1) := by
 rw [List.take_succ_eq_append_getElem h, List.take_succ_eq_append_getElem h', ht, he]
theorem equal_calls (A A' : Option Addr) (c c' : Nat) (l l' : List UInt8) (w : World) (hb : byte.C w A l.length l) (hb' : byte.C w A' l'.length l') :
  Calls Tryd.prog 67 #[.slice A l.length c, .slice A' l'.length c'] w fun e w' => e = .returned (.bool (decide (l = l'))) ∧ Drawn0 w w' := by
 have hlen := hb.2.1
 have hlen' := hb'.2.1
 by_cases hL : l.length = l'.length
 ·have hne : (((l.length : Nat) : Int) != ((l'.length : Nat) : Int)) = false := by simp [hL]
  have HL := Lh hL
  clear hL
  go_enter Tryd.func67, Tryd.ntmps67
  go_wp2
  go_loopw [13] (fun v13 w' => ∃ k : Nat, k ≤ l.length ∧ v13 = .int .i64 k ∧ Hid (l.take k = l'.take k) ∧ Drawn0 w w') (fun v13 _ => l.length - (intOf v13).toNat)
  case atStart => exact ⟨0, by omega, rfl, rfl, Drawn0.refl _⟩
  case round =>
   obtain ⟨k, hk, rfl, hT, hD⟩ := hrel
   obtain ⟨⟨nd, rfl⟩⟩ := hD
   by_cases hlt : k < l.length
   ·have hlt' : k < l'.length := by rw [← HL.out]; exact hlt
    obtain ⟨ad, rfl, hx⟩ := byte_at hb k hlt
    obtain ⟨ad', rfl, hx'⟩ := byte_at hb' k hlt'
    have gx := getD_lt l 0 k hlt
    have gx' := getD_lt l' 0 k hlt'
    generalize l.getD k 0 = p at *
    generalize l'.getD k 0 = p' at *
    have GX := Lh gx
    have GX' := Lh gx'
    clear gx gx'
    by_cases hp : p = p'
    ·subst hp
     have ht : (((p.toNat : Nat) : Int) != ((p.toNat : Nat) : Int)) = false := by simp
     generalize ((p.toNat : Nat) : Int) = q at *
     go_wp2
     go_quiet (fail)
     go_wp2
     go_roundw
     case rel => exact ⟨k + 1, by omega, by go_num, take_eq_succ l l' k hlt hlt' hT.out (by rw [← GX.out, ← GX'.out]), drawn2 (by first | exact ⟨_, rfl⟩ | exact ⟨_, World.drewN_drewN ..⟩)⟩
     case measure => simp [intOf]; omega
    ·have ht : (((p.toNat : Nat) : Int) != ((p'.toNat : Nat) : Int)) = true := by
      simp only [bne_iff_ne, ne_eq, Int.natCast_inj, UInt8.toNat_inj]
      exact hp
     have HP := Lh hp
     clear hp
     generalize hq : ((p.toNat : Nat) : Int) = q at *
     generalize hq' : ((p'.toNat : Nat) : Int) = q' at *
     clear hq hq'
     go_wp2
     go_quiet (fail)
     go_wp2
     go_ret
     exact ⟨ret_bool (decide_eq_false (fun h => HP.out (by rw [GX.out, GX'.out]; simp [h]))).symm, drawn2 (by first | exact ⟨_, rfl⟩ | exact ⟨_, World.drewN_drewN ..⟩)⟩
   ·obtain rfl : k = l.length := by omega
    go_wp2
    go_ret
    refine ⟨ret_bool (decide_eq_true ?_).symm, Drawn0.mk ⟨nd, rfl⟩⟩
    have := hT.out
    rwa [List.take_length, HL.out, List.take_length] at this
 ·have hne : (((l.length : Nat) : Int) != ((l'.length : Nat) : Int)) = true := by simp; omega
  have HL := Lh hL
  clear hL
  go_enter Tryd.func67, Tryd.ntmps67
  go_wp2
  go_ret
  exact ⟨ret_bool (decide_eq_false (fun h => HL.out (congrArg List.length h))).symm, Drawn0.refl _⟩
end Go.Proofs.YtdlamomabonkjaaDoor.Base
end
section
namespace Go.Proofs.YtdlamomabonkjaaDoor.Crc
open Go.RowKit YtdlamomabonkjaaDoorW.PrintWords Base CrcMath
theorem call3 {w : World} (ht : Table w) {lits : Array Value} {n1 : Nat} {A0 A1 A2 : Option Addr} {c0 c1 c2 : Nat} {p0 p1 p2 : List UInt8}
  (h0 : byte.C w A0 p0.length p0) (k0 : p0.length ≤ c0) (h1 : byte.C (w.alloc (.cells lits 5)) A1 n1 p1) (k1 : n1 ≤ c1) (h2 : byte.C w A2 p2.length p2) (k2 : p2.length ≤ c2) :
  Calls Tryd.prog 78 #[.slice (some ⟨w.heap.size + 1, 0, none⟩) 3 3]
   ((w.alloc (.cells lits 5)).alloc (.cells #[.slice A0 p0.length c0, .slice A1 n1 c1, .slice A2 p2.length c2] 27)).drew
   fun e w' => e = .returned (.int .u32 (sumL [p0, p1, p2].flatten : Nat)) ∧ Below w.heap.size w w' := by
 have hn : p1.length = n1 := h1.1
 have hz : (w.alloc (.cells lits 5)).heap.size = w.heap.size + 1 := by simp
 have hrow : bytesK.C ((w.alloc (.cells lits 5)).alloc (.cells [.slice A0 p0.length c0, .slice A1 n1 c1, .slice A2 p2.length c2].toArray 27)) (some ⟨(w.alloc (.cells lits 5)).heap.size, 0, none⟩) 3 [p0, p1, p2] := by
  refine row_lit bytesK rfl _ _ [.slice A0 p0.length c0, .slice A1 n1 c1, .slice A2 p2.length c2] [p0, p1, p2] rfl (by simp) ?_
  intro j v p hv hp
  match j, hv, hp with
  | 0, hv, hp => obtain rfl := Option.some.inj hv; obtain rfl := Option.some.inj hp; exact K_bytes (Kd.C_alloc h0 _) k0
  | 1, hv, hp => obtain rfl := Option.some.inj hv; obtain rfl := Option.some.inj hp; subst hn; exact K_bytes h1 k1
  | 2, hv, hp => obtain rfl := Option.some.inj hv; obtain rfl := Option.some.inj hp; exact K_bytes (Kd.C_alloc h2 _) k2
  | j + 3, hv, hp => cases hv
 have hB : Below w.heap.size w ((w.alloc (.cells lits 5)).alloc (.cells #[.slice A0 p0.length c0, .slice A1 n1 c1, .slice A2 p2.length c2] 27)).drew :=
  (((Below.refl _ _).alloc (Nat.le_refl _) _).alloc (by simp) _).drew
 rw [hz] at hrow
 refine (sum_calls _ 3 [p0, p1, p2] _ (ht.below hB) (Kd.C_drew hrow)).mono ?_
 rintro e w' ⟨rfl, rfl⟩
 exact ⟨rfl, hB⟩
theorem low_calls (A : Option Addr) (c : Nat) (l : List UInt8) (w : World) (ht : Table w) (hb : byte.C w A l.length l) (hc : l.length ≤ c) (hl : 12 ≤ l.length) :
  Calls Tryd.prog 56 #[.slice A l.length c] w fun e w' => e = .returned (.int .u32 (sumL (noSum l) : Nat)) ∧ Below w.heap.size w w' := by
 have hlen := hb.2.1
 obtain ⟨s1, b1, c1⟩ := take_bytes hb hc 8 8 rfl (by omega)
 obtain ⟨A2, s2, b2, c2⟩ := drop_bytes hb hc 12 12 rfl hl
 have hB : noSum l = [l.take 8, [0, 0, 0, 0], l.drop 12].flatten := by simp [noSum]
 rw [hB]
 clear hB
 generalize l.take 8 = l1 at *
 generalize l.drop 12 = l2 at *
 have b0 : byte.C (w.alloc (.cells #[.int .u8 0, .int .u8 0, .int .u8 0, .int .u8 0] 5)) (some ⟨w.heap.size, 0, none⟩) 4 [0, 0, 0, 0] :=
  row_lit byte rfl w 5 [.int .u8 0, .int .u8 0, .int .u8 0, .int .u8 0] [0, 0, 0, 0] rfl (by decide) (lit_byte _ _ (by rfl))
 have h := call3 ht (lits := #[.int .u8 0, .int .u8 0, .int .u8 0, .int .u8 0]) b1 c1 b0 (Nat.le_refl 4) b2 c2
 clear ht hb b1 b2 b0
 generalize sumL [l1, [0, 0, 0, 0], l2].flatten = s at *
 go_enter Tryd.func56, Tryd.ntmps56
 go_wp2
 go_region_with (go_at_call 78; refine h.mono ?_; rintro e w' ⟨rfl, hB⟩)
 all_goals
  go_wp2
  go_ret
  exact ⟨rfl, hB⟩
def PutDone (l : List UInt8) (w : World) (e : Ending) (w' : World) : Prop := ∃ v, e = .returned (.tuple #[v, .int .i64 0]) ∧ byte.R 5 w' w.heap.size (fun _ => True) v l ∧ Below w.heap.size w w'
theorem ofNat_shr (s k : Nat) : ((UInt8.ofNat (s >>> k)).toNat : Int) = (s : Int) / (2 ^ k : Nat) % 256 := by
 rw [UInt8.toNat_ofNat', Nat.shiftRight_eq_div_pow]
 omega
theorem put_brief (A : Option Addr) (c : Nat) (l : List UInt8) (w : World) (hl : l.length < 12) :
  Calls Tryd.prog 30 #[.slice A l.length c] w fun e w' => e = .returned (.tuple #[.slice none 0 0, .int .i64 20]) ∧ w = w' := by
 go_enter Tryd.func30, Tryd.ntmps30
 go_wp2
 go_ret2
 exact ⟨rfl, rfl⟩
theorem put_calls (A : Option Addr) (c : Nat) (l : List UInt8) (w : World) (ht : Table w) (hb : byte.C w A l.length l) (hc : l.length ≤ c) (hm : l.length ≤ 140737488355328) (hl : 12 ≤ l.length) :
  Calls Tryd.prog 30 #[.slice A l.length c] w (PutDone (puts l (sumL (noSum l)) 4) w) := by
 have hcl := clone_calls A c l w hb hm
 have hlow := fun (w1 : World) (h : Below w.heap.size w w1) => low_calls A c l w1 (ht.below h) (Kd.C_below hb h) hc hl
 have hs : sumL (noSum l) < 4294967296 := sumL_lt _
 generalize sumL (noSum l) = s at *
 go_enter Tryd.func30, Tryd.ntmps30
 go_wp2_with fail
 refine hcl.mono ?_
 rintro e w1 ⟨v, rfl, hR, hB⟩
 obtain ⟨g, cap, rfl, hg, hg1⟩ := (Kd.R_own hR).elim fun _ h => h.form (by omega)
 clear hcl hb ht
 go_wp2_with fail
 refine (hlow w1 hB).mono ?_
 rintro e w2 ⟨rfl, hB2⟩
 have hR2 := Kd.R_below hR hB2
 have hB3 : Below w.heap.size w w2 := below_then hB hB.size hB2
 clear hlow hR hB hB2 hg1
 go_wp2
 go_loopw [14] (fun v14 w' => ∃ k : Nat, k ≤ 4 ∧ v14 = .int .i64 k ∧ byte.R 5 w' w.heap.size (fun _ => True) (.slice (some ⟨g, 0, none⟩) l.length cap) (puts l s k) ∧ Below w.heap.size w w') (fun v14 _ => 4 - (intOf v14).toNat)
 case atStart => exact ⟨0, by omega, rfl, hR2, hB3⟩
 case round =>
  obtain ⟨k, hk, rfl, hR, hB⟩ := hrel
  have hpl := puts_length l s k
  rcases (by omega : k = 0 ∨ k = 1 ∨ k = 2 ∨ k = 3 ∨ k = 4) with rfl | rfl | rfl | rfl | rfl
  ·obtain ⟨hcl, hfr⟩ := byte_cell hR 8 (by omega)
   go_wp2
   go_roundw
   case rel => exact ⟨1, by omega, rfl, byte_put hR 8 _ _ (by rw [show (8 * 0) = 0 from rfl, ofNat_shr, show ((2 ^ 0 : Nat) : Int) = 1 from rfl]; omega), hB.setCell hg _⟩
   case measure => simp [intOf]
  ·obtain ⟨hcl, hfr⟩ := byte_cell hR 9 (by omega)
   go_wp2
   go_roundw
   case rel => exact ⟨2, by omega, rfl, byte_put hR 9 _ _ (by rw [show (8 * 1) = 8 from rfl, ofNat_shr, show ((2 ^ 8 : Nat) : Int) = 256 from rfl]), hB.setCell hg _⟩
   case measure => simp [intOf]
  ·obtain ⟨hcl, hfr⟩ := byte_cell hR 10 (by omega)
   go_wp2
   go_roundw
   case rel => exact ⟨3, by omega, rfl, byte_put hR 10 _ _ (by rw [show (8 * 2) = 16 from rfl, ofNat_shr, show ((2 ^ 16 : Nat) : Int) = 65536 from rfl]), hB.setCell hg _⟩
   case measure => simp [intOf]
  ·obtain ⟨hcl, hfr⟩ := byte_cell hR 11 (by omega)
   go_wp2
   go_roundw
   case rel => exact ⟨4, by omega, rfl, byte_put hR 11 _ _ (by rw [show (8 * 3) = 24 from rfl, ofNat_shr, show ((2 ^ 24 : Nat) : Int) = 16777216 from rfl]; omega), hB.setCell hg _⟩
   case measure => simp [intOf]
  ·go_wp2
   go_ret2
   exact ⟨_, rfl, hR, hB⟩
theorem check_calls (A : Option Addr) (c : Nat) (l : List UInt8) (w : World) (ht : Table w) (hb : byte.C w A l.length l) (hc : l.length ≤ c) (hm : l.length ≤ 140737488355328) :
  Calls Tryd.prog 79 #[.slice A l.length c] w fun e w' => e = .returned (.int .i64 (checkL l)) ∧ Below w.heap.size w w' := by
 by_cases hl : l.length < 12
 ·have h := put_brief A c l w hl
  have hL : checkL l = 20 := if_pos hl
  rw [hL]
  go_enter Tryd.func79, Tryd.ntmps79
  go_wp2_with fail
  refine h.mono ?_
  rintro e w' ⟨rfl, rfl⟩
  go_wp2
  go_ret
  exact ⟨rfl, Below.refl _ _⟩
 ·have h := put_calls A c l w ht hb hc hm (by omega)
  have hL : checkL l = if putL l = l then 0 else 21 := if_neg hl
  rw [hL]
  have hlen := puts_length l (sumL (noSum l)) 4
  have hP : puts l (sumL (noSum l)) 4 = putL l := rfl
  rw [hP] at h hlen
  generalize putL l = q at *
  by_cases hq : q = l
  ·rw [if_pos hq]
   have HQ := Lh hq
   have HL := Lh hlen
   clear hq hlen hP hL
   go_enter Tryd.func79, Tryd.ntmps79
   go_wp2_with fail
   refine h.mono ?_
   rintro e w1 ⟨v, rfl, hR, hB⟩
   obtain ⟨A1, c1, rfl, hle, hC⟩ := Kd.R_reads hR
   have he := equal_calls A1 A c1 c q l w1 hC (Kd.C_below hb hB)
   rw [decide_eq_true HQ.out] at he
   clear h hR hb
   go_wp2_with fail
   refine he.mono ?_
   rintro e w' ⟨rfl, hD⟩
   go_wp2
   go_ret
   exact ⟨rfl, below_then hB hB.size hD.below⟩
  ·rw [if_neg hq]
   have HQ := Lh hq
   have HL := Lh hlen
   clear hq hlen hP hL
   go_enter Tryd.func79, Tryd.ntmps79
   go_wp2_with fail
   refine h.mono ?_
   rintro e w1 ⟨v, rfl, hR, hB⟩
   obtain ⟨A1, c1, rfl, hle, hC⟩ := Kd.R_reads hR
   have he := equal_calls A1 A c1 c q l w1 hC (Kd.C_below hb hB)
   rw [decide_eq_false HQ.out] at he
   clear h hR hb
   go_wp2_with fail
   refine he.mono ?_
   rintro e w' ⟨rfl, hD⟩
   go_wp2
   go_ret
   exact ⟨rfl, below_then hB hB.size hD.below⟩
end Go.Proofs.YtdlamomabonkjaaDoor.Crc
end
section
namespace Go.Proofs.YtdlamomabonkjaaDoor.Ch
open Go.RowKit YtdlamomabonkjaaDoorW.PrintWords YtdlamomabonkjaaDoorW.PrintLast Base PCh ParDec ParEnc
structure B1 (w : World) (x : Chk) (L : Lay) (W : World) : Prop where
 x0 : W.heap[w.heap.size]? = some (.cells (CV x L) 41 (0, 0))
 x2 : Below w.heap.size w W
theorem B1.cell {w W : World} {x : Chk} {L : Lay} (h : B1 w x L W) (i : Nat) : W.cell? ⟨w.heap.size, i, none⟩ = (CV x L)[i]? := blk_cell h.x0 i
theorem B1.below {w W W' : World} {x : Chk} {L : Lay} (h : B1 w x L W) (hb : Below W.heap.size W W') : B1 w x L W' := ⟨blk_below h.x0 hb, below_then h.x2 h.x2.size hb⟩
theorem B1.drewN {w W : World} {x : Chk} {L : Lay} (h : B1 w x L W) (n : Nat) : B1 w x L (W.drewN n) := ⟨blk_drewN h.x0 n, pw_below_drewN h.x2 n⟩
theorem B1.new (w : World) (x : Chk) (L : Lay) : B1 w x L (w.alloc (.cells (CV x L) 41)) := ⟨blk_new _ _, below_alloc (Below.refl _ _) _⟩
end Go.Proofs.YtdlamomabonkjaaDoor.Ch
end
section
namespace Go.Proofs.YtdlamomabonkjaaDoor.Ch
open Go.RowKit YtdlamomabonkjaaDoorW.PrintWords YtdlamomabonkjaaDoorW.PrintLast Base PCh ParDec
theorem WS.alloc {w : World} {gw : Nat} {xs : List Int} (h : WS w gw xs) (x : Obj) : WS (w.alloc x) gw xs := by
 obtain ⟨u, hg, hR⟩ := h
 exact ⟨u, blk_alloc hg _, Kd.R_alloc hR _⟩
theorem gapL_length (l : List GapS) : (gapL l).length = 2 * l.length := by
 induction l with
 | nil => rfl
 | cons g r ih => simp only [gapL, List.length_append, List.length_cons, List.length_nil, ih]; omega
structure VX (w : World) (x : Chk) (L : Lay) (xs : List Int) (W : World) : Prop where
 x0 : W.heap[w.heap.size]? = some (.cells (CV x L) 41 (0, 0))
 ws : WS W (w.heap.size + 1) xs
 bl : Below w.heap.size w W
theorem VX.cell {w W : World} {x : Chk} {L : Lay} {xs : List Int} (h : VX w x L xs W) (i : Nat) : W.cell? ⟨w.heap.size, i, none⟩ = (CV x L)[i]? := blk_cell h.x0 i
theorem VX.fr {w W W' : World} {x : Chk} {L : Lay} {xs ys : List Int} (h : VX w x L xs W) (hs : WS W' (w.heap.size + 1) ys) (hf : Fr (w.heap.size + 1) W W') : VX w x L ys W' :=
 ⟨(hf.below.block _ (by omega)).trans h.x0, hs, h.bl.trans (hf.below.mono (by omega))⟩
theorem VX.below {w W W' : World} {x : Chk} {L : Lay} {xs : List Int} (h : VX w x L xs W) (hb : Below W.heap.size W W') : VX w x L xs W' := by
 obtain ⟨u, hg, hR⟩ := h.ws
 exact ⟨blk_below h.x0 hb, ⟨u, blk_below hg hb, R_only hR (Only.of_below (S := fun _ => False) hb) (fun _ _ _ h => h)⟩, below_then h.bl h.bl.size hb⟩
theorem VX.new (w : World) (x : Chk) (L : Lay) : VX w x L [] ((w.alloc (.cells (CV x L) 41)).alloc (.cells #[.slice none 0 0] 87)) := by
 refine ⟨blk_alloc (blk_new _ _) _, ⟨_, ?_, Kd.R_nil _ _ _ _ _⟩, below_alloc (below_alloc (Below.refl _ _) _) _⟩
 have h := blk_new (w.alloc (.cells (CV x L) 41)) (.cells #[.slice none 0 0] 87)
 rw [World.size_alloc] at h
 exact h
theorem VX.four {w W : World} {x : Chk} {L : Lay} {xs : List Int} (h : VX w x L xs W) (ns : List Int) (vs : List Value) (n : Nat) (hv : vs = ns.map (Value.int .u32)) (hn : ns.length = n) (hx : xs.length ≤ 140737488355300) (hn4 : n ≤ 4) :
  Calls Tryd.prog 76 #[.pointer (some ⟨w.heap.size + 1, 0, none⟩), .slice (some ⟨W.heap.size, 0, none⟩) n n] (W.alloc (.cells vs.toArray 23)) fun e w' => e = .returned (.tuple #[]) ∧ VX w x L (xs ++ fourL ns) w' :=
 (wfour_lit W _ xs ns vs n hv hn h.ws (by omega)).mono fun _ _ ⟨h1, h2, h3⟩ => ⟨h1, h.fr h2 h3⟩
theorem VX.two {w W : World} {x : Chk} {L : Lay} {xs : List Int} (h : VX w x L xs W) (ns : List Int) (vs : List Value) (n : Nat) (hv : vs = ns.map (Value.int .u16)) (hn : ns.length = n) (hx : xs.length ≤ 140737488355300) (hn4 : n ≤ 4) :
  Calls Tryd.prog 53 #[.pointer (some ⟨w.heap.size + 1, 0, none⟩), .slice (some ⟨W.heap.size, 0, none⟩) n n] (W.alloc (.cells vs.toArray 22)) fun e w' => e = .returned (.tuple #[]) ∧ VX w x L (xs ++ twoL ns) w' :=
 (wtwo_lit W _ xs ns vs n hv hn h.ws (by omega)).mono fun _ _ ⟨h1, h2, h3⟩ => ⟨h1, h.fr h2 h3⟩
end Go.Proofs.YtdlamomabonkjaaDoor.Ch
end
section
namespace Go.Proofs.YtdlamomabonkjaaDoor.Ch
open Go.RowKit YtdlamomabonkjaaDoorW.PrintWords YtdlamomabonkjaaDoorW.PrintLast Base PCh ParDec ParEnc
theorem byte_of_int {w : World} {A : Option Addr} {l : List UInt8} (h : (Kd.int .u8).C w A (ints l).length (ints l)) : byte.C w A l.length l := by
 obtain ⟨h1, h2, h3⟩ := h
 rw [ints_length] at h2 h3
 refine ⟨rfl, h2, fun hn => ?_⟩
 obtain ⟨ad, e, hc⟩ := h3 hn
 refine ⟨ad, e, fun j p hj => ?_⟩
 exact hc j (p.toNat : Int) (by unfold ints; rw [List.getElem?_map, hj]; rfl)
theorem chk_row1 {w : World} {g : Nat} {x : Chk} {L : Lay} (hb : w.heap[g]? = some (.cells (CV x L) 41 (0, 0))) (hx : CR w x L) : Kd.C k41 w (some ⟨g, 0, none⟩) 1 [x] := by
 refine ⟨rfl, by simp, fun _ => ⟨_, rfl, fun j p hj => ?_⟩⟩
 rcases j with _ | j
 ·simp only [List.getElem?_cons_zero, Option.some.injEq] at hj
  subst hj
  refine ⟨(CV x L).toList, rfl, hx.K, fun i u hu => ?_⟩
  rw [Nat.zero_mul, Nat.zero_add]
  exact cells_of_blk hb i u hu
 ·simp at hj
end Go.Proofs.YtdlamomabonkjaaDoor.Ch
end
section
namespace Go.Proofs.YtdlamomabonkjaaDoor.Base
open Go.ChangeShapes Go.WideShapes Go.ChangeAt Go.RowKit YtdlamomabonkjaaDoorW.PrintWords
theorem bulk_one {H : Type} (d : DataW H) : 1 ≤ Rows.uptoBulk d := by
 cases d with
 | lit l => cases l <;> simp [Rows.uptoBulk]
 | nil => simp [Rows.uptoBulk]
 | ptr d => simp [Rows.uptoBulk]
 | slice elems spare => simp [Rows.uptoBulk]
 | agg parts => simp [Rows.uptoBulk]
 | iface t d => simp [Rows.uptoBulk]
 | map entries => simp [Rows.uptoBulk]
 | held h => simp [Rows.uptoBulk]
theorem bulk_sum {H : Type} {α : Type} (l : List (DataW H)) (xs : List α) (wt : α → Nat) (hl : xs.length = l.length) (h : ∀ (i : Nat) (x : α) (d : DataW H), xs[i]? = some x → l[i]? = some d → wt x ≤ Rows.uptoBulk d) : (xs.map wt).sum ≤ Rows.uptoBulkAll l := by
 induction l generalizing xs with
 | nil =>
  cases xs with
  | nil => simp
  | cons x xs => simp at hl
 | cons d l ih =>
  cases xs with
  | nil => simp at hl
  | cons x xs =>
   have h1 := h 0 x d rfl rfl
   have h2 := ih xs (by simpa using hl) (fun i x d hx hd => h (i + 1) x d (by simpa using hx) (by simpa using hd))
   simp only [List.map_cons, List.sum_cons, Rows.uptoBulkAll]
   omega
def Opens {α : Type} (t : TypeId) (d : Kd α) (wt : α → Nat) : Prop :=
 ∀ {H : Type} (enc : TypeId × Value → H) (W : World) (fuel : Nat) (cs : List Value) (D : DataW H) (p : List MemPlace), DataW.trod enc Tryd.prog W 0 (fun _ => true) true fuel t cs = some (D, p) → ∃ x, d.K W x cs ∧ wt x ≤ Rows.uptoBulk D
theorem Opens.int {α : Type} {t : TypeId} {k : IntKind} {enc : α → Value} {h1 : ∀ x : α, (enc x).oneCell' = true} (dec : Int → α) (ht : Tryd.prog.underlying t = some (.int k)) (hd : ∀ n, (Lit.int k n).wf = true → enc (dec n) = .int k n) : Opens t (Kd.scalar enc h1) (fun _ => 1) := by
 intro H enc W fuel cs D p h
 obtain ⟨n, rfl, hx, hw⟩ := DataW.trod_int ht h
 exact ⟨dec n, by show _ = _; rw [hd n hw], bulk_one D⟩
theorem Opens.bool {t : TypeId} (ht : Tryd.prog.underlying t = some .bool) : Opens t Kd.bool (fun _ => 1) := by
 intro H enc W fuel cs D p h
 obtain ⟨b, rfl, hx⟩ := DataW.trod_bool ht h
 exact ⟨b, rfl, bulk_one D⟩
theorem Opens.byte : Opens 5 Base.byte (fun _ => 1) := Opens.int (fun n => UInt8.ofNat n.toNat) Tryd.underlying5 (fun n hw => by rw [u8_of_wf hw])
theorem Opens.slice {α : Type} {t e : TypeId} {d : Kd α} {wt : α → Nat} (ho : Opens e d wt) (ht : Tryd.prog.underlying t = some (.slice e)) (hc : Tryd.prog.cellsOf e = d.sz) : Opens t (Kd.slice e d) (fun xs => (xs.map wt).sum + 1) := by
 intro H enc W fuel cs D p h
 rcases Go.Deep.open_slice ht h with ⟨rfl, hx⟩ | ⟨a, len, cap, m, n, Ds, Pl, rfl, hb, hl, hm, hmm, hxx, hel⟩
 ·exact ⟨[], ⟨none, 0, rfl, Nat.le_refl _, Kd.C_nil d W⟩, bulk_one D⟩
 ·have hmc : m = cap := by simpa using hmm
  subst hmc
  simp only [Prod.mk.injEq] at hxx
  obtain ⟨rfl, rfl⟩ := hxx
  have hone : ∀ i, i < len → ∃ x cs', W.cells? 0 (a.add (i * d.sz)) d.sz = some cs' ∧ d.K W x cs' ∧ wt x ≤ Rows.uptoBulk (Ds i) := by
   intro i hi
   obtain ⟨cs', h1, h2⟩ := hel i (by omega)
   obtain ⟨x, hk, hw⟩ := ho enc W n cs' (Ds i) (Pl i) h2
   rw [hc] at h1
   exact ⟨x, cs', h1, hk, hw⟩
  cases hlen : len with
  | zero =>
   refine ⟨[], ⟨some a, m, rfl, Nat.zero_le _, ⟨rfl, by simp, fun h0 => by simp at h0⟩⟩, ?_⟩
   exact bulk_one _
  | succ len' =>
   obtain ⟨x0, _⟩ := hone 0 (by omega)
   have hx : ∀ i, ∃ x, i < len → ∃ cs', W.cells? 0 (a.add (i * d.sz)) d.sz = some cs' ∧ d.K W x cs' ∧ wt x ≤ Rows.uptoBulk (Ds i) := by
    intro i
    by_cases hi : i < len
    ·obtain ⟨x, hx⟩ := hone i hi
     exact ⟨x, fun _ => hx⟩
    ·exact ⟨x0, fun h0 => absurd h0 hi⟩
   rw [← hlen]
   have hll : ((List.range len).map fun i => (hx i).choose).length = len := by simp
   have hget : ∀ j x, ((List.range len).map fun i => (hx i).choose)[j]? = some x → j < len ∧ x = (hx j).choose := by
    intro j x hj
    have hjl : j < len := by have := (List.getElem?_eq_some_iff.1 hj).1; simpa using this
    rw [List.getElem?_map, List.getElem?_range hjl] at hj
    exact ⟨hjl, (Option.some.inj hj).symm⟩
   refine ⟨(List.range len).map fun i => (hx i).choose, ⟨some a, m, by rw [hll], by rw [hll]; exact hl, ⟨rfl, by rw [hll]; simp only [maxLen] at hm; omega, fun _ => ⟨a, rfl, fun j x hj => ?_⟩⟩⟩, ?_⟩
   ·obtain ⟨hjl, rfl⟩ := hget j x hj
    obtain ⟨cs', h1, h2, _⟩ := (hx j).choose_spec hjl
    obtain ⟨_, hlen2, hcell⟩ := World.cells?_some h1
    refine ⟨cs', hlen2, h2, fun i u hu => ?_⟩
    have hi : i < d.sz := by have := (List.getElem?_eq_some_iff.1 hu).1; omega
    have := hcell i hi
    rw [hu] at this
    rw [← this, Go.Deep.add_add]
   ·have hs := bulk_sum ((List.range len).map Ds) ((List.range len).map fun i => (hx i).choose) wt (by simp) (fun i x D hxi hD => by
     obtain ⟨hjl, rfl⟩ := hget i x hxi
     rw [List.getElem?_map, List.getElem?_range hjl] at hD
     obtain rfl := Option.some.inj hD
     obtain ⟨_, _, _, h3⟩ := (hx i).choose_spec hjl
     exact h3)
    simp only [Rows.uptoBulk]
    omega
theorem Opens.bytes : Opens 27 (Kd.slice 5 Base.byte) (fun xs => (xs.map (fun _ => 1)).sum + 1) := Opens.slice Opens.byte Tryd.underlying27 cells_u8
end Go.Proofs.YtdlamomabonkjaaDoor.Base
end
