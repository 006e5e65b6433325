/- The statement PacketFew of ropewalk/ropewalklaw07.PacketFew. Proved from the walk Pk.few_row. Condition: the listed package variables read as the program's text lays them (tied by the card). -/
import Derived.Test.YtdlamomabonkjaaDoorUf5
import Derived.Lib.LaidTab
import Derived.Test.YtdlamomabonkjaaDoorCards
import Derived.Test.YtdlamomabonkjaaDoorTie
set_option maxRecDepth 100000
set_option linter.unusedVariables false
set_option linter.unusedSimpArgs false
section
namespace Go.Proofs.YtdlamomabonkjaaDoor.Pk
open Go.RowKit YtdlamomabonkjaaDoorW.PrintWords YtdlamomabonkjaaDoorW.PrintLast Base PCh ParDec ParEnc Ch Crc CrcMath
theorem penc_len {f t q : Int} {l : List Chk} (h : (pencD f t q l).2 = 0) : (pencD f t q l).1.length = 12 + (flatL l).length := by
 obtain ⟨_, _, _, _, h5, _, h7⟩ := penc_good h
 rw [h7, putL_length, (enc_good h5).2.1]
 unfold ParDec.bytesOf
 rw [List.length_map, List.length_append]
 rfl
theorem few_fit {m : Nat} {r : List Chk} (h : GoodB m r) (hm : m ≤ 1500) (hc : ∀ x ∈ r, checkD x = 0) : (pencD 1 1 0 r).2 = 0 ∧ (pencD 1 1 0 r).1.length ≤ m := by
 obtain ⟨h1, h2, h3, h4⟩ := good_enc h hm hc
 have h5 : (pencD 1 1 0 r).2 = 0 := by
  rw [penc_ok (by decide) (by decide) h2 h3 (by rw [h1]) (by rw [h1]; dsimp only; omega)]
 exact ⟨h5, by rw [penc_len h5]; exact h4⟩
theorem few_sep {m : Nat} {a b : List Chk} {y : Chk} {t : List Chk} (h : SepB m a b) (hb : b = y :: t) : ¬ ((pencD 1 1 0 (a ++ [y])).2 = 0 ∧ (pencD 1 1 0 (a ++ [y])).1.length ≤ m) := by
 obtain ⟨y2, r, e, h⟩ := h
 rw [hb] at e
 obtain ⟨rfl, rfl⟩ := List.cons.inj e
 rintro ⟨h1, h2⟩
 rcases h with h | h
 ·have := (penc_good h1).2.2.2.1
  rw [h] at this
  cases this
 ·rw [penc_len h1] at h2
  omega
theorem bund_ok {mtu : Int} {l : List Chk} (h : (bundD mtu l).2 = 0) : ∃ m : Nat, mtu = (m : Int) ∧ 100 ≤ m ∧ m ≤ 1500 ∧ RowsOk m (bundD mtu l).1 l ∧ ∀ x ∈ l, checkD x = 0 := by
 unfold bundD at h ⊢
 by_cases h1 : mtu < 100 ∨ 1500 < mtu
 ·rw [if_pos h1] at h
  cases h
 rw [if_neg h1] at h ⊢
 by_cases h2 : chkAll l = 0
 ·rw [if_pos h2] at h ⊢
  by_cases h3 : ∀ x ∈ l, 12 + sizeD x ≤ mtu.toNat
  ·rw [if_pos h3]
   exact ⟨mtu.toNat, by omega, by omega, by omega, rows_ok (binv_rows l (fun x hx => chkAll_mem h2 hx) h3).1, fun x hx => chkAll_mem h2 hx⟩
  ·rw [if_neg h3] at h
   cases h
 ·rw [if_neg h2] at h
  exact absurd h h2
theorem bund_bad {mtu : Int} {l : List Chk} (h : (bundD mtu l).2 ≠ 0) : (bundD mtu l).1 = [] := by
 unfold bundD at h ⊢
 by_cases h1 : mtu < 100 ∨ 1500 < mtu
 ·rw [if_pos h1]
 rw [if_neg h1] at h ⊢
 by_cases h2 : chkAll l = 0
 ·rw [if_pos h2] at h ⊢
  by_cases h3 : ∀ x ∈ l, 12 + sizeD x ≤ mtu.toNat
  ·rw [if_pos h3] at h
   exact absurd rfl h
  ·rw [if_neg h3]
 ·rw [if_neg h2]
theorem chk_raw {w : World} {A : Option Addr} {n : Nat} {r : List Chk} (h : Kd.C k41 w A n r) : ∃ ps : List CL, fsts ps = r ∧ cvK.C w A n ps ∧ ∀ p ∈ ps, CR w p.1 p.2 := by
 obtain ⟨h1, h2, h3⟩ := h
 by_cases hn : n = 0
 ·obtain rfl : r = [] := List.eq_nil_of_length_eq_zero (by omega)
  subst hn
  exact ⟨[], rfl, ⟨rfl, h2, fun h => absurd h (by omega)⟩, fun _ h => by cases h⟩
 obtain ⟨ad, e, hc⟩ := h3 (Nat.pos_of_ne_zero hn)
 have key : ∀ j x, r[j]? = some x → ∃ L, (∀ i u, (CV x L).toList[i]? = some u → w.cell? (ad.add (j * 15 + i)) = some u) ∧ CR w x L := by
  intro j x hj
  obtain ⟨cs, hl, hK, hcell⟩ := hc j x hj
  obtain ⟨L, rfl, hx⟩ := CR.of_K hK
  exact ⟨L, hcell, hx⟩
 classical
 let f : Nat → Chk → Lay := fun j x => if h : ∃ L, (∀ i u, (CV x L).toList[i]? = some u → w.cell? (ad.add (j * 15 + i)) = some u) ∧ CR w x L then Classical.choose h else ⟨none, 0, none, 0, none, 0, none, 0, none, 0⟩
 have hf : ∀ j x, r[j]? = some x → (∀ i u, (CV x (f j x)).toList[i]? = some u → w.cell? (ad.add (j * 15 + i)) = some u) ∧ CR w x (f j x) := by
  intro j x hj
  have hk := key j x hj
  have : f j x = Classical.choose hk := dif_pos hk
  rw [this]
  exact Classical.choose_spec hk
 have hget : ∀ j p, (r.zipIdx.map fun q => ((q.1, f q.2 q.1) : CL))[j]? = some p → ∃ x, r[j]? = some x ∧ p = (x, f j x) := by
  intro j p hj
  rw [List.getElem?_map, List.getElem?_zipIdx] at hj
  cases hx : r[j]? with
  | none => rw [hx] at hj; cases hj
  | some x =>
   rw [hx] at hj
   simp at hj
   exact ⟨x, rfl, hj.symm⟩
 refine ⟨r.zipIdx.map fun q => (q.1, f q.2 q.1), ?_, ⟨by rw [List.length_map, List.length_zipIdx]; exact h1, h2, fun _ => ⟨ad, e, fun j p hj => ?_⟩⟩, fun p hp => ?_⟩
 ·unfold fsts
  rw [List.map_map]
  show r.zipIdx.map Prod.fst = r
  exact List.zipIdx_map_fst ..
 ·obtain ⟨x, hx, rfl⟩ := hget j p hj
  exact ⟨(CV x (f j x)).toList, rfl, rfl, (hf j x hx).1⟩
 ·obtain ⟨j, hj⟩ := List.getElem?_of_mem hp
  obtain ⟨x, hx, rfl⟩ := hget j p hj
  exact (hf j x hx).2
end Go.Proofs.YtdlamomabonkjaaDoor.Pk
end
section
namespace Go.Proofs.YtdlamomabonkjaaDoor.Pk
open Go.RowKit YtdlamomabonkjaaDoorW.PrintWords YtdlamomabonkjaaDoorW.PrintLast Base PCh ParDec ParEnc Ch Crc CrcMath
def fewT12 : Bool × List (List Nat × List Nat) := (true, [([], []), ([], []), ([], []), ([2], [2]), ([1, 3], [1, 3]), ([4], [4]), ([0, 5], [0, 5]), ([], []), ([], []), ([7, 8], [7, 8]), ([9], [9]), ([10], [10]), ([11], [11]), ([12], [12]), ([6, 13, 6], [6, 13]), ([14], [14]), ([15, 14], [15]), ([16], [16]), ([17], [17]), ([17], [17]), ([18, 16, 0, 1, 2, 3, 4, 5, 6, 7, 8, 9, 10, 11, 12, 13, 14, 15, 16, 17, 18], [18]), ([19, 20, 0, 1, 2, 3, 4, 5, 6, 7, 8, 9, 10, 11, 12, 13, 14, 15, 16, 17, 18, 19, 20], [19])])
def fewB12 : List Nat := [0, 0, 0, 4, 14, 30, 63, 0, 0, 384, 896, 1920, 3968, 8064, 16383, 32767, 65535, 131071, 262143, 262143, 524287, 2097151]
theorem fewtab12 : Go.Proofs.YtdlamomabonkjaaDoorW.PrintLast.rtab .any (Go.Proofs.YtdlamomabonkjaaDoorW.PrintLast.opsOf Tryd.f9 12) = fewT12 := by kernel_rfl
theorem fewbits12 : Go.Proofs.YtdlamomabonkjaaDoorW.PrintLast.waitsOk fewT12.2 fewB12 = true := by kernel_rfl
def BlkC (w : World) (g : Nat) (x : Chk) (L : Lay) : Prop := w.heap[g]? = some (.cells (CV x L) 41 (0, 0))
theorem own_nil (W : World) (B : Nat) (h : B ≤ W.heap.size) : cvK.R 41 (W.alloc (.cells #[] 41)) B (fun _ => True) (.slice (some ⟨W.heap.size, 0, none⟩) 0 0) [] :=
 ⟨fun _ _ => trivial, OwnRow.lit (inner := []) W B (Reps.none _ _) h (by simp)⟩
theorem cv_blk {W : World} {g : Nat} {x : Chk} {L : Lay} (h : BlkC W g x L) : cvK.C W (some ⟨g, 0, none⟩) 1 [(x, L)] := by
 refine ⟨rfl, by decide, fun _ => ⟨_, rfl, fun j p hj => ?_⟩⟩
 match j, hj with
 | 0, hj =>
  obtain rfl : (x, L) = p := by simpa using hj
  refine ⟨(CV x L).toList, rfl, rfl, fun i u hu => ?_⟩
  rw [Nat.zero_mul, Nat.zero_add, add_plain, blk_cell h i]
  simpa using hu
 | j + 1, hj => simp at hj
theorem blk_pos {w : World} {A : Option Addr} {rows : Nat} {xs : List (List Chk)} {i : Nat} (h : (Kd.slice 41 k41).C w A rows xs) (hi : i < rows) : 0 < w.heap.size := by
 obtain ⟨ad, c, e, _, hK, hc0⟩ := Kd.C_get h ([] : List Chk) (i : Int) (by omega) (by omega)
 obtain ⟨B, d, rfl, hle, hC⟩ := hK
 have h1 := hc0 0 _ rfl
 rcases Nat.eq_zero_or_pos w.heap.size with h0 | h0
 ·exfalso
  simp [World.cell?, h0] at h1
 ·exact h0
theorem flat_next (rows : List (List Chk)) (i : Nat) (hi : i < rows.length) : (rows.take (i + 1)).flatten = (rows.take i).flatten ++ rows.getD i [] := by
 rw [List.take_succ_eq_append_getElem hi, List.flatten_append, getD_lt _ _ _ hi]
 simp
theorem flat_le (rows : List (List Chk)) (i : Nat) : ((rows.take i).flatten).length ≤ rows.flatten.length := by
 have h : rows.flatten = (rows.take i).flatten ++ (rows.drop i).flatten := by rw [← List.flatten_append, List.take_append_drop]
 rw [h, List.length_append]
 omega
set_option maxHeartbeats 4000000 in
theorem few_row {w : World} (mtu : Int) (hm : (Lit.int .i64 mtu).wf = true) (A : Option Addr) (c : Nat) (l : List Chk) (hl : Kd.C k41 w A l.length l) (hc : l.length ≤ c) (ho : OkL l) (ht : Table w) :
  Calls Tryd.prog 9 #[.int .i64 mtu, .slice A l.length c] w fun e w' => e = .returned (.bool true) ∧ Below w.heap.size w w' := by
 have HBU := Lh (fun (W : World) (h : Below w.heap.size w W) => bundle_calls W mtu A c l (Kd.C_below hl h) hc ho)
 have HA := Lh (fun (W : World) (h : Below w.heap.size w W) => alive_calls W (ht.below h))
 have HT := Lh (fun (W : World) (h : Below w.heap.size w W) => ht.below h)
 have HL := Lh (fun (W : World) (h : Below w.heap.size w W) => Kd.C_below hl h)
 have HMEM := Lh (bund_mem mtu l)
 have HOK := Lh (fun (h : (bundD mtu l).2 = 0) => bund_ok h)
 have HBAD := Lh (fun (h : (bundD mtu l).2 ≠ 0) => bund_bad h)
 have HO := Lh ho
 clear hm ho ht hl hc
 generalize bundD mtu l = D at *
 obtain ⟨rows, ec⟩ := D
 dsimp only at HBU HMEM HOK HBAD
 by_cases hec : ec = 0
 ·subst hec
  obtain ⟨m, hmm, hm1, hm2, hrok, hck⟩ := HOK.out rfl
  subst hmm
  have HRO := Lh hrok
  have HCK := Lh hck
  have HM := Lh (show 100 ≤ m ∧ m ≤ 1500 from ⟨hm1, hm2⟩)
  clear hrok hck HOK HBAD hm1 hm2
  go_enter Tryd.func9, Tryd.ntmps9
  go_wp2_with fail
  refine (HBU.out w (Below.refl _ _)).mono ?_
  rintro e W1 ⟨v1, rfl, A1, c1, rfl, hle1, hC1, hB1⟩
  have HC1 := Lh hC1
  have HB1 := Lh hB1
  clear hC1 hB1 hle1 HBU
  obtain ⟨n, hn⟩ : ∃ n, rows.length = n := ⟨_, rfl⟩
  have HN := Lh hn
  rw [hn] at HC1 ⊢
  have hmx := HC1.out.2.1
  clear hn
  go_wp2
  go_loopw [7, 8] (fun v7 v8 W => ∃ (i : Nat) (ps : List CL), i ≤ n ∧ v8 = .int .i64 (i : Int) ∧ Hid (fsts ps = (rows.take i).flatten) ∧ Hid (∀ p ∈ ps, CR W1 p.1 p.2) ∧ Hid (cvK.R 41 W W1.heap.size (fun _ => True) v7 ps) ∧ Hid (Below W1.heap.size W1 W)) (fun _ v8 _ => n - (intOf v8).toNat)
  case atStart => exact ⟨0, [], by omega, rfl, rfl, (show ∀ p ∈ ([] : List CL), CR W1 p.1 p.2 from fun _ h => by cases h), Kd.R_nil _ _ _ _ _, Below.refl _ _⟩
  case round =>
   obtain ⟨i, ps, hi, rfl, HPS, HCR, HR, HB⟩ := hrel
   by_cases hlt : i < n
   ·obtain ⟨ad1, B1, d1, e1, hc1, hd1, hr1⟩ := row_at (by rw [HN.out]; exact HC1.out) i (by rw [HN.out]; exact hlt)
    subst e1
    have hmem : rows.getD i [] ∈ rows := by
     rw [getD_lt _ _ _ (by rw [HN.out]; exact hlt)]
     exact List.getElem_mem _
    have hgd := HRO.out.gd _ hmem
    have HOC := Lh (fun x (hx : x ∈ rows.getD i []) => HO.out.2 x (HMEM.out _ hmem x hx))
    have hfit := few_fit hgd HM.out.2 (fun x hx => HCK.out x (HMEM.out _ hmem x hx))
    have HBL := Lh (show Below w.heap.size w wr from below_then HB1.out HB1.out.size HB.out)
    have HEN := Lh (pencode_calls wr 1 1 0 B1 d1 (rows.getD i []) (HT.out wr HBL.out) (Kd.C_below hr1 HB.out) hd1 (fun x hx => Nat.le_trans (HOC.out x hx).l13 (by decide)) (enc_in HOC.out) (fun he => by rw [(enc_good he).2.1]; exact (enc_good he).2.2))
    rw [hfit.1] at HEN
    have hnb := hfit.2
    have hr0 : 0 < (rows.getD i []).length := List.length_pos_iff.2 hgd.1
    generalize (pencD 1 1 0 (rows.getD i [])).1 = b1 at *
    have HC1c := Lh (fun (W : World) (h : Below W1.heap.size W1 W) => pw_cell_below h hc1)
    have HC1r := Lh (fun (W : World) (h : Below W1.heap.size W1 W) => Kd.C_below hr1 h)
    have HLI := Lh (show ¬ n ≤ i by omega)
    have hcw := HC1c.out wr HB.out
    obtain ⟨nr, hnr⟩ : ∃ nr, (rows.getD i []).length = nr := ⟨_, rfl⟩
    have HNR := Lh hnr
    rw [hnr] at HC1c HC1r HEN hcw hr0
    clear hc1 hr1 hmem hgd hfit hnr
    obtain ⟨A7, c7, hv7⟩ := Kd.R_slice HR.out
    subst hv7
    go_wp2_with fail
    refine HEN.out.mono ?_
    rintro e W3 ⟨v3, rfl, hR3, hB3⟩
    obtain ⟨A3, c3, rfl⟩ := Kd.R_slice hR3
    have HB3 := Lh (below_then HB.out HB.out.size hB3)
    have HR3 := Lh (Kd.R_below HR.out hB3)
    have hcw3 := HC1c.out W3 HB3.out
    clear hR3 hB3 HEN hcw HR HBL
    generalize b1.length = nb at *
    have hz1 : decide ((m : Int) < (nb : Int)) = false := decide_eq_false (by omega)
    have hz1n : decide (m < nb) = false := decide_eq_false (by omega)
    have hz2 : decide ((0 : Int) < (nr : Int)) = true := decide_eq_true (by omega)
    have hz2n : decide (0 < nr) = true := decide_eq_true hr0
    generalize ps.length = zl at *
    by_cases hi0 : i = 0
    ·have hz0 : decide ((0 : Int) < (i : Int)) = false := decide_eq_false (by omega)
     have hz0n : decide (0 < i) = false := decide_eq_false (by omega)
     clear hi0
     go_upto_region 15 with (fail)
     have HBW := HB3
     have HRW := HR3
     clear hz0 hz0n hz1 hz1n hz2 hz2n HR3
     obtain ⟨ps2, hps2, hC2, hcr2⟩ := chk_raw (HC1r.out W1 (Below.refl _ _))
     have HP2 := Lh hps2
     have hl2 : ps2.length = nr := by rw [← fsts_len, hps2, HNR.out]
     have HC2 := Lh (Kd.C_below hC2 HBW.out)
     have HCR2 := Lh hcr2
     have HFL := Lh (show fsts (ps ++ ps2) = (rows.take (i + 1)).flatten by
      rw [flat_next rows i (by rw [HN.out]; exact hlt), ← HPS.out, ← hps2]
      unfold fsts
      exact List.map_append ..)
     have HLEN := Lh (show (ps.length + nr) * 152 ≤ 140737488355328 by
      have h1 := flat_le rows (i + 1)
      rw [HRO.out.fl, ← HFL.out, fsts_len, List.length_append, hl2] at h1
      have h2 := HO.out.1
      omega)
     have HCR3 := Lh (show ∀ p ∈ ps ++ ps2, CR W1 p.1 p.2 from fun p hp => (List.mem_append.1 hp).elim (HCR.out p) (HCR2.out p))
     clear hps2 hC2 hcr2 hl2 HCR HCR2 HPS HP2
     go_wp2_with (at_builtin; go_must (refine Kd.R_append_rows cvK (Rr := cvK.K W3) (w0 := W1) (W := W3) W1.heap.size rfl _ _ 24 41 (.agg zerV) 152 rfl Tryd.underlying24 info_cv rfl (by decide) (by decide) (.slice A7 zl c7) ps ps2 B1 nr d1 (fun _ => True) (fun _ => False) rfl rfl HRW.out HC2.out (fun _ _ h => h) (fun _ h => h.elim) (fun _ _ => trivial) HBW.out HBW.out.size HLEN.out ?_); (intro v1 w1 hR1 hB1 hG1 _; have HR1 := Lh hR1; have HB1' := Lh hB1; clear hR1 hB1 hG1; refine RowKit.Hid.out ?_))
     refine Lh ?_
     obtain ⟨A8, c8, hv8⟩ := Kd.R_slice HR1.out
     subst hv8
     generalize (ps ++ ps2).length = zq at *
     clear HC2 HRW HBW HLEN
     go_wp2
     go_roundw
     case rel => exact ⟨i + 1, ps ++ ps2, by omega, by go_num, HFL.out, HCR3.out, HR1.out, HB1'.out⟩
     case measure => simp [intOf]; omega
    ·have hz0 : decide ((0 : Int) < (i : Int)) = true := decide_eq_true (by omega)
     have hz0n : decide (0 < i) = true := decide_eq_true (by omega)
     obtain ⟨j, hj⟩ : ∃ j, i = j + 1 := ⟨i - 1, by omega⟩
     have hltj : j < n := by omega
     obtain ⟨ad0, B0, d0, e0, hc0, hd0, hr0j⟩ := row_at (by rw [HN.out]; exact HC1.out) j (by rw [HN.out]; exact hltj)
     injection e0 with e0
     subst e0
     obtain ⟨ady, y, Ly, ey, hdy, hym, hcy, hy⟩ := chk_at (by rw [HNR.out]; exact HC1r.out W1 (Below.refl _ _)) 0 (by rw [HNR.out]; exact hr0)
     subst ey
     obtain ⟨ps0, hps0, hC0, hcr0⟩ := chk_raw hr0j
     have hsep := few_sep (by have h := HRO.out.sep j (by rw [HN.out]; omega); rw [← hj] at h; exact h) hdy
     have hn0 : ((rows.getD j []).length + 1) * 152 ≤ 140737488355328 := by
      have h1 := flat_le rows (j + 1)
      rw [HRO.out.fl, flat_next rows j (by rw [HN.out]; exact hltj), List.length_append] at h1
      have h2 := HO.out.1
      omega
     have hmemj : rows.getD j [] ∈ rows := by
      rw [getD_lt _ _ _ (by rw [HN.out]; exact hltj)]
      exact List.getElem_mem _
     have HOJ := Lh (fun x (hx : x ∈ rows.getD j [] ++ [y]) => (List.mem_append.1 hx).elim (fun h => HO.out.2 x (HMEM.out _ hmemj x h)) (fun h => by rw [List.mem_singleton.1 h]; exact HOC.out y hym))
     obtain ⟨b2, hb2⟩ : ∃ b2, (pencD 1 1 0 (rows.getD j [] ++ [y])).1 = b2 := ⟨_, rfl⟩
     obtain ⟨ec2, hec2⟩ : ∃ ec2, (pencD 1 1 0 (rows.getD j [] ++ [y])).2 = ec2 := ⟨_, rfl⟩
     obtain ⟨nb2, hnb2⟩ : ∃ nb2, b2.length = nb2 := ⟨_, rfl⟩
     have HE2 := Lh (fun (W : World) (v : Value) (h : Below W3.heap.size W3 W) (hR : cvK.R 41 W W3.heap.size (fun _ => True) v (ps0 ++ [(y, Ly)])) => (show Calls Tryd.prog 10 #[.agg #[.int .u16 1, .int .u16 1, .int .u32 0, v]] W fun e w' => ∃ v2, e = .returned (.tuple #[v2, .int .i64 ec2]) ∧ (∃ A c, v2 = .slice A nb2 c) ∧ Below W.heap.size W w' from by
      obtain ⟨A7', c7', hv7, hle7, hC7⟩ := Kd.R_reads hR
      subst hv7
      have hb1 := below_then HB3.out HB3.out.size h
      have hb := below_then HB1.out HB1.out.size hb1
      have hf : fsts (ps0 ++ [(y, Ly)]) = rows.getD j [] ++ [y] := by
       rw [← hps0]
       unfold fsts
       exact List.map_append ..
      have hk := cv_chk hC7 (fun p hp => ((List.mem_append.1 hp).elim (hcr0 p) (fun h => by rw [List.mem_singleton.1 h]; exact hy)).below hb1)
      rw [← fsts_len, hf] at hk hle7 ⊢
      refine (pencode_calls W 1 1 0 A7' c7' (rows.getD j [] ++ [y]) (HT.out W hb) hk hle7 (fun x hx => Nat.le_trans (HOJ.out x hx).l13 (by decide)) (enc_in HOJ.out) (fun he => by rw [(enc_good he).2.1]; exact (enc_good he).2.2)).mono ?_
      rintro e w' ⟨v2, he, hR2, hB2⟩
      obtain ⟨A2, c2, hv2⟩ := Kd.R_slice hR2
      rw [hb2, hnb2] at hv2
      rw [hec2] at he
      exact ⟨v2, he, ⟨A2, c2, hv2⟩, hB2⟩))
     have HSEP := Lh (show ¬ (ec2 = 0 ∧ nb2 ≤ m) by rw [← hec2, ← hnb2, ← hb2]; exact hsep)
     have HC0c := Lh (fun (W : World) (h : Below W3.heap.size W3 W) => pw_cell_below (below_then HB3.out HB3.out.size h) hc0)
     have HC1w := Lh (fun (W : World) (h : Below W3.heap.size W3 W) => HC1c.out W (below_then HB3.out HB3.out.size h))
     have HC0r := Lh (fun (W : World) (h : Below W3.heap.size W3 W) => Kd.C_below hC0 (below_then HB3.out HB3.out.size h))
     have HCY := Lh (fun (W : World) (h : Below W3.heap.size W3 W) j v hv => pw_cell_below (below_then HB3.out HB3.out.size h) (hcy j v hv))
     have HXS := Lh (chk_size y Ly)
     obtain ⟨CX, hCX⟩ : ∃ CX, CV y Ly = CX := ⟨_, rfl⟩
     have HXE := Lh hCX
     rw [hCX] at HCY HXS
     obtain ⟨n0, hn0e⟩ : ∃ n0, (rows.getD j []).length = n0 := ⟨_, rfl⟩
     have HN0 := Lh (show ps0.length = n0 ∧ (n0 + 1) * 152 ≤ 140737488355328 from ⟨by rw [← fsts_len, hps0, hn0e], by rw [← hn0e]; exact hn0⟩)
     rw [hn0e] at HC0c HC0r
     have HWJ := Lh (show wrap64 ((i : Int) - 1) = (j : Int) by unfold wrap64; omega)
     have HLJ := Lh (show ¬ n ≤ j by omega)
     have HL0 := Lh (show ¬ nr ≤ 0 by omega)
     have HGP := Lh (show 0 < W3.heap.size by have h1 := HB3.out.size; have h2 := blk_pos HC1.out hltj; omega)
     clear hi0 hj hltj hc0 hd0 hr0j hdy hym hcy hy hps0 hC0 hcr0 hsep hn0 hmemj hb2 hec2 hnb2 hCX hn0e
     go_upto_region 12 with (fail)
     clear hz0 hz0n hz1 hz1n hz2 hz2n hcw3
     have B := True.intro
     have L := True.intro
     refine start_ (n := 22) (S := fun w' => True) (ds := []) #[false, false, false, false, false, false, false, false, false, false, false, false, false, false, false, false, false, false, false, false, false, false] (by kernel_rfl) rfl rfl trivial (fun hHeld => ?_)
     refine with_tabW fewtab12 fewbits12 (fun HT_ HW_ => ?_)
     refine pu 1 62 ?_ rfl rfl (any_of HT_.out (by kernel_rfl)) (fun _ _ _ h => h) (by rfl) ?_ ?_ ?_ ?_
     rotate_left
     ·intro w'
      go_simp
      with_reducible rfl
     rotate_left
     ·simp only [sL]
      rfl
     refine pu 2 63 ?_ rfl rfl (any_of HT_.out (by kernel_rfl)) (fun _ _ _ h => h) (by rfl) ?_ ?_ ?_ ?_
     rotate_left
     ·intro w'
      go_simp
      with_reducible rfl
     rotate_left
     ·simp only [sL]
      rfl
     refine pu 7 68 ?_ rfl rfl (any_of HT_.out (by kernel_rfl)) (fun _ _ _ h => h) (by rfl) ?_ ?_ ?_ ?_
     rotate_left
     ·intro w'
      go_simp
      with_reducible rfl
     rotate_left
     ·simp only [sL]
      rfl
     refine pu 8 69 ?_ rfl rfl (any_of HT_.out (by kernel_rfl)) (fun _ _ _ h => h) (by rfl) ?_ ?_ ?_ ?_
     rotate_left
     ·intro w'
      go_simp
      with_reducible rfl
     rotate_left
     ·simp only [sL]
      rfl
     refine inv_at [0, 3, 4, 5, 6, 9, 10, 11, 12, 13, 14, 15, 16, 17, 18, 19, 20, 21] (fun a0_ b a w' => ∃ (g61 : Nat) (v67 : Value) (g74 : Nat) (v75 : Value) (v77 : Value) (m0_ : Value) (m13_ : Value) (m15_ : Value) (m16_ : Value) (m17_ : Value) (m18_ : Value) (m20_ : Value), a = putSel a0_ b [(0, 61, m0_), (3, 64, .int .i64 (j : Int)), (4, 65, .pointer (some (ad1.add j))), (5, 66, .slice B0 n0 d0), (6, 67, v67), (9, 70, .pointer (some (ad1.add i))), (10, 71, .slice (some ady) nr d1), (11, 72, .pointer (some (ady.add (0 * 15)))), (12, 73, .agg CX), (13, 74, m13_), (14, 75, v75), (15, 76, m15_), (16, 77, m16_), (17, 60, m17_), (18, 78, m18_), (19, 79, .int .i64 ec2), (20, 11, m20_), (21, 12, .int .i64 ec2)] ∧ (Below W3.heap.size W3 w') ∧ (b 14 = false → g61 < w'.heap.size) ∧ (b 0 = true → b 6 = false → cvK.R 41 w' W3.heap.size (fun _ => True) (.slice (some ⟨g61, 0, none⟩) 0 0) []) ∧ (b 6 = true → b 14 = false → cvK.R 41 w' W3.heap.size (fun _ => True) v67 ps0) ∧ (b 13 = true → b 14 = false → BlkC w' g74 y Ly ∧ g61 ≠ g74) ∧ (b 14 = true → cvK.R 41 w' W3.heap.size (fun _ => True) v75 (ps0 ++ [(y, Ly)])) ∧ (b 16 = true → ∃ A c, v77 = .slice A nb2 c) ∧ (b 0 = true → (m0_ : Value) = .slice (some ⟨g61, 0, none⟩) 0 0) ∧ (b 13 = true → (m13_ : Value) = .slice (some ⟨g74, 0, none⟩) 1 1) ∧ (b 15 = true → (m15_ : Value) = .agg #[.int .u16 1, .int .u16 1, .int .u32 0, v75]) ∧ (b 16 = true → (m16_ : Value) = .tuple #[v77, .int .i64 ec2]) ∧ (b 17 = true → (m17_ : Value) = .tuple #[v77, .int .i64 ec2]) ∧ (b 18 = true → (m18_ : Value) = v77) ∧ (b 20 = true → (m20_ : Value) = v77)) HT_.out HW_.out (by kernel_rfl) (by kernel_rfl) ?_ ?_ ?_
     ·exact ⟨0, .bool false, 0, .bool false, .bool false, .bool false, .bool false, .bool false, .bool false, .bool false, .bool false, .bool false, by simp only [putSel, Bool.false_eq_true, if_false], below_drew (Below.refl _ _), fun _ => (by have := HGP.out; first | exact this | (simp; exact this)), fun h_ => absurd h_ (by decide), fun h_ => absurd h_ (by decide), fun h_ => absurd h_ (by decide), fun h_ => absurd h_ (by decide), fun h_ => absurd h_ (by decide), fun h_ => absurd h_ (by decide), fun h_ => absurd h_ (by decide), fun h_ => absurd h_ (by decide), fun h_ => absurd h_ (by decide), fun h_ => absurd h_ (by decide), fun h_ => absurd h_ (by decide), fun h_ => absurd h_ (by decide)⟩
     ·skip
      clear B L
      refine sc rfl ?_ ?_
      ·rintro b a w' ⟨g61, v67, g74, v75, v77, m0_, m13_, m15_, m16_, m17_, m18_, m20_, ha, Q_B, Q_L, Q_R0, Q_R, Q_S, Q_Tt, Q_U, Q_X0_, Q_X13_, Q_X15_, Q_X16_, Q_X17_, Q_X18_, Q_X20_⟩ hb_ hon hoff K hK
       replace ha := Am ha
       have B := Am Q_B
       refine value_ (w1 := w'.alloc (.cells #[] 41)) (v := .slice (some ⟨w'.heap.size, 0, none⟩) 0 0) (by rfl) rfl (by go_simp; try rfl) ?_
       refine hK.out _ _ ⟨w'.heap.size, v67, g74, v75, v77, (.slice (some ⟨w'.heap.size, 0, none⟩) 0 0), m13_, m15_, m16_, m17_, m18_, m20_, (puk ha 0 hb_ rfl rfl rfl), B.out.alloc B.out.size _, fun _ => (by simp), fun _ _ => own_nil _ _ B.out.size, fun h0_ _ => hof (hoff 6 (by kernel_rfl)) h0_, fun h0_ h1_ => ⟨blk_alloc (Q_S h0_ h1_).1 _, by have := blk_lt (Q_S h0_ h1_).1; omega⟩, fun h0_ => hof (hoff 14 (by kernel_rfl)) h0_, fun h0_ => hof (hoff 16 (by kernel_rfl)) h0_, fun _ => rfl, Q_X13_, fun h0_ => hof (hoff 15 (by kernel_rfl)) h0_, fun h0_ => hof (hoff 16 (by kernel_rfl)) h0_, fun h0_ => hof (hoff 17 (by kernel_rfl)) h0_, fun h0_ => hof (hoff 18 (by kernel_rfl)) h0_, fun h0_ => hof (hoff 20 (by kernel_rfl)) h0_⟩
      refine sc rfl ?_ ?_
      ·rintro b a w' ⟨g61, v67, g74, v75, v77, m0_, m13_, m15_, m16_, m17_, m18_, m20_, ha, Q_B, Q_L, Q_R0, Q_R, Q_S, Q_Tt, Q_U, Q_X0_, Q_X13_, Q_X15_, Q_X16_, Q_X17_, Q_X18_, Q_X20_⟩ hb_ hon hoff K hK
       have e63 : a.tmps[63]? = some (.int .i64 (i : Int)) := by rw [ha]; exact (putSel_off rfl).trans rfl
       replace ha := Am ha
       have B := Am Q_B
       have L := Am (Q_L (hoff 14 (by kernel_rfl)))
       have hw := HWJ.out
       refine value_ (w1 := w') (v := .int .i64 (j : Int)) (by rfl) rfl (by go_simp; first | done | exact hw | (rw [i64_w]; exact hw)) ?_
       refine hK.out _ _ ⟨g61, v67, g74, v75, v77, m0_, m13_, m15_, m16_, m17_, m18_, m20_, (puk ha 1 hb_ rfl rfl rfl), B.out, fun _ => L.out, fun h0_ h1_ => (Q_R0 h0_ h1_), fun h0_ _ => hof (hoff 6 (by kernel_rfl)) h0_, fun h0_ h1_ => (Q_S h0_ h1_), fun h0_ => hof (hoff 14 (by kernel_rfl)) h0_, fun h0_ => hof (hoff 16 (by kernel_rfl)) h0_, Q_X0_, Q_X13_, fun h0_ => hof (hoff 15 (by kernel_rfl)) h0_, fun h0_ => hof (hoff 16 (by kernel_rfl)) h0_, fun h0_ => hof (hoff 17 (by kernel_rfl)) h0_, fun h0_ => hof (hoff 18 (by kernel_rfl)) h0_, fun h0_ => hof (hoff 20 (by kernel_rfl)) h0_⟩
      refine sc rfl ?_ ?_
      ·rintro b a w' ⟨g61, v67, g74, v75, v77, m0_, m13_, m15_, m16_, m17_, m18_, m20_, ha, Q_B, Q_L, Q_R0, Q_R, Q_S, Q_Tt, Q_U, Q_X0_, Q_X13_, Q_X15_, Q_X16_, Q_X17_, Q_X18_, Q_X20_⟩ hb_ hon hoff K hK
       have e62 : a.tmps[62]? = some (.slice (some ad1) n c1) := by rw [ha]; exact (putSel_off rfl).trans rfl
       have e64 := psn ha 1 rfl rfl (hon 3 (by kernel_rfl)) rfl
       replace ha := Am ha
       have hl := HLJ.out
       refine value_ (w1 := w') (v := .pointer (some (ad1.add j))) (by rfl) rfl ?_ ?_
       ·go_simp
        (try simp only [i64_w])
        try rfl
       refine hK.out _ _ ⟨g61, v67, g74, v75, v77, m0_, m13_, m15_, m16_, m17_, m18_, m20_, (puk ha 2 hb_ rfl rfl rfl), Q_B, Q_L, Q_R0, fun h0_ _ => hof (hoff 6 (by kernel_rfl)) h0_, Q_S, fun h0_ => hof (hoff 14 (by kernel_rfl)) h0_, fun h0_ => hof (hoff 16 (by kernel_rfl)) h0_, Q_X0_, Q_X13_, fun h0_ => hof (hoff 15 (by kernel_rfl)) h0_, fun h0_ => hof (hoff 16 (by kernel_rfl)) h0_, fun h0_ => hof (hoff 17 (by kernel_rfl)) h0_, fun h0_ => hof (hoff 18 (by kernel_rfl)) h0_, fun h0_ => hof (hoff 20 (by kernel_rfl)) h0_⟩
      refine sc rfl ?_ ?_
      ·rintro b a w' ⟨g61, v67, g74, v75, v77, m0_, m13_, m15_, m16_, m17_, m18_, m20_, ha, Q_B, Q_L, Q_R0, Q_R, Q_S, Q_Tt, Q_U, Q_X0_, Q_X13_, Q_X15_, Q_X16_, Q_X17_, Q_X18_, Q_X20_⟩ hb_ hon hoff K hK
       have e65 := psn ha 2 rfl rfl (hon 4 (by kernel_rfl)) rfl
       replace ha := Am ha
       have B := Am Q_B
       have hs := HC0c.out w' B.out
       refine value_ (w1 := w') (v := .slice B0 n0 d0) (by rfl) rfl ?_ ?_
       ·go_simp
        (try simp only [i64_w])
        try rfl
       refine hK.out _ _ ⟨g61, v67, g74, v75, v77, m0_, m13_, m15_, m16_, m17_, m18_, m20_, (puk ha 3 hb_ rfl rfl rfl), Q_B, Q_L, Q_R0, fun h0_ _ => hof (hoff 6 (by kernel_rfl)) h0_, Q_S, fun h0_ => hof (hoff 14 (by kernel_rfl)) h0_, fun h0_ => hof (hoff 16 (by kernel_rfl)) h0_, Q_X0_, Q_X13_, fun h0_ => hof (hoff 15 (by kernel_rfl)) h0_, fun h0_ => hof (hoff 16 (by kernel_rfl)) h0_, fun h0_ => hof (hoff 17 (by kernel_rfl)) h0_, fun h0_ => hof (hoff 18 (by kernel_rfl)) h0_, fun h0_ => hof (hoff 20 (by kernel_rfl)) h0_⟩
      refine sc rfl ?_ ?_
      ·rintro b a w' ⟨g61, v67, g74, v75, v77, m0_, m13_, m15_, m16_, m17_, m18_, m20_, ha, Q_B, Q_L, Q_R0, Q_R, Q_S, Q_Tt, Q_U, Q_X0_, Q_X13_, Q_X15_, Q_X16_, Q_X17_, Q_X18_, Q_X20_⟩ hb_ hon hoff K hK
       have e61 := psn ha 0 rfl rfl (hon 0 (by kernel_rfl)) rfl
       rw [Q_X0_ (hon 0 (by kernel_rfl))] at e61
       have e66 := psn ha 3 rfl rfl (hon 5 (by kernel_rfl)) rfl
       replace ha := Am ha
       have B := Am Q_B
       have L := Am (Q_L (hoff 14 (by kernel_rfl)))
       have R0 := Am (Q_R0 (hon 0 (by kernel_rfl)) hb_)
       refine Kd.R_append_rows_step cvK (Rr := cvK.K w') (w0 := W3) (W := w') W3.heap.size (by rfl) _ _ 24 41 (.agg zerV) 152 rfl Tryd.underlying24 info_cv rfl (by decide) (by decide) (.slice (some ⟨g61, 0, none⟩) 0 0) [] ps0 B0 n0 d0 (fun _ => True) (fun _ => False) (eval_of e61) (eval_of e66) R0.out (HC0r.out w' B.out) (fun _ _ h => h) (fun _ h => h.elim) (fun _ _ => trivial) B.out B.out.size (by have := HN0.out; simp; omega) ?_
       intro v1 w1 hR1 hB1 hG1 _
       rw [List.nil_append] at hR1
       refine hK.out _ _ ⟨g61, v1, g74, v75, v77, m0_, m13_, m15_, m16_, m17_, m18_, m20_, (puk ha 4 hb_ rfl rfl rfl), hB1, fun _ => Nat.lt_of_lt_of_le L.out hG1.size, fun _ h1_ => absurd ((up_self b 6).symm.trans h1_) (by decide), fun _ _ => hR1, fun h0_ h1_ => ⟨blk_grown (Q_S h0_ h1_).1 hG1 (fun e => (Q_S h0_ h1_).2 (Option.some.inj e).symm), (Q_S h0_ h1_).2⟩, fun h0_ => hof (hoff 14 (by kernel_rfl)) h0_, fun h0_ => hof (hoff 16 (by kernel_rfl)) h0_, Q_X0_, Q_X13_, fun h0_ => hof (hoff 15 (by kernel_rfl)) h0_, fun h0_ => hof (hoff 16 (by kernel_rfl)) h0_, fun h0_ => hof (hoff 17 (by kernel_rfl)) h0_, fun h0_ => hof (hoff 18 (by kernel_rfl)) h0_, fun h0_ => hof (hoff 20 (by kernel_rfl)) h0_⟩
      refine sc rfl ?_ ?_
      ·rintro b a w' ⟨g61, v67, g74, v75, v77, m0_, m13_, m15_, m16_, m17_, m18_, m20_, ha, Q_B, Q_L, Q_R0, Q_R, Q_S, Q_Tt, Q_U, Q_X0_, Q_X13_, Q_X15_, Q_X16_, Q_X17_, Q_X18_, Q_X20_⟩ hb_ hon hoff K hK
       have e68 : a.tmps[68]? = some (.slice (some ad1) n c1) := by rw [ha]; exact (putSel_off rfl).trans rfl
       have e69 : a.tmps[69]? = some (.int .i64 (i : Int)) := by rw [ha]; exact (putSel_off rfl).trans rfl
       replace ha := Am ha
       have hl := HLI.out
       refine value_ (w1 := w') (v := .pointer (some (ad1.add i))) (by rfl) rfl ?_ ?_
       ·go_simp
        (try simp only [i64_w])
        try rfl
       refine hK.out _ _ ⟨g61, v67, g74, v75, v77, m0_, m13_, m15_, m16_, m17_, m18_, m20_, (puk ha 5 hb_ rfl rfl rfl), Q_B, Q_L, Q_R0, Q_R, fun h0_ _ => hof (hoff 13 (by kernel_rfl)) h0_, fun h0_ => hof (hoff 14 (by kernel_rfl)) h0_, fun h0_ => hof (hoff 16 (by kernel_rfl)) h0_, Q_X0_, fun h0_ => hof (hoff 13 (by kernel_rfl)) h0_, fun h0_ => hof (hoff 15 (by kernel_rfl)) h0_, fun h0_ => hof (hoff 16 (by kernel_rfl)) h0_, fun h0_ => hof (hoff 17 (by kernel_rfl)) h0_, fun h0_ => hof (hoff 18 (by kernel_rfl)) h0_, fun h0_ => hof (hoff 20 (by kernel_rfl)) h0_⟩
      refine sc rfl ?_ ?_
      ·rintro b a w' ⟨g61, v67, g74, v75, v77, m0_, m13_, m15_, m16_, m17_, m18_, m20_, ha, Q_B, Q_L, Q_R0, Q_R, Q_S, Q_Tt, Q_U, Q_X0_, Q_X13_, Q_X15_, Q_X16_, Q_X17_, Q_X18_, Q_X20_⟩ hb_ hon hoff K hK
       have e70 := psn ha 5 rfl rfl (hon 9 (by kernel_rfl)) rfl
       replace ha := Am ha
       have B := Am Q_B
       have hs := HC1w.out w' B.out
       refine value_ (w1 := w') (v := .slice (some ady) nr d1) (by rfl) rfl ?_ ?_
       ·go_simp
        (try simp only [i64_w])
        try rfl
       refine hK.out _ _ ⟨g61, v67, g74, v75, v77, m0_, m13_, m15_, m16_, m17_, m18_, m20_, (puk ha 6 hb_ rfl rfl rfl), Q_B, Q_L, Q_R0, Q_R, fun h0_ _ => hof (hoff 13 (by kernel_rfl)) h0_, fun h0_ => hof (hoff 14 (by kernel_rfl)) h0_, fun h0_ => hof (hoff 16 (by kernel_rfl)) h0_, Q_X0_, fun h0_ => hof (hoff 13 (by kernel_rfl)) h0_, fun h0_ => hof (hoff 15 (by kernel_rfl)) h0_, fun h0_ => hof (hoff 16 (by kernel_rfl)) h0_, fun h0_ => hof (hoff 17 (by kernel_rfl)) h0_, fun h0_ => hof (hoff 18 (by kernel_rfl)) h0_, fun h0_ => hof (hoff 20 (by kernel_rfl)) h0_⟩
      refine sc rfl ?_ ?_
      ·rintro b a w' ⟨g61, v67, g74, v75, v77, m0_, m13_, m15_, m16_, m17_, m18_, m20_, ha, Q_B, Q_L, Q_R0, Q_R, Q_S, Q_Tt, Q_U, Q_X0_, Q_X13_, Q_X15_, Q_X16_, Q_X17_, Q_X18_, Q_X20_⟩ hb_ hon hoff K hK
       have e71 := psn ha 6 rfl rfl (hon 10 (by kernel_rfl)) rfl
       replace ha := Am ha
       have hl := HL0.out
       refine value_ (w1 := w') (v := .pointer (some (ady.add (0 * 15)))) (by rfl) rfl ?_ ?_
       ·go_simp
        (try simp only [i64_w])
        try rfl
       refine hK.out _ _ ⟨g61, v67, g74, v75, v77, m0_, m13_, m15_, m16_, m17_, m18_, m20_, (puk ha 7 hb_ rfl rfl rfl), Q_B, Q_L, Q_R0, Q_R, fun h0_ _ => hof (hoff 13 (by kernel_rfl)) h0_, fun h0_ => hof (hoff 14 (by kernel_rfl)) h0_, fun h0_ => hof (hoff 16 (by kernel_rfl)) h0_, Q_X0_, fun h0_ => hof (hoff 13 (by kernel_rfl)) h0_, fun h0_ => hof (hoff 15 (by kernel_rfl)) h0_, fun h0_ => hof (hoff 16 (by kernel_rfl)) h0_, fun h0_ => hof (hoff 17 (by kernel_rfl)) h0_, fun h0_ => hof (hoff 18 (by kernel_rfl)) h0_, fun h0_ => hof (hoff 20 (by kernel_rfl)) h0_⟩
      refine sc rfl ?_ ?_
      ·rintro b a w' ⟨g61, v67, g74, v75, v77, m0_, m13_, m15_, m16_, m17_, m18_, m20_, ha, Q_B, Q_L, Q_R0, Q_R, Q_S, Q_Tt, Q_U, Q_X0_, Q_X13_, Q_X15_, Q_X16_, Q_X17_, Q_X18_, Q_X20_⟩ hb_ hon hoff K hK
       have e72 := psn ha 7 rfl rfl (hon 11 (by kernel_rfl)) rfl
       replace ha := Am ha
       have B := Am Q_B
       have L := Am (Q_L (hoff 14 (by kernel_rfl)))
       refine value_ (w1 := w') (v := .agg CX) (by rfl) rfl (exec_load_cells 41 (.tmp 72) rfl (eval_of e72) CX _ (fun j v hv => HCY.out w' B.out j v hv) Tryd.underlying41 rfl HXS.out) ?_
       refine hK.out _ _ ⟨g61, v67, g74, v75, v77, m0_, m13_, m15_, m16_, m17_, m18_, m20_, (puk ha 8 hb_ rfl rfl rfl), B.out, fun _ => L.out, fun h0_ h1_ => (Q_R0 h0_ h1_), fun h0_ h1_ => (Q_R h0_ h1_), fun h0_ _ => hof (hoff 13 (by kernel_rfl)) h0_, fun h0_ => hof (hoff 14 (by kernel_rfl)) h0_, fun h0_ => hof (hoff 16 (by kernel_rfl)) h0_, Q_X0_, fun h0_ => hof (hoff 13 (by kernel_rfl)) h0_, fun h0_ => hof (hoff 15 (by kernel_rfl)) h0_, fun h0_ => hof (hoff 16 (by kernel_rfl)) h0_, fun h0_ => hof (hoff 17 (by kernel_rfl)) h0_, fun h0_ => hof (hoff 18 (by kernel_rfl)) h0_, fun h0_ => hof (hoff 20 (by kernel_rfl)) h0_⟩
      refine sc rfl ?_ ?_
      ·rintro b a w' ⟨g61, v67, g74, v75, v77, m0_, m13_, m15_, m16_, m17_, m18_, m20_, ha, Q_B, Q_L, Q_R0, Q_R, Q_S, Q_Tt, Q_U, Q_X0_, Q_X13_, Q_X15_, Q_X16_, Q_X17_, Q_X18_, Q_X20_⟩ hb_ hon hoff K hK
       have e73 := psn ha 8 rfl rfl (hon 12 (by kernel_rfl)) rfl
       replace ha := Am ha
       have B := Am Q_B
       have L := Am (Q_L (hoff 14 (by kernel_rfl)))
       refine value_ (w1 := w'.alloc (.cells CX 41)) (v := .slice (some ⟨w'.heap.size, 0, none⟩) 1 1) (by rfl) rfl (by rw [← HXE.out]; exact exec_one 73 y Ly rfl (by rw [HXE.out]; exact e73)) ?_
       refine hK.out _ _ ⟨g61, v67, w'.heap.size, v75, v77, m0_, (.slice (some ⟨w'.heap.size, 0, none⟩) 1 1), m15_, m16_, m17_, m18_, m20_, (puk ha 9 hb_ rfl rfl rfl), B.out.alloc B.out.size _, fun _ => (by have := L.out; simp; omega), fun h0_ h1_ => Kd.R_alloc (Q_R0 h0_ h1_) _, fun h0_ h1_ => Kd.R_alloc (Q_R h0_ h1_) _, fun _ _ => ⟨by rw [← HXE.out]; exact blk_new _ _, by have := L.out; omega⟩, fun h0_ => hof (hoff 14 (by kernel_rfl)) h0_, fun h0_ => hof (hoff 16 (by kernel_rfl)) h0_, Q_X0_, fun _ => rfl, fun h0_ => hof (hoff 15 (by kernel_rfl)) h0_, fun h0_ => hof (hoff 16 (by kernel_rfl)) h0_, fun h0_ => hof (hoff 17 (by kernel_rfl)) h0_, fun h0_ => hof (hoff 18 (by kernel_rfl)) h0_, fun h0_ => hof (hoff 20 (by kernel_rfl)) h0_⟩
      refine sc rfl ?_ ?_
      ·rintro b a w' ⟨g61, v67, g74, v75, v77, m0_, m13_, m15_, m16_, m17_, m18_, m20_, ha, Q_B, Q_L, Q_R0, Q_R, Q_S, Q_Tt, Q_U, Q_X0_, Q_X13_, Q_X15_, Q_X16_, Q_X17_, Q_X18_, Q_X20_⟩ hb_ hon hoff K hK
       have e67 := psn ha 4 rfl rfl (hon 6 (by kernel_rfl)) rfl
       have e74 := psn ha 9 rfl rfl (hon 13 (by kernel_rfl)) rfl
       rw [Q_X13_ (hon 13 (by kernel_rfl))] at e74
       replace ha := Am ha
       have B := Am Q_B
       have R := Am (Q_R (hon 6 (by kernel_rfl)) hb_)
       have S := Am (Q_S (hon 13 (by kernel_rfl)) hb_)
       refine Kd.R_append_rows_step cvK (Rr := cvK.K w') (w0 := W3) (W := w') W3.heap.size (by rfl) _ _ 24 41 (.agg zerV) 152 rfl Tryd.underlying24 info_cv rfl (by decide) (by decide) v67 ps0 [(y, Ly)] (some ⟨g74, 0, none⟩) 1 1 (fun _ => True) (fun _ => False) (eval_of e67) (eval_of e74) R.out (cv_blk S.out.1) (fun _ _ h => h) (fun _ h => h.elim) (fun _ _ => trivial) B.out B.out.size (by have := HN0.out; omega) ?_
       intro v1 w1 hR1 hB1 _ _
       refine hK.out _ _ ⟨g61, v67, g74, v1, v77, m0_, m13_, m15_, m16_, m17_, m18_, m20_, (puk ha 10 hb_ rfl rfl rfl), hB1, fun h0_ => absurd ((up_self b 14).symm.trans h0_) (by decide), fun _ h1_ => absurd ((hon 6 (by kernel_rfl)).symm.trans h1_) (by decide), fun _ h1_ => absurd ((up_self b 14).symm.trans h1_) (by decide), fun _ h1_ => absurd ((up_self b 14).symm.trans h1_) (by decide), fun _ => hR1, fun h0_ => hof (hoff 16 (by kernel_rfl)) h0_, Q_X0_, Q_X13_, fun h0_ => hof (hoff 15 (by kernel_rfl)) h0_, fun h0_ => hof (hoff 16 (by kernel_rfl)) h0_, fun h0_ => hof (hoff 17 (by kernel_rfl)) h0_, fun h0_ => hof (hoff 18 (by kernel_rfl)) h0_, fun h0_ => hof (hoff 20 (by kernel_rfl)) h0_⟩
      refine sc rfl ?_ ?_
      ·rintro b a w' ⟨g61, v67, g74, v75, v77, m0_, m13_, m15_, m16_, m17_, m18_, m20_, ha, Q_B, Q_L, Q_R0, Q_R, Q_S, Q_Tt, Q_U, Q_X0_, Q_X13_, Q_X15_, Q_X16_, Q_X17_, Q_X18_, Q_X20_⟩ hb_ hon hoff K hK
       have e75 := psn ha 10 rfl rfl (hon 14 (by kernel_rfl)) rfl
       replace ha := Am ha
       have B := Am Q_B
       have Tt := Am (Q_Tt (hon 14 (by kernel_rfl)))
       obtain ⟨Aq, cq, hq⟩ := Kd.R_slice Tt.out
       refine value_ (w1 := w') (v := .agg #[.int .u16 1, .int .u16 1, .int .u32 0, v75]) (by rfl) rfl (by generalize (ps0 ++ [(y, Ly)]).length = zq at hq; rw [hq] at e75 ⊢; go_simp; try rfl) ?_
       refine hK.out _ _ ⟨g61, v67, g74, v75, v77, m0_, m13_, (.agg #[.int .u16 1, .int .u16 1, .int .u32 0, v75]), m16_, m17_, m18_, m20_, (puk ha 11 hb_ rfl rfl rfl), B.out, fun h0_ => absurd ((hon 14 (by kernel_rfl)).symm.trans h0_) (by decide), fun _ h1_ => absurd ((hon 6 (by kernel_rfl)).symm.trans h1_) (by decide), fun _ h1_ => absurd ((hon 14 (by kernel_rfl)).symm.trans h1_) (by decide), fun _ h1_ => absurd ((hon 14 (by kernel_rfl)).symm.trans h1_) (by decide), fun _ => Tt.out, fun h0_ => hof (hoff 16 (by kernel_rfl)) h0_, Q_X0_, Q_X13_, fun _ => rfl, fun h0_ => hof (hoff 16 (by kernel_rfl)) h0_, fun h0_ => hof (hoff 17 (by kernel_rfl)) h0_, fun h0_ => hof (hoff 18 (by kernel_rfl)) h0_, fun h0_ => hof (hoff 20 (by kernel_rfl)) h0_⟩
      refine sc rfl ?_ ?_
      ·rintro b a w' ⟨g61, v67, g74, v75, v77, m0_, m13_, m15_, m16_, m17_, m18_, m20_, ha, Q_B, Q_L, Q_R0, Q_R, Q_S, Q_Tt, Q_U, Q_X0_, Q_X13_, Q_X15_, Q_X16_, Q_X17_, Q_X18_, Q_X20_⟩ hb_ hon hoff K hK
       have e76 := psn ha 11 rfl rfl (hon 15 (by kernel_rfl)) rfl
       rw [Q_X15_ (hon 15 (by kernel_rfl))] at e76
       replace ha := Am ha
       have B := Am Q_B
       have Tt := Am (Q_Tt (hon 14 (by kernel_rfl)))
       refine goes_ Tryd.func10 (by kernel_rfl) rfl #[.agg #[.int .u16 1, .int .u16 1, .int .u32 0, v75]] (by rfl) rfl rfl (by first | (simp only [List.map_toArray, List.map_cons, List.map_nil, Act.eval, Array.getD_eq_getD_getElem?, Option.getD_some, e76]; done) | (simp only [List.map_toArray, List.map_cons, List.map_nil, Act.eval, Array.getD_eq_getD_getElem?, Option.getD_some, e76]; rfl)) ?_
       refine (HE2.out w' v75 B.out Tt.out).mono ?_
       rintro e w1 ⟨v2, rfl, hv2, hB1⟩
       refine ⟨_, rfl, ?_⟩
       refine hK.out _ _ ⟨g61, v67, g74, v75, v2, m0_, m13_, m15_, (.tuple #[v2, .int .i64 ec2]), m17_, m18_, m20_, (puk ha 12 hb_ rfl rfl rfl), B.out.trans (hB1.mono B.out.size), fun h0_ => absurd ((hon 14 (by kernel_rfl)).symm.trans h0_) (by decide), fun _ h1_ => absurd ((hon 6 (by kernel_rfl)).symm.trans h1_) (by decide), fun _ h1_ => absurd ((hon 14 (by kernel_rfl)).symm.trans h1_) (by decide), fun _ h1_ => absurd ((hon 14 (by kernel_rfl)).symm.trans h1_) (by decide), fun _ => Kd.R_below Tt.out hB1, fun _ => hv2, Q_X0_, Q_X13_, Q_X15_, fun _ => rfl, fun h0_ => hof (hoff 17 (by kernel_rfl)) h0_, fun h0_ => hof (hoff 18 (by kernel_rfl)) h0_, fun h0_ => hof (hoff 20 (by kernel_rfl)) h0_⟩
      refine sc rfl ?_ ?_
      ·rintro b a w' ⟨g61, v67, g74, v75, v77, m0_, m13_, m15_, m16_, m17_, m18_, m20_, ha, Q_B, Q_L, Q_R0, Q_R, Q_S, Q_Tt, Q_U, Q_X0_, Q_X13_, Q_X15_, Q_X16_, Q_X17_, Q_X18_, Q_X20_⟩ hb_ hon hoff K hK
       have e77 := psn ha 12 rfl rfl (hon 16 (by kernel_rfl)) rfl
       rw [Q_X16_ (hon 16 (by kernel_rfl))] at e77
       replace ha := Am ha
       refine value_ (w1 := w') (v := .tuple #[v77, .int .i64 ec2]) (by rfl) rfl ?_ ?_
       ·go_simp
        (try simp only [i64_w])
        try rfl
       refine hK.out _ _ ⟨g61, v67, g74, v75, v77, m0_, m13_, m15_, m16_, (.tuple #[v77, .int .i64 ec2]), m18_, m20_, (puk ha 13 hb_ rfl rfl rfl), Q_B, fun h0_ => absurd ((hon 14 (by kernel_rfl)).symm.trans h0_) (by decide), fun _ h1_ => absurd ((hon 6 (by kernel_rfl)).symm.trans h1_) (by decide), fun _ h1_ => absurd ((hon 14 (by kernel_rfl)).symm.trans h1_) (by decide), fun _ h1_ => absurd ((hon 14 (by kernel_rfl)).symm.trans h1_) (by decide), Q_Tt, Q_U, Q_X0_, Q_X13_, Q_X15_, Q_X16_, fun _ => rfl, fun h0_ => hof (hoff 18 (by kernel_rfl)) h0_, fun h0_ => hof (hoff 20 (by kernel_rfl)) h0_⟩
      refine sc rfl ?_ ?_
      ·rintro b a w' ⟨g61, v67, g74, v75, v77, m0_, m13_, m15_, m16_, m17_, m18_, m20_, ha, Q_B, Q_L, Q_R0, Q_R, Q_S, Q_Tt, Q_U, Q_X0_, Q_X13_, Q_X15_, Q_X16_, Q_X17_, Q_X18_, Q_X20_⟩ hb_ hon hoff K hK
       have e60 := psn ha 13 rfl rfl (hon 17 (by kernel_rfl)) rfl
       rw [Q_X17_ (hon 17 (by kernel_rfl))] at e60
       replace ha := Am ha
       refine value_ (w1 := w') (v := v77) (by rfl) rfl ?_ ?_
       ·go_simp
        (try simp only [i64_w])
        try rfl
       refine hK.out _ _ ⟨g61, v67, g74, v75, v77, m0_, m13_, m15_, m16_, m17_, (v77), m20_, (puk ha 14 hb_ rfl rfl rfl), Q_B, fun h0_ => absurd ((hon 14 (by kernel_rfl)).symm.trans h0_) (by decide), fun _ h1_ => absurd ((hon 6 (by kernel_rfl)).symm.trans h1_) (by decide), fun _ h1_ => absurd ((hon 14 (by kernel_rfl)).symm.trans h1_) (by decide), fun _ h1_ => absurd ((hon 14 (by kernel_rfl)).symm.trans h1_) (by decide), Q_Tt, Q_U, Q_X0_, Q_X13_, Q_X15_, Q_X16_, Q_X17_, fun _ => rfl, fun h0_ => hof (hoff 20 (by kernel_rfl)) h0_⟩
      refine sc rfl ?_ ?_
      ·rintro b a w' ⟨g61, v67, g74, v75, v77, m0_, m13_, m15_, m16_, m17_, m18_, m20_, ha, Q_B, Q_L, Q_R0, Q_R, Q_S, Q_Tt, Q_U, Q_X0_, Q_X13_, Q_X15_, Q_X16_, Q_X17_, Q_X18_, Q_X20_⟩ hb_ hon hoff K hK
       have e60 := psn ha 13 rfl rfl (hon 17 (by kernel_rfl)) rfl
       rw [Q_X17_ (hon 17 (by kernel_rfl))] at e60
       replace ha := Am ha
       refine value_ (w1 := w') (v := .int .i64 ec2) (by rfl) rfl ?_ ?_
       ·go_simp
        (try simp only [i64_w])
        try rfl
       refine hK.out _ _ ⟨g61, v67, g74, v75, v77, m0_, m13_, m15_, m16_, m17_, m18_, m20_, (puk ha 15 hb_ rfl rfl rfl), Q_B, fun h0_ => absurd ((hon 14 (by kernel_rfl)).symm.trans h0_) (by decide), fun _ h1_ => absurd ((hon 6 (by kernel_rfl)).symm.trans h1_) (by decide), fun _ h1_ => absurd ((hon 14 (by kernel_rfl)).symm.trans h1_) (by decide), fun _ h1_ => absurd ((hon 14 (by kernel_rfl)).symm.trans h1_) (by decide), Q_Tt, Q_U, Q_X0_, Q_X13_, Q_X15_, Q_X16_, Q_X17_, Q_X18_, Q_X20_⟩
      refine sc rfl ?_ ?_
      ·rintro b a w' ⟨g61, v67, g74, v75, v77, m0_, m13_, m15_, m16_, m17_, m18_, m20_, ha, Q_B, Q_L, Q_R0, Q_R, Q_S, Q_Tt, Q_U, Q_X0_, Q_X13_, Q_X15_, Q_X16_, Q_X17_, Q_X18_, Q_X20_⟩ hb_ hon hoff K hK
       have e78 := psn ha 14 rfl rfl (hon 18 (by kernel_rfl)) rfl
       rw [Q_X18_ (hon 18 (by kernel_rfl))] at e78
       replace ha := Am ha
       refine value_ (w1 := w') (v := v77) (by rfl) rfl ?_ ?_
       ·go_simp
        (try simp only [i64_w])
        try rfl
       refine hK.out _ _ ⟨g61, v67, g74, v75, v77, m0_, m13_, m15_, m16_, m17_, m18_, (v77), (puk ha 16 hb_ rfl rfl rfl), Q_B, fun h0_ => absurd ((hon 14 (by kernel_rfl)).symm.trans h0_) (by decide), fun _ h1_ => absurd ((hon 6 (by kernel_rfl)).symm.trans h1_) (by decide), fun _ h1_ => absurd ((hon 14 (by kernel_rfl)).symm.trans h1_) (by decide), fun _ h1_ => absurd ((hon 14 (by kernel_rfl)).symm.trans h1_) (by decide), Q_Tt, Q_U, Q_X0_, Q_X13_, Q_X15_, Q_X16_, Q_X17_, Q_X18_, fun _ => rfl⟩
      refine sc rfl ?_ ?_
      ·rintro b a w' ⟨g61, v67, g74, v75, v77, m0_, m13_, m15_, m16_, m17_, m18_, m20_, ha, Q_B, Q_L, Q_R0, Q_R, Q_S, Q_Tt, Q_U, Q_X0_, Q_X13_, Q_X15_, Q_X16_, Q_X17_, Q_X18_, Q_X20_⟩ hb_ hon hoff K hK
       have e79 := psn ha 15 rfl rfl (hon 19 (by kernel_rfl)) rfl
       replace ha := Am ha
       refine value_ (w1 := w') (v := .int .i64 ec2) (by rfl) rfl ?_ ?_
       ·go_simp
        (try simp only [i64_w])
        try rfl
       refine hK.out _ _ ⟨g61, v67, g74, v75, v77, m0_, m13_, m15_, m16_, m17_, m18_, m20_, (puk ha 17 hb_ rfl rfl rfl), Q_B, fun h0_ => absurd ((hon 14 (by kernel_rfl)).symm.trans h0_) (by decide), fun _ h1_ => absurd ((hon 6 (by kernel_rfl)).symm.trans h1_) (by decide), fun _ h1_ => absurd ((hon 14 (by kernel_rfl)).symm.trans h1_) (by decide), fun _ h1_ => absurd ((hon 14 (by kernel_rfl)).symm.trans h1_) (by decide), Q_Tt, Q_U, Q_X0_, Q_X13_, Q_X15_, Q_X16_, Q_X17_, Q_X18_, Q_X20_⟩
      exact steps_nil
     rintro b a w' hall ⟨g61, v67, g74, v75, v77, m0_, m13_, m15_, m16_, m17_, m18_, m20_, ha, Q_B, Q_L, Q_R0, Q_R, Q_S, Q_Tt, Q_U, Q_X0_, Q_X13_, Q_X15_, Q_X16_, Q_X17_, Q_X18_, Q_X20_⟩
     clear B L
     have hb0_ := hall 0 (by kernel_rfl)
     have hb3_ := hall 3 (by kernel_rfl)
     have hb4_ := hall 4 (by kernel_rfl)
     have hb5_ := hall 5 (by kernel_rfl)
     have hb6_ := hall 6 (by kernel_rfl)
     have hb9_ := hall 9 (by kernel_rfl)
     have hb10_ := hall 10 (by kernel_rfl)
     have hb11_ := hall 11 (by kernel_rfl)
     have hb12_ := hall 12 (by kernel_rfl)
     have hb13_ := hall 13 (by kernel_rfl)
     have hb14_ := hall 14 (by kernel_rfl)
     have hb15_ := hall 15 (by kernel_rfl)
     have hb16_ := hall 16 (by kernel_rfl)
     have hb17_ := hall 17 (by kernel_rfl)
     have hb18_ := hall 18 (by kernel_rfl)
     have hb19_ := hall 19 (by kernel_rfl)
     have hb20_ := hall 20 (by kernel_rfl)
     have hb21_ := hall 21 (by kernel_rfl)
     subst ha
     obtain rfl := Q_X0_ hb0_
     obtain rfl := Q_X13_ hb13_
     obtain rfl := Q_X15_ hb15_
     obtain rfl := Q_X16_ hb16_
     obtain rfl := Q_X17_ hb17_
     obtain rfl := Q_X18_ hb18_
     obtain rfl := Q_X20_ hb20_
     simp only [putSel, hb0_, hb3_, hb4_, hb5_, hb6_, hb9_, hb10_, hb11_, hb12_, hb13_, hb14_, hb15_, hb16_, hb17_, hb18_, hb19_, hb20_, hb21_, if_true, Act.put, List.setIfInBounds_toArray, List.set_cons_zero, List.set_cons_succ]
     have B := Am Q_B
     clear Q_B
     clear Q_L
     clear Q_R0
     clear Q_R
     clear Q_S
     have Tt := Am (Q_Tt hb14_)
     clear Q_Tt
     have U := Am (Q_U hb16_)
     clear Q_U
     clear hall hb0_ hb3_ hb4_ hb5_ hb6_ hb9_ hb10_ hb11_ hb12_ hb13_ hb14_ hb15_ hb16_ hb17_ hb18_ hb19_ hb20_ hb21_
     obtain ⟨Au, cu, hvu⟩ := U.out
     subst hvu
     have HBW := Lh (below_then HB3.out HB3.out.size B.out)
     have HRW := Lh (Kd.R_below HR3.out B.out)
     have hcw9 := HC1c.out w' HBW.out
     clear Tt U B HE2 HC0c HC0r HC1w HCY HXS HXE HN0 HWJ HLJ HL0 HGP HR3 HOJ
     by_cases he2 : ec2 = 0
     ·have hz3 : (ec2 == 0) = true := by simp [he2]
      have hz4 : decide ((nb2 : Int) ≤ (m : Int)) = false := decide_eq_false (fun h => HSEP.out ⟨he2, by omega⟩)
      have hz4n : decide (nb2 ≤ m) = false := decide_eq_false (fun h => HSEP.out ⟨he2, h⟩)
      clear he2
      go_upto_region 15 with (fail)
      clear hz3 hz4 hz4n
      obtain ⟨ps2, hps2, hC2, hcr2⟩ := chk_raw (HC1r.out W1 (Below.refl _ _))
      have HP2 := Lh hps2
      have hl2 : ps2.length = nr := by rw [← fsts_len, hps2, HNR.out]
      have HC2 := Lh (Kd.C_below hC2 HBW.out)
      have HCR2 := Lh hcr2
      have HFL := Lh (show fsts (ps ++ ps2) = (rows.take (i + 1)).flatten by
       rw [flat_next rows i (by rw [HN.out]; exact hlt), ← HPS.out, ← hps2]
       unfold fsts
       exact List.map_append ..)
      have HLEN := Lh (show (ps.length + nr) * 152 ≤ 140737488355328 by
       have h1 := flat_le rows (i + 1)
       rw [HRO.out.fl, ← HFL.out, fsts_len, List.length_append, hl2] at h1
       have h2 := HO.out.1
       omega)
      have HCR3 := Lh (show ∀ p ∈ ps ++ ps2, CR W1 p.1 p.2 from fun p hp => (List.mem_append.1 hp).elim (HCR.out p) (HCR2.out p))
      clear hps2 hC2 hcr2 hl2 HCR HCR2 HPS HP2
      go_wp2_with (at_builtin; go_must (refine Kd.R_append_rows cvK (Rr := cvK.K w') (w0 := W1) (W := w') W1.heap.size rfl _ _ 24 41 (.agg zerV) 152 rfl Tryd.underlying24 info_cv rfl (by decide) (by decide) (.slice A7 zl c7) ps ps2 (some ady) nr d1 (fun _ => True) (fun _ => False) rfl rfl HRW.out HC2.out (fun _ _ h => h) (fun _ h => h.elim) (fun _ _ => trivial) HBW.out HBW.out.size HLEN.out ?_); (intro v1 w1 hR1 hB1 hG1 _; have HR1 := Lh hR1; have HB1' := Lh hB1; clear hR1 hB1 hG1; refine RowKit.Hid.out ?_))
      refine Lh ?_
      obtain ⟨A8, c8, hv8⟩ := Kd.R_slice HR1.out
      subst hv8
      generalize (ps ++ ps2).length = zq at *
      clear HC2 HRW HBW HLEN
      go_wp2
      go_roundw
      case rel => exact ⟨i + 1, ps ++ ps2, by omega, by go_num, HFL.out, HCR3.out, HR1.out, HB1'.out⟩
      case measure => simp [intOf]; omega
     ·have hz3 : (ec2 == 0) = false := by simp [he2]
      clear he2
      go_upto_region 15 with (fail)
      clear hz3
      obtain ⟨ps2, hps2, hC2, hcr2⟩ := chk_raw (HC1r.out W1 (Below.refl _ _))
      have HP2 := Lh hps2
      have hl2 : ps2.length = nr := by rw [← fsts_len, hps2, HNR.out]
      have HC2 := Lh (Kd.C_below hC2 HBW.out)
      have HCR2 := Lh hcr2
      have HFL := Lh (show fsts (ps ++ ps2) = (rows.take (i + 1)).flatten by
       rw [flat_next rows i (by rw [HN.out]; exact hlt), ← HPS.out, ← hps2]
       unfold fsts
       exact List.map_append ..)
      have HLEN := Lh (show (ps.length + nr) * 152 ≤ 140737488355328 by
       have h1 := flat_le rows (i + 1)
       rw [HRO.out.fl, ← HFL.out, fsts_len, List.length_append, hl2] at h1
       have h2 := HO.out.1
       omega)
      have HCR3 := Lh (show ∀ p ∈ ps ++ ps2, CR W1 p.1 p.2 from fun p hp => (List.mem_append.1 hp).elim (HCR.out p) (HCR2.out p))
      clear hps2 hC2 hcr2 hl2 HCR HCR2 HPS HP2
      go_wp2_with (at_builtin; go_must (refine Kd.R_append_rows cvK (Rr := cvK.K w') (w0 := W1) (W := w') W1.heap.size rfl _ _ 24 41 (.agg zerV) 152 rfl Tryd.underlying24 info_cv rfl (by decide) (by decide) (.slice A7 zl c7) ps ps2 (some ady) nr d1 (fun _ => True) (fun _ => False) rfl rfl HRW.out HC2.out (fun _ _ h => h) (fun _ h => h.elim) (fun _ _ => trivial) HBW.out HBW.out.size HLEN.out ?_); (intro v1 w1 hR1 hB1 hG1 _; have HR1 := Lh hR1; have HB1' := Lh hB1; clear hR1 hB1 hG1; refine RowKit.Hid.out ?_))
      refine Lh ?_
      obtain ⟨A8, c8, hv8⟩ := Kd.R_slice HR1.out
      subst hv8
      generalize (ps ++ ps2).length = zq at *
      clear HC2 HRW HBW HLEN
      go_wp2
      go_roundw
      case rel => exact ⟨i + 1, ps ++ ps2, by omega, by go_num, HFL.out, HCR3.out, HR1.out, HB1'.out⟩
      case measure => simp [intOf]; omega
   ·obtain rfl : i = n := by omega
    have hall : fsts ps = l := by rw [HPS.out, ← HN.out, List.take_length, HRO.out.fl]
    have HB9 := Lh (below_then HB1.out HB1.out.size HB.out)
    obtain ⟨A7, c7, rfl, hle7, hC7⟩ := Kd.R_reads HR.out
    have hk7 := cv_chk hC7 (fun p hp => (HCR.out p hp).below HB.out)
    rw [← fsts_len, hall] at hk7
    have HSC := Lh (show Calls Tryd.prog 25 #[.slice A7 ps.length c7, .slice A l.length c] wr fun e w' => e = .returned (.bool true) ∧ Below wr.heap.size wr w' from by
     have h1 := schunks_calls wr A7 A c7 c l l hk7 (HL.out wr HB9.out) (fun x hx => (HO.out.2 x hx).okB) (fun x hx => (HO.out.2 x hx).okB)
     rw [decide_eq_true rfl, ← hall, fsts_len] at h1
     rw [← hall, fsts_len]
     exact h1)
    clear hall hk7 hC7 hle7 HR HPS HCR HB
    generalize ps.length = zl at *
    generalize l.length = nl at *
    go_wp2_with fail
    refine HSC.out.mono ?_
    rintro e W7 ⟨rfl, hB7⟩
    have HB7 := Lh (below_then HB9.out HB9.out.size hB7)
    have HAL := Lh (HA.out W7 HB7.out)
    clear hB7 HSC
    go_wp2_with fail
    refine HAL.out.mono ?_
    rintro e W8 ⟨rfl, hB8⟩
    have HB8 := Lh (below_then HB7.out HB7.out.size hB8)
    clear hB8 HAL
    go_wp2
    go_ret
    exact ⟨rfl, HB8.out⟩
 ·have hrows := HBAD.out hec
  subst hrows
  have hz : (ec != 0) = true := by simp [hec]
  clear HOK HBAD HMEM hec HL HO HT
  generalize l.length = nl at *
  go_enter Tryd.func9, Tryd.ntmps9
  go_wp2_with fail
  refine (HBU.out w (Below.refl _ _)).mono ?_
  rintro e W1 ⟨v1, rfl, A1, c1, rfl, hle1, hC1, hB1⟩
  have HB1 := Lh hB1
  clear hC1 hB1 hle1 HBU
  rw [show ([] : List (List Chk)).length = 0 from rfl]
  have HAL := Lh (HA.out W1 HB1.out)
  go_wp2_with fail
  refine HAL.out.mono ?_
  rintro e W8 ⟨rfl, hB8⟩
  have HB8 := Lh (below_then HB1.out HB1.out.size hB8)
  clear hB8 HAL
  go_wp2
  go_ret
  exact ⟨rfl, HB8.out⟩
end Go.Proofs.YtdlamomabonkjaaDoor.Pk
end
section
namespace Go.Proofs.YtdlamomabonkjaaDoor.Crc
open Go.RowKit YtdlamomabonkjaaDoorW.PrintWords Base CrcMath
theorem gSteps : Tryd.prog.globalNamed "ropewalk/crc.steps" = some 0 := by kernel_rfl
theorem gStepsType : (Tryd.prog.globals[0]?).map (·.type) = some 136 := by kernel_rfl
theorem cells16 : Tryd.prog.cellsOf 136 = 16 := by kernel_rfl
theorem cells32 : Tryd.prog.cellsOf 23 = 1 := by kernel_rfl
theorem table_of {W : World} (h : laidMetH Tryd.prog [("ropewalk/crc.steps", Rows.laid_ropewalk_crc_steps)] W) : Table W := by
 have ht : Lib.TabIs Tryd.prog W "ropewalk/crc.steps" .u32 [0, 274646895, 549293790, 820201905, 1098587580, 1361435347, 1640403810, 1905808397, 2197175160, 2460548119, 2722870694, 2987750089, 3280807620, 3553878443, 3811616794, 4084100981] :=
  Lib.tabIs_of_head (rest := []) gSteps gStepsType Tryd.underlying136 Tryd.underlying23 cells32 cells16 h
 refine ⟨fun i hi => ?_⟩
 have := ht.cell gSteps i (by simpa using hi)
 rw [this]
 have hn : ∀ i : Nat, i < 16 → ([0, 274646895, 549293790, 820201905, 1098587580, 1361435347, 1640403810, 1905808397, 2197175160, 2460548119, 2722870694, 2987750089, 3280807620, 3553878443, 3811616794, 4084100981] : List Int).getD i 0 = (nib i : Int) := by decide +kernel
 rw [← hn i hi]
end Go.Proofs.YtdlamomabonkjaaDoor.Crc
end
section
namespace Go.Proofs.YtdlamomabonkjaaDoor.packetFew
open Go.ChangeShapes Go.WideShapes Go.ChangeAt Go.RowKit Base
open Go.ChangeMaps (open_string shut_string)
set_option maxRecDepth 100000 in
theorem contract (H : Type) (enc : TypeId × Value → H) (W : World) (base : Nat) (args : Array Value) (ds gs : List (DataW H)) (before : List MemPlace)
  (hval : ∀ (j : Nat) t v, Tryd.f9.params[j]? = some t → args[j]? = some v → Value.okWide Tryd.prog W .any base t v)
  (hW : DataW.Whole enc Tryd.prog Tryd.f9.params.toList Rows.packetFewSpec.vars false W args.toList ds gs before)
  (hsz0 : (DataW.weightsEach Tryd.prog (Tryd.f9.params.toList ++ (OpenSpec.ofChange Rows.packetFewSpec).bare.plain.varTypes Tryd.prog) (ds ++ gs)).all (· ≤ reachBytes) = true)
  (hL : laidMetH Tryd.prog Rows.packetFewRow.laid W) :
  Calls Tryd.prog 9 args W fun e W' => ∃ v, e = .returned v ∧ Rows.packetFewSpec.post enc Tryd.prog Tryd.f9 false true false false W args v W' := by
 have hW' := hW
 obtain ⟨p, q, hA0, hV, rfl, hfz, hnd⟩ := hW
 have hA : DataW.TrodAll enc Tryd.prog W 0 (fun _ => true) true Tryd.f9.params.toList args.toList ds p := hA0
 rw [Tryd.params9] at hA hval
 obtain ⟨v0, vs0, d0, ds0, p0, q0, hargs, rfl, rfl, h0, r0⟩ := trodAll_cons hA
 obtain ⟨v1, vs1, d1, ds1, p1, q1, rfl, rfl, rfl, h1, r1⟩ := trodAll_cons r0
 obtain ⟨rfl, rfl, rfl⟩ := trodAll_nil r1
 obtain rfl : args = #[v0, v1] := by cases args; simp_all
 obtain ⟨rfl, rfl⟩ := trodVars_none hV
 have hsz := hsz0
 rw [Tryd.params9] at hsz
 obtain ⟨a0, rfl, rfl, rfl, w0⟩ := open_int Tryd.underlying3 (hval 0 3 v0 rfl rfl) h0
 obtain ⟨a1, len1, cap1, rfl⟩ := okWide_slice Tryd.underlying24 (hval 1 24 v1 rfl rfl)
 have k1 := h1
 have lt1 : ∀ x ∈ p1, x.block < W.heap.size := by obtain ⟨m, hm⟩ := k1; exact DataW.trod_lt m _ _ _ hm
 obtain ⟨l1, rfl, hc1, hb1, hw1, hp1⟩ := OpensP.arg (Classical.choose_spec Ch.opens_chks) h1 (short_part hsz (j := 1) rfl rfl)
 clear hA0 hsz hsz0
 have ht := Crc.table_of hL
 refine (Pk.few_row a0 w0 a1 cap1 l1 hb1 hc1 hp1 ht).mono fun e W' ⟨he, bel⟩ => ?_
 subst he
 exact ⟨_, rfl, _, _, _, [], _, [], hW', trodAll_mk1 (shut_bool Tryd.underlying4 _), (trodAll_cons_mk (shut_int Tryd.underlying3 w0) (trodAll_cons_mk (Below.trod laidOut (by kernel_rfl) (of_decide_eq_true (by kernel_rfl)) k1 bel lt1) trodAll_mk0)), rfl, bel.frame _, fun h => by cases h⟩
noncomputable def laidWorld (os : Os) : World := World.doorLaid Tryd.prog 14 os
theorem laid_met (os : Os) : laidMet Tryd.prog Rows.packetFewRow.laid ((laidWorld os).forCall (fun _ _ => 0) ⟨#[], #[.int .i64 0, .slice none 0 0], []⟩).memory :=
 laidMet_of_run' 8 (by kernel_rfl) (by kernel_rfl)
theorem reads (os : Os) {H : Type} (enc : TypeId × Value → H) : ∃ places, DataW.whole enc Tryd.prog ((laidWorld os).forCall (fun _ _ => 0) ⟨#[], #[.int .i64 0, .slice none 0 0], []⟩).memory Tryd.f9.params.toList Rows.packetFewSpec.vars false (#[.int .i64 0, .slice none 0 0] : Array Value).toList 8 = some ([.lit (.int .i64 0), .nil], [], places) :=
 ⟨[], by kernel_rfl⟩
set_option maxRecDepth 100000 in
theorem lifted (os : Os) (started : os.Started) (H : Type) (enc : TypeId × Value → H) (F : Stop.Interp) :
  ReturnsInHanded {} Tryd.checked os 9 .any ((OpenSpec.ofChange Rows.packetFewSpec).preRow enc Tryd.prog Tryd.f9 Rows.packetFewRow.domain false Rows.packetFewRow.laid) (((OpenSpec.ofChange Rows.packetFewSpec).at F).post enc Tryd.prog Tryd.f9 false true false false) := by
 obtain ⟨places, hx⟩ := reads os enc
 refine returnsInHanded_of_row (C := Tryd.checked) (s := (OpenSpec.ofChange Rows.packetFewSpec)) own started (by kernel_rfl) Tryd.func9
  (witness_row_at (enc := enc) (C := Tryd.checked) false (laidWorld os) #[.int .i64 0, .slice none 0 0] rfl (by kernel_rfl) (by kernel_rfl) (by kernel_rfl)
   (OpenSpec.preRow_of_cond 8 hx (by kernel_rfl) (fun k hk => by cases hk) (by kernel_rfl) (laid_met os))) ?_
 intro W base args ds gs before hval hW _ hcond hsz hL _ _
 exact contract H enc W base args ds gs before hval hW hsz hL
theorem said : Rows.PacketFewSaid :=
 OpenClaim.holds_of_cond 9 Tryd.f9 rfl rfl rfl rfl rfl rfl rfl ⟨rfl, rfl, rfl, rfl, rfl⟩ rfl rfl rfl rfl rfl (by kernel_rfl) Tryd.func9 (by kernel_rfl)
  (of_decide_eq_true (by kernel_rfl)) (by unfold Func.isWrapper; first | (rw [if_pos (by decide +kernel)]; kernel_rfl) | (rw [if_neg (by decide +kernel)]; exact ⟨rfl, rfl⟩))
  (fun os started H enc _ F => by rw [OpenClaim.pre_eq_preRow]; exact lifted os started H enc F)
theorem plain (f : FuncId) (fn : Func) (hf : Tryd.pinned.checked.prog.funcNamed "ropewalk/ropewalklaw07.PacketFew" = some f) (hfn : Tryd.pinned.checked.prog.funcs[f]? = some fn) :
  true = Tryd.pinned.checked.prog.looks [] ∧ ∀ (j : Nat) t, fn.params[j]? = some t → Tryd.pinned.checked.prog.wantsStandIn t = false := by
 obtain rfl : f = 9 := Option.some.inj ((show Tryd.prog.funcNamed "ropewalk/ropewalklaw07.PacketFew" = some 9 by kernel_rfl).symm.trans hf) |>.symm
 obtain rfl : fn = Tryd.f9 := (Option.some.inj (Tryd.func9.symm.trans hfn)).symm
 refine ⟨by kernel_rfl, fun j t ht => ?_⟩
 rw [Tryd.params9] at ht
 have hm : t ∈ [3, 24] := by simpa using Array.mem_of_getElem? ht
 have hall : ([3, 24].all fun u => !Tryd.prog.wantsStandIn u) = true := by kernel_rfl
 exact (show Tryd.prog.wantsStandIn t = false by simpa using List.all_eq_true.1 hall t hm)
theorem packetFew_holds : Rows.PacketFewCardSaid :=
 Claim7.holds_tied_plain_at .later [] _ _ _ _ said (fun _ h => by cases h) (by kernel_rfl) (fun _ h => by cases h) packetFew_row_tie rfl ⟨rfl, rfl⟩ (by kernel_rfl) rfl plain (by kernel_rfl)
#print axioms packetFew_holds
end Go.Proofs.YtdlamomabonkjaaDoor.packetFew
end
