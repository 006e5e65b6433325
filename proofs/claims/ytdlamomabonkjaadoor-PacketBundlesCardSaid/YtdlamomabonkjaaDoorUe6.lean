/- The statement PacketBundles of ropewalk/ropewalklaw07.PacketBundles. Proved from the walk Pk.bundles_row. Condition: the listed package variables read as the program's text lays them (tied by the card). -/
import Derived.Test.YtdlamomabonkjaaDoorUe5
import Derived.Lib.LaidTab
import Derived.Test.YtdlamomabonkjaaDoorCards
import Derived.Test.YtdlamomabonkjaaDoorTie
set_option maxRecDepth 100000
set_option linter.unusedVariables false
set_option linter.unusedSimpArgs false
section
namespace Go.Proofs.YtdlamomabonkjaaDoor.Pk
open Go.RowKit YtdlamomabonkjaaDoorW.PrintWords YtdlamomabonkjaaDoorW.PrintLast Base PCh ParDec Ch
def pbbT22 : Bool × List (List Nat × List Nat) := (true, [([], []), ([], []), ([], []), ([], []), ([2, 3], [2, 3]), ([4], [4]), ([], []), ([6], [6]), ([5, 7], [5, 7]), ([0, 1, 0, 1, 2, 3, 4, 5, 6, 7, 8], [0, 1]), ([9, 8, 8, 0, 1, 2, 3, 4, 5, 6, 7, 8], [8, 9])])
def pbbB22 : List Nat := [0, 0, 0, 0, 12, 28, 0, 64, 252, 511, 1023]
theorem pbbtab22 : Go.Proofs.YtdlamomabonkjaaDoorW.PrintLast.rtab .any (Go.Proofs.YtdlamomabonkjaaDoorW.PrintLast.opsOf Tryd.f23 22) = pbbT22 := by kernel_rfl
theorem pbbbits22 : Go.Proofs.YtdlamomabonkjaaDoorW.PrintLast.waitsOk pbbT22.2 pbbB22 = true := by kernel_rfl
def pbaT19 : Bool × List (List Nat × List Nat) := (true, [([], []), ([0], [0]), ([1], [1]), ([2], [2]), ([2], [2]), ([3, 4, 2], [2, 3, 4]), ([2, 5], [2, 5]), ([6, 2], [6]), ([7], [7]), ([7], [7]), ([8, 9, 7], [7, 8, 9]), ([10, 7], [7, 10]), ([11, 7, 7], [7, 11]), ([7], [7]), ([13, 7], [7, 13]), ([12, 14, 12, 7], [7, 12, 14]), ([15, 15, 7], [7, 15]), ([7, 16], [7, 16])])
def pbaB19 : List Nat := [0, 1, 3, 7, 7, 31, 63, 127, 255, 255, 1023, 2047, 4095, 255, 8447, 32767, 65535, 131071]
theorem pbatab19 : Go.Proofs.YtdlamomabonkjaaDoorW.PrintLast.rtab .any (Go.Proofs.YtdlamomabonkjaaDoorW.PrintLast.opsOf Tryd.f23 19) = pbaT19 := by kernel_rfl
theorem pbabits19 : Go.Proofs.YtdlamomabonkjaaDoorW.PrintLast.waitsOk pbaT19.2 pbaB19 = true := by kernel_rfl
def pbcT19 : Bool × List (List Nat × List Nat) := (true, [([], []), ([0], [0]), ([1], [1]), ([2], [2]), ([2], [2]), ([3, 4, 2], [2, 3, 4]), ([2, 5], [2, 5]), ([6, 2], [6]), ([7], [7]), ([7], [7]), ([8, 9, 7], [7, 8, 9]), ([10, 7], [7, 10]), ([11, 7, 7], [7, 11]), ([7], [7]), ([13, 7], [7, 13]), ([12, 14, 12, 7], [7, 12, 14]), ([15, 15, 7], [7, 15]), ([7, 16], [7, 16])])
def pbcB19 : List Nat := [0, 1, 3, 7, 7, 31, 63, 127, 255, 255, 1023, 2047, 4095, 255, 8447, 32767, 65535, 131071]
theorem pbctab19 : Go.Proofs.YtdlamomabonkjaaDoorW.PrintLast.rtab .any (Go.Proofs.YtdlamomabonkjaaDoorW.PrintLast.opsOf Tryd.f23 19) = pbcT19 := by kernel_rfl
theorem pbcbits19 : Go.Proofs.YtdlamomabonkjaaDoorW.PrintLast.waitsOk pbcT19.2 pbcB19 = true := by kernel_rfl
def pbdT19 : Bool × List (List Nat × List Nat) := (true, [([], []), ([0], [0]), ([1], [1]), ([2], [2]), ([2], [2]), ([3, 4, 2], [2, 3, 4]), ([2, 5], [2, 5]), ([6, 2], [6]), ([7], [7]), ([7], [7]), ([8, 9, 7], [7, 8, 9]), ([10, 7], [7, 10]), ([11, 7, 7], [7, 11]), ([7], [7]), ([13, 7], [7, 13]), ([12, 14, 12, 7], [7, 12, 14]), ([15, 15, 7], [7, 15]), ([7, 16], [7, 16])])
def pbdB19 : List Nat := [0, 1, 3, 7, 7, 31, 63, 127, 255, 255, 1023, 2047, 4095, 255, 8447, 32767, 65535, 131071]
theorem pbdtab19 : Go.Proofs.YtdlamomabonkjaaDoorW.PrintLast.rtab .any (Go.Proofs.YtdlamomabonkjaaDoorW.PrintLast.opsOf Tryd.f23 19) = pbdT19 := by kernel_rfl
theorem pbdbits19 : Go.Proofs.YtdlamomabonkjaaDoorW.PrintLast.waitsOk pbdT19.2 pbdB19 = true := by kernel_rfl
def RowsR (wI w' : World) (v : Value) (rows : List (List Chk)) : Prop := ∃ A c, v = .slice A rows.length c ∧ rows.length ≤ c ∧ (Kd.slice 41 k41).C w' A rows.length rows ∧ Below wI.heap.size wI w'
theorem RowsR.nil (wI w' : World) (h : Below wI.heap.size wI w') : RowsR wI w' (.slice none 0 0) [] := ⟨none, 0, rfl, Nat.le_refl _, Kd.C_nil _ _, h⟩
set_option maxHeartbeats 8000000 in
theorem bundle_calls (wI : World) (mtu : Int) (A : Option Addr) (c : Nat) (l : List Chk) (hl : Kd.C k41 wI A l.length l) (hc : l.length ≤ c) (hok : OkL l) :
  Calls Tryd.prog 23 #[.int .i64 mtu, .slice A l.length c] wI fun e w' => ∃ v, e = .returned (.tuple #[v, .int .i64 (bundD mtu l).2]) ∧ RowsR wI w' v (bundD mtu l).1 := by
 obtain ⟨D, hD⟩ : ∃ D, bundD mtu l = D := ⟨_, rfl⟩
 rw [hD]
 unfold bundD at hD
 have HL0 := Lh hl
 have HOK := Lh hok
 have hmx := hl.2.1
 clear hl hok
 by_cases hm1 : mtu < 100
 ·rw [if_pos (Or.inl hm1)] at hD
  have HD := Lh hD.symm
  have hz : decide (mtu < 100) = true := decide_eq_true hm1
  clear hD hm1 hmx
  generalize l.length = n at *
  go_enter Tryd.func23, Tryd.ntmps23
  go_wp2
  go_ret2
  rw [HD.out]
  exact ⟨_, rfl, RowsR.nil _ _ (Below.refl _ _)⟩
 by_cases hm2 : 1500 < mtu
 ·rw [if_pos (Or.inr hm2)] at hD
  have HD := Lh hD.symm
  have hz : decide (mtu < 100) = false := decide_eq_false hm1
  have hz2 : decide (1500 < mtu) = true := decide_eq_true hm2
  clear hD hm1 hm2 hmx
  generalize l.length = n at *
  go_enter Tryd.func23, Tryd.ntmps23
  go_wp2
  go_ret2
  rw [HD.out]
  exact ⟨_, rfl, RowsR.nil _ _ (Below.refl _ _)⟩
 rw [if_neg (by omega)] at hD
 obtain ⟨m, hmm⟩ : ∃ m : Nat, mtu = (m : Int) := ⟨mtu.toNat, by omega⟩
 subst hmm
 rw [Int.toNat_natCast] at hD
 have HMT := Lh (show 100 ≤ m ∧ m ≤ 1500 by omega)
 have hz : decide ((m : Int) < 100) = false := decide_eq_false hm1
 have hz2 : decide ((1500 : Int) < (m : Int)) = false := decide_eq_false hm2
 have HD := Lh hD
 clear hD hm1 hm2
 go_enter Tryd.func23, Tryd.ntmps23
 go_wp2
 clear hz hz2
 go_loopw [23] (fun v23 W => ∃ i : Nat, i ≤ l.length ∧ v23 = .int .i64 i ∧ Hid (chkAll l = chkAll (l.drop i)) ∧ Hid (Below wI.heap.size wI W)) (fun v23 _ => l.length - (intOf v23).toNat)
 case atStart => exact ⟨0, by omega, rfl, rfl, Below.refl _ _⟩
 case round =>
  obtain ⟨i, hi, rfl, HS, HB⟩ := hrel
  by_cases hlt : i < l.length
  ·obtain ⟨ad, x, L, e9, hd, hxm, hcell, hx⟩ := chk_at HL0.out i hlt
   have e9' := e9
   subst e9
   have HXC := Lh hx
   have HXS := Lh (chk_size x L)
   have HXZ := Lh (chk_zsize x L)
   have HXO := Lh (CV_one x L)
   have HCX := Lh (fun j v hv => pw_cell_below HB.out (hcell j v hv))
   have HCK := Lh (fun (W : World) (h : Below wI.heap.size wI W) => check_any W x L (hx.below h) (Nat.le_trans (HOK.out.2 x hxm).l13 (by decide)))
   have hS := HS.out
   rw [hd, chkAll] at hS
   have HS2 := Lh hS
   clear hS hcell hx hd hxm e9' HXC HS
   generalize checkD x = ck at *
   generalize CV x L = CX at *
   obtain ⟨gb, hgb⟩ : ∃ g, wr.heap.size = g := ⟨_, rfl⟩
   have HGB := Lh hgb
   clear hgb
   go_upto_region 6 with (first | ((with_reducible refine gate_dst (N := 26) rfl ?_); go_must (refine wpList_load_cells rfl 41 (.tmp 25) rfl rfl CX _ (fun j v hv => HCX.out j v hv) Tryd.underlying41 rfl HXS.out ?_)) | ((with_reducible refine gate_dst (N := 7) rfl ?_); go_must (refine wpList_box rfl rfl 7 rfl rfl (.tmp 26) rfl CX rfl rfl HXZ.out HXS.out HXO.out ?_)))
   refine wp_gen (fun W => W.heap[wr.heap.size]? = some (.cells CX 41 (0, 0)) ∧ Below wr.heap.size wr W) ⟨blk_new _ _, below_alloc (Below.refl _ _) _⟩ ?_
   rintro W1 ⟨hk1, hb1⟩
   rw [HGB.out] at hk1 ⊢
   have HK1 := Lh hk1
   have HB1 := Lh (below_then HB.out HB.out.size hb1)
   clear hk1 hb1 HCX
   go_wp2_with ((with_reducible refine gate_dst (N := 27) rfl ?_); go_must (refine wpList_load_row rfl 41 (.tmp 7) rfl _ rfl 41 _ (0, 0) _ HK1.out Tryd.underlying41 rfl HXS.out ?_))
   refine (HCK.out W1 HB1.out).mono ?_
   rintro e W2 ⟨rfl, hB2⟩
   have HB2 := Lh (below_then HB1.out HB1.out.size hB2)
   clear hB2 HCK HK1
   by_cases hck : ck = 0
   ·subst hck
    have HS3 := Lh (show chkAll l = chkAll (l.drop (i + 1)) by rw [HS2.out, if_pos rfl])
    clear HS2
    go_wp2
    go_roundw
    case rel => exact ⟨i + 1, by omega, by go_num, HS3, HB2⟩
    case measure => simp [intOf]; omega
   ·have hz : (ck != 0) = true := by simp [hck]
    have HS3 := Lh (show chkAll l = ck by rw [HS2.out, if_neg hck])
    have HD2 := Lh (show D = ([], ck) by rw [← HD.out, HS3.out, if_neg hck])
    clear HS2 HS3 hck HD
    go_wp2
    go_ret2
    rw [HD2.out]
    exact ⟨_, rfl, RowsR.nil _ _ HB2.out⟩
  ·obtain rfl : i = l.length := by omega
   have hck : chkAll l = 0 := by rw [HS.out, List.drop_length]; rfl
   have HCK := Lh (fun x (hx : x ∈ l) => chkAll_mem hck hx)
   have HDE := Lh (show (if (∀ x ∈ l, 12 + sizeD x ≤ m) then (outB (rowsB m l), 0) else ([], 2)) = D by rw [← HD.out, if_pos hck])
   clear hck hlt hi HS HD
   go_wp2
   go_loopw [9, 10, 35] (fun v9 v10 v35 W => ∃ (i : Nat) (zs : List RW) (lf : Nat), i ≤ l.length ∧ v10 = .int .i64 (lf : Int) ∧ v35 = .int .i64 (i : Int) ∧ Hid (RelB m (l.take i) zs lf) ∧ Hid (BSt wI W zs v9)) (fun _ _ v35 _ => l.length - (intOf v35).toNat)
   case atStart => exact ⟨0, [], 0, by omega, rfl, rfl, RelB.nil m, BSt.nil _ _ HB.out⟩
   case round =>
    obtain ⟨i, zs, lf, hi, rfl, rfl, HREL, HS⟩ := hrel
    by_cases hlt : i < l.length
    ·obtain ⟨ad, x, L, e9, hd, hxm, hcell, hx⟩ := chk_at HL0.out i hlt
     have e9' := e9
     subst e9
     have HXC := Lh hx
     have HXS := Lh (chk_size x L)
     have HXZ := Lh (chk_zsize x L)
     have HXO := Lh (CV_one x L)
     have HCX := Lh (fun j v hv => pw_cell_below HS.out.bl (hcell j v hv))
     have HSZC := Lh (fun (W : World) (h : Below wI.heap.size wI W) => size_calls W x L (hx.below h) (HOK.out.2 x hxm).l13)
     have HDX := Lh hd
     have HINV := Lh (show BInv m (rowsB m (l.take i)) (l.take i) from (binv_rows (l.take i) (fun y hy => HCK.out y (List.mem_of_mem_take hy)) HREL.out.2.2).1)
     have HSB := Lh (size_le x (HCK.out x hxm))
     have HXM := Lh hxm
     clear hcell hx hd hxm e9'
     obtain ⟨sz, hsz⟩ : ∃ sz, sizeD x = sz := ⟨_, rfl⟩
     have HSX := Lh hsz
     rw [hsz] at HSZC HSB
     clear hsz
     obtain ⟨CX, hCX⟩ : ∃ CX, CV x L = CX := ⟨_, rfl⟩
     have HXE := Lh hCX
     rw [hCX] at HXS HXZ HXO HCX HSZC
     clear hCX
     obtain ⟨gb, hgb⟩ : ∃ g, wr.heap.size = g := ⟨_, rfl⟩
     have HGB := Lh hgb
     clear hgb
     obtain ⟨A9, c9, hv9⟩ := Kd.R_slice HS.out.out
     subst hv9
     have HZL := Lh (HREL.out.len HINV.out (HCK.out) hmx HOK.out.1)
     obtain ⟨zl, hzl⟩ : ∃ zl, zs.length = zl := ⟨_, rfl⟩
     obtain ⟨lz, hlz⟩ : ∃ lz : Int, (zl : Int) - 1 = lz := ⟨_, rfl⟩
     have HLZ := Lh (show (zs.length : Int) - 1 = lz ∧ lz < 9000000000000 by have h1 := HZL.out; rw [hzl]; rw [hzl] at h1; exact ⟨hlz, by omega⟩)
     have hw1 : wrap64 ((zl : Int) - 1) = lz := by have h1 := HLZ.out; unfold wrap64; omega
     obtain ⟨sq, hsq⟩ : ∃ sq : Nat, 12 + sz = sq := ⟨_, rfl⟩
     have HSQ := Lh hsq
     have hw2 : wrap64 (12 + (sz : Int)) = (sq : Int) := by have h1 := HSB.out; unfold wrap64; omega
     clear hsq
     rw [hzl] at HS ⊢
     have HZLE := Lh hzl
     clear hlz hzl
     go_upto_region 15 with (first | ((with_reducible refine gate_dst (N := 38) rfl ?_); go_must (refine wpList_load_cells rfl 41 (.tmp 37) rfl rfl CX _ (fun j v hv => HCX.out j v hv) Tryd.underlying41 rfl HXS.out ?_)) | ((with_reducible refine gate_dst (N := 12) rfl ?_); go_must (refine wpList_box rfl rfl 12 rfl rfl (.tmp 38) rfl CX rfl rfl HXZ.out HXS.out HXO.out ?_)))
     refine wp_gen (fun W => W.heap[wr.heap.size]? = some (.cells CX 41 (0, 0)) ∧ Below wr.heap.size wr W) ⟨blk_new _ _, below_alloc (Below.refl _ _) _⟩ ?_
     rintro W1 ⟨hk1, hb1⟩
     rw [HGB.out] at hk1 ⊢
     have HBX := Lh hk1
     have HST := Lh (HS.out.below hb1)
     clear hk1 hb1 HCX HS
     go_wp2_with ((with_reducible refine gate_dst (N := 39) rfl ?_); go_must (refine wpList_load_row rfl 41 (.tmp 12) rfl _ rfl 41 _ (0, 0) _ HBX.out Tryd.underlying41 rfl HXS.out ?_))
     refine (HSZC.out W1 HST.out.bl).mono ?_
     rintro e W2 ⟨rfl, hB2⟩
     replace HBX := Lh (blk_below HBX.out hB2)
     replace HST := Lh (HST.out.below hB2)
     clear hB2 HSZC
     by_cases hfit : 12 + sz ≤ m
     ·have hz : decide ((m : Int) < (sq : Int)) = false := decide_eq_false (by have h1 := HSQ.out; omega)
      have hzn : decide (m < sq) = false := decide_eq_false (by have h1 := HSQ.out; omega)
      have HFIT := Lh hfit
      clear hfit
      go_upto_region 19 with (fail)
      try rw [hw1]
      clear hz hzn hw1 hw2
      by_cases hz0 : zs = []
      ·have HOPN := Lh (Or.inl hz0 : zs = [] ∨ lf < sizeD x ∨ ∃ ds r, zs = ds ++ [r] ∧ apartB (fsts r.2 ++ [x]) = true)
       have hlzn : decide (lz < 0) = true := decide_eq_true (by have h1 := HLZ.out.1; rw [hz0] at h1; simp at h1; omega)
       have HLN := Lh hlzn
       clear hlzn hz0
       refine grow_v (B := pbaB19) [0, 1, 2, 3, 4, 5, 6, 7, 8, 9, 10, 11, 12, 13, 14, 15, 16, 17] [] (fun s vs W => Drawn0 W2 W) (fun vs => [(0, 48, .int .i64 lz), (1, 49, .bool true), (2, 50, .bool true), (3, 51, undef), (4, 52, undef), (5, 53, undef), (6, 54, .bool true), (7, 55, .bool true), (8, 56, undef), (9, 57, undef), (10, 58, undef), (11, 59, undef), (12, 60, undef), (13, 61, undef), (14, 62, undef), (15, 63, undef), (16, 64, undef), (17, 65, .bool true)]) (by kernel_rfl) rfl (l := #[false, false, false, false, false, false, false, false, false, false, false, false, false, false, false, false, false, false]) rfl pbatab19 pbabits19 (by kernel_rfl) (by kernel_rfl) (fun _ => rfl) rfl (fun _ => undef) ?_ ?_ ?_
       ·exact ⟨1, rfl⟩
       ·exact steps_cons (gv_op 0 0 [(14, fun vs => .int .i64 lz)] 0 0 (fv := fun vs => .int .i64 lz) rfl rfl (wt_none rfl) (fun _ => rfl) (fun _ => rfl) rfl rfl (by kernel_rfl) (by kernel_rfl) ⟨rd_off (p := 14) (fun _ => rfl) rfl, trivial⟩ (fun a w s vs hm hs h e => by
         obtain rfl : s = 0 := by omega
         obtain ⟨e14, _⟩ := e
         replace e14 : a.tmps[14]? = some (.int .i64 lz) := e14
         go_simp)) (steps_cons (gv_op 0 0 [(48, fun vs => .int .i64 lz)] 1 1 (fv := fun vs => .bool true) rfl rfl (wt_none rfl) (fun _ => rfl) (fun _ => rfl) rfl rfl (by kernel_rfl) (by kernel_rfl) ⟨rd_on (p := 48) 0 0 (fun _ => rfl) (fun _ => rfl) (by kernel_rfl) rfl, trivial⟩ (fun a w s vs hm hs h e => by
         obtain rfl : s = 0 := by omega
         obtain ⟨e48, _⟩ := e
         replace e48 : a.tmps[48]? = some (.int .i64 lz) := e48
         have hq := HLN.out; go_simp; first | done | exact hq | rw [hq])) (steps_cons (gv_op 0 0 [(49, fun vs => .bool true)] 2 2 (fv := fun vs => .bool true) rfl rfl (wt_none rfl) (fun _ => rfl) (fun _ => rfl) rfl rfl (by kernel_rfl) (by kernel_rfl) ⟨rd_on (p := 49) 1 1 (fun _ => rfl) (fun _ => rfl) (by kernel_rfl) rfl, trivial⟩ (fun a w s vs hm hs h e => by
         obtain rfl : s = 0 := by omega
         obtain ⟨e49, _⟩ := e
         replace e49 : a.tmps[49]? = some (.bool true) := e49
         go_simp)) (steps_cons (gv_off 3 3 rfl rfl (wt_off (g := 2) (t := 50) rfl rfl rfl (rd_on (p := 50) 2 2 (fun _ => rfl) (fun _ => rfl) (by kernel_rfl) rfl)) (fun _ => rfl) (fun _ => rfl) rfl) (steps_cons (gv_off 4 4 rfl rfl (wt_off (g := 2) (t := 50) rfl rfl rfl (rd_on (p := 50) 2 2 (fun _ => rfl) (fun _ => rfl) (by kernel_rfl) rfl)) (fun _ => rfl) (fun _ => rfl) rfl) (steps_cons (gv_off 5 5 rfl rfl (wt_off (g := 2) (t := 50) rfl rfl rfl (rd_on (p := 50) 2 2 (fun _ => rfl) (fun _ => rfl) (by kernel_rfl) rfl)) (fun _ => rfl) (fun _ => rfl) rfl) (steps_cons (gv_op 0 0 [(50, fun vs => .bool true), (53, fun vs => undef)] 6 6 (fv := fun vs => .bool true) rfl rfl (wt_none rfl) (fun _ => rfl) (fun _ => rfl) rfl rfl (by kernel_rfl) (by kernel_rfl) ⟨rd_on (p := 50) 2 2 (fun _ => rfl) (fun _ => rfl) (by kernel_rfl) rfl, rd_on (p := 53) 5 5 (fun _ => rfl) (fun _ => rfl) (by kernel_rfl) rfl, trivial⟩ (fun a w s vs hm hs h e => by
         obtain rfl : s = 0 := by omega
         obtain ⟨e50, e53, _⟩ := e
         replace e50 : a.tmps[50]? = some (.bool true) := e50
         replace e53 : a.tmps[53]? = some (undef) := e53
         go_simp)) (steps_cons (gv_op 0 0 [(54, fun vs => .bool true)] 7 7 (fv := fun vs => .bool true) rfl rfl (wt_none rfl) (fun _ => rfl) (fun _ => rfl) rfl rfl (by kernel_rfl) (by kernel_rfl) ⟨rd_on (p := 54) 6 6 (fun _ => rfl) (fun _ => rfl) (by kernel_rfl) rfl, trivial⟩ (fun a w s vs hm hs h e => by
         obtain rfl : s = 0 := by omega
         obtain ⟨e54, _⟩ := e
         replace e54 : a.tmps[54]? = some (.bool true) := e54
         go_simp)) (steps_cons (gv_off 8 8 rfl rfl (wt_off (g := 7) (t := 55) rfl rfl rfl (rd_on (p := 55) 7 7 (fun _ => rfl) (fun _ => rfl) (by kernel_rfl) rfl)) (fun _ => rfl) (fun _ => rfl) rfl) (steps_cons (gv_off 9 9 rfl rfl (wt_off (g := 7) (t := 55) rfl rfl rfl (rd_on (p := 55) 7 7 (fun _ => rfl) (fun _ => rfl) (by kernel_rfl) rfl)) (fun _ => rfl) (fun _ => rfl) rfl) (steps_cons (gv_off 10 10 rfl rfl (wt_off (g := 7) (t := 55) rfl rfl rfl (rd_on (p := 55) 7 7 (fun _ => rfl) (fun _ => rfl) (by kernel_rfl) rfl)) (fun _ => rfl) (fun _ => rfl) rfl) (steps_cons (gv_off 11 11 rfl rfl (wt_off (g := 7) (t := 55) rfl rfl rfl (rd_on (p := 55) 7 7 (fun _ => rfl) (fun _ => rfl) (by kernel_rfl) rfl)) (fun _ => rfl) (fun _ => rfl) rfl) (steps_cons (gv_off 12 12 rfl rfl (wt_off (g := 7) (t := 55) rfl rfl rfl (rd_on (p := 55) 7 7 (fun _ => rfl) (fun _ => rfl) (by kernel_rfl) rfl)) (fun _ => rfl) (fun _ => rfl) rfl) (steps_cons (gv_off 13 13 rfl rfl (wt_off (g := 7) (t := 55) rfl rfl rfl (rd_on (p := 55) 7 7 (fun _ => rfl) (fun _ => rfl) (by kernel_rfl) rfl)) (fun _ => rfl) (fun _ => rfl) rfl) (steps_cons (gv_off 14 14 rfl rfl (wt_off (g := 7) (t := 55) rfl rfl rfl (rd_on (p := 55) 7 7 (fun _ => rfl) (fun _ => rfl) (by kernel_rfl) rfl)) (fun _ => rfl) (fun _ => rfl) rfl) (steps_cons (gv_off 15 15 rfl rfl (wt_off (g := 7) (t := 55) rfl rfl rfl (rd_on (p := 55) 7 7 (fun _ => rfl) (fun _ => rfl) (by kernel_rfl) rfl)) (fun _ => rfl) (fun _ => rfl) rfl) (steps_cons (gv_off 16 16 rfl rfl (wt_off (g := 7) (t := 55) rfl rfl rfl (rd_on (p := 55) 7 7 (fun _ => rfl) (fun _ => rfl) (by kernel_rfl) rfl)) (fun _ => rfl) (fun _ => rfl) rfl) (steps_cons (gv_op 0 0 [(55, fun vs => .bool true), (64, fun vs => undef)] 17 17 (fv := fun vs => .bool true) rfl rfl (wt_none rfl) (fun _ => rfl) (fun _ => rfl) rfl rfl (by kernel_rfl) (by kernel_rfl) ⟨rd_on (p := 55) 7 7 (fun _ => rfl) (fun _ => rfl) (by kernel_rfl) rfl, rd_on (p := 64) 16 16 (fun _ => rfl) (fun _ => rfl) (by kernel_rfl) rfl, trivial⟩ (fun a w s vs hm hs h e => by
         obtain rfl : s = 0 := by omega
         obtain ⟨e55, e64, _⟩ := e
         replace e55 : a.tmps[55]? = some (.bool true) := e55
         replace e64 : a.tmps[64]? = some (undef) := e64
         go_simp)) steps_nil)))))))))))))))))
       intro vs W5 hX
       simp only [putSel, if_true, Act.put, List.setIfInBounds_toArray, List.set_cons_zero, List.set_cons_succ]
       replace HBX := Lh (blk_below HBX.out (drawn_below hX))
       replace HST := Lh (HST.out.below (drawn_below hX))
       clear hX vs HLN
       go_wp2_with (at_builtin; go_must (refine Kd.R_append rawR (w0 := wI) (W := W5) wI.heap.size rfl _ _ 55 24 (.slice none 0 0) 24 rfl Tryd.underlying55 info_sl rfl (by decide) (by decide) (.slice A9 zl c9) (zs) nilZ [.slice none 0 0] (fun _ => True) (fun _ => False) rfl rfl rfl (fun _ h => h.elim) (fun _ _ => trivial) HST.out.out HST.out.bl HST.out.bl.size (by have h1 := HZL.out; omega) ?_); (intro v1 w1 hR1 hB1 hG1 _; have HR1 := Lh hR1; have HB1 := Lh hB1; have HG1 := Lh hG1; clear hR1 hB1 hG1; refine RowKit.Hid.out ?_))
       refine Lh ?_
       have HBX2 := Lh (blk_far_row HST.out HBX.out HG1.out)
       have hS1 := HST.out.opened HR1.out HG1.out HB1.out
       obtain ⟨go, capo, hv1, _⟩ := hS1.last
       subst hv1
       have HBX := HBX2
       have HST := Lh hS1
       clear hS1 HR1 HB1 HG1 HBX2
       obtain ⟨r, hr0⟩ : ∃ r, nilZ = r := ⟨_, rfl⟩
       obtain ⟨ds, hds⟩ : ∃ ds : List RW, (zs) = ds := ⟨_, rfl⟩
       rw [hr0, hds] at HST
       have HRN := Lh (fun (r' : RW) (h : r'.2 = r.2 ++ [(x, L)]) => (show RelB m (l.take (i + 1)) (ds ++ [r']) (m - 12 - sz) from by
        rw [take_next HDX.out, ← HSX.out, ← hds]
        exact HREL.out.open_ HINV.out (by rw [HSX.out]; exact HFIT.out) HOPN.out (by rw [h, ← hr0])))
       have HRL := Lh (show (r.2.length + 1) * 152 ≤ 140737488355328 by rw [← hr0]; decide)
       have HVR := Lh (show encR r = .slice none 0 0 by rw [← hr0]; rfl)
       obtain ⟨lf2, hlf2⟩ : ∃ q : Nat, m - 12 = q := ⟨_, rfl⟩
       have hw12 : wrap64 ((m : Int) - 12) = (lf2 : Int) := by have h1 := HMT.out; unfold wrap64; omega
       have HLF := Lh (show sz ≤ lf2 ∧ lf2 ≤ 1500 by have h1 := HMT.out; have h2 := HFIT.out; omega)
       rw [hlf2] at HRN
       obtain ⟨k, hk⟩ : ∃ k : Nat, ds.length = k := ⟨_, rfl⟩
       have HDK := Lh hk
       obtain ⟨nz, hnz⟩ : ∃ nz : Nat, ds.length + 1 = nz := ⟨_, rfl⟩
       have HLK := Lh (show ¬ nz ≤ k by omega)
       have hwk : wrap64 (lz + 1) = (k : Int) := by have h1 := HLZ.out; rw [hds] at h1; unfold wrap64; omega
       have hnz2 : (zs).length + 1 = nz := by rw [hds]; exact hnz
       rw [hnz] at HST
       rw [hnz2]
       clear hnz hnz2 hk hds hr0 hlf2 HREL HINV HOPN HLZ
       go_upto_region 22 with (fail)
       try rw [hwk]
       try rw [hw12]
       clear hwk hw12
       refine grow_v (B := pbbB22) [0, 1, 2, 3, 4, 5, 6, 7, 8, 9, 10] [7, 8, 10] (fun s vs W => match s with | 0 => BSt wI W (ds ++ [r]) (.slice (some ⟨go, 0, none⟩) nz capo) ∧ W.heap[gb]? = some (.cells CX 41 (0, 0)) ∧ True | 1 => BSt wI W (ds ++ [r]) (.slice (some ⟨go, 0, none⟩) nz capo) ∧ W.heap[gb]? = some (.cells CX 41 (0, 0)) ∧ ∃ gs, vs 1 = .slice (some ⟨gs, 0, none⟩) 1 1 ∧ cvK.C W (some ⟨gs, 0, none⟩) 1 [(x, L)] | 2 => AppP wI W (.slice (some ⟨go, 0, none⟩) nz capo) ds r x L (vs 2) | _ => ∃ r' : RW, r'.2 = r.2 ++ [(x, L)] ∧ encR r' = vs 2 ∧ BSt wI W (ds ++ [r']) (.slice (some ⟨go, 0, none⟩) nz capo)) (fun vs => [(0, 73, .slice (some ⟨go, 0, none⟩) nz capo), (1, 74, .int .i64 (k : Int)), (2, 75, .slice (some ⟨go, 0, none⟩) nz capo), (3, 76, .int .i64 (k : Int)), (4, 77, .pointer (some ⟨go, k, none⟩)), (5, 78, (.slice none 0 0)), (6, 79, .agg CX), (7, 80, vs 1), (8, 81, vs 2), (9, 82, .pointer (some ⟨go, k, none⟩))]) (by kernel_rfl) rfl (l := #[false, false, false, false, false, false, false, false, false, false, false]) rfl pbbtab22 pbbbits22 (by kernel_rfl) (by kernel_rfl) (fun _ => rfl) rfl (fun _ => undef) ?_ ?_ ?_
       ·exact ⟨HST.out.below (pw_below_drewN (Below.refl _ _) 1), blk_drewN HBX.out 1, trivial⟩
       ·exact steps_cons (gv_op 0 2 [(9, fun vs => .slice (some ⟨go, 0, none⟩) nz capo)] 0 0 (fv := fun vs => .slice (some ⟨go, 0, none⟩) nz capo) rfl rfl (wt_none rfl) (fun _ => rfl) (fun _ => rfl) rfl rfl (by kernel_rfl) (by kernel_rfl) ⟨rd_off (p := 9) (fun _ => rfl) rfl, trivial⟩ (fun a w s vs hm hs h e => by
         obtain ⟨e9, _⟩ := e
         replace e9 : a.tmps[9]? = some (.slice (some ⟨go, 0, none⟩) nz capo) := e9
         go_simp)) (steps_cons (gv_op 0 2 [(14, fun vs => .int .i64 (k : Int))] 1 1 (fv := fun vs => .int .i64 (k : Int)) rfl rfl (wt_none rfl) (fun _ => rfl) (fun _ => rfl) rfl rfl (by kernel_rfl) (by kernel_rfl) ⟨rd_off (p := 14) (fun _ => rfl) rfl, trivial⟩ (fun a w s vs hm hs h e => by
         obtain ⟨e14, _⟩ := e
         replace e14 : a.tmps[14]? = some (.int .i64 (k : Int)) := e14
         go_simp)) (steps_cons (gv_op 0 1 [(9, fun vs => .slice (some ⟨go, 0, none⟩) nz capo)] 2 2 (fv := fun vs => .slice (some ⟨go, 0, none⟩) nz capo) rfl rfl (wt_none rfl) (fun _ => rfl) (fun _ => rfl) rfl rfl (by kernel_rfl) (by kernel_rfl) ⟨rd_off (p := 9) (fun _ => rfl) rfl, trivial⟩ (fun a w s vs hm hs h e => by
         obtain ⟨e9, _⟩ := e
         replace e9 : a.tmps[9]? = some (.slice (some ⟨go, 0, none⟩) nz capo) := e9
         go_simp)) (steps_cons (gv_op 0 1 [(14, fun vs => .int .i64 (k : Int))] 3 3 (fv := fun vs => .int .i64 (k : Int)) rfl rfl (wt_none rfl) (fun _ => rfl) (fun _ => rfl) rfl rfl (by kernel_rfl) (by kernel_rfl) ⟨rd_off (p := 14) (fun _ => rfl) rfl, trivial⟩ (fun a w s vs hm hs h e => by
         obtain ⟨e14, _⟩ := e
         replace e14 : a.tmps[14]? = some (.int .i64 (k : Int)) := e14
         go_simp)) (steps_cons (gv_op 0 1 [(75, fun vs => .slice (some ⟨go, 0, none⟩) nz capo), (76, fun vs => .int .i64 (k : Int))] 4 4 (fv := fun vs => .pointer (some ⟨go, k, none⟩)) rfl rfl (wt_none rfl) (fun _ => rfl) (fun _ => rfl) rfl rfl (by kernel_rfl) (by kernel_rfl) ⟨rd_on (p := 75) 2 2 (fun _ => rfl) (fun _ => rfl) (by kernel_rfl) rfl, rd_on (p := 76) 3 3 (fun _ => rfl) (fun _ => rfl) (by kernel_rfl) rfl, trivial⟩ (fun a w s vs hm hs h e => by
         obtain ⟨e75, e76, _⟩ := e
         replace e75 : a.tmps[75]? = some (.slice (some ⟨go, 0, none⟩) nz capo) := e75
         replace e76 : a.tmps[76]? = some (.int .i64 (k : Int)) := e76
         have hl := HLK.out; go_simp)) (steps_cons (gv_op 0 1 [(77, fun vs => .pointer (some ⟨go, k, none⟩))] 5 5 (fv := fun vs => (.slice none 0 0)) rfl rfl (wt_none rfl) (fun _ => rfl) (fun _ => rfl) rfl rfl (by kernel_rfl) (by kernel_rfl) ⟨rd_on (p := 77) 4 4 (fun _ => rfl) (fun _ => rfl) (by kernel_rfl) rfl, trivial⟩ (fun a w s vs hm hs h e => by
         obtain ⟨e77, _⟩ := e
         replace e77 : a.tmps[77]? = some (.pointer (some ⟨go, k, none⟩)) := e77
         have h1 : BSt wI w (ds ++ [r]) (.slice (some ⟨go, 0, none⟩) nz capo) := by
          rcases (by omega : s = 0 ∨ s = 1) with rfl | rfl <;> exact h.1
         have hs := h1.cell.1
         rw [HVR.out, HDK.out] at hs
         go_simp)) (steps_cons (gv_op 0 0 [(12, fun vs => .pointer (some ⟨gb, 0, none⟩))] 6 6 (fv := fun vs => .agg CX) rfl rfl (wt_none rfl) (fun _ => rfl) (fun _ => rfl) rfl rfl (by kernel_rfl) (by kernel_rfl) ⟨rd_off (p := 12) (fun _ => rfl) rfl, trivial⟩ (fun a w s vs hm hs h e => by
         obtain rfl : s = 0 := by omega
         obtain ⟨e12, _⟩ := e
         replace e12 : a.tmps[12]? = some (.pointer (some ⟨gb, 0, none⟩)) := e12
         exact exec_load_row 41 (.tmp 12) rfl (eval_of e12) h.2.1 Tryd.underlying41 rfl HXS.out)) (steps_cons (gv_gen [(79, fun vs => .agg CX)] 7 7 0 rfl rfl (wt_none rfl) rfl (fun _ => rfl) (fun _ _ => rfl) (fun _ => rfl) rfl (by kernel_rfl) ⟨rd_on (p := 79) 6 6 (fun _ => rfl) (fun _ => rfl) (by kernel_rfl) rfl, trivial⟩ (fun a w K vs h e hw hK => by
         obtain ⟨e79, _⟩ := e
         replace e79 : a.tmps[79]? = some (.agg CX) := e79
         obtain ⟨h1, h2, _⟩ := h
         exact value_ (w1 := w.alloc (.cells CX 41)) (v := .slice (some ⟨w.heap.size, 0, none⟩) 1 1) hw rfl (by rw [← HXE.out]; exact exec_one 79 x L rfl (by rw [HXE.out]; exact e79)) (hK _ _ ⟨h1.below (below_alloc (Below.refl _ _) _), blk_alloc h2 _, w.heap.size, rfl, by rw [← HXE.out]; exact cv_one w x L⟩))) (steps_cons (gv_gen [(78, fun vs => (.slice none 0 0)), (80, fun vs => vs 1)] 8 8 1 rfl rfl (wt_none rfl) rfl (fun _ => rfl) (fun _ _ => rfl) (fun _ => rfl) rfl (by kernel_rfl) ⟨rd_on (p := 78) 5 5 (fun _ => rfl) (fun _ => rfl) (by kernel_rfl) rfl, rd_on (p := 80) 7 7 (fun _ => rfl) (fun _ => rfl) (by kernel_rfl) rfl, trivial⟩ (fun a w K vs h e hw hK => by
         obtain ⟨e78, e80, _⟩ := e
         replace e78 : a.tmps[78]? = some ((.slice none 0 0)) := e78
         replace e80 : a.tmps[80]? = some (vs 1) := e80
         obtain ⟨h1, h2, gs, hv, hC⟩ := h
         refine Kd.R_append_rows_step cvK (Rr := cvK.K w) (w0 := wI) (W := w) wI.heap.size hw _ _ 24 41 (.agg zerV) 152 rfl Tryd.underlying24 info_cv rfl (by decide) (by decide) (.slice none 0 0) r.2 [(x, L)] (some ⟨gs, 0, none⟩) 1 1 (fun _ => True) (fun _ => False) (eval_of e78) ((eval_of e80).trans hv) (by rw [← HVR.out]; exact h1.own r (List.mem_append_right _ (List.mem_singleton_self _))) hC (fun _ _ h => h) (fun _ h => h.elim) (fun _ _ => trivial) h1.bl h1.bl.size (by have := HRL.out; omega) ?_
         intro v1 w1 hR1 hB1 hG1 hat
         exact hK v1 w1 (h1.app HXC.out hR1 (by rw [HVR.out]; exact hG1) (by rw [HVR.out]; exact hat) hB1))) (steps_cons (gv_op 2 2 [(73, fun vs => .slice (some ⟨go, 0, none⟩) nz capo), (74, fun vs => .int .i64 (k : Int))] 9 9 (fv := fun vs => .pointer (some ⟨go, k, none⟩)) rfl rfl (wt_none rfl) (fun _ => rfl) (fun _ => rfl) rfl rfl (by kernel_rfl) (by kernel_rfl) ⟨rd_on (p := 73) 0 0 (fun _ => rfl) (fun _ => rfl) (by kernel_rfl) rfl, rd_on (p := 74) 1 1 (fun _ => rfl) (fun _ => rfl) (by kernel_rfl) rfl, trivial⟩ (fun a w s vs hm hs h e => by
         obtain rfl : s = 2 := by omega
         obtain ⟨e73, e74, _⟩ := e
         replace e73 : a.tmps[73]? = some (.slice (some ⟨go, 0, none⟩) nz capo) := e73
         replace e74 : a.tmps[74]? = some (.int .i64 (k : Int)) := e74
         have hl := HLK.out; go_simp)) (steps_cons (gv_store (f := fun vs W => W.setCell ⟨go, k, none⟩ (vs 2)) [(82, fun vs => .pointer (some ⟨go, k, none⟩)), (81, fun vs => vs 2)] 10 2 rfl rfl (wt_none rfl) rfl (fun _ => rfl) rfl (by kernel_rfl) ⟨rd_on (p := 82) 9 9 (fun _ => rfl) (fun _ => rfl) (by kernel_rfl) rfl, rd_on (p := 81) 8 8 (fun _ => rfl) (fun _ => rfl) (by kernel_rfl) rfl, trivial⟩ (fun a w vs h e => by
         obtain ⟨e82, e81, _⟩ := e
         replace e82 : a.tmps[82]? = some (.pointer (some ⟨go, k, none⟩)) := e82
         replace e81 : a.tmps[81]? = some (vs 2) := e81
         obtain ⟨g2, c2, hv2, _, _⟩ := (Kd.R_own h.last).elim fun _ h => h.form (by rw [List.length_append]; simp)
         have hf := (show w.frozen? ⟨go, k, none⟩ = false from by have h9 := h.out; rw [← HDK.out]; exact (BSt.cell2 h9).2)
         have hs := (show w.cell? ⟨go, k, none⟩ = some (.slice none 0 0) from by have h9 := h.out; rw [← HDK.out, ← HVR.out]; exact (BSt.cell2 h9).1)
         rw [hv2] at e81 ⊢
         go_simp; first | done | rfl) (fun vs w h => by have h9 := h.store (n := nz) (cap := capo) rfl; rw [HDK.out] at h9; exact h9)) steps_nil))))))))))
       intro vs W9 hX9
       obtain ⟨r', hr', hv', hS9⟩ := hX9
       simp only [putSel, if_true, Act.put, List.setIfInBounds_toArray, List.set_cons_zero, List.set_cons_succ]
       rw [← hv']
       generalize vs 1 = u80 at *
       have HS9 := Lh hS9
       have HR9 := Lh hr'
       clear hS9 hr' hv' vs HST HBX HXS HLK HVR
       unfold encR
       generalize (Option.map (fun g => ⟨g, 0, none⟩) r'.1.1 : Option Addr) = Ar at *
       generalize r'.2.length = nr at *
       have hw9 : wrap64 ((lf2 : Int) - (sz : Int)) = ((lf2 - sz : Nat) : Int) := by have h1 := HMT.out; have h2 := HLF.out; unfold wrap64; omega
       go_wp2
       go_roundw
       case rel => exact ⟨i + 1, ds ++ [r'], lf2 - sz, by omega, by first | rfl | exact congrArg _ hw9 | rw [hw9], by go_num, HRN.out r' HR9.out, HS9⟩
       case measure => simp [intOf]; omega
      ·by_cases hgt : lf < sz
       ·have HOPN := Lh (Or.inr (Or.inl (by rw [HSX.out]; exact hgt)) : zs = [] ∨ lf < sizeD x ∨ ∃ ds r, zs = ds ++ [r] ∧ apartB (fsts r.2 ++ [x]) = true)
        have HGT := Lh (show decide ((lf : Int) < (sz : Int)) = true ∧ decide (lf < sz) = true from ⟨decide_eq_true (by omega), decide_eq_true hgt⟩)
        have hlzn : decide (lz < 0) = false := decide_eq_false (by
         have h1 := HLZ.out.1
         have h2 := List.length_pos_iff.2 hz0
         omega)
        have HLN := Lh hlzn
        clear hlzn hz0 hgt
        refine grow_v (B := pbcB19) [0, 1, 2, 3, 4, 5, 6, 7, 8, 9, 10, 11, 12, 13, 14, 15, 16, 17] [] (fun s vs W => Drawn0 W2 W) (fun vs => [(0, 48, .int .i64 lz), (1, 49, .bool false), (2, 50, .bool false), (3, 51, .int .i64 (sz : Int)), (4, 52, .int .i64 (lf : Int)), (5, 53, .bool true), (6, 54, .bool true), (7, 55, .bool true), (8, 56, undef), (9, 57, undef), (10, 58, undef), (11, 59, undef), (12, 60, undef), (13, 61, undef), (14, 62, undef), (15, 63, undef), (16, 64, undef), (17, 65, .bool true)]) (by kernel_rfl) rfl (l := #[false, false, false, false, false, false, false, false, false, false, false, false, false, false, false, false, false, false]) rfl pbctab19 pbcbits19 (by kernel_rfl) (by kernel_rfl) (fun _ => rfl) rfl (fun _ => undef) ?_ ?_ ?_
        ·exact ⟨1, rfl⟩
        ·exact steps_cons (gv_op 0 0 [(14, fun vs => .int .i64 lz)] 0 0 (fv := fun vs => .int .i64 lz) rfl rfl (wt_none rfl) (fun _ => rfl) (fun _ => rfl) rfl rfl (by kernel_rfl) (by kernel_rfl) ⟨rd_off (p := 14) (fun _ => rfl) rfl, trivial⟩ (fun a w s vs hm hs h e => by
          obtain rfl : s = 0 := by omega
          obtain ⟨e14, _⟩ := e
          replace e14 : a.tmps[14]? = some (.int .i64 lz) := e14
          go_simp)) (steps_cons (gv_op 0 0 [(48, fun vs => .int .i64 lz)] 1 1 (fv := fun vs => .bool false) rfl rfl (wt_none rfl) (fun _ => rfl) (fun _ => rfl) rfl rfl (by kernel_rfl) (by kernel_rfl) ⟨rd_on (p := 48) 0 0 (fun _ => rfl) (fun _ => rfl) (by kernel_rfl) rfl, trivial⟩ (fun a w s vs hm hs h e => by
          obtain rfl : s = 0 := by omega
          obtain ⟨e48, _⟩ := e
          replace e48 : a.tmps[48]? = some (.int .i64 lz) := e48
          have hq := HLN.out; go_simp; first | done | exact hq | rw [hq])) (steps_cons (gv_op 0 0 [(49, fun vs => .bool false)] 2 2 (fv := fun vs => .bool false) rfl rfl (wt_none rfl) (fun _ => rfl) (fun _ => rfl) rfl rfl (by kernel_rfl) (by kernel_rfl) ⟨rd_on (p := 49) 1 1 (fun _ => rfl) (fun _ => rfl) (by kernel_rfl) rfl, trivial⟩ (fun a w s vs hm hs h e => by
          obtain rfl : s = 0 := by omega
          obtain ⟨e49, _⟩ := e
          replace e49 : a.tmps[49]? = some (.bool false) := e49
          go_simp)) (steps_cons (gv_op 0 0 [(13, fun vs => .int .i64 (sz : Int))] 3 3 (fv := fun vs => .int .i64 (sz : Int)) rfl rfl (wt_on (g := 2) (t := 50) rfl rfl rfl (rd_on (p := 50) 2 2 (fun _ => rfl) (fun _ => rfl) (by kernel_rfl) rfl)) (fun _ => rfl) (fun _ => rfl) rfl rfl (by kernel_rfl) (by kernel_rfl) ⟨rd_off (p := 13) (fun _ => rfl) rfl, trivial⟩ (fun a w s vs hm hs h e => by
          obtain rfl : s = 0 := by omega
          obtain ⟨e13, _⟩ := e
          replace e13 : a.tmps[13]? = some (.int .i64 (sz : Int)) := e13
          go_simp)) (steps_cons (gv_op 0 0 [(10, fun vs => .int .i64 (lf : Int))] 4 4 (fv := fun vs => .int .i64 (lf : Int)) rfl rfl (wt_on (g := 2) (t := 50) rfl rfl rfl (rd_on (p := 50) 2 2 (fun _ => rfl) (fun _ => rfl) (by kernel_rfl) rfl)) (fun _ => rfl) (fun _ => rfl) rfl rfl (by kernel_rfl) (by kernel_rfl) ⟨rd_off (p := 10) (fun _ => rfl) rfl, trivial⟩ (fun a w s vs hm hs h e => by
          obtain rfl : s = 0 := by omega
          obtain ⟨e10, _⟩ := e
          replace e10 : a.tmps[10]? = some (.int .i64 (lf : Int)) := e10
          go_simp)) (steps_cons (gv_op 0 0 [(51, fun vs => .int .i64 (sz : Int)), (52, fun vs => .int .i64 (lf : Int))] 5 5 (fv := fun vs => .bool true) rfl rfl (wt_on (g := 2) (t := 50) rfl rfl rfl (rd_on (p := 50) 2 2 (fun _ => rfl) (fun _ => rfl) (by kernel_rfl) rfl)) (fun _ => rfl) (fun _ => rfl) rfl rfl (by kernel_rfl) (by kernel_rfl) ⟨rd_on (p := 51) 3 3 (fun _ => rfl) (fun _ => rfl) (by kernel_rfl) rfl, rd_on (p := 52) 4 4 (fun _ => rfl) (fun _ => rfl) (by kernel_rfl) rfl, trivial⟩ (fun a w s vs hm hs h e => by
          obtain rfl : s = 0 := by omega
          obtain ⟨e51, e52, _⟩ := e
          replace e51 : a.tmps[51]? = some (.int .i64 (sz : Int)) := e51
          replace e52 : a.tmps[52]? = some (.int .i64 (lf : Int)) := e52
          have hq := HGT.out; go_simp; first | done | exact hq)) (steps_cons (gv_op 0 0 [(50, fun vs => .bool false), (53, fun vs => .bool true)] 6 6 (fv := fun vs => .bool true) rfl rfl (wt_none rfl) (fun _ => rfl) (fun _ => rfl) rfl rfl (by kernel_rfl) (by kernel_rfl) ⟨rd_on (p := 50) 2 2 (fun _ => rfl) (fun _ => rfl) (by kernel_rfl) rfl, rd_on (p := 53) 5 5 (fun _ => rfl) (fun _ => rfl) (by kernel_rfl) rfl, trivial⟩ (fun a w s vs hm hs h e => by
          obtain rfl : s = 0 := by omega
          obtain ⟨e50, e53, _⟩ := e
          replace e50 : a.tmps[50]? = some (.bool false) := e50
          replace e53 : a.tmps[53]? = some (.bool true) := e53
          go_simp)) (steps_cons (gv_op 0 0 [(54, fun vs => .bool true)] 7 7 (fv := fun vs => .bool true) rfl rfl (wt_none rfl) (fun _ => rfl) (fun _ => rfl) rfl rfl (by kernel_rfl) (by kernel_rfl) ⟨rd_on (p := 54) 6 6 (fun _ => rfl) (fun _ => rfl) (by kernel_rfl) rfl, trivial⟩ (fun a w s vs hm hs h e => by
          obtain rfl : s = 0 := by omega
          obtain ⟨e54, _⟩ := e
          replace e54 : a.tmps[54]? = some (.bool true) := e54
          go_simp)) (steps_cons (gv_off 8 8 rfl rfl (wt_off (g := 7) (t := 55) rfl rfl rfl (rd_on (p := 55) 7 7 (fun _ => rfl) (fun _ => rfl) (by kernel_rfl) rfl)) (fun _ => rfl) (fun _ => rfl) rfl) (steps_cons (gv_off 9 9 rfl rfl (wt_off (g := 7) (t := 55) rfl rfl rfl (rd_on (p := 55) 7 7 (fun _ => rfl) (fun _ => rfl) (by kernel_rfl) rfl)) (fun _ => rfl) (fun _ => rfl) rfl) (steps_cons (gv_off 10 10 rfl rfl (wt_off (g := 7) (t := 55) rfl rfl rfl (rd_on (p := 55) 7 7 (fun _ => rfl) (fun _ => rfl) (by kernel_rfl) rfl)) (fun _ => rfl) (fun _ => rfl) rfl) (steps_cons (gv_off 11 11 rfl rfl (wt_off (g := 7) (t := 55) rfl rfl rfl (rd_on (p := 55) 7 7 (fun _ => rfl) (fun _ => rfl) (by kernel_rfl) rfl)) (fun _ => rfl) (fun _ => rfl) rfl) (steps_cons (gv_off 12 12 rfl rfl (wt_off (g := 7) (t := 55) rfl rfl rfl (rd_on (p := 55) 7 7 (fun _ => rfl) (fun _ => rfl) (by kernel_rfl) rfl)) (fun _ => rfl) (fun _ => rfl) rfl) (steps_cons (gv_off 13 13 rfl rfl (wt_off (g := 7) (t := 55) rfl rfl rfl (rd_on (p := 55) 7 7 (fun _ => rfl) (fun _ => rfl) (by kernel_rfl) rfl)) (fun _ => rfl) (fun _ => rfl) rfl) (steps_cons (gv_off 14 14 rfl rfl (wt_off (g := 7) (t := 55) rfl rfl rfl (rd_on (p := 55) 7 7 (fun _ => rfl) (fun _ => rfl) (by kernel_rfl) rfl)) (fun _ => rfl) (fun _ => rfl) rfl) (steps_cons (gv_off 15 15 rfl rfl (wt_off (g := 7) (t := 55) rfl rfl rfl (rd_on (p := 55) 7 7 (fun _ => rfl) (fun _ => rfl) (by kernel_rfl) rfl)) (fun _ => rfl) (fun _ => rfl) rfl) (steps_cons (gv_off 16 16 rfl rfl (wt_off (g := 7) (t := 55) rfl rfl rfl (rd_on (p := 55) 7 7 (fun _ => rfl) (fun _ => rfl) (by kernel_rfl) rfl)) (fun _ => rfl) (fun _ => rfl) rfl) (steps_cons (gv_op 0 0 [(55, fun vs => .bool true), (64, fun vs => undef)] 17 17 (fv := fun vs => .bool true) rfl rfl (wt_none rfl) (fun _ => rfl) (fun _ => rfl) rfl rfl (by kernel_rfl) (by kernel_rfl) ⟨rd_on (p := 55) 7 7 (fun _ => rfl) (fun _ => rfl) (by kernel_rfl) rfl, rd_on (p := 64) 16 16 (fun _ => rfl) (fun _ => rfl) (by kernel_rfl) rfl, trivial⟩ (fun a w s vs hm hs h e => by
          obtain rfl : s = 0 := by omega
          obtain ⟨e55, e64, _⟩ := e
          replace e55 : a.tmps[55]? = some (.bool true) := e55
          replace e64 : a.tmps[64]? = some (undef) := e64
          go_simp)) steps_nil)))))))))))))))))
        intro vs W5 hX
        simp only [putSel, if_true, Act.put, List.setIfInBounds_toArray, List.set_cons_zero, List.set_cons_succ]
        replace HBX := Lh (blk_below HBX.out (drawn_below hX))
        replace HST := Lh (HST.out.below (drawn_below hX))
        clear hX vs HLN HGT
        go_wp2_with (at_builtin; go_must (refine Kd.R_append rawR (w0 := wI) (W := W5) wI.heap.size rfl _ _ 55 24 (.slice none 0 0) 24 rfl Tryd.underlying55 info_sl rfl (by decide) (by decide) (.slice A9 zl c9) (zs) nilZ [.slice none 0 0] (fun _ => True) (fun _ => False) rfl rfl rfl (fun _ h => h.elim) (fun _ _ => trivial) HST.out.out HST.out.bl HST.out.bl.size (by have h1 := HZL.out; omega) ?_); (intro v1 w1 hR1 hB1 hG1 _; have HR1 := Lh hR1; have HB1 := Lh hB1; have HG1 := Lh hG1; clear hR1 hB1 hG1; refine RowKit.Hid.out ?_))
        refine Lh ?_
        have HBX2 := Lh (blk_far_row HST.out HBX.out HG1.out)
        have hS1 := HST.out.opened HR1.out HG1.out HB1.out
        obtain ⟨go, capo, hv1, _⟩ := hS1.last
        subst hv1
        have HBX := HBX2
        have HST := Lh hS1
        clear hS1 HR1 HB1 HG1 HBX2
        obtain ⟨r, hr0⟩ : ∃ r, nilZ = r := ⟨_, rfl⟩
        obtain ⟨ds, hds⟩ : ∃ ds : List RW, (zs) = ds := ⟨_, rfl⟩
        rw [hr0, hds] at HST
        have HRN := Lh (fun (r' : RW) (h : r'.2 = r.2 ++ [(x, L)]) => (show RelB m (l.take (i + 1)) (ds ++ [r']) (m - 12 - sz) from by
         rw [take_next HDX.out, ← HSX.out, ← hds]
         exact HREL.out.open_ HINV.out (by rw [HSX.out]; exact HFIT.out) HOPN.out (by rw [h, ← hr0])))
        have HRL := Lh (show (r.2.length + 1) * 152 ≤ 140737488355328 by rw [← hr0]; decide)
        have HVR := Lh (show encR r = .slice none 0 0 by rw [← hr0]; rfl)
        obtain ⟨lf2, hlf2⟩ : ∃ q : Nat, m - 12 = q := ⟨_, rfl⟩
        have hw12 : wrap64 ((m : Int) - 12) = (lf2 : Int) := by have h1 := HMT.out; unfold wrap64; omega
        have HLF := Lh (show sz ≤ lf2 ∧ lf2 ≤ 1500 by have h1 := HMT.out; have h2 := HFIT.out; omega)
        rw [hlf2] at HRN
        obtain ⟨k, hk⟩ : ∃ k : Nat, ds.length = k := ⟨_, rfl⟩
        have HDK := Lh hk
        obtain ⟨nz, hnz⟩ : ∃ nz : Nat, ds.length + 1 = nz := ⟨_, rfl⟩
        have HLK := Lh (show ¬ nz ≤ k by omega)
        have hwk : wrap64 (lz + 1) = (k : Int) := by have h1 := HLZ.out; rw [hds] at h1; unfold wrap64; omega
        have hnz2 : (zs).length + 1 = nz := by rw [hds]; exact hnz
        rw [hnz] at HST
        rw [hnz2]
        clear hnz hnz2 hk hds hr0 hlf2 HREL HINV HOPN HLZ
        go_upto_region 22 with (fail)
        try rw [hwk]
        try rw [hw12]
        clear hwk hw12
        refine grow_v (B := pbbB22) [0, 1, 2, 3, 4, 5, 6, 7, 8, 9, 10] [7, 8, 10] (fun s vs W => match s with | 0 => BSt wI W (ds ++ [r]) (.slice (some ⟨go, 0, none⟩) nz capo) ∧ W.heap[gb]? = some (.cells CX 41 (0, 0)) ∧ True | 1 => BSt wI W (ds ++ [r]) (.slice (some ⟨go, 0, none⟩) nz capo) ∧ W.heap[gb]? = some (.cells CX 41 (0, 0)) ∧ ∃ gs, vs 1 = .slice (some ⟨gs, 0, none⟩) 1 1 ∧ cvK.C W (some ⟨gs, 0, none⟩) 1 [(x, L)] | 2 => AppP wI W (.slice (some ⟨go, 0, none⟩) nz capo) ds r x L (vs 2) | _ => ∃ r' : RW, r'.2 = r.2 ++ [(x, L)] ∧ encR r' = vs 2 ∧ BSt wI W (ds ++ [r']) (.slice (some ⟨go, 0, none⟩) nz capo)) (fun vs => [(0, 73, .slice (some ⟨go, 0, none⟩) nz capo), (1, 74, .int .i64 (k : Int)), (2, 75, .slice (some ⟨go, 0, none⟩) nz capo), (3, 76, .int .i64 (k : Int)), (4, 77, .pointer (some ⟨go, k, none⟩)), (5, 78, (.slice none 0 0)), (6, 79, .agg CX), (7, 80, vs 1), (8, 81, vs 2), (9, 82, .pointer (some ⟨go, k, none⟩))]) (by kernel_rfl) rfl (l := #[false, false, false, false, false, false, false, false, false, false, false]) rfl pbbtab22 pbbbits22 (by kernel_rfl) (by kernel_rfl) (fun _ => rfl) rfl (fun _ => undef) ?_ ?_ ?_
        ·exact ⟨HST.out.below (pw_below_drewN (Below.refl _ _) 1), blk_drewN HBX.out 1, trivial⟩
        ·exact steps_cons (gv_op 0 2 [(9, fun vs => .slice (some ⟨go, 0, none⟩) nz capo)] 0 0 (fv := fun vs => .slice (some ⟨go, 0, none⟩) nz capo) rfl rfl (wt_none rfl) (fun _ => rfl) (fun _ => rfl) rfl rfl (by kernel_rfl) (by kernel_rfl) ⟨rd_off (p := 9) (fun _ => rfl) rfl, trivial⟩ (fun a w s vs hm hs h e => by
          obtain ⟨e9, _⟩ := e
          replace e9 : a.tmps[9]? = some (.slice (some ⟨go, 0, none⟩) nz capo) := e9
          go_simp)) (steps_cons (gv_op 0 2 [(14, fun vs => .int .i64 (k : Int))] 1 1 (fv := fun vs => .int .i64 (k : Int)) rfl rfl (wt_none rfl) (fun _ => rfl) (fun _ => rfl) rfl rfl (by kernel_rfl) (by kernel_rfl) ⟨rd_off (p := 14) (fun _ => rfl) rfl, trivial⟩ (fun a w s vs hm hs h e => by
          obtain ⟨e14, _⟩ := e
          replace e14 : a.tmps[14]? = some (.int .i64 (k : Int)) := e14
          go_simp)) (steps_cons (gv_op 0 1 [(9, fun vs => .slice (some ⟨go, 0, none⟩) nz capo)] 2 2 (fv := fun vs => .slice (some ⟨go, 0, none⟩) nz capo) rfl rfl (wt_none rfl) (fun _ => rfl) (fun _ => rfl) rfl rfl (by kernel_rfl) (by kernel_rfl) ⟨rd_off (p := 9) (fun _ => rfl) rfl, trivial⟩ (fun a w s vs hm hs h e => by
          obtain ⟨e9, _⟩ := e
          replace e9 : a.tmps[9]? = some (.slice (some ⟨go, 0, none⟩) nz capo) := e9
          go_simp)) (steps_cons (gv_op 0 1 [(14, fun vs => .int .i64 (k : Int))] 3 3 (fv := fun vs => .int .i64 (k : Int)) rfl rfl (wt_none rfl) (fun _ => rfl) (fun _ => rfl) rfl rfl (by kernel_rfl) (by kernel_rfl) ⟨rd_off (p := 14) (fun _ => rfl) rfl, trivial⟩ (fun a w s vs hm hs h e => by
          obtain ⟨e14, _⟩ := e
          replace e14 : a.tmps[14]? = some (.int .i64 (k : Int)) := e14
          go_simp)) (steps_cons (gv_op 0 1 [(75, fun vs => .slice (some ⟨go, 0, none⟩) nz capo), (76, fun vs => .int .i64 (k : Int))] 4 4 (fv := fun vs => .pointer (some ⟨go, k, none⟩)) rfl rfl (wt_none rfl) (fun _ => rfl) (fun _ => rfl) rfl rfl (by kernel_rfl) (by kernel_rfl) ⟨rd_on (p := 75) 2 2 (fun _ => rfl) (fun _ => rfl) (by kernel_rfl) rfl, rd_on (p := 76) 3 3 (fun _ => rfl) (fun _ => rfl) (by kernel_rfl) rfl, trivial⟩ (fun a w s vs hm hs h e => by
          obtain ⟨e75, e76, _⟩ := e
          replace e75 : a.tmps[75]? = some (.slice (some ⟨go, 0, none⟩) nz capo) := e75
          replace e76 : a.tmps[76]? = some (.int .i64 (k : Int)) := e76
          have hl := HLK.out; go_simp)) (steps_cons (gv_op 0 1 [(77, fun vs => .pointer (some ⟨go, k, none⟩))] 5 5 (fv := fun vs => (.slice none 0 0)) rfl rfl (wt_none rfl) (fun _ => rfl) (fun _ => rfl) rfl rfl (by kernel_rfl) (by kernel_rfl) ⟨rd_on (p := 77) 4 4 (fun _ => rfl) (fun _ => rfl) (by kernel_rfl) rfl, trivial⟩ (fun a w s vs hm hs h e => by
          obtain ⟨e77, _⟩ := e
          replace e77 : a.tmps[77]? = some (.pointer (some ⟨go, k, none⟩)) := e77
          have h1 : BSt wI w (ds ++ [r]) (.slice (some ⟨go, 0, none⟩) nz capo) := by
           rcases (by omega : s = 0 ∨ s = 1) with rfl | rfl <;> exact h.1
          have hs := h1.cell.1
          rw [HVR.out, HDK.out] at hs
          go_simp)) (steps_cons (gv_op 0 0 [(12, fun vs => .pointer (some ⟨gb, 0, none⟩))] 6 6 (fv := fun vs => .agg CX) rfl rfl (wt_none rfl) (fun _ => rfl) (fun _ => rfl) rfl rfl (by kernel_rfl) (by kernel_rfl) ⟨rd_off (p := 12) (fun _ => rfl) rfl, trivial⟩ (fun a w s vs hm hs h e => by
          obtain rfl : s = 0 := by omega
          obtain ⟨e12, _⟩ := e
          replace e12 : a.tmps[12]? = some (.pointer (some ⟨gb, 0, none⟩)) := e12
          exact exec_load_row 41 (.tmp 12) rfl (eval_of e12) h.2.1 Tryd.underlying41 rfl HXS.out)) (steps_cons (gv_gen [(79, fun vs => .agg CX)] 7 7 0 rfl rfl (wt_none rfl) rfl (fun _ => rfl) (fun _ _ => rfl) (fun _ => rfl) rfl (by kernel_rfl) ⟨rd_on (p := 79) 6 6 (fun _ => rfl) (fun _ => rfl) (by kernel_rfl) rfl, trivial⟩ (fun a w K vs h e hw hK => by
          obtain ⟨e79, _⟩ := e
          replace e79 : a.tmps[79]? = some (.agg CX) := e79
          obtain ⟨h1, h2, _⟩ := h
          exact value_ (w1 := w.alloc (.cells CX 41)) (v := .slice (some ⟨w.heap.size, 0, none⟩) 1 1) hw rfl (by rw [← HXE.out]; exact exec_one 79 x L rfl (by rw [HXE.out]; exact e79)) (hK _ _ ⟨h1.below (below_alloc (Below.refl _ _) _), blk_alloc h2 _, w.heap.size, rfl, by rw [← HXE.out]; exact cv_one w x L⟩))) (steps_cons (gv_gen [(78, fun vs => (.slice none 0 0)), (80, fun vs => vs 1)] 8 8 1 rfl rfl (wt_none rfl) rfl (fun _ => rfl) (fun _ _ => rfl) (fun _ => rfl) rfl (by kernel_rfl) ⟨rd_on (p := 78) 5 5 (fun _ => rfl) (fun _ => rfl) (by kernel_rfl) rfl, rd_on (p := 80) 7 7 (fun _ => rfl) (fun _ => rfl) (by kernel_rfl) rfl, trivial⟩ (fun a w K vs h e hw hK => by
          obtain ⟨e78, e80, _⟩ := e
          replace e78 : a.tmps[78]? = some ((.slice none 0 0)) := e78
          replace e80 : a.tmps[80]? = some (vs 1) := e80
          obtain ⟨h1, h2, gs, hv, hC⟩ := h
          refine Kd.R_append_rows_step cvK (Rr := cvK.K w) (w0 := wI) (W := w) wI.heap.size hw _ _ 24 41 (.agg zerV) 152 rfl Tryd.underlying24 info_cv rfl (by decide) (by decide) (.slice none 0 0) r.2 [(x, L)] (some ⟨gs, 0, none⟩) 1 1 (fun _ => True) (fun _ => False) (eval_of e78) ((eval_of e80).trans hv) (by rw [← HVR.out]; exact h1.own r (List.mem_append_right _ (List.mem_singleton_self _))) hC (fun _ _ h => h) (fun _ h => h.elim) (fun _ _ => trivial) h1.bl h1.bl.size (by have := HRL.out; omega) ?_
          intro v1 w1 hR1 hB1 hG1 hat
          exact hK v1 w1 (h1.app HXC.out hR1 (by rw [HVR.out]; exact hG1) (by rw [HVR.out]; exact hat) hB1))) (steps_cons (gv_op 2 2 [(73, fun vs => .slice (some ⟨go, 0, none⟩) nz capo), (74, fun vs => .int .i64 (k : Int))] 9 9 (fv := fun vs => .pointer (some ⟨go, k, none⟩)) rfl rfl (wt_none rfl) (fun _ => rfl) (fun _ => rfl) rfl rfl (by kernel_rfl) (by kernel_rfl) ⟨rd_on (p := 73) 0 0 (fun _ => rfl) (fun _ => rfl) (by kernel_rfl) rfl, rd_on (p := 74) 1 1 (fun _ => rfl) (fun _ => rfl) (by kernel_rfl) rfl, trivial⟩ (fun a w s vs hm hs h e => by
          obtain rfl : s = 2 := by omega
          obtain ⟨e73, e74, _⟩ := e
          replace e73 : a.tmps[73]? = some (.slice (some ⟨go, 0, none⟩) nz capo) := e73
          replace e74 : a.tmps[74]? = some (.int .i64 (k : Int)) := e74
          have hl := HLK.out; go_simp)) (steps_cons (gv_store (f := fun vs W => W.setCell ⟨go, k, none⟩ (vs 2)) [(82, fun vs => .pointer (some ⟨go, k, none⟩)), (81, fun vs => vs 2)] 10 2 rfl rfl (wt_none rfl) rfl (fun _ => rfl) rfl (by kernel_rfl) ⟨rd_on (p := 82) 9 9 (fun _ => rfl) (fun _ => rfl) (by kernel_rfl) rfl, rd_on (p := 81) 8 8 (fun _ => rfl) (fun _ => rfl) (by kernel_rfl) rfl, trivial⟩ (fun a w vs h e => by
          obtain ⟨e82, e81, _⟩ := e
          replace e82 : a.tmps[82]? = some (.pointer (some ⟨go, k, none⟩)) := e82
          replace e81 : a.tmps[81]? = some (vs 2) := e81
          obtain ⟨g2, c2, hv2, _, _⟩ := (Kd.R_own h.last).elim fun _ h => h.form (by rw [List.length_append]; simp)
          have hf := (show w.frozen? ⟨go, k, none⟩ = false from by have h9 := h.out; rw [← HDK.out]; exact (BSt.cell2 h9).2)
          have hs := (show w.cell? ⟨go, k, none⟩ = some (.slice none 0 0) from by have h9 := h.out; rw [← HDK.out, ← HVR.out]; exact (BSt.cell2 h9).1)
          rw [hv2] at e81 ⊢
          go_simp; first | done | rfl) (fun vs w h => by have h9 := h.store (n := nz) (cap := capo) rfl; rw [HDK.out] at h9; exact h9)) steps_nil))))))))))
        intro vs W9 hX9
        obtain ⟨r', hr', hv', hS9⟩ := hX9
        simp only [putSel, if_true, Act.put, List.setIfInBounds_toArray, List.set_cons_zero, List.set_cons_succ]
        rw [← hv']
        generalize vs 1 = u80 at *
        have HS9 := Lh hS9
        have HR9 := Lh hr'
        clear hS9 hr' hv' vs HST HBX HXS HLK HVR
        unfold encR
        generalize (Option.map (fun g => ⟨g, 0, none⟩) r'.1.1 : Option Addr) = Ar at *
        generalize r'.2.length = nr at *
        have hw9 : wrap64 ((lf2 : Int) - (sz : Int)) = ((lf2 - sz : Nat) : Int) := by have h1 := HMT.out; have h2 := HLF.out; unfold wrap64; omega
        go_wp2
        go_roundw
        case rel => exact ⟨i + 1, ds ++ [r'], lf2 - sz, by omega, by first | rfl | exact congrArg _ hw9 | rw [hw9], by go_num, HRN.out r' HR9.out, HS9⟩
        case measure => simp [intOf]; omega
       ·obtain ⟨ds, r, hdr⟩ : ∃ ds r, zs = ds ++ [r] := ⟨zs.dropLast, zs.getLast hz0, (List.dropLast_concat_getLast hz0).symm⟩
        have HDR := Lh hdr
        obtain ⟨go, capo, hv9, _⟩ := (by rw [hdr] at HST; exact HST.out : BSt wI W2 (ds ++ [r]) (.slice A9 zl c9)).last
        injection hv9 with e1 e2 e3
        subst e1 e3
        obtain ⟨k, hk⟩ : ∃ k : Nat, ds.length = k := ⟨_, rfl⟩
        have HDK := Lh hk
        have hlk : lz = (k : Int) := by have h1 := HLZ.out.1; rw [hdr, List.length_append] at h1; simp at h1; omega
        have HLK := Lh (show ¬ zl ≤ k by omega)
        have HGT := Lh (show decide ((lf : Int) < (sz : Int)) = false ∧ decide (lf < sz) = false from ⟨decide_eq_false (by omega), decide_eq_false hgt⟩)
        have HLE := Lh (show sz ≤ lf by omega)
        have HRLX := Lh ((by rw [hdr] at HREL; exact HREL.out : RelB m (l.take i) (ds ++ [r]) lf).row HINV.out HOK.out.1)
        have HST2 := Lh (by rw [hdr] at HST; exact HST.out : BSt wI W2 (ds ++ [r]) (.slice (some ⟨go, 0, none⟩) zl c9))
        have hrne : 0 < r.2.length := by
         have h1 := (outB_last HINV.out (by rw [hdr] at HREL; exact HREL.out.1)).2.2
         rw [(outB_last HINV.out (by rw [hdr] at HREL; exact HREL.out.1)).1] at h1
         have h2 := List.length_pos_iff.2 h1
         rw [fsts_len] at h2
         exact h2
        obtain ⟨gr, capr, hvr, _, _⟩ := (Kd.R_own (HST2.out.own r (List.mem_append_right _ (List.mem_singleton_self _)))).elim fun _ h => h.form hrne
        have HCL0 := Lh (fun (W : World) (h : Below W2.heap.size W2 W) => clonec_calls W gr r.2.length capr r.2 (by have h1 := ((HST2.out.own r (List.mem_append_right _ (List.mem_singleton_self _))).below h).C.1; unfold encR at hvr; injection hvr with q1 q2 q3; rw [q1] at h1; exact h1) (by have h1 := HRLX.out.1; omega))
        obtain ⟨VR, hVR⟩ : ∃ VR, encR r = VR := ⟨_, rfl⟩
        have HVR := Lh hVR
        rw [← hvr, hVR] at HCL0
        have HCL := HCL0
        have HLC := Lh (fun (W : World) (h : Below W2.heap.size W2 W) => (show W.cell? ⟨go, k, none⟩ = some VR from by
         have h1 := (HST2.out.below h).cell.1
         rw [HDK.out, HVR.out] at h1
         exact h1))
        obtain ⟨ab, hab⟩ : ∃ ab, apartB (fsts r.2 ++ [x]) = ab := ⟨_, rfl⟩
        have HAB := Lh hab
        have HAP := Lh (fun (W : World) (v : Value) (h : Below W2.heap.size W2 W) (hR : cvK.R 41 W W2.heap.size (fun _ => True) v (r.2 ++ [(x, L)])) => (show Calls Tryd.prog 27 #[v] W fun e w' => e = .returned (.bool ab) ∧ Below W.heap.size W w' from by
         obtain ⟨A7, c7, hv7, _, hC7⟩ := Kd.R_reads hR
         have hb7 := below_then HST2.out.bl HST2.out.bl.size h
         have h1 := apart_calls W A7 c7 (fsts (r.2 ++ [(x, L)])) (by
          rw [fsts_len]
          refine cv_chk hC7 (fun p hp => ?_)
          rcases List.mem_append.1 hp with hp | hp
          ·exact (HST2.out.cr r (List.mem_append_right _ (List.mem_singleton_self _)) p hp).below hb7
          ·rw [List.mem_singleton.1 hp]
           exact HXC.out.below hb7)
         rw [fsts_len, ← hv7, show fsts (r.2 ++ [(x, L)]) = fsts r.2 ++ [x] by unfold fsts; rw [List.map_append]; rfl, HAB.out] at h1
         exact h1))
        have HRL := Lh HRLX.out.1
        rw [hlk]
        clear hk e2 hz0 hgt hlk hdr hvr hVR hab hrne HCL0
        have B := True.intro
        refine start_ (n := 18) (S := fun w' => True) (ds := []) #[false, false, false, false, false, false, false, false, false, false, false, false, false, false, false, false, false, false] (by kernel_rfl) rfl rfl trivial (fun hHeld => ?_)
        refine with_tabW pbdtab19 pbdbits19 (fun HT_ HW_ => ?_)
        refine pu 0 48 ?_ rfl rfl (any_of HT_.out (by kernel_rfl)) (fun _ _ _ h => h) (by rfl) ?_ ?_ ?_ ?_
        rotate_left
        ·intro w'
         go_simp
         with_reducible rfl
        rotate_left
        ·simp only [sL]
         rfl
        refine inv_at [1, 2, 3, 4, 5, 6, 7, 8, 9, 10, 11, 12, 13, 14, 15, 16, 17] (fun a0_ b a w' => ∃ (v60 : Value) (g62 : Nat) (v63 : Value) (m14_ : Value), a = putSel a0_ b [(1, 49, .bool false), (2, 50, .bool false), (3, 51, .int .i64 (sz : Int)), (4, 52, .int .i64 (lf : Int)), (5, 53, .bool false), (6, 54, .bool false), (7, 55, .bool false), (8, 56, .slice (some ⟨go, 0, none⟩) zl c9), (9, 57, .int .i64 (k : Int)), (10, 58, .pointer (some ⟨go, k, none⟩)), (11, 59, VR), (12, 60, v60), (13, 61, .agg CX), (14, 62, m14_), (15, 63, v63), (16, 64, .bool ab), (17, 65, .bool ab)] ∧ (Below W2.heap.size W2 w') ∧ (b 12 = true → b 15 = false → cvK.R 41 w' W2.heap.size (fun _ => True) v60 r.2) ∧ (b 14 = true → b 15 = false → cvK.C w' (some ⟨g62, 0, none⟩) 1 [(x, L)]) ∧ (b 15 = true → cvK.R 41 w' W2.heap.size (fun _ => True) v63 (r.2 ++ [(x, L)])) ∧ (b 14 = true → (m14_ : Value) = .slice (some ⟨g62, 0, none⟩) 1 1)) HT_.out HW_.out (by kernel_rfl) (by kernel_rfl) ?_ ?_ ?_
        ·exact ⟨.bool false, 0, .bool false, .bool false, by simp only [putSel, Bool.false_eq_true, if_false], below_drew (Below.refl _ _), fun h_ => absurd h_ (by decide), fun h_ => absurd h_ (by decide), fun h_ => absurd h_ (by decide), fun h_ => absurd h_ (by decide)⟩
        ·skip
         clear B
         refine sc rfl ?_ ?_
         ·rintro b a w' ⟨v60, g62, v63, m14_, ha, Q_B, Q_R, Q_S, Q_Tt, Q_X14_⟩ hb_ hon hoff K hK
          have e48 : a.tmps[48]? = some (.int .i64 (k : Int)) := by rw [ha]; exact (putSel_off rfl).trans rfl
          replace ha := Am ha
          refine value_ (w1 := w') (v := .bool false) (by rfl) rfl ?_ ?_
          ·go_simp
           (try simp only [i64_w])
           try rfl
          refine hK.out _ _ ⟨v60, g62, v63, m14_, (puk ha 0 hb_ rfl rfl rfl), Q_B, fun h0_ _ => hof (hoff 12 (by kernel_rfl)) h0_, fun h0_ _ => hof (hoff 14 (by kernel_rfl)) h0_, fun h0_ => hof (hoff 15 (by kernel_rfl)) h0_, fun h0_ => hof (hoff 14 (by kernel_rfl)) h0_⟩
         refine sc rfl ?_ ?_
         ·rintro b a w' ⟨v60, g62, v63, m14_, ha, Q_B, Q_R, Q_S, Q_Tt, Q_X14_⟩ hb_ hon hoff K hK
          have e49 := psn ha 0 rfl rfl (hon 1 (by kernel_rfl)) rfl
          replace ha := Am ha
          refine value_ (w1 := w') (v := .bool false) (by rfl) rfl ?_ ?_
          ·go_simp
           (try simp only [i64_w])
           try rfl
          refine hK.out _ _ ⟨v60, g62, v63, m14_, (puk ha 1 hb_ rfl rfl rfl), Q_B, fun h0_ _ => hof (hoff 12 (by kernel_rfl)) h0_, fun h0_ _ => hof (hoff 14 (by kernel_rfl)) h0_, fun h0_ => hof (hoff 15 (by kernel_rfl)) h0_, fun h0_ => hof (hoff 14 (by kernel_rfl)) h0_⟩
         refine sc rfl ?_ ?_
         ·rintro b a w' ⟨v60, g62, v63, m14_, ha, Q_B, Q_R, Q_S, Q_Tt, Q_X14_⟩ hb_ hon hoff K hK
          have e13 : a.tmps[13]? = some (.int .i64 (sz : Int)) := by rw [ha]; exact (putSel_off rfl).trans rfl
          have e50 := psn ha 1 rfl rfl (hon 2 (by kernel_rfl)) rfl
          replace ha := Am ha
          refine value_ (w1 := w') (v := .int .i64 (sz : Int)) (wanted_on rfl rfl rfl (e50.trans (by first | rfl | (simp [*]; done)))) rfl ?_ ?_
          ·go_simp
           (try simp only [i64_w])
           try rfl
          refine hK.out _ _ ⟨v60, g62, v63, m14_, (puk ha 2 hb_ rfl rfl rfl), Q_B, fun h0_ _ => hof (hoff 12 (by kernel_rfl)) h0_, fun h0_ _ => hof (hoff 14 (by kernel_rfl)) h0_, fun h0_ => hof (hoff 15 (by kernel_rfl)) h0_, fun h0_ => hof (hoff 14 (by kernel_rfl)) h0_⟩
         refine sc rfl ?_ ?_
         ·rintro b a w' ⟨v60, g62, v63, m14_, ha, Q_B, Q_R, Q_S, Q_Tt, Q_X14_⟩ hb_ hon hoff K hK
          have e10 : a.tmps[10]? = some (.int .i64 (lf : Int)) := by rw [ha]; exact (putSel_off rfl).trans rfl
          have e50 := psn ha 1 rfl rfl (hon 2 (by kernel_rfl)) rfl
          replace ha := Am ha
          refine value_ (w1 := w') (v := .int .i64 (lf : Int)) (wanted_on rfl rfl rfl (e50.trans (by first | rfl | (simp [*]; done)))) rfl ?_ ?_
          ·go_simp
           (try simp only [i64_w])
           try rfl
          refine hK.out _ _ ⟨v60, g62, v63, m14_, (puk ha 3 hb_ rfl rfl rfl), Q_B, fun h0_ _ => hof (hoff 12 (by kernel_rfl)) h0_, fun h0_ _ => hof (hoff 14 (by kernel_rfl)) h0_, fun h0_ => hof (hoff 15 (by kernel_rfl)) h0_, fun h0_ => hof (hoff 14 (by kernel_rfl)) h0_⟩
         refine sc rfl ?_ ?_
         ·rintro b a w' ⟨v60, g62, v63, m14_, ha, Q_B, Q_R, Q_S, Q_Tt, Q_X14_⟩ hb_ hon hoff K hK
          have e51 := psn ha 2 rfl rfl (hon 3 (by kernel_rfl)) rfl
          have e52 := psn ha 3 rfl rfl (hon 4 (by kernel_rfl)) rfl
          have e50 := psn ha 1 rfl rfl (hon 2 (by kernel_rfl)) rfl
          replace ha := Am ha
          have B := Am Q_B
          have hq := HGT.out
          refine value_ (w1 := w') (v := .bool false) (wanted_on rfl rfl rfl (e50.trans (by first | rfl | (simp [*]; done)))) rfl (by go_simp; first | done | exact hq) ?_
          refine hK.out _ _ ⟨v60, g62, v63, m14_, (puk ha 4 hb_ rfl rfl rfl), B.out, fun h0_ _ => hof (hoff 12 (by kernel_rfl)) h0_, fun h0_ _ => hof (hoff 14 (by kernel_rfl)) h0_, fun h0_ => hof (hoff 15 (by kernel_rfl)) h0_, fun h0_ => hof (hoff 14 (by kernel_rfl)) h0_⟩
         refine sc rfl ?_ ?_
         ·rintro b a w' ⟨v60, g62, v63, m14_, ha, Q_B, Q_R, Q_S, Q_Tt, Q_X14_⟩ hb_ hon hoff K hK
          have e50 := psn ha 1 rfl rfl (hon 2 (by kernel_rfl)) rfl
          have e53 := psn ha 4 rfl rfl (hon 5 (by kernel_rfl)) rfl
          replace ha := Am ha
          refine value_ (w1 := w') (v := .bool false) (by rfl) rfl ?_ ?_
          ·go_simp
           (try simp only [i64_w])
           try rfl
          refine hK.out _ _ ⟨v60, g62, v63, m14_, (puk ha 5 hb_ rfl rfl rfl), Q_B, fun h0_ _ => hof (hoff 12 (by kernel_rfl)) h0_, fun h0_ _ => hof (hoff 14 (by kernel_rfl)) h0_, fun h0_ => hof (hoff 15 (by kernel_rfl)) h0_, fun h0_ => hof (hoff 14 (by kernel_rfl)) h0_⟩
         refine sc rfl ?_ ?_
         ·rintro b a w' ⟨v60, g62, v63, m14_, ha, Q_B, Q_R, Q_S, Q_Tt, Q_X14_⟩ hb_ hon hoff K hK
          have e54 := psn ha 5 rfl rfl (hon 6 (by kernel_rfl)) rfl
          replace ha := Am ha
          refine value_ (w1 := w') (v := .bool false) (by rfl) rfl ?_ ?_
          ·go_simp
           (try simp only [i64_w])
           try rfl
          refine hK.out _ _ ⟨v60, g62, v63, m14_, (puk ha 6 hb_ rfl rfl rfl), Q_B, fun h0_ _ => hof (hoff 12 (by kernel_rfl)) h0_, fun h0_ _ => hof (hoff 14 (by kernel_rfl)) h0_, fun h0_ => hof (hoff 15 (by kernel_rfl)) h0_, fun h0_ => hof (hoff 14 (by kernel_rfl)) h0_⟩
         refine sc rfl ?_ ?_
         ·rintro b a w' ⟨v60, g62, v63, m14_, ha, Q_B, Q_R, Q_S, Q_Tt, Q_X14_⟩ hb_ hon hoff K hK
          have e9 : a.tmps[9]? = some (.slice (some ⟨go, 0, none⟩) zl c9) := by rw [ha]; exact (putSel_off rfl).trans rfl
          have e55 := psn ha 6 rfl rfl (hon 7 (by kernel_rfl)) rfl
          replace ha := Am ha
          refine value_ (w1 := w') (v := .slice (some ⟨go, 0, none⟩) zl c9) (wanted_on rfl rfl rfl (e55.trans (by first | rfl | (simp [*]; done)))) rfl ?_ ?_
          ·go_simp
           (try simp only [i64_w])
           try rfl
          refine hK.out _ _ ⟨v60, g62, v63, m14_, (puk ha 7 hb_ rfl rfl rfl), Q_B, fun h0_ _ => hof (hoff 12 (by kernel_rfl)) h0_, Q_S, fun h0_ => hof (hoff 15 (by kernel_rfl)) h0_, Q_X14_⟩
         refine sc rfl ?_ ?_
         ·rintro b a w' ⟨v60, g62, v63, m14_, ha, Q_B, Q_R, Q_S, Q_Tt, Q_X14_⟩ hb_ hon hoff K hK
          have e14 : a.tmps[14]? = some (.int .i64 (k : Int)) := by rw [ha]; exact (putSel_off rfl).trans rfl
          have e55 := psn ha 6 rfl rfl (hon 7 (by kernel_rfl)) rfl
          replace ha := Am ha
          refine value_ (w1 := w') (v := .int .i64 (k : Int)) (wanted_on rfl rfl rfl (e55.trans (by first | rfl | (simp [*]; done)))) rfl ?_ ?_
          ·go_simp
           (try simp only [i64_w])
           try rfl
          refine hK.out _ _ ⟨v60, g62, v63, m14_, (puk ha 8 hb_ rfl rfl rfl), Q_B, fun h0_ _ => hof (hoff 12 (by kernel_rfl)) h0_, Q_S, fun h0_ => hof (hoff 15 (by kernel_rfl)) h0_, Q_X14_⟩
         refine sc rfl ?_ ?_
         ·rintro b a w' ⟨v60, g62, v63, m14_, ha, Q_B, Q_R, Q_S, Q_Tt, Q_X14_⟩ hb_ hon hoff K hK
          have e56 := psn ha 7 rfl rfl (hon 8 (by kernel_rfl)) rfl
          have e57 := psn ha 8 rfl rfl (hon 9 (by kernel_rfl)) rfl
          have e55 := psn ha 6 rfl rfl (hon 7 (by kernel_rfl)) rfl
          replace ha := Am ha
          have hl := HLK.out
          refine value_ (w1 := w') (v := .pointer (some ⟨go, k, none⟩)) (wanted_on rfl rfl rfl (e55.trans (by first | rfl | (simp [*]; done)))) rfl ?_ ?_
          ·go_simp
           (try simp only [i64_w])
           try rfl
          refine hK.out _ _ ⟨v60, g62, v63, m14_, (puk ha 9 hb_ rfl rfl rfl), Q_B, fun h0_ _ => hof (hoff 12 (by kernel_rfl)) h0_, Q_S, fun h0_ => hof (hoff 15 (by kernel_rfl)) h0_, Q_X14_⟩
         refine sc rfl ?_ ?_
         ·rintro b a w' ⟨v60, g62, v63, m14_, ha, Q_B, Q_R, Q_S, Q_Tt, Q_X14_⟩ hb_ hon hoff K hK
          have e58 := psn ha 9 rfl rfl (hon 10 (by kernel_rfl)) rfl
          have e55 := psn ha 6 rfl rfl (hon 7 (by kernel_rfl)) rfl
          replace ha := Am ha
          have B := Am Q_B
          have hs := HLC.out w' B.out
          refine value_ (w1 := w') (v := VR) (wanted_on rfl rfl rfl (e55.trans (by first | rfl | (simp [*]; done)))) rfl ?_ ?_
          ·go_simp
           (try simp only [i64_w])
           try rfl
          refine hK.out _ _ ⟨v60, g62, v63, m14_, (puk ha 10 hb_ rfl rfl rfl), Q_B, fun h0_ _ => hof (hoff 12 (by kernel_rfl)) h0_, Q_S, fun h0_ => hof (hoff 15 (by kernel_rfl)) h0_, Q_X14_⟩
         refine sc rfl ?_ ?_
         ·rintro b a w' ⟨v60, g62, v63, m14_, ha, Q_B, Q_R, Q_S, Q_Tt, Q_X14_⟩ hb_ hon hoff K hK
          have e59 := psn ha 10 rfl rfl (hon 11 (by kernel_rfl)) rfl
          have e55 := psn ha 6 rfl rfl (hon 7 (by kernel_rfl)) rfl
          replace ha := Am ha
          have B := Am Q_B
          refine goes_ Tryd.func48 (by kernel_rfl) rfl #[VR] (wanted_on rfl rfl rfl (e55.trans (by first | rfl | (simp [*]; done)))) rfl rfl (by first | (simp only [List.map_toArray, List.map_cons, List.map_nil, Act.eval, Array.getD_eq_getD_getElem?, Option.getD_some, e59, e55]; done) | (simp only [List.map_toArray, List.map_cons, List.map_nil, Act.eval, Array.getD_eq_getD_getElem?, Option.getD_some, e59, e55]; rfl)) ?_
          refine (HCL.out w' B.out).mono ?_
          rintro e w1 ⟨v1, rfl, hR1, hB1⟩
          refine ⟨_, rfl, ?_⟩
          refine hK.out _ _ ⟨v1, g62, v63, m14_, (puk ha 11 hb_ rfl rfl rfl), B.out.trans (hB1.mono B.out.size), fun _ _ => Kd.R_lower hR1 B.out.size, fun h0_ h1_ => Kd.C_below (Q_S h0_ h1_) hB1, fun h0_ => hof (hoff 15 (by kernel_rfl)) h0_, Q_X14_⟩
         refine sc rfl ?_ ?_
         ·rintro b a w' ⟨v60, g62, v63, m14_, ha, Q_B, Q_R, Q_S, Q_Tt, Q_X14_⟩ hb_ hon hoff K hK
          have e12 : a.tmps[12]? = some (.pointer (some ⟨gb, 0, none⟩)) := by rw [ha]; exact (putSel_off rfl).trans rfl
          have e55 := psn ha 6 rfl rfl (hon 7 (by kernel_rfl)) rfl
          replace ha := Am ha
          have B := Am Q_B
          refine value_ (w1 := w') (v := .agg CX) (wanted_on rfl rfl rfl (e55.trans (by first | rfl | (simp [*]; done)))) rfl (exec_load_row 41 (.tmp 12) rfl (eval_of e12) (blk_below HBX.out B.out) Tryd.underlying41 rfl HXS.out) ?_
          refine hK.out _ _ ⟨v60, g62, v63, m14_, (puk ha 12 hb_ rfl rfl rfl), B.out, fun h0_ h1_ => (Q_R h0_ h1_), fun h0_ _ => hof (hoff 14 (by kernel_rfl)) h0_, fun h0_ => hof (hoff 15 (by kernel_rfl)) h0_, fun h0_ => hof (hoff 14 (by kernel_rfl)) h0_⟩
         refine sc rfl ?_ ?_
         ·rintro b a w' ⟨v60, g62, v63, m14_, ha, Q_B, Q_R, Q_S, Q_Tt, Q_X14_⟩ hb_ hon hoff K hK
          have e61 := psn ha 12 rfl rfl (hon 13 (by kernel_rfl)) rfl
          have e55 := psn ha 6 rfl rfl (hon 7 (by kernel_rfl)) rfl
          replace ha := Am ha
          have B := Am Q_B
          refine value_ (w1 := w'.alloc (.cells CX 41)) (v := .slice (some ⟨w'.heap.size, 0, none⟩) 1 1) (wanted_on rfl rfl rfl (e55.trans (by first | rfl | (simp [*]; done)))) rfl (by rw [← HXE.out]; exact exec_one 61 x L rfl (by rw [HXE.out]; exact e61)) ?_
          refine hK.out _ _ ⟨v60, w'.heap.size, v63, (.slice (some ⟨w'.heap.size, 0, none⟩) 1 1), (puk ha 13 hb_ rfl rfl rfl), B.out.alloc B.out.size _, fun h0_ h1_ => Kd.R_alloc (Q_R h0_ h1_) _, fun _ _ => (by rw [← HXE.out]; exact cv_one w' x L), fun h0_ => hof (hoff 15 (by kernel_rfl)) h0_, fun _ => rfl⟩
         refine sc rfl ?_ ?_
         ·rintro b a w' ⟨v60, g62, v63, m14_, ha, Q_B, Q_R, Q_S, Q_Tt, Q_X14_⟩ hb_ hon hoff K hK
          have e60 := psn ha 11 rfl rfl (hon 12 (by kernel_rfl)) rfl
          have e62 := psn ha 13 rfl rfl (hon 14 (by kernel_rfl)) rfl
          rw [Q_X14_ (hon 14 (by kernel_rfl))] at e62
          have e55 := psn ha 6 rfl rfl (hon 7 (by kernel_rfl)) rfl
          replace ha := Am ha
          have B := Am Q_B
          have R := Am (Q_R (hon 12 (by kernel_rfl)) hb_)
          have S := Am (Q_S (hon 14 (by kernel_rfl)) hb_)
          refine Kd.R_append_rows_step cvK (Rr := cvK.K w') (w0 := W2) (W := w') W2.heap.size (wanted_on rfl rfl rfl (e55.trans (by first | rfl | (simp [*]; done)))) _ _ 24 41 (.agg zerV) 152 rfl Tryd.underlying24 info_cv rfl (by decide) (by decide) v60 r.2 [(x, L)] (some ⟨g62, 0, none⟩) 1 1 (fun _ => True) (fun _ => False) (eval_of e60) (eval_of e62) R.out S.out (fun _ _ h => h) (fun _ h => h.elim) (fun _ _ => trivial) B.out B.out.size (by have := HRL.out; omega) ?_
          intro v1 w1 hR1 hB1 _ _
          refine hK.out _ _ ⟨v60, g62, v1, m14_, (puk ha 14 hb_ rfl rfl rfl), hB1, fun _ h1_ => absurd ((up_self b 15).symm.trans h1_) (by decide), fun _ h1_ => absurd ((up_self b 15).symm.trans h1_) (by decide), fun _ => hR1, Q_X14_⟩
         refine sc rfl ?_ ?_
         ·rintro b a w' ⟨v60, g62, v63, m14_, ha, Q_B, Q_R, Q_S, Q_Tt, Q_X14_⟩ hb_ hon hoff K hK
          have e63 := psn ha 14 rfl rfl (hon 15 (by kernel_rfl)) rfl
          have e55 := psn ha 6 rfl rfl (hon 7 (by kernel_rfl)) rfl
          replace ha := Am ha
          have B := Am Q_B
          have Tt := Am (Q_Tt (hon 15 (by kernel_rfl)))
          refine goes_ Tryd.func27 (by kernel_rfl) rfl #[v63] (wanted_on rfl rfl rfl (e55.trans (by first | rfl | (simp [*]; done)))) rfl rfl (by first | (simp only [List.map_toArray, List.map_cons, List.map_nil, Act.eval, Array.getD_eq_getD_getElem?, Option.getD_some, e63, e55]; done) | (simp only [List.map_toArray, List.map_cons, List.map_nil, Act.eval, Array.getD_eq_getD_getElem?, Option.getD_some, e63, e55]; rfl)) ?_
          refine (HAP.out w' v63 B.out Tt.out).mono ?_
          rintro e w1 ⟨rfl, hB1⟩
          refine ⟨_, rfl, ?_⟩
          refine hK.out _ _ ⟨v60, g62, v63, m14_, (puk ha 15 hb_ rfl rfl rfl), B.out.trans (hB1.mono B.out.size), fun _ h1_ => absurd ((hon 15 (by kernel_rfl)).symm.trans h1_) (by decide), fun _ h1_ => absurd ((hon 15 (by kernel_rfl)).symm.trans h1_) (by decide), fun _ => Kd.R_below Tt.out hB1, Q_X14_⟩
         refine sc rfl ?_ ?_
         ·rintro b a w' ⟨v60, g62, v63, m14_, ha, Q_B, Q_R, Q_S, Q_Tt, Q_X14_⟩ hb_ hon hoff K hK
          have e55 := psn ha 6 rfl rfl (hon 7 (by kernel_rfl)) rfl
          have e64 := psn ha 15 rfl rfl (hon 16 (by kernel_rfl)) rfl
          replace ha := Am ha
          refine value_ (w1 := w') (v := .bool ab) (by rfl) rfl ?_ ?_
          ·go_simp
           (try simp only [i64_w])
           try rfl
          refine hK.out _ _ ⟨v60, g62, v63, m14_, (puk ha 16 hb_ rfl rfl rfl), Q_B, fun _ h1_ => absurd ((hon 15 (by kernel_rfl)).symm.trans h1_) (by decide), fun _ h1_ => absurd ((hon 15 (by kernel_rfl)).symm.trans h1_) (by decide), Q_Tt, Q_X14_⟩
         exact steps_nil
        rintro b a w' hall ⟨v60, g62, v63, m14_, ha, Q_B, Q_R, Q_S, Q_Tt, Q_X14_⟩
        clear B
        have hb1_ := hall 1 (by kernel_rfl)
        have hb2_ := hall 2 (by kernel_rfl)
        have hb3_ := hall 3 (by kernel_rfl)
        have hb4_ := hall 4 (by kernel_rfl)
        have hb5_ := hall 5 (by kernel_rfl)
        have hb6_ := hall 6 (by kernel_rfl)
        have hb7_ := hall 7 (by kernel_rfl)
        have hb8_ := hall 8 (by kernel_rfl)
        have hb9_ := hall 9 (by kernel_rfl)
        have hb10_ := hall 10 (by kernel_rfl)
        have hb11_ := hall 11 (by kernel_rfl)
        have hb12_ := hall 12 (by kernel_rfl)
        have hb13_ := hall 13 (by kernel_rfl)
        have hb14_ := hall 14 (by kernel_rfl)
        have hb15_ := hall 15 (by kernel_rfl)
        have hb16_ := hall 16 (by kernel_rfl)
        have hb17_ := hall 17 (by kernel_rfl)
        subst ha
        obtain rfl := Q_X14_ hb14_
        simp only [putSel, hb1_, hb2_, hb3_, hb4_, hb5_, hb6_, hb7_, hb8_, hb9_, hb10_, hb11_, hb12_, hb13_, hb14_, hb15_, hb16_, hb17_, if_true, Act.put, List.setIfInBounds_toArray, List.set_cons_zero, List.set_cons_succ]
        have B := Am Q_B
        clear Q_B
        clear Q_R
        clear Q_S
        clear Q_Tt
        clear hall hb1_ hb2_ hb3_ hb4_ hb5_ hb6_ hb7_ hb8_ hb9_ hb10_ hb11_ hb12_ hb13_ hb14_ hb15_ hb16_ hb17_
        cases ab with
        | true =>
         have HOPN := Lh (Or.inr (Or.inr ⟨ds, r, HDR.out, HAB.out⟩) : zs = [] ∨ lf < sizeD x ∨ ∃ ds r, zs = ds ++ [r] ∧ apartB (fsts r.2 ++ [x]) = true)
         replace HBX := Lh (blk_below HBX.out B.out)
         replace HST := Lh (HST.out.below B.out)
         have hlk : ((k : Nat) : Int) = lz := by have h1 := HLZ.out.1; rw [HDR.out, List.length_append, HDK.out] at h1; simp at h1; omega
         rw [hlk]
         clear hlk B HST2 HCL HLC HAP HAB HGT HLE HRL HRLX HLK HVR HDK HDR
         go_wp2_with (at_builtin; go_must (refine Kd.R_append rawR (w0 := wI) (W := w') wI.heap.size rfl _ _ 55 24 (.slice none 0 0) 24 rfl Tryd.underlying55 info_sl rfl (by decide) (by decide) (.slice (some ⟨go, 0, none⟩) zl c9) (zs) nilZ [.slice none 0 0] (fun _ => True) (fun _ => False) rfl rfl rfl (fun _ h => h.elim) (fun _ _ => trivial) HST.out.out HST.out.bl HST.out.bl.size (by have h1 := HZL.out; omega) ?_); (intro v1 w1 hR1 hB1 hG1 _; have HR1 := Lh hR1; have HB1 := Lh hB1; have HG1 := Lh hG1; clear hR1 hB1 hG1; refine RowKit.Hid.out ?_))
         refine Lh ?_
         have HBX2 := Lh (blk_far_row HST.out HBX.out HG1.out)
         have hS1 := HST.out.opened HR1.out HG1.out HB1.out
         obtain ⟨go, capo, hv1, _⟩ := hS1.last
         subst hv1
         have HBX := HBX2
         have HST := Lh hS1
         clear hS1 HR1 HB1 HG1 HBX2
         obtain ⟨r, hr0⟩ : ∃ r, nilZ = r := ⟨_, rfl⟩
         obtain ⟨ds, hds⟩ : ∃ ds : List RW, (zs) = ds := ⟨_, rfl⟩
         rw [hr0, hds] at HST
         have HRN := Lh (fun (r' : RW) (h : r'.2 = r.2 ++ [(x, L)]) => (show RelB m (l.take (i + 1)) (ds ++ [r']) (m - 12 - sz) from by
          rw [take_next HDX.out, ← HSX.out, ← hds]
          exact HREL.out.open_ HINV.out (by rw [HSX.out]; exact HFIT.out) HOPN.out (by rw [h, ← hr0])))
         have HRL := Lh (show (r.2.length + 1) * 152 ≤ 140737488355328 by rw [← hr0]; decide)
         have HVR := Lh (show encR r = .slice none 0 0 by rw [← hr0]; rfl)
         obtain ⟨lf2, hlf2⟩ : ∃ q : Nat, m - 12 = q := ⟨_, rfl⟩
         have hw12 : wrap64 ((m : Int) - 12) = (lf2 : Int) := by have h1 := HMT.out; unfold wrap64; omega
         have HLF := Lh (show sz ≤ lf2 ∧ lf2 ≤ 1500 by have h1 := HMT.out; have h2 := HFIT.out; omega)
         rw [hlf2] at HRN
         obtain ⟨k, hk⟩ : ∃ k : Nat, ds.length = k := ⟨_, rfl⟩
         have HDK := Lh hk
         obtain ⟨nz, hnz⟩ : ∃ nz : Nat, ds.length + 1 = nz := ⟨_, rfl⟩
         have HLK := Lh (show ¬ nz ≤ k by omega)
         have hwk : wrap64 (lz + 1) = (k : Int) := by have h1 := HLZ.out; rw [hds] at h1; unfold wrap64; omega
         have hnz2 : (zs).length + 1 = nz := by rw [hds]; exact hnz
         rw [hnz] at HST
         rw [hnz2]
         clear hnz hnz2 hk hds hr0 hlf2 HREL HINV HOPN HLZ
         go_upto_region 22 with (fail)
         try rw [hwk]
         try rw [hw12]
         clear hwk hw12
         refine grow_v (B := pbbB22) [0, 1, 2, 3, 4, 5, 6, 7, 8, 9, 10] [7, 8, 10] (fun s vs W => match s with | 0 => BSt wI W (ds ++ [r]) (.slice (some ⟨go, 0, none⟩) nz capo) ∧ W.heap[gb]? = some (.cells CX 41 (0, 0)) ∧ True | 1 => BSt wI W (ds ++ [r]) (.slice (some ⟨go, 0, none⟩) nz capo) ∧ W.heap[gb]? = some (.cells CX 41 (0, 0)) ∧ ∃ gs, vs 1 = .slice (some ⟨gs, 0, none⟩) 1 1 ∧ cvK.C W (some ⟨gs, 0, none⟩) 1 [(x, L)] | 2 => AppP wI W (.slice (some ⟨go, 0, none⟩) nz capo) ds r x L (vs 2) | _ => ∃ r' : RW, r'.2 = r.2 ++ [(x, L)] ∧ encR r' = vs 2 ∧ BSt wI W (ds ++ [r']) (.slice (some ⟨go, 0, none⟩) nz capo)) (fun vs => [(0, 73, .slice (some ⟨go, 0, none⟩) nz capo), (1, 74, .int .i64 (k : Int)), (2, 75, .slice (some ⟨go, 0, none⟩) nz capo), (3, 76, .int .i64 (k : Int)), (4, 77, .pointer (some ⟨go, k, none⟩)), (5, 78, (.slice none 0 0)), (6, 79, .agg CX), (7, 80, vs 1), (8, 81, vs 2), (9, 82, .pointer (some ⟨go, k, none⟩))]) (by kernel_rfl) rfl (l := #[false, false, false, false, false, false, false, false, false, false, false]) rfl pbbtab22 pbbbits22 (by kernel_rfl) (by kernel_rfl) (fun _ => rfl) rfl (fun _ => undef) ?_ ?_ ?_
         ·exact ⟨HST.out.below (pw_below_drewN (Below.refl _ _) 1), blk_drewN HBX.out 1, trivial⟩
         ·exact steps_cons (gv_op 0 2 [(9, fun vs => .slice (some ⟨go, 0, none⟩) nz capo)] 0 0 (fv := fun vs => .slice (some ⟨go, 0, none⟩) nz capo) rfl rfl (wt_none rfl) (fun _ => rfl) (fun _ => rfl) rfl rfl (by kernel_rfl) (by kernel_rfl) ⟨rd_off (p := 9) (fun _ => rfl) rfl, trivial⟩ (fun a w s vs hm hs h e => by
           obtain ⟨e9, _⟩ := e
           replace e9 : a.tmps[9]? = some (.slice (some ⟨go, 0, none⟩) nz capo) := e9
           go_simp)) (steps_cons (gv_op 0 2 [(14, fun vs => .int .i64 (k : Int))] 1 1 (fv := fun vs => .int .i64 (k : Int)) rfl rfl (wt_none rfl) (fun _ => rfl) (fun _ => rfl) rfl rfl (by kernel_rfl) (by kernel_rfl) ⟨rd_off (p := 14) (fun _ => rfl) rfl, trivial⟩ (fun a w s vs hm hs h e => by
           obtain ⟨e14, _⟩ := e
           replace e14 : a.tmps[14]? = some (.int .i64 (k : Int)) := e14
           go_simp)) (steps_cons (gv_op 0 1 [(9, fun vs => .slice (some ⟨go, 0, none⟩) nz capo)] 2 2 (fv := fun vs => .slice (some ⟨go, 0, none⟩) nz capo) rfl rfl (wt_none rfl) (fun _ => rfl) (fun _ => rfl) rfl rfl (by kernel_rfl) (by kernel_rfl) ⟨rd_off (p := 9) (fun _ => rfl) rfl, trivial⟩ (fun a w s vs hm hs h e => by
           obtain ⟨e9, _⟩ := e
           replace e9 : a.tmps[9]? = some (.slice (some ⟨go, 0, none⟩) nz capo) := e9
           go_simp)) (steps_cons (gv_op 0 1 [(14, fun vs => .int .i64 (k : Int))] 3 3 (fv := fun vs => .int .i64 (k : Int)) rfl rfl (wt_none rfl) (fun _ => rfl) (fun _ => rfl) rfl rfl (by kernel_rfl) (by kernel_rfl) ⟨rd_off (p := 14) (fun _ => rfl) rfl, trivial⟩ (fun a w s vs hm hs h e => by
           obtain ⟨e14, _⟩ := e
           replace e14 : a.tmps[14]? = some (.int .i64 (k : Int)) := e14
           go_simp)) (steps_cons (gv_op 0 1 [(75, fun vs => .slice (some ⟨go, 0, none⟩) nz capo), (76, fun vs => .int .i64 (k : Int))] 4 4 (fv := fun vs => .pointer (some ⟨go, k, none⟩)) rfl rfl (wt_none rfl) (fun _ => rfl) (fun _ => rfl) rfl rfl (by kernel_rfl) (by kernel_rfl) ⟨rd_on (p := 75) 2 2 (fun _ => rfl) (fun _ => rfl) (by kernel_rfl) rfl, rd_on (p := 76) 3 3 (fun _ => rfl) (fun _ => rfl) (by kernel_rfl) rfl, trivial⟩ (fun a w s vs hm hs h e => by
           obtain ⟨e75, e76, _⟩ := e
           replace e75 : a.tmps[75]? = some (.slice (some ⟨go, 0, none⟩) nz capo) := e75
           replace e76 : a.tmps[76]? = some (.int .i64 (k : Int)) := e76
           have hl := HLK.out; go_simp)) (steps_cons (gv_op 0 1 [(77, fun vs => .pointer (some ⟨go, k, none⟩))] 5 5 (fv := fun vs => (.slice none 0 0)) rfl rfl (wt_none rfl) (fun _ => rfl) (fun _ => rfl) rfl rfl (by kernel_rfl) (by kernel_rfl) ⟨rd_on (p := 77) 4 4 (fun _ => rfl) (fun _ => rfl) (by kernel_rfl) rfl, trivial⟩ (fun a w s vs hm hs h e => by
           obtain ⟨e77, _⟩ := e
           replace e77 : a.tmps[77]? = some (.pointer (some ⟨go, k, none⟩)) := e77
           have h1 : BSt wI w (ds ++ [r]) (.slice (some ⟨go, 0, none⟩) nz capo) := by
            rcases (by omega : s = 0 ∨ s = 1) with rfl | rfl <;> exact h.1
           have hs := h1.cell.1
           rw [HVR.out, HDK.out] at hs
           go_simp)) (steps_cons (gv_op 0 0 [(12, fun vs => .pointer (some ⟨gb, 0, none⟩))] 6 6 (fv := fun vs => .agg CX) rfl rfl (wt_none rfl) (fun _ => rfl) (fun _ => rfl) rfl rfl (by kernel_rfl) (by kernel_rfl) ⟨rd_off (p := 12) (fun _ => rfl) rfl, trivial⟩ (fun a w s vs hm hs h e => by
           obtain rfl : s = 0 := by omega
           obtain ⟨e12, _⟩ := e
           replace e12 : a.tmps[12]? = some (.pointer (some ⟨gb, 0, none⟩)) := e12
           exact exec_load_row 41 (.tmp 12) rfl (eval_of e12) h.2.1 Tryd.underlying41 rfl HXS.out)) (steps_cons (gv_gen [(79, fun vs => .agg CX)] 7 7 0 rfl rfl (wt_none rfl) rfl (fun _ => rfl) (fun _ _ => rfl) (fun _ => rfl) rfl (by kernel_rfl) ⟨rd_on (p := 79) 6 6 (fun _ => rfl) (fun _ => rfl) (by kernel_rfl) rfl, trivial⟩ (fun a w K vs h e hw hK => by
           obtain ⟨e79, _⟩ := e
           replace e79 : a.tmps[79]? = some (.agg CX) := e79
           obtain ⟨h1, h2, _⟩ := h
           exact value_ (w1 := w.alloc (.cells CX 41)) (v := .slice (some ⟨w.heap.size, 0, none⟩) 1 1) hw rfl (by rw [← HXE.out]; exact exec_one 79 x L rfl (by rw [HXE.out]; exact e79)) (hK _ _ ⟨h1.below (below_alloc (Below.refl _ _) _), blk_alloc h2 _, w.heap.size, rfl, by rw [← HXE.out]; exact cv_one w x L⟩))) (steps_cons (gv_gen [(78, fun vs => (.slice none 0 0)), (80, fun vs => vs 1)] 8 8 1 rfl rfl (wt_none rfl) rfl (fun _ => rfl) (fun _ _ => rfl) (fun _ => rfl) rfl (by kernel_rfl) ⟨rd_on (p := 78) 5 5 (fun _ => rfl) (fun _ => rfl) (by kernel_rfl) rfl, rd_on (p := 80) 7 7 (fun _ => rfl) (fun _ => rfl) (by kernel_rfl) rfl, trivial⟩ (fun a w K vs h e hw hK => by
           obtain ⟨e78, e80, _⟩ := e
           replace e78 : a.tmps[78]? = some ((.slice none 0 0)) := e78
           replace e80 : a.tmps[80]? = some (vs 1) := e80
           obtain ⟨h1, h2, gs, hv, hC⟩ := h
           refine Kd.R_append_rows_step cvK (Rr := cvK.K w) (w0 := wI) (W := w) wI.heap.size hw _ _ 24 41 (.agg zerV) 152 rfl Tryd.underlying24 info_cv rfl (by decide) (by decide) (.slice none 0 0) r.2 [(x, L)] (some ⟨gs, 0, none⟩) 1 1 (fun _ => True) (fun _ => False) (eval_of e78) ((eval_of e80).trans hv) (by rw [← HVR.out]; exact h1.own r (List.mem_append_right _ (List.mem_singleton_self _))) hC (fun _ _ h => h) (fun _ h => h.elim) (fun _ _ => trivial) h1.bl h1.bl.size (by have := HRL.out; omega) ?_
           intro v1 w1 hR1 hB1 hG1 hat
           exact hK v1 w1 (h1.app HXC.out hR1 (by rw [HVR.out]; exact hG1) (by rw [HVR.out]; exact hat) hB1))) (steps_cons (gv_op 2 2 [(73, fun vs => .slice (some ⟨go, 0, none⟩) nz capo), (74, fun vs => .int .i64 (k : Int))] 9 9 (fv := fun vs => .pointer (some ⟨go, k, none⟩)) rfl rfl (wt_none rfl) (fun _ => rfl) (fun _ => rfl) rfl rfl (by kernel_rfl) (by kernel_rfl) ⟨rd_on (p := 73) 0 0 (fun _ => rfl) (fun _ => rfl) (by kernel_rfl) rfl, rd_on (p := 74) 1 1 (fun _ => rfl) (fun _ => rfl) (by kernel_rfl) rfl, trivial⟩ (fun a w s vs hm hs h e => by
           obtain rfl : s = 2 := by omega
           obtain ⟨e73, e74, _⟩ := e
           replace e73 : a.tmps[73]? = some (.slice (some ⟨go, 0, none⟩) nz capo) := e73
           replace e74 : a.tmps[74]? = some (.int .i64 (k : Int)) := e74
           have hl := HLK.out; go_simp)) (steps_cons (gv_store (f := fun vs W => W.setCell ⟨go, k, none⟩ (vs 2)) [(82, fun vs => .pointer (some ⟨go, k, none⟩)), (81, fun vs => vs 2)] 10 2 rfl rfl (wt_none rfl) rfl (fun _ => rfl) rfl (by kernel_rfl) ⟨rd_on (p := 82) 9 9 (fun _ => rfl) (fun _ => rfl) (by kernel_rfl) rfl, rd_on (p := 81) 8 8 (fun _ => rfl) (fun _ => rfl) (by kernel_rfl) rfl, trivial⟩ (fun a w vs h e => by
           obtain ⟨e82, e81, _⟩ := e
           replace e82 : a.tmps[82]? = some (.pointer (some ⟨go, k, none⟩)) := e82
           replace e81 : a.tmps[81]? = some (vs 2) := e81
           obtain ⟨g2, c2, hv2, _, _⟩ := (Kd.R_own h.last).elim fun _ h => h.form (by rw [List.length_append]; simp)
           have hf := (show w.frozen? ⟨go, k, none⟩ = false from by have h9 := h.out; rw [← HDK.out]; exact (BSt.cell2 h9).2)
           have hs := (show w.cell? ⟨go, k, none⟩ = some (.slice none 0 0) from by have h9 := h.out; rw [← HDK.out, ← HVR.out]; exact (BSt.cell2 h9).1)
           rw [hv2] at e81 ⊢
           go_simp; first | done | rfl) (fun vs w h => by have h9 := h.store (n := nz) (cap := capo) rfl; rw [HDK.out] at h9; exact h9)) steps_nil))))))))))
         intro vs W9 hX9
         obtain ⟨r', hr', hv', hS9⟩ := hX9
         simp only [putSel, if_true, Act.put, List.setIfInBounds_toArray, List.set_cons_zero, List.set_cons_succ]
         rw [← hv']
         generalize vs 1 = u80 at *
         have HS9 := Lh hS9
         have HR9 := Lh hr'
         clear hS9 hr' hv' vs HST HBX HXS HLK HVR
         unfold encR
         generalize (Option.map (fun g => ⟨g, 0, none⟩) r'.1.1 : Option Addr) = Ar at *
         generalize r'.2.length = nr at *
         have hw9 : wrap64 ((lf2 : Int) - (sz : Int)) = ((lf2 - sz : Nat) : Int) := by have h1 := HMT.out; have h2 := HLF.out; unfold wrap64; omega
         go_wp2
         go_roundw
         case rel => exact ⟨i + 1, ds ++ [r'], lf2 - sz, by omega, by first | rfl | exact congrArg _ hw9 | rw [hw9], by go_num, HRN.out r' HR9.out, HS9⟩
         case measure => simp [intOf]; omega
        | false =>
         have HRN := Lh (fun (r' : RW) (h : r'.2 = r.2 ++ [(x, L)]) => (show RelB m (l.take (i + 1)) (ds ++ [r']) (lf - sz) from by
          rw [take_next HDX.out, ← HSX.out]
          exact (by have h9 := HREL.out; rw [HDR.out] at h9; exact h9 : RelB m (l.take i) (ds ++ [r]) lf).stay HINV.out (by rw [HSX.out]; exact HFIT.out) (by rw [HSX.out]; exact HLE.out) HAB.out h))
         have HLF := Lh (show sz ≤ lf ∧ lf ≤ 1500 from ⟨HLE.out, by
          have h1 := HREL.out.2.1
          have h2 := (HINV.out.gr (outB_last HINV.out (by have h9 := HREL.out.1; rw [HDR.out] at h9; exact h9)).2.2).2
          have h3 := HMT.out
          omega⟩)
         replace HBX := Lh (blk_below HBX.out B.out)
         have HST3 := Lh (HST2.out.below B.out)
         clear B HST HST2 HCL HLC HAP HAB HGT HLE HRLX HREL HINV HDR
         have HST := HST3
         clear HST3
         go_upto_region 22 with (fail)
         refine grow_v (B := pbbB22) [0, 1, 2, 3, 4, 5, 6, 7, 8, 9, 10] [7, 8, 10] (fun s vs W => match s with | 0 => BSt wI W (ds ++ [r]) (.slice (some ⟨go, 0, none⟩) zl c9) ∧ W.heap[gb]? = some (.cells CX 41 (0, 0)) ∧ True | 1 => BSt wI W (ds ++ [r]) (.slice (some ⟨go, 0, none⟩) zl c9) ∧ W.heap[gb]? = some (.cells CX 41 (0, 0)) ∧ ∃ gs, vs 1 = .slice (some ⟨gs, 0, none⟩) 1 1 ∧ cvK.C W (some ⟨gs, 0, none⟩) 1 [(x, L)] | 2 => AppP wI W (.slice (some ⟨go, 0, none⟩) zl c9) ds r x L (vs 2) | _ => ∃ r' : RW, r'.2 = r.2 ++ [(x, L)] ∧ encR r' = vs 2 ∧ BSt wI W (ds ++ [r']) (.slice (some ⟨go, 0, none⟩) zl c9)) (fun vs => [(0, 73, .slice (some ⟨go, 0, none⟩) zl c9), (1, 74, .int .i64 (k : Int)), (2, 75, .slice (some ⟨go, 0, none⟩) zl c9), (3, 76, .int .i64 (k : Int)), (4, 77, .pointer (some ⟨go, k, none⟩)), (5, 78, VR), (6, 79, .agg CX), (7, 80, vs 1), (8, 81, vs 2), (9, 82, .pointer (some ⟨go, k, none⟩))]) (by kernel_rfl) rfl (l := #[false, false, false, false, false, false, false, false, false, false, false]) rfl pbbtab22 pbbbits22 (by kernel_rfl) (by kernel_rfl) (fun _ => rfl) rfl (fun _ => undef) ?_ ?_ ?_
         ·exact ⟨HST.out.below (pw_below_drewN (Below.refl _ _) 1), blk_drewN HBX.out 1, trivial⟩
         ·exact steps_cons (gv_op 0 2 [(9, fun vs => .slice (some ⟨go, 0, none⟩) zl c9)] 0 0 (fv := fun vs => .slice (some ⟨go, 0, none⟩) zl c9) rfl rfl (wt_none rfl) (fun _ => rfl) (fun _ => rfl) rfl rfl (by kernel_rfl) (by kernel_rfl) ⟨rd_off (p := 9) (fun _ => rfl) rfl, trivial⟩ (fun a w s vs hm hs h e => by
           obtain ⟨e9, _⟩ := e
           replace e9 : a.tmps[9]? = some (.slice (some ⟨go, 0, none⟩) zl c9) := e9
           go_simp)) (steps_cons (gv_op 0 2 [(14, fun vs => .int .i64 (k : Int))] 1 1 (fv := fun vs => .int .i64 (k : Int)) rfl rfl (wt_none rfl) (fun _ => rfl) (fun _ => rfl) rfl rfl (by kernel_rfl) (by kernel_rfl) ⟨rd_off (p := 14) (fun _ => rfl) rfl, trivial⟩ (fun a w s vs hm hs h e => by
           obtain ⟨e14, _⟩ := e
           replace e14 : a.tmps[14]? = some (.int .i64 (k : Int)) := e14
           go_simp)) (steps_cons (gv_op 0 1 [(9, fun vs => .slice (some ⟨go, 0, none⟩) zl c9)] 2 2 (fv := fun vs => .slice (some ⟨go, 0, none⟩) zl c9) rfl rfl (wt_none rfl) (fun _ => rfl) (fun _ => rfl) rfl rfl (by kernel_rfl) (by kernel_rfl) ⟨rd_off (p := 9) (fun _ => rfl) rfl, trivial⟩ (fun a w s vs hm hs h e => by
           obtain ⟨e9, _⟩ := e
           replace e9 : a.tmps[9]? = some (.slice (some ⟨go, 0, none⟩) zl c9) := e9
           go_simp)) (steps_cons (gv_op 0 1 [(14, fun vs => .int .i64 (k : Int))] 3 3 (fv := fun vs => .int .i64 (k : Int)) rfl rfl (wt_none rfl) (fun _ => rfl) (fun _ => rfl) rfl rfl (by kernel_rfl) (by kernel_rfl) ⟨rd_off (p := 14) (fun _ => rfl) rfl, trivial⟩ (fun a w s vs hm hs h e => by
           obtain ⟨e14, _⟩ := e
           replace e14 : a.tmps[14]? = some (.int .i64 (k : Int)) := e14
           go_simp)) (steps_cons (gv_op 0 1 [(75, fun vs => .slice (some ⟨go, 0, none⟩) zl c9), (76, fun vs => .int .i64 (k : Int))] 4 4 (fv := fun vs => .pointer (some ⟨go, k, none⟩)) rfl rfl (wt_none rfl) (fun _ => rfl) (fun _ => rfl) rfl rfl (by kernel_rfl) (by kernel_rfl) ⟨rd_on (p := 75) 2 2 (fun _ => rfl) (fun _ => rfl) (by kernel_rfl) rfl, rd_on (p := 76) 3 3 (fun _ => rfl) (fun _ => rfl) (by kernel_rfl) rfl, trivial⟩ (fun a w s vs hm hs h e => by
           obtain ⟨e75, e76, _⟩ := e
           replace e75 : a.tmps[75]? = some (.slice (some ⟨go, 0, none⟩) zl c9) := e75
           replace e76 : a.tmps[76]? = some (.int .i64 (k : Int)) := e76
           have hl := HLK.out; go_simp)) (steps_cons (gv_op 0 1 [(77, fun vs => .pointer (some ⟨go, k, none⟩))] 5 5 (fv := fun vs => VR) rfl rfl (wt_none rfl) (fun _ => rfl) (fun _ => rfl) rfl rfl (by kernel_rfl) (by kernel_rfl) ⟨rd_on (p := 77) 4 4 (fun _ => rfl) (fun _ => rfl) (by kernel_rfl) rfl, trivial⟩ (fun a w s vs hm hs h e => by
           obtain ⟨e77, _⟩ := e
           replace e77 : a.tmps[77]? = some (.pointer (some ⟨go, k, none⟩)) := e77
           have h1 : BSt wI w (ds ++ [r]) (.slice (some ⟨go, 0, none⟩) zl c9) := by
            rcases (by omega : s = 0 ∨ s = 1) with rfl | rfl <;> exact h.1
           have hs := h1.cell.1
           rw [HVR.out, HDK.out] at hs
           go_simp)) (steps_cons (gv_op 0 0 [(12, fun vs => .pointer (some ⟨gb, 0, none⟩))] 6 6 (fv := fun vs => .agg CX) rfl rfl (wt_none rfl) (fun _ => rfl) (fun _ => rfl) rfl rfl (by kernel_rfl) (by kernel_rfl) ⟨rd_off (p := 12) (fun _ => rfl) rfl, trivial⟩ (fun a w s vs hm hs h e => by
           obtain rfl : s = 0 := by omega
           obtain ⟨e12, _⟩ := e
           replace e12 : a.tmps[12]? = some (.pointer (some ⟨gb, 0, none⟩)) := e12
           exact exec_load_row 41 (.tmp 12) rfl (eval_of e12) h.2.1 Tryd.underlying41 rfl HXS.out)) (steps_cons (gv_gen [(79, fun vs => .agg CX)] 7 7 0 rfl rfl (wt_none rfl) rfl (fun _ => rfl) (fun _ _ => rfl) (fun _ => rfl) rfl (by kernel_rfl) ⟨rd_on (p := 79) 6 6 (fun _ => rfl) (fun _ => rfl) (by kernel_rfl) rfl, trivial⟩ (fun a w K vs h e hw hK => by
           obtain ⟨e79, _⟩ := e
           replace e79 : a.tmps[79]? = some (.agg CX) := e79
           obtain ⟨h1, h2, _⟩ := h
           exact value_ (w1 := w.alloc (.cells CX 41)) (v := .slice (some ⟨w.heap.size, 0, none⟩) 1 1) hw rfl (by rw [← HXE.out]; exact exec_one 79 x L rfl (by rw [HXE.out]; exact e79)) (hK _ _ ⟨h1.below (below_alloc (Below.refl _ _) _), blk_alloc h2 _, w.heap.size, rfl, by rw [← HXE.out]; exact cv_one w x L⟩))) (steps_cons (gv_gen [(78, fun vs => VR), (80, fun vs => vs 1)] 8 8 1 rfl rfl (wt_none rfl) rfl (fun _ => rfl) (fun _ _ => rfl) (fun _ => rfl) rfl (by kernel_rfl) ⟨rd_on (p := 78) 5 5 (fun _ => rfl) (fun _ => rfl) (by kernel_rfl) rfl, rd_on (p := 80) 7 7 (fun _ => rfl) (fun _ => rfl) (by kernel_rfl) rfl, trivial⟩ (fun a w K vs h e hw hK => by
           obtain ⟨e78, e80, _⟩ := e
           replace e78 : a.tmps[78]? = some (VR) := e78
           replace e80 : a.tmps[80]? = some (vs 1) := e80
           obtain ⟨h1, h2, gs, hv, hC⟩ := h
           refine Kd.R_append_rows_step cvK (Rr := cvK.K w) (w0 := wI) (W := w) wI.heap.size hw _ _ 24 41 (.agg zerV) 152 rfl Tryd.underlying24 info_cv rfl (by decide) (by decide) VR r.2 [(x, L)] (some ⟨gs, 0, none⟩) 1 1 (fun _ => True) (fun _ => False) (eval_of e78) ((eval_of e80).trans hv) (by rw [← HVR.out]; exact h1.own r (List.mem_append_right _ (List.mem_singleton_self _))) hC (fun _ _ h => h) (fun _ h => h.elim) (fun _ _ => trivial) h1.bl h1.bl.size (by have := HRL.out; omega) ?_
           intro v1 w1 hR1 hB1 hG1 hat
           exact hK v1 w1 (h1.app HXC.out hR1 (by rw [HVR.out]; exact hG1) (by rw [HVR.out]; exact hat) hB1))) (steps_cons (gv_op 2 2 [(73, fun vs => .slice (some ⟨go, 0, none⟩) zl c9), (74, fun vs => .int .i64 (k : Int))] 9 9 (fv := fun vs => .pointer (some ⟨go, k, none⟩)) rfl rfl (wt_none rfl) (fun _ => rfl) (fun _ => rfl) rfl rfl (by kernel_rfl) (by kernel_rfl) ⟨rd_on (p := 73) 0 0 (fun _ => rfl) (fun _ => rfl) (by kernel_rfl) rfl, rd_on (p := 74) 1 1 (fun _ => rfl) (fun _ => rfl) (by kernel_rfl) rfl, trivial⟩ (fun a w s vs hm hs h e => by
           obtain rfl : s = 2 := by omega
           obtain ⟨e73, e74, _⟩ := e
           replace e73 : a.tmps[73]? = some (.slice (some ⟨go, 0, none⟩) zl c9) := e73
           replace e74 : a.tmps[74]? = some (.int .i64 (k : Int)) := e74
           have hl := HLK.out; go_simp)) (steps_cons (gv_store (f := fun vs W => W.setCell ⟨go, k, none⟩ (vs 2)) [(82, fun vs => .pointer (some ⟨go, k, none⟩)), (81, fun vs => vs 2)] 10 2 rfl rfl (wt_none rfl) rfl (fun _ => rfl) rfl (by kernel_rfl) ⟨rd_on (p := 82) 9 9 (fun _ => rfl) (fun _ => rfl) (by kernel_rfl) rfl, rd_on (p := 81) 8 8 (fun _ => rfl) (fun _ => rfl) (by kernel_rfl) rfl, trivial⟩ (fun a w vs h e => by
           obtain ⟨e82, e81, _⟩ := e
           replace e82 : a.tmps[82]? = some (.pointer (some ⟨go, k, none⟩)) := e82
           replace e81 : a.tmps[81]? = some (vs 2) := e81
           obtain ⟨g2, c2, hv2, _, _⟩ := (Kd.R_own h.last).elim fun _ h => h.form (by rw [List.length_append]; simp)
           have hf := (show w.frozen? ⟨go, k, none⟩ = false from by have h9 := h.out; rw [← HDK.out]; exact (BSt.cell2 h9).2)
           have hs := (show w.cell? ⟨go, k, none⟩ = some VR from by have h9 := h.out; rw [← HDK.out, ← HVR.out]; exact (BSt.cell2 h9).1)
           rw [hv2] at e81 ⊢
           go_simp; first | done | rfl) (fun vs w h => by have h9 := h.store (n := zl) (cap := c9) rfl; rw [HDK.out] at h9; exact h9)) steps_nil))))))))))
         intro vs W9 hX9
         obtain ⟨r', hr', hv', hS9⟩ := hX9
         simp only [putSel, if_true, Act.put, List.setIfInBounds_toArray, List.set_cons_zero, List.set_cons_succ]
         rw [← hv']
         generalize vs 1 = u80 at *
         have HS9 := Lh hS9
         have HR9 := Lh hr'
         clear hS9 hr' hv' vs HST HBX HXS HLK HVR
         unfold encR
         generalize (Option.map (fun g => ⟨g, 0, none⟩) r'.1.1 : Option Addr) = Ar at *
         generalize r'.2.length = nr at *
         have hw9 : wrap64 ((lf : Int) - (sz : Int)) = ((lf - sz : Nat) : Int) := by have h1 := HMT.out; have h2 := HLF.out; unfold wrap64; omega
         go_wp2
         go_roundw
         case rel => exact ⟨i + 1, ds ++ [r'], lf - sz, by omega, by first | rfl | exact congrArg _ hw9 | rw [hw9], by go_num, HRN.out r' HR9.out, HS9⟩
         case measure => simp [intOf]; omega
     ·have hz : decide ((m : Int) < (sq : Int)) = true := decide_eq_true (by have h1 := HSQ.out; omega)
      have hzn : decide (m < sq) = true := decide_eq_true (by have h1 := HSQ.out; omega)
      have HD2 := Lh (show D = ([], 2) by rw [← HDE.out, if_neg (fun h => hfit (by rw [← HSX.out]; exact h x HXM.out))])
      have HBF := Lh HST.out.bl
      clear hfit HDE HST HBX HREL HINV
      go_wp2
      go_ret2
      rw [HD2.out]
      exact ⟨_, rfl, RowsR.nil _ _ HBF.out⟩
    ·obtain rfl : i = l.length := by omega
     have hrel := HREL.out
     rw [List.take_length] at hrel
     have HDF := Lh (show D = (outB (rowsB m l), 0) by rw [← HDE.out, if_pos hrel.2.2])
     obtain ⟨A9, c9, hv9, hle9, hC9⟩ := HS.out.read
     have HRF := Lh (show RowsR wI wr u9 (outB (rowsB m l)) from ⟨A9, c9, by rw [hv9, ← hrel.1, List.length_map], by rw [← hrel.1, List.length_map]; exact hle9, by rw [← hrel.1, List.length_map]; exact hC9, HS.out.bl⟩)
     obtain ⟨A8, c8, hv8⟩ := Kd.R_slice HS.out.out
     subst hv8
     clear hrel hv9 hle9 hC9 HS HREL HDE hi hlt
     generalize zs.length = zl at *
     go_wp2
     go_ret2
     rw [HDF.out]
     exact ⟨_, rfl, HRF.out⟩
end Go.Proofs.YtdlamomabonkjaaDoor.Pk
end
section
namespace Go.Proofs.YtdlamomabonkjaaDoor.Pk
open Go.RowKit YtdlamomabonkjaaDoorW.PrintWords YtdlamomabonkjaaDoorW.PrintLast Base PCh ParDec Ch
def rbbT21 : Bool × List (List Nat × List Nat) := (true, [([], []), ([], []), ([1], [1]), ([2], [2]), ([], []), ([], []), ([5], [5]), ([6], [6]), ([4, 7], [4, 7]), ([8], [8]), ([], []), ([], []), ([10, 11], [10, 11]), ([12], [12]), ([13], [13]), ([9, 14], [9, 14]), ([0, 3, 0, 1, 2, 3, 4, 5, 6, 7, 8, 9, 10, 11, 12, 13, 14, 15], [0, 3]), ([16, 15, 15, 0, 1, 2, 3, 4, 5, 6, 7, 8, 9, 10, 11, 12, 13, 14, 15], [15, 16])])
def rbbB21 : List Nat := [0, 0, 2, 6, 0, 0, 32, 96, 240, 496, 0, 0, 3072, 7168, 15360, 32752, 65535, 131071]
theorem rbbtab21 : Go.Proofs.YtdlamomabonkjaaDoorW.PrintLast.rtab .any (Go.Proofs.YtdlamomabonkjaaDoorW.PrintLast.opsOf Tryd.f24 21) = rbbT21 := by kernel_rfl
theorem rbbbits21 : Go.Proofs.YtdlamomabonkjaaDoorW.PrintLast.waitsOk rbbT21.2 rbbB21 = true := by kernel_rfl
theorem raw_one (W : World) (CX : Array Value) (x : Chk) (L : Lay) : rawR.C ((W.alloc (.cells CX 41)).alloc (.cells #[.slice (some ⟨W.heap.size, 0, none⟩) 1 1] 24)) (some ⟨W.heap.size + 1, 0, none⟩) 1 [((some W.heap.size, 1), [(x, L)])] := by
 refine ⟨rfl, by decide, fun _ => ⟨_, rfl, fun j p hj => ?_⟩⟩
 match j, hj with
 | 0, hj =>
  obtain rfl : (((some W.heap.size, 1), [(x, L)]) : RW) = p := by simpa using hj
  refine ⟨[.slice (some ⟨W.heap.size, 0, none⟩) 1 1], rfl, rfl, fun i u hu => ?_⟩
  rw [Nat.zero_mul, Nat.zero_add, add_plain]
  have h := blk_cell (blk_new (W.alloc (.cells CX 41)) (.cells #[.slice (some ⟨W.heap.size, 0, none⟩) 1 1] 24)) i
  rw [World.size_alloc] at h
  rw [h]
  simpa using hu
 | j + 1, hj => simp at hj
set_option maxHeartbeats 8000000 in
theorem rbundle_calls (wI : World) (mtu : Int) (A : Option Addr) (c : Nat) (l : List Chk) (hl : Kd.C k41 wI A l.length l) (hc : l.length ≤ c) (hok : OkL l) :
  Calls Tryd.prog 24 #[.int .i64 mtu, .slice A l.length c] wI fun e w' => ∃ v, e = .returned (.tuple #[v, .int .i64 (bundD mtu l).2]) ∧ RowsR wI w' v (bundD mtu l).1 := by
 obtain ⟨D, hD⟩ : ∃ D, bundD mtu l = D := ⟨_, rfl⟩
 rw [hD]
 unfold bundD at hD
 have HL0 := Lh hl
 have HOK := Lh hok
 have hmx := hl.2.1
 clear hl hok
 by_cases hm1 : mtu < 100
 ·rw [if_pos (Or.inl hm1)] at hD
  have HD := Lh hD.symm
  have hz : decide (mtu < 100) = true := decide_eq_true hm1
  clear hD hm1 hmx
  generalize l.length = n at *
  go_enter Tryd.func24, Tryd.ntmps24
  go_wp2
  go_ret2
  rw [HD.out]
  exact ⟨_, rfl, RowsR.nil _ _ (Below.refl _ _)⟩
 by_cases hm2 : 1500 < mtu
 ·rw [if_pos (Or.inr hm2)] at hD
  have HD := Lh hD.symm
  have hz : decide (mtu < 100) = false := decide_eq_false hm1
  have hz2 : decide (1500 < mtu) = true := decide_eq_true hm2
  clear hD hm1 hm2 hmx
  generalize l.length = n at *
  go_enter Tryd.func24, Tryd.ntmps24
  go_wp2
  go_ret2
  rw [HD.out]
  exact ⟨_, rfl, RowsR.nil _ _ (Below.refl _ _)⟩
 rw [if_neg (by omega)] at hD
 obtain ⟨m, hmm⟩ : ∃ m : Nat, mtu = (m : Int) := ⟨mtu.toNat, by omega⟩
 subst hmm
 rw [Int.toNat_natCast] at hD
 have HMT := Lh (show 100 ≤ m ∧ m ≤ 1500 by omega)
 have hz : decide ((m : Int) < 100) = false := decide_eq_false hm1
 have hz2 : decide ((1500 : Int) < (m : Int)) = false := decide_eq_false hm2
 have hzn : decide (1500 < m) = false := decide_eq_false (by omega)
 have HD := Lh hD
 clear hD hm1 hm2
 go_enter Tryd.func24, Tryd.ntmps24
 go_wp2
 clear hz hz2 hzn
 go_loopw [6] (fun v6 W => ∃ i : Nat, i ≤ l.length ∧ v6 = .int .i64 i ∧ Hid (chkAll l = chkAll (l.drop i)) ∧ Hid (Below wI.heap.size wI W)) (fun v6 _ => l.length - (intOf v6).toNat)
 case atStart => exact ⟨0, by omega, rfl, rfl, Below.refl _ _⟩
 case round =>
  obtain ⟨i, hi, rfl, HS, HB⟩ := hrel
  by_cases hlt : i < l.length
  ·obtain ⟨ad, x, L, e9, hd, hxm, hcell, hx⟩ := chk_at HL0.out i hlt
   have e9' := e9
   subst e9
   have HXC := Lh hx
   have HXS := Lh (chk_size x L)
   have HCX := Lh (fun j v hv => pw_cell_below HB.out (hcell j v hv))
   have HCK := Lh (rcheck_calls wr x L (hx.below HB.out) (HOK.out.2 x hxm))
   have hS := HS.out
   rw [hd, chkAll] at hS
   have HS2 := Lh hS
   clear hS hcell hx hd hxm e9' HXC HS
   generalize checkD x = ck at *
   generalize CV x L = CX at *
   go_wp2_with ((with_reducible refine gate_dst (N := 28) rfl ?_); go_must (refine wpList_load_cells rfl 41 (.tmp 27) rfl rfl CX _ (fun j v hv => HCX.out j v hv) Tryd.underlying41 rfl HXS.out ?_))
   refine HCK.out.mono ?_
   rintro e W2 ⟨rfl, hB2⟩
   have HB2 := Lh (below_then HB.out HB.out.size hB2)
   clear hB2 HCK HCX HB
   by_cases hck : ck = 0
   ·subst hck
    have HS3 := Lh (show chkAll l = chkAll (l.drop (i + 1)) by rw [HS2.out, if_pos rfl])
    clear HS2
    go_wp2
    go_roundw
    case rel => exact ⟨i + 1, by omega, by go_num, HS3, HB2⟩
    case measure => simp [intOf]; omega
   ·have hz : (ck != 0) = true := by simp [hck]
    have HS3 := Lh (show chkAll l = ck by rw [HS2.out, if_neg hck])
    have HD2 := Lh (show D = ([], ck) by rw [← HD.out, HS3.out, if_neg hck])
    clear HS2 HS3 hck HD
    go_wp2
    go_ret2
    rw [HD2.out]
    exact ⟨_, rfl, RowsR.nil _ _ HB2.out⟩
  ·obtain rfl : i = l.length := by omega
   have hck : chkAll l = 0 := by rw [HS.out, List.drop_length]; rfl
   have HCK := Lh (fun x (hx : x ∈ l) => chkAll_mem hck hx)
   have HDE := Lh (show (if (∀ x ∈ l, 12 + sizeD x ≤ m) then (outB (rowsB m l), 0) else ([], 2)) = D by rw [← HD.out, if_pos hck])
   clear hck hlt hi HS HD
   go_wp2
   go_loopw [8] (fun v8 W => ∃ i : Nat, i ≤ l.length ∧ v8 = .int .i64 i ∧ Hid (∀ x ∈ l.take i, 12 + sizeD x ≤ m) ∧ Hid (Below wI.heap.size wI W)) (fun v8 _ => l.length - (intOf v8).toNat)
   case atStart => exact ⟨0, by omega, rfl, (show ∀ x ∈ l.take 0, 12 + sizeD x ≤ m from fun x h => by simp at h), HB.out⟩
   clear HB
   case round =>
    obtain ⟨i, hi, rfl, HS, HB⟩ := hrel
    by_cases hlt : i < l.length
    ·obtain ⟨ad, x, L, e9, hd, hxm, hcell, hx⟩ := chk_at HL0.out i hlt
     have e9' := e9
     subst e9
     have HXC := Lh hx
     have HXS := Lh (chk_size x L)
     have HCX := Lh (fun j v hv => pw_cell_below HB.out (hcell j v hv))
     have HSZ := Lh (rsize_calls wr x L (hx.below HB.out) (HOK.out.2 x hxm))
     have HSB := Lh (size_le x (HCK.out x hxm))
     have HDX := Lh hd
     have HXM := Lh hxm
     clear hcell hx hd hxm e9' HXC
     obtain ⟨sz, hsz⟩ : ∃ sz, sizeD x = sz := ⟨_, rfl⟩
     have HSX := Lh hsz
     rw [hsz] at HSZ HSB
     clear hsz
     generalize CV x L = CX at *
     obtain ⟨sq, hsq⟩ : ∃ sq : Nat, sz + 12 = sq := ⟨_, rfl⟩
     have HSQ := Lh hsq
     have hw2 : wrap64 ((sz : Int) + 12) = (sq : Int) := by have h1 := HSB.out; unfold wrap64; omega
     clear hsq
     by_cases hfit : sq ≤ m
     ·have hz : decide ((m : Int) < (sq : Int)) = false := decide_eq_false (by omega)
      have hzn : decide (m < sq) = false := decide_eq_false (by omega)
      have HT := Lh (show ∀ y ∈ l.take (i + 1), 12 + sizeD y ≤ m from fun y hy => by
       rw [take_next HDX.out] at hy
       rcases List.mem_append.1 hy with hy | hy
       ·exact HS.out y hy
       ·rw [List.mem_singleton.1 hy, HSX.out]
        have := HSQ.out
        omega)
      clear hfit
      go_wp2_with ((with_reducible refine gate_dst (N := 42) rfl ?_); go_must (refine wpList_load_cells rfl 41 (.tmp 41) rfl rfl CX _ (fun j v hv => HCX.out j v hv) Tryd.underlying41 rfl HXS.out ?_))
      refine HSZ.out.mono ?_
      rintro e W2 ⟨rfl, hB2⟩
      have HB2 := Lh (below_then HB.out HB.out.size hB2)
      clear hB2 HSZ HCX HB HS
      go_wp2
      go_roundw
      case rel => exact ⟨i + 1, by omega, by go_num, HT, HB2⟩
      case measure => simp [intOf]; omega
     ·have hz : decide ((m : Int) < (sq : Int)) = true := decide_eq_true (by omega)
      have hzn : decide (m < sq) = true := decide_eq_true (by omega)
      have HD2 := Lh (show D = ([], 2) by rw [← HDE.out, if_neg (fun h => hfit (by have h1 := h x HXM.out; have h2 := HSX.out; have h3 := HSQ.out; omega))])
      clear hfit HDE HS
      go_wp2_with ((with_reducible refine gate_dst (N := 42) rfl ?_); go_must (refine wpList_load_cells rfl 41 (.tmp 41) rfl rfl CX _ (fun j v hv => HCX.out j v hv) Tryd.underlying41 rfl HXS.out ?_))
      refine HSZ.out.mono ?_
      rintro e W2 ⟨rfl, hB2⟩
      have HB2 := Lh (below_then HB.out HB.out.size hB2)
      clear hB2 HSZ HCX HB
      go_wp2
      go_ret2
      rw [HD2.out]
      exact ⟨_, rfl, RowsR.nil _ _ HB2.out⟩
    ·obtain rfl : i = l.length := by omega
     have hall : ∀ x ∈ l, 12 + sizeD x ≤ m := by have h1 := HS.out; rw [List.take_length] at h1; exact h1
     have HALL := Lh hall
     have HDF := Lh (show D = (outB (rowsB m l), 0) by rw [← HDE.out, if_pos hall])
     clear hall HDE HS hi hlt
     go_wp2
     go_loopw [9, 10, 11] (fun v9 v10 v11 W => ∃ (i : Nat) (zs : List RW) (lf : Nat), i ≤ l.length ∧ v10 = .int .i64 (lf : Int) ∧ v11 = .int .i64 (i : Int) ∧ Hid (RelB m (l.take i) zs lf) ∧ Hid (BSt wI W zs v9)) (fun _ _ v11 _ => l.length - (intOf v11).toNat)
     case atStart => exact ⟨0, [], 0, by omega, rfl, rfl, RelB.nil m, BSt.nil _ _ HB.out⟩
     clear HB
     case round =>
      obtain ⟨i, zs, lf, hi, rfl, rfl, HREL, HS⟩ := hrel
      by_cases hlt : i < l.length
      ·obtain ⟨ad, x, L, e9, hd, hxm, hcell, hx⟩ := chk_at HL0.out i hlt
       have e9' := e9
       subst e9
       have HXC := Lh hx
       have HXS := Lh (chk_size x L)
       have HCI := Lh (fun (W : World) (h : Below wI.heap.size wI W) j v hv => pw_cell_below h (hcell j v hv))
       have HSZC := Lh (fun (W : World) (h : Below wI.heap.size wI W) => rsize_calls W x L (hx.below h) (HOK.out.2 x hxm))
       have HDX := Lh hd
       have HINV := Lh (show BInv m (rowsB m (l.take i)) (l.take i) from (binv_rows (l.take i) (fun y hy => HCK.out y (List.mem_of_mem_take hy)) HREL.out.2.2).1)
       have HSB := Lh (size_le x (HCK.out x hxm))
       have HXM := Lh hxm
       have HFX := Lh (HALL.out x hxm)
       have HIL := Lh (show ¬ l.length ≤ i by omega)
       clear hcell hx hd hxm e9'
       obtain ⟨sz, hsz⟩ : ∃ sz, sizeD x = sz := ⟨_, rfl⟩
       have HSX := Lh hsz
       rw [hsz] at HSZC HSB HFX
       clear hsz
       obtain ⟨CX, hCX⟩ : ∃ CX, CV x L = CX := ⟨_, rfl⟩
       have HXE := Lh hCX
       have HX0 := Lh (show CX[0]? = some (.int .u8 x.f0) by rw [← hCX]; rfl)
       rw [hCX] at HXS HCI HSZC
       clear hCX
       obtain ⟨A9, c9, hv9⟩ := Kd.R_slice HS.out.out
       subst hv9
       have HZL := Lh (HREL.out.len HINV.out (HCK.out) hmx HOK.out.1)
       obtain ⟨zl, hzl⟩ : ∃ zl, zs.length = zl := ⟨_, rfl⟩
       have HZLE := Lh hzl
       rw [hzl] at HS ⊢
       clear hzl
       have HCX := Lh (fun j v hv => HCI.out wr HS.out.bl j v hv)
       go_wp2_with ((with_reducible refine gate_dst (N := 56) rfl ?_); go_must (refine wpList_load_cells rfl 41 (.tmp 55) rfl rfl CX _ (fun j v hv => HCX.out j v hv) Tryd.underlying41 rfl HXS.out ?_))
       refine (HSZC.out wr HS.out.bl).mono ?_
       rintro e W2 ⟨rfl, hB2⟩
       have HST := Lh (HS.out.below hB2)
       clear hB2 HSZC HCX HS
       have hk0 : W2.cell? (ad.add (i * 15)) = some (.int .u8 x.f0) := HCI.out W2 HST.out.bl 0 _ (by rw [Array.getElem?_toList]; exact HX0.out)
       by_cases hi0 : i = 0
       ·have hz0 : decide ((0 : Int) < (i : Int)) = false := decide_eq_false (by omega)
        have hz0n : decide (0 < i) = false := decide_eq_false (by omega)
        have HOPN := Lh (Or.inl (by have h1 := HREL.out.1; rw [hi0] at h1; exact List.map_eq_nil_iff.1 h1) : zs = [] ∨ lf < sizeD x ∨ ∃ ds r, zs = ds ++ [r] ∧ apartB (fsts r.2 ++ [x]) = true)
        clear hi0 hk0
        go_upto_region 23 with (fail)
        clear hz0 hz0n
        have HCX := Lh (fun j v hv => HCI.out W2 HST.out.bl j v hv)
        have HSTX := Lh ((HST.out.below (below_alloc (Below.refl _ _) (.cells CX 41))).below (below_alloc (Below.refl _ _) (.cells #[.slice (some ⟨W2.heap.size, 0, none⟩) 1 1] 24)))
        have HRD := Lh (raw_one W2 CX x L)
        have HOZ := Lh (show OwnZ ((W2.alloc (.cells CX 41)).alloc (.cells #[.slice (some ⟨W2.heap.size, 0, none⟩) 1 1] 24)) wI.heap.size ((some W2.heap.size, 1), [(x, L)]) from by
         rw [← HXE.out]
         exact (own_one W2 x L wI.heap.size HST.out.bl.size).below (below_alloc (Below.refl _ _) _))
        obtain ⟨lf2, hlf2⟩ : ∃ q : Nat, m - 12 = q := ⟨_, rfl⟩
        obtain ⟨lf3, hlf3⟩ : ∃ q : Nat, lf2 - sz = q := ⟨_, rfl⟩
        have hw12 : wrap64 ((m : Int) - 12) = (lf2 : Int) := by have h1 := HMT.out; unfold wrap64; omega
        have hw13 : wrap64 ((lf2 : Int) - (sz : Int)) = (lf3 : Int) := by have h1 := HMT.out; have h2 := HFX.out; unfold wrap64; omega
        have HRN := Lh (show RelB m (l.take (i + 1)) (zs ++ [((some W2.heap.size, 1), [(x, L)])]) lf3 from by
         rw [take_next HDX.out, ← hlf3, ← hlf2, ← HSX.out]
         exact HREL.out.open_ HINV.out (by rw [HSX.out]; exact HFX.out) HOPN.out rfl)
        clear hlf2 hlf3 HREL HINV HOPN
        go_wp2_with (first | ((with_reducible refine gate_dst (N := 108) rfl ?_); go_must (refine wpList_load_cells rfl 41 (.tmp 107) rfl rfl CX _ (fun j v hv => HCX.out j v hv) Tryd.underlying41 rfl HXS.out ?_)) | ((with_reducible refine gate_dst (N := 109) rfl ?_); go_must (refine wpList_one rfl 108 rfl CX rfl x L HXE.out ?_)) | (at_builtin; go_must (refine Kd.R_append_rows rawR (Rr := rawR.K wI) (w0 := wI) (W := (W2.alloc (.cells CX 41)).alloc (.cells #[.slice (some ⟨W2.heap.size, 0, none⟩) 1 1] 24)) wI.heap.size rfl _ _ 55 24 (.slice none 0 0) 24 rfl Tryd.underlying55 info_sl rfl (by decide) (by decide) (.slice A9 zl c9) zs [((some W2.heap.size, 1), [(x, L)])] (some ⟨W2.heap.size + 1, 0, none⟩) 1 1 (fun _ => True) (fun _ => False) rfl rfl HSTX.out.out HRD.out (fun _ _ h => h) (fun _ h => h.elim) (fun _ _ => trivial) HSTX.out.bl HSTX.out.bl.size (by have := HZL.out; omega) ?_); (intro v1 w1 hR1 hB1 hG1 _; have HR1 := Lh hR1; have HB1 := Lh hB1; have HG1 := Lh hG1; clear hR1 hB1 hG1; refine RowKit.Hid.out ?_)))
        refine Lh ?_
        have HS9 := Lh (HST.out.opened1 HXC.out HSTX.out HOZ.out HR1.out HG1.out HB1.out)
        obtain ⟨go, capo, hv1, _⟩ := HS9.out.last
        subst hv1
        generalize zs.length = zq at *
        clear HCX HSTX HRD HOZ HR1 HG1 HB1 HST
        go_wp2
        try rw [hw12]
        try rw [hw13]
        go_roundw
        case rel => exact ⟨i + 1, zs ++ [((some W2.heap.size, 1), [(x, L)])], lf3, by omega, by first | rfl | exact congrArg _ hw13 | rw [hw13], by go_num, HRN.out, HS9.out⟩
        case measure => simp [intOf]; omega
       obtain ⟨j, hj⟩ : ∃ j, i = j + 1 := ⟨i - 1, by omega⟩
       have hltj : j < l.length := by omega
       obtain ⟨ad2, y, M, e8, hdy, hym, hcy, hy⟩ := chk_at HL0.out j hltj
       injection e8 with e8
       subst e8
       obtain ⟨ds, r, hdr, hap⟩ := HREL.out.prev HINV.out hj hdy x
       have HDR := Lh hdr
       have HAP := Lh hap
       have hky : (CV y M)[0]? = some (.int .u8 y.f0) := rfl
       have HCY := Lh (fun (W : World) (h : Below wI.heap.size wI W) => (show W.cell? (ad.add (j * 15)) = some (.int .u8 y.f0) from pw_cell_below h (hcy 0 _ (by rw [Array.getElem?_toList]; exact hky))))
       have HWJ := Lh (show wrap64 ((i : Int) - 1) = (j : Int) by unfold wrap64; omega)
       have hz0 : decide ((0 : Int) < (i : Int)) = true := decide_eq_true (by omega)
       have hz0n : decide (0 < i) = true := decide_eq_true (by omega)
       have HIJ := Lh (show i - 1 = j ∧ ((i : Int) - 1).toNat = j ∧ (1 ≤ (i : Int) ∧ (i : Int) - 1 < (l.length : Int)) by omega)
       clear hdy hym hcy hy hky hdr hap hj hi0
       by_cases hgt : sz ≤ lf
       ·have hz1 : decide ((sz : Int) ≤ (lf : Int)) = true := decide_eq_true (by omega)
        have hz1n : decide (sz ≤ lf) = true := decide_eq_true hgt
        have HLE := Lh hgt
        clear hgt
        go_wp2_with fail
        have HAX := Lh (fun W => ralone_calls x.f0 W)
        have HAY := Lh (fun W => ralone_calls y.f0 W)
        obtain ⟨ax, hax⟩ : ∃ ax, aloneK x.f0 = ax := ⟨_, rfl⟩
        obtain ⟨ay, hay⟩ : ∃ ay, aloneK y.f0 = ay := ⟨_, rfl⟩
        have HAP2 := Lh (show apartB (fsts r.2 ++ [x]) = (ax || ay) by rw [HAP.out, hax, hay])
        rw [hax] at HAX
        rw [hay] at HAY
        clear hax hay HAP
        refine (HAX.out _).mono ?_
        rintro e W3 ⟨rfl, hD3⟩
        replace HST := Lh (HST.out.below (drawn_below hD3))
        clear hD3 hk0 HAX
        cases ax with
        | true =>
         have HOPN := Lh (Or.inr (Or.inr ⟨ds, r, HDR.out, HAP2.out⟩) : zs = [] ∨ lf < sizeD x ∨ ∃ ds r, zs = ds ++ [r] ∧ apartB (fsts r.2 ++ [x]) = true)
         go_upto_region 23 with (fail)
         clear hz0 hz0n hz1 hz1n
         have HCX := Lh (fun j v hv => HCI.out W3 HST.out.bl j v hv)
         have HSTX := Lh ((HST.out.below (below_alloc (Below.refl _ _) (.cells CX 41))).below (below_alloc (Below.refl _ _) (.cells #[.slice (some ⟨W3.heap.size, 0, none⟩) 1 1] 24)))
         have HRD := Lh (raw_one W3 CX x L)
         have HOZ := Lh (show OwnZ ((W3.alloc (.cells CX 41)).alloc (.cells #[.slice (some ⟨W3.heap.size, 0, none⟩) 1 1] 24)) wI.heap.size ((some W3.heap.size, 1), [(x, L)]) from by
          rw [← HXE.out]
          exact (own_one W3 x L wI.heap.size HST.out.bl.size).below (below_alloc (Below.refl _ _) _))
         obtain ⟨lf2, hlf2⟩ : ∃ q : Nat, m - 12 = q := ⟨_, rfl⟩
         obtain ⟨lf3, hlf3⟩ : ∃ q : Nat, lf2 - sz = q := ⟨_, rfl⟩
         have hw12 : wrap64 ((m : Int) - 12) = (lf2 : Int) := by have h1 := HMT.out; unfold wrap64; omega
         have hw13 : wrap64 ((lf2 : Int) - (sz : Int)) = (lf3 : Int) := by have h1 := HMT.out; have h2 := HFX.out; unfold wrap64; omega
         have HRN := Lh (show RelB m (l.take (i + 1)) (zs ++ [((some W3.heap.size, 1), [(x, L)])]) lf3 from by
          rw [take_next HDX.out, ← hlf3, ← hlf2, ← HSX.out]
          exact HREL.out.open_ HINV.out (by rw [HSX.out]; exact HFX.out) HOPN.out rfl)
         clear hlf2 hlf3 HREL HINV HOPN
         go_wp2_with (first | ((with_reducible refine gate_dst (N := 108) rfl ?_); go_must (refine wpList_load_cells rfl 41 (.tmp 107) rfl rfl CX _ (fun j v hv => HCX.out j v hv) Tryd.underlying41 rfl HXS.out ?_)) | ((with_reducible refine gate_dst (N := 109) rfl ?_); go_must (refine wpList_one rfl 108 rfl CX rfl x L HXE.out ?_)) | (at_builtin; go_must (refine Kd.R_append_rows rawR (Rr := rawR.K wI) (w0 := wI) (W := (W3.alloc (.cells CX 41)).alloc (.cells #[.slice (some ⟨W3.heap.size, 0, none⟩) 1 1] 24)) wI.heap.size rfl _ _ 55 24 (.slice none 0 0) 24 rfl Tryd.underlying55 info_sl rfl (by decide) (by decide) (.slice A9 zl c9) zs [((some W3.heap.size, 1), [(x, L)])] (some ⟨W3.heap.size + 1, 0, none⟩) 1 1 (fun _ => True) (fun _ => False) rfl rfl HSTX.out.out HRD.out (fun _ _ h => h) (fun _ h => h.elim) (fun _ _ => trivial) HSTX.out.bl HSTX.out.bl.size (by have := HZL.out; omega) ?_); (intro v1 w1 hR1 hB1 hG1 _; have HR1 := Lh hR1; have HB1 := Lh hB1; have HG1 := Lh hG1; clear hR1 hB1 hG1; refine RowKit.Hid.out ?_)))
         refine Lh ?_
         have HS9 := Lh (HST.out.opened1 HXC.out HSTX.out HOZ.out HR1.out HG1.out HB1.out)
         obtain ⟨go, capo, hv1, _⟩ := HS9.out.last
         subst hv1
         generalize zs.length = zq at *
         clear HCX HSTX HRD HOZ HR1 HG1 HB1 HST
         go_wp2
         try rw [hw12]
         try rw [hw13]
         go_roundw
         case rel => exact ⟨i + 1, zs ++ [((some W3.heap.size, 1), [(x, L)])], lf3, by omega, by first | rfl | exact congrArg _ hw13 | rw [hw13], by go_num, HRN.out, HS9.out⟩
         case measure => simp [intOf]; omega
        | false =>
         have hwj := HWJ.out
         have hk1 := HCY.out W3 HST.out.bl
         have HLJ := Lh (show ¬ l.length ≤ j by omega)
         have hlj := HIJ.out.2.2
         have hk2 : W3.cell? (ad.add ((i - 1) * 15)) = some (.int .u8 y.f0) := by rw [HIJ.out.1]; exact hk1
         have hk3 : W3.cell? (ad.add (((i : Int) - 1).toNat * 15)) = some (.int .u8 y.f0) := by rw [HIJ.out.2.1]; exact hk1
         clear hwj
         go_wp2_with fail
         refine (HAY.out _).mono ?_
         rintro e W4 ⟨rfl, hD4⟩
         replace HST := Lh (HST.out.below (drawn_below hD4))
         clear hD4 hk1 hk2 hk3 HAY hlj
         cases ay with
         | true =>
          have HOPN := Lh (Or.inr (Or.inr ⟨ds, r, HDR.out, HAP2.out⟩) : zs = [] ∨ lf < sizeD x ∨ ∃ ds r, zs = ds ++ [r] ∧ apartB (fsts r.2 ++ [x]) = true)
          go_upto_region 23 with (fail)
          clear hz0 hz0n hz1 hz1n
          have HCX := Lh (fun j v hv => HCI.out W4 HST.out.bl j v hv)
          have HSTX := Lh ((HST.out.below (below_alloc (Below.refl _ _) (.cells CX 41))).below (below_alloc (Below.refl _ _) (.cells #[.slice (some ⟨W4.heap.size, 0, none⟩) 1 1] 24)))
          have HRD := Lh (raw_one W4 CX x L)
          have HOZ := Lh (show OwnZ ((W4.alloc (.cells CX 41)).alloc (.cells #[.slice (some ⟨W4.heap.size, 0, none⟩) 1 1] 24)) wI.heap.size ((some W4.heap.size, 1), [(x, L)]) from by
           rw [← HXE.out]
           exact (own_one W4 x L wI.heap.size HST.out.bl.size).below (below_alloc (Below.refl _ _) _))
          obtain ⟨lf2, hlf2⟩ : ∃ q : Nat, m - 12 = q := ⟨_, rfl⟩
          obtain ⟨lf3, hlf3⟩ : ∃ q : Nat, lf2 - sz = q := ⟨_, rfl⟩
          have hw12 : wrap64 ((m : Int) - 12) = (lf2 : Int) := by have h1 := HMT.out; unfold wrap64; omega
          have hw13 : wrap64 ((lf2 : Int) - (sz : Int)) = (lf3 : Int) := by have h1 := HMT.out; have h2 := HFX.out; unfold wrap64; omega
          have HRN := Lh (show RelB m (l.take (i + 1)) (zs ++ [((some W4.heap.size, 1), [(x, L)])]) lf3 from by
           rw [take_next HDX.out, ← hlf3, ← hlf2, ← HSX.out]
           exact HREL.out.open_ HINV.out (by rw [HSX.out]; exact HFX.out) HOPN.out rfl)
          clear hlf2 hlf3 HREL HINV HOPN
          go_wp2_with (first | ((with_reducible refine gate_dst (N := 108) rfl ?_); go_must (refine wpList_load_cells rfl 41 (.tmp 107) rfl rfl CX _ (fun j v hv => HCX.out j v hv) Tryd.underlying41 rfl HXS.out ?_)) | ((with_reducible refine gate_dst (N := 109) rfl ?_); go_must (refine wpList_one rfl 108 rfl CX rfl x L HXE.out ?_)) | (at_builtin; go_must (refine Kd.R_append_rows rawR (Rr := rawR.K wI) (w0 := wI) (W := (W4.alloc (.cells CX 41)).alloc (.cells #[.slice (some ⟨W4.heap.size, 0, none⟩) 1 1] 24)) wI.heap.size rfl _ _ 55 24 (.slice none 0 0) 24 rfl Tryd.underlying55 info_sl rfl (by decide) (by decide) (.slice A9 zl c9) zs [((some W4.heap.size, 1), [(x, L)])] (some ⟨W4.heap.size + 1, 0, none⟩) 1 1 (fun _ => True) (fun _ => False) rfl rfl HSTX.out.out HRD.out (fun _ _ h => h) (fun _ h => h.elim) (fun _ _ => trivial) HSTX.out.bl HSTX.out.bl.size (by have := HZL.out; omega) ?_); (intro v1 w1 hR1 hB1 hG1 _; have HR1 := Lh hR1; have HB1 := Lh hB1; have HG1 := Lh hG1; clear hR1 hB1 hG1; refine RowKit.Hid.out ?_)))
          refine Lh ?_
          have HS9 := Lh (HST.out.opened1 HXC.out HSTX.out HOZ.out HR1.out HG1.out HB1.out)
          obtain ⟨go, capo, hv1, _⟩ := HS9.out.last
          subst hv1
          generalize zs.length = zq at *
          clear HCX HSTX HRD HOZ HR1 HG1 HB1 HST
          go_wp2
          try rw [hw12]
          try rw [hw13]
          go_roundw
          case rel => exact ⟨i + 1, zs ++ [((some W4.heap.size, 1), [(x, L)])], lf3, by omega, by first | rfl | exact congrArg _ hw13 | rw [hw13], by go_num, HRN.out, HS9.out⟩
          case measure => simp [intOf]; omega
         | false =>
          have hrel := HREL.out
          rw [HDR.out] at hrel
          have hst := HST.out
          rw [HDR.out] at hst
          obtain ⟨go, capo, hv9, _⟩ := hst.last
          injection hv9 with e1 e2 e3
          subst e1 e3
          obtain ⟨k, hk⟩ : ∃ k : Nat, ds.length = k := ⟨_, rfl⟩
          have HDK := Lh hk
          have HLK := Lh (show ¬ zl ≤ k by omega)
          have HWK := Lh (show wrap64 ((zl : Int) - 1) = (k : Int) by have h1 := HZL.out; have h2 := HZLE.out; unfold wrap64; omega)
          have HRL := Lh (hrel.row HINV.out HOK.out.1).1
          have HST3 := Lh hst
          obtain ⟨VR, hVR⟩ : ∃ VR, encR r = VR := ⟨_, rfl⟩
          have HVR := Lh hVR
          have HLF := Lh (show sz ≤ lf ∧ lf ≤ 1500 from ⟨HLE.out, by
           have h1 := hrel.2.1
           have h2 := (HINV.out.gr (outB_last HINV.out hrel.1).2.2).2
           have h3 := HMT.out
           omega⟩)
          have HREL2 := Lh hrel
          have HRN := Lh (fun (r' : RW) (h : r'.2 = r.2 ++ [(x, L)]) => (show RelB m (l.take (i + 1)) (ds ++ [r']) (lf - sz) from by
           rw [take_next HDX.out, ← HSX.out]
           exact HREL2.out.stay HINV.out (by rw [HSX.out]; exact HFX.out) (by rw [HSX.out]; exact HLE.out) HAP2.out h))
          clear HST HREL HINV HREL2 hrel hst HDR e2 hk hVR HAP2 HCY HWJ HIJ HLJ
          have HST := HST3
          clear HST3
          go_upto_region 21 with (fail)
          clear hz0 hz0n hz1 hz1n
          refine grow_v (B := rbbB21) [0, 1, 2, 3, 4, 5, 6, 7, 8, 9, 10, 11, 12, 13, 14, 15, 16, 17] [14, 15, 17] (fun s vs W => match s with | 0 => BSt wI W (ds ++ [r]) (.slice (some ⟨go, 0, none⟩) zl c9) ∧ True | 1 => BSt wI W (ds ++ [r]) (.slice (some ⟨go, 0, none⟩) zl c9) ∧ ∃ gs, vs 1 = .slice (some ⟨gs, 0, none⟩) 1 1 ∧ cvK.C W (some ⟨gs, 0, none⟩) 1 [(x, L)] | 2 => AppP wI W (.slice (some ⟨go, 0, none⟩) zl c9) ds r x L (vs 2) | _ => ∃ r' : RW, r'.2 = r.2 ++ [(x, L)] ∧ encR r' = vs 2 ∧ BSt wI W (ds ++ [r']) (.slice (some ⟨go, 0, none⟩) zl c9)) (fun vs => [(0, 84, .slice (some ⟨go, 0, none⟩) zl c9), (1, 85, .slice (some ⟨go, 0, none⟩) zl c9), (2, 86, .int .i64 (zl : Int)), (3, 87, .int .i64 (k : Int)), (4, 88, .slice (some ⟨go, 0, none⟩) zl c9), (5, 89, .slice (some ⟨go, 0, none⟩) zl c9), (6, 90, .int .i64 (zl : Int)), (7, 91, .int .i64 (k : Int)), (8, 92, .pointer (some ⟨go, k, none⟩)), (9, 93, VR), (10, 94, .slice (some ad) l.length c), (11, 95, .int .i64 (i : Int)), (12, 96, .pointer (some (ad.add (i * 15)))), (13, 97, .agg CX), (14, 98, vs 1), (15, 99, vs 2), (16, 100, .pointer (some ⟨go, k, none⟩))]) (by kernel_rfl) rfl (l := #[false, false, false, false, false, false, false, false, false, false, false, false, false, false, false, false, false, false]) rfl rbbtab21 rbbbits21 (by kernel_rfl) (by kernel_rfl) (fun _ => rfl) rfl (fun _ => undef) ?_ ?_ ?_
          ·exact ⟨HST.out.below (pw_below_drewN (Below.refl _ _) 1), trivial⟩
          ·exact steps_cons (gv_op 0 2 [(9, fun vs => .slice (some ⟨go, 0, none⟩) zl c9)] 0 0 (fv := fun vs => .slice (some ⟨go, 0, none⟩) zl c9) rfl rfl (wt_none rfl) (fun _ => rfl) (fun _ => rfl) rfl rfl (by kernel_rfl) (by kernel_rfl) ⟨rd_off (p := 9) (fun _ => rfl) rfl, trivial⟩ (fun a w s vs hm hs h e => by
            obtain ⟨e9, _⟩ := e
            replace e9 : a.tmps[9]? = some (.slice (some ⟨go, 0, none⟩) zl c9) := e9
            go_simp)) (steps_cons (gv_op 0 2 [(9, fun vs => .slice (some ⟨go, 0, none⟩) zl c9)] 1 1 (fv := fun vs => .slice (some ⟨go, 0, none⟩) zl c9) rfl rfl (wt_none rfl) (fun _ => rfl) (fun _ => rfl) rfl rfl (by kernel_rfl) (by kernel_rfl) ⟨rd_off (p := 9) (fun _ => rfl) rfl, trivial⟩ (fun a w s vs hm hs h e => by
            obtain ⟨e9, _⟩ := e
            replace e9 : a.tmps[9]? = some (.slice (some ⟨go, 0, none⟩) zl c9) := e9
            go_simp)) (steps_cons (gv_op 0 2 [(85, fun vs => .slice (some ⟨go, 0, none⟩) zl c9)] 2 2 (fv := fun vs => .int .i64 (zl : Int)) rfl rfl (wt_none rfl) (fun _ => rfl) (fun _ => rfl) rfl rfl (by kernel_rfl) (by kernel_rfl) ⟨rd_on (p := 85) 1 1 (fun _ => rfl) (fun _ => rfl) (by kernel_rfl) rfl, trivial⟩ (fun a w s vs hm hs h e => by
            obtain ⟨e85, _⟩ := e
            replace e85 : a.tmps[85]? = some (.slice (some ⟨go, 0, none⟩) zl c9) := e85
            go_simp)) (steps_cons (gv_op 0 2 [(86, fun vs => .int .i64 (zl : Int))] 3 3 (fv := fun vs => .int .i64 (k : Int)) rfl rfl (wt_none rfl) (fun _ => rfl) (fun _ => rfl) rfl rfl (by kernel_rfl) (by kernel_rfl) ⟨rd_on (p := 86) 2 2 (fun _ => rfl) (fun _ => rfl) (by kernel_rfl) rfl, trivial⟩ (fun a w s vs hm hs h e => by
            obtain ⟨e86, _⟩ := e
            replace e86 : a.tmps[86]? = some (.int .i64 (zl : Int)) := e86
            have hw := HWK.out; go_simp; first | done | exact hw | (rw [i64_w]; exact hw))) (steps_cons (gv_op 0 1 [(9, fun vs => .slice (some ⟨go, 0, none⟩) zl c9)] 4 4 (fv := fun vs => .slice (some ⟨go, 0, none⟩) zl c9) rfl rfl (wt_none rfl) (fun _ => rfl) (fun _ => rfl) rfl rfl (by kernel_rfl) (by kernel_rfl) ⟨rd_off (p := 9) (fun _ => rfl) rfl, trivial⟩ (fun a w s vs hm hs h e => by
            obtain ⟨e9, _⟩ := e
            replace e9 : a.tmps[9]? = some (.slice (some ⟨go, 0, none⟩) zl c9) := e9
            go_simp)) (steps_cons (gv_op 0 1 [(9, fun vs => .slice (some ⟨go, 0, none⟩) zl c9)] 5 5 (fv := fun vs => .slice (some ⟨go, 0, none⟩) zl c9) rfl rfl (wt_none rfl) (fun _ => rfl) (fun _ => rfl) rfl rfl (by kernel_rfl) (by kernel_rfl) ⟨rd_off (p := 9) (fun _ => rfl) rfl, trivial⟩ (fun a w s vs hm hs h e => by
            obtain ⟨e9, _⟩ := e
            replace e9 : a.tmps[9]? = some (.slice (some ⟨go, 0, none⟩) zl c9) := e9
            go_simp)) (steps_cons (gv_op 0 1 [(89, fun vs => .slice (some ⟨go, 0, none⟩) zl c9)] 6 6 (fv := fun vs => .int .i64 (zl : Int)) rfl rfl (wt_none rfl) (fun _ => rfl) (fun _ => rfl) rfl rfl (by kernel_rfl) (by kernel_rfl) ⟨rd_on (p := 89) 5 5 (fun _ => rfl) (fun _ => rfl) (by kernel_rfl) rfl, trivial⟩ (fun a w s vs hm hs h e => by
            obtain ⟨e89, _⟩ := e
            replace e89 : a.tmps[89]? = some (.slice (some ⟨go, 0, none⟩) zl c9) := e89
            go_simp)) (steps_cons (gv_op 0 1 [(90, fun vs => .int .i64 (zl : Int))] 7 7 (fv := fun vs => .int .i64 (k : Int)) rfl rfl (wt_none rfl) (fun _ => rfl) (fun _ => rfl) rfl rfl (by kernel_rfl) (by kernel_rfl) ⟨rd_on (p := 90) 6 6 (fun _ => rfl) (fun _ => rfl) (by kernel_rfl) rfl, trivial⟩ (fun a w s vs hm hs h e => by
            obtain ⟨e90, _⟩ := e
            replace e90 : a.tmps[90]? = some (.int .i64 (zl : Int)) := e90
            have hw := HWK.out; go_simp; first | done | exact hw | (rw [i64_w]; exact hw))) (steps_cons (gv_op 0 1 [(88, fun vs => .slice (some ⟨go, 0, none⟩) zl c9), (91, fun vs => .int .i64 (k : Int))] 8 8 (fv := fun vs => .pointer (some ⟨go, k, none⟩)) rfl rfl (wt_none rfl) (fun _ => rfl) (fun _ => rfl) rfl rfl (by kernel_rfl) (by kernel_rfl) ⟨rd_on (p := 88) 4 4 (fun _ => rfl) (fun _ => rfl) (by kernel_rfl) rfl, rd_on (p := 91) 7 7 (fun _ => rfl) (fun _ => rfl) (by kernel_rfl) rfl, trivial⟩ (fun a w s vs hm hs h e => by
            obtain ⟨e88, e91, _⟩ := e
            replace e88 : a.tmps[88]? = some (.slice (some ⟨go, 0, none⟩) zl c9) := e88
            replace e91 : a.tmps[91]? = some (.int .i64 (k : Int)) := e91
            have hl := HLK.out; go_simp)) (steps_cons (gv_op 0 1 [(92, fun vs => .pointer (some ⟨go, k, none⟩))] 9 9 (fv := fun vs => VR) rfl rfl (wt_none rfl) (fun _ => rfl) (fun _ => rfl) rfl rfl (by kernel_rfl) (by kernel_rfl) ⟨rd_on (p := 92) 8 8 (fun _ => rfl) (fun _ => rfl) (by kernel_rfl) rfl, trivial⟩ (fun a w s vs hm hs h e => by
            obtain ⟨e92, _⟩ := e
            replace e92 : a.tmps[92]? = some (.pointer (some ⟨go, k, none⟩)) := e92
            have h1 : BSt wI w (ds ++ [r]) (.slice (some ⟨go, 0, none⟩) zl c9) := by
             rcases (by omega : s = 0 ∨ s = 1) with rfl | rfl <;> exact h.1
            have hs := h1.cell.1
            rw [HVR.out, HDK.out] at hs
            go_simp)) (steps_cons (gv_op 0 0 [(1, fun vs => .slice (some ad) l.length c)] 10 10 (fv := fun vs => .slice (some ad) l.length c) rfl rfl (wt_none rfl) (fun _ => rfl) (fun _ => rfl) rfl rfl (by kernel_rfl) (by kernel_rfl) ⟨rd_off (p := 1) (fun _ => rfl) rfl, trivial⟩ (fun a w s vs hm hs h e => by
            obtain rfl : s = 0 := by omega
            obtain ⟨e1, _⟩ := e
            replace e1 : a.tmps[1]? = some (.slice (some ad) l.length c) := e1
            go_simp)) (steps_cons (gv_op 0 0 [(11, fun vs => .int .i64 (i : Int))] 11 11 (fv := fun vs => .int .i64 (i : Int)) rfl rfl (wt_none rfl) (fun _ => rfl) (fun _ => rfl) rfl rfl (by kernel_rfl) (by kernel_rfl) ⟨rd_off (p := 11) (fun _ => rfl) rfl, trivial⟩ (fun a w s vs hm hs h e => by
            obtain rfl : s = 0 := by omega
            obtain ⟨e11, _⟩ := e
            replace e11 : a.tmps[11]? = some (.int .i64 (i : Int)) := e11
            go_simp)) (steps_cons (gv_op 0 0 [(94, fun vs => .slice (some ad) l.length c), (95, fun vs => .int .i64 (i : Int))] 12 12 (fv := fun vs => .pointer (some (ad.add (i * 15)))) rfl rfl (wt_none rfl) (fun _ => rfl) (fun _ => rfl) rfl rfl (by kernel_rfl) (by kernel_rfl) ⟨rd_on (p := 94) 10 10 (fun _ => rfl) (fun _ => rfl) (by kernel_rfl) rfl, rd_on (p := 95) 11 11 (fun _ => rfl) (fun _ => rfl) (by kernel_rfl) rfl, trivial⟩ (fun a w s vs hm hs h e => by
            obtain rfl : s = 0 := by omega
            obtain ⟨e94, e95, _⟩ := e
            replace e94 : a.tmps[94]? = some (.slice (some ad) l.length c) := e94
            replace e95 : a.tmps[95]? = some (.int .i64 (i : Int)) := e95
            have hl := HIL.out; go_simp; first | done | rfl)) (steps_cons (gv_op 0 0 [(96, fun vs => .pointer (some (ad.add (i * 15))))] 13 13 (fv := fun vs => .agg CX) rfl rfl (wt_none rfl) (fun _ => rfl) (fun _ => rfl) rfl rfl (by kernel_rfl) (by kernel_rfl) ⟨rd_on (p := 96) 12 12 (fun _ => rfl) (fun _ => rfl) (by kernel_rfl) rfl, trivial⟩ (fun a w s vs hm hs h e => by
            obtain rfl : s = 0 := by omega
            obtain ⟨e96, _⟩ := e
            replace e96 : a.tmps[96]? = some (.pointer (some (ad.add (i * 15)))) := e96
            exact exec_load_cells 41 (.tmp 96) rfl (eval_of e96) CX _ (fun j v hv => HCI.out w h.1.bl j v hv) Tryd.underlying41 rfl HXS.out)) (steps_cons (gv_gen [(97, fun vs => .agg CX)] 14 14 0 rfl rfl (wt_none rfl) rfl (fun _ => rfl) (fun _ _ => rfl) (fun _ => rfl) rfl (by kernel_rfl) ⟨rd_on (p := 97) 13 13 (fun _ => rfl) (fun _ => rfl) (by kernel_rfl) rfl, trivial⟩ (fun a w K vs h e hw hK => by
            obtain ⟨e97, _⟩ := e
            replace e97 : a.tmps[97]? = some (.agg CX) := e97
            obtain ⟨h1, _⟩ := h
            exact value_ (w1 := w.alloc (.cells CX 41)) (v := .slice (some ⟨w.heap.size, 0, none⟩) 1 1) hw rfl (by rw [← HXE.out]; exact exec_one 97 x L rfl (by rw [HXE.out]; exact e97)) (hK _ _ ⟨h1.below (below_alloc (Below.refl _ _) _), w.heap.size, rfl, by rw [← HXE.out]; exact cv_one w x L⟩))) (steps_cons (gv_gen [(93, fun vs => VR), (98, fun vs => vs 1)] 15 15 1 rfl rfl (wt_none rfl) rfl (fun _ => rfl) (fun _ _ => rfl) (fun _ => rfl) rfl (by kernel_rfl) ⟨rd_on (p := 93) 9 9 (fun _ => rfl) (fun _ => rfl) (by kernel_rfl) rfl, rd_on (p := 98) 14 14 (fun _ => rfl) (fun _ => rfl) (by kernel_rfl) rfl, trivial⟩ (fun a w K vs h e hw hK => by
            obtain ⟨e93, e98, _⟩ := e
            replace e93 : a.tmps[93]? = some (VR) := e93
            replace e98 : a.tmps[98]? = some (vs 1) := e98
            obtain ⟨h1, gs, hv, hC⟩ := h
            refine Kd.R_append_rows_step cvK (Rr := cvK.K w) (w0 := wI) (W := w) wI.heap.size hw _ _ 24 41 (.agg zerV) 152 rfl Tryd.underlying24 info_cv rfl (by decide) (by decide) VR r.2 [(x, L)] (some ⟨gs, 0, none⟩) 1 1 (fun _ => True) (fun _ => False) (eval_of e93) ((eval_of e98).trans hv) (by rw [← HVR.out]; exact h1.own r (List.mem_append_right _ (List.mem_singleton_self _))) hC (fun _ _ h => h) (fun _ h => h.elim) (fun _ _ => trivial) h1.bl h1.bl.size (by have := HRL.out; omega) ?_
            intro v1 w1 hR1 hB1 hG1 hat
            exact hK v1 w1 (h1.app HXC.out hR1 (by rw [HVR.out]; exact hG1) (by rw [HVR.out]; exact hat) hB1))) (steps_cons (gv_op 2 2 [(84, fun vs => .slice (some ⟨go, 0, none⟩) zl c9), (87, fun vs => .int .i64 (k : Int))] 16 16 (fv := fun vs => .pointer (some ⟨go, k, none⟩)) rfl rfl (wt_none rfl) (fun _ => rfl) (fun _ => rfl) rfl rfl (by kernel_rfl) (by kernel_rfl) ⟨rd_on (p := 84) 0 0 (fun _ => rfl) (fun _ => rfl) (by kernel_rfl) rfl, rd_on (p := 87) 3 3 (fun _ => rfl) (fun _ => rfl) (by kernel_rfl) rfl, trivial⟩ (fun a w s vs hm hs h e => by
            obtain rfl : s = 2 := by omega
            obtain ⟨e84, e87, _⟩ := e
            replace e84 : a.tmps[84]? = some (.slice (some ⟨go, 0, none⟩) zl c9) := e84
            replace e87 : a.tmps[87]? = some (.int .i64 (k : Int)) := e87
            have hl := HLK.out; go_simp)) (steps_cons (gv_store (f := fun vs W => W.setCell ⟨go, k, none⟩ (vs 2)) [(100, fun vs => .pointer (some ⟨go, k, none⟩)), (99, fun vs => vs 2)] 17 2 rfl rfl (wt_none rfl) rfl (fun _ => rfl) rfl (by kernel_rfl) ⟨rd_on (p := 100) 16 16 (fun _ => rfl) (fun _ => rfl) (by kernel_rfl) rfl, rd_on (p := 99) 15 15 (fun _ => rfl) (fun _ => rfl) (by kernel_rfl) rfl, trivial⟩ (fun a w vs h e => by
            obtain ⟨e100, e99, _⟩ := e
            replace e100 : a.tmps[100]? = some (.pointer (some ⟨go, k, none⟩)) := e100
            replace e99 : a.tmps[99]? = some (vs 2) := e99
            obtain ⟨g2, c2, hv2, _, _⟩ := (Kd.R_own h.last).elim fun _ h => h.form (by rw [List.length_append]; simp)
            have hf := (show w.frozen? ⟨go, k, none⟩ = false from by have h9 := h.out; rw [← HDK.out]; exact (BSt.cell2 h9).2)
            have hs := (show w.cell? ⟨go, k, none⟩ = some VR from by have h9 := h.out; rw [← HDK.out, ← HVR.out]; exact (BSt.cell2 h9).1)
            rw [hv2] at e99 ⊢
            go_simp; first | done | rfl) (fun vs w h => by have h9 := h.store (n := zl) (cap := c9) rfl; rw [HDK.out] at h9; exact h9)) steps_nil)))))))))))))))))
          intro vs W9 hX9
          obtain ⟨r', hr', hv', hS9⟩ := hX9
          simp only [putSel, if_true, Act.put, List.setIfInBounds_toArray, List.set_cons_zero, List.set_cons_succ]
          rw [← hv']
          generalize vs 1 = u98 at *
          have HS9 := Lh hS9
          have HR9 := Lh hr'
          clear hS9 hr' hv' vs HST HXS HLK HVR
          unfold encR
          generalize (Option.map (fun g => ⟨g, 0, none⟩) r'.1.1 : Option Addr) = Ar at *
          generalize r'.2.length = nr at *
          have hw9 : wrap64 ((lf : Int) - (sz : Int)) = ((lf - sz : Nat) : Int) := by have h2 := HLF.out; unfold wrap64; omega
          go_wp2
          try rw [hw9]
          go_roundw
          case rel => exact ⟨i + 1, ds ++ [r'], lf - sz, by omega, by first | rfl | exact congrArg _ hw9 | rw [hw9], by go_num, HRN.out r' HR9.out, HS9.out⟩
          case measure => simp [intOf]; omega
       ·have hz1 : decide ((sz : Int) ≤ (lf : Int)) = false := decide_eq_false (by omega)
        have hz1n : decide (sz ≤ lf) = false := decide_eq_false hgt
        have HOPN := Lh (Or.inr (Or.inl (by rw [HSX.out]; omega)) : zs = [] ∨ lf < sizeD x ∨ ∃ ds r, zs = ds ++ [r] ∧ apartB (fsts r.2 ++ [x]) = true)
        clear hgt hk0
        go_upto_region 23 with (fail)
        clear hz0 hz0n hz1 hz1n
        have HCX := Lh (fun j v hv => HCI.out W2 HST.out.bl j v hv)
        have HSTX := Lh ((HST.out.below (below_alloc (Below.refl _ _) (.cells CX 41))).below (below_alloc (Below.refl _ _) (.cells #[.slice (some ⟨W2.heap.size, 0, none⟩) 1 1] 24)))
        have HRD := Lh (raw_one W2 CX x L)
        have HOZ := Lh (show OwnZ ((W2.alloc (.cells CX 41)).alloc (.cells #[.slice (some ⟨W2.heap.size, 0, none⟩) 1 1] 24)) wI.heap.size ((some W2.heap.size, 1), [(x, L)]) from by
         rw [← HXE.out]
         exact (own_one W2 x L wI.heap.size HST.out.bl.size).below (below_alloc (Below.refl _ _) _))
        obtain ⟨lf2, hlf2⟩ : ∃ q : Nat, m - 12 = q := ⟨_, rfl⟩
        obtain ⟨lf3, hlf3⟩ : ∃ q : Nat, lf2 - sz = q := ⟨_, rfl⟩
        have hw12 : wrap64 ((m : Int) - 12) = (lf2 : Int) := by have h1 := HMT.out; unfold wrap64; omega
        have hw13 : wrap64 ((lf2 : Int) - (sz : Int)) = (lf3 : Int) := by have h1 := HMT.out; have h2 := HFX.out; unfold wrap64; omega
        have HRN := Lh (show RelB m (l.take (i + 1)) (zs ++ [((some W2.heap.size, 1), [(x, L)])]) lf3 from by
         rw [take_next HDX.out, ← hlf3, ← hlf2, ← HSX.out]
         exact HREL.out.open_ HINV.out (by rw [HSX.out]; exact HFX.out) HOPN.out rfl)
        clear hlf2 hlf3 HREL HINV HOPN
        go_wp2_with (first | ((with_reducible refine gate_dst (N := 108) rfl ?_); go_must (refine wpList_load_cells rfl 41 (.tmp 107) rfl rfl CX _ (fun j v hv => HCX.out j v hv) Tryd.underlying41 rfl HXS.out ?_)) | ((with_reducible refine gate_dst (N := 109) rfl ?_); go_must (refine wpList_one rfl 108 rfl CX rfl x L HXE.out ?_)) | (at_builtin; go_must (refine Kd.R_append_rows rawR (Rr := rawR.K wI) (w0 := wI) (W := (W2.alloc (.cells CX 41)).alloc (.cells #[.slice (some ⟨W2.heap.size, 0, none⟩) 1 1] 24)) wI.heap.size rfl _ _ 55 24 (.slice none 0 0) 24 rfl Tryd.underlying55 info_sl rfl (by decide) (by decide) (.slice A9 zl c9) zs [((some W2.heap.size, 1), [(x, L)])] (some ⟨W2.heap.size + 1, 0, none⟩) 1 1 (fun _ => True) (fun _ => False) rfl rfl HSTX.out.out HRD.out (fun _ _ h => h) (fun _ h => h.elim) (fun _ _ => trivial) HSTX.out.bl HSTX.out.bl.size (by have := HZL.out; omega) ?_); (intro v1 w1 hR1 hB1 hG1 _; have HR1 := Lh hR1; have HB1 := Lh hB1; have HG1 := Lh hG1; clear hR1 hB1 hG1; refine RowKit.Hid.out ?_)))
        refine Lh ?_
        have HS9 := Lh (HST.out.opened1 HXC.out HSTX.out HOZ.out HR1.out HG1.out HB1.out)
        obtain ⟨go, capo, hv1, _⟩ := HS9.out.last
        subst hv1
        generalize zs.length = zq at *
        clear HCX HSTX HRD HOZ HR1 HG1 HB1 HST
        go_wp2
        try rw [hw12]
        try rw [hw13]
        go_roundw
        case rel => exact ⟨i + 1, zs ++ [((some W2.heap.size, 1), [(x, L)])], lf3, by omega, by first | rfl | exact congrArg _ hw13 | rw [hw13], by go_num, HRN.out, HS9.out⟩
        case measure => simp [intOf]; omega
      ·obtain rfl : i = l.length := by omega
       have hrel := HREL.out
       rw [List.take_length] at hrel
       obtain ⟨A9, c9, hv9, hle9, hC9⟩ := HS.out.read
       have HRF := Lh (show RowsR wI wr u9 (outB (rowsB m l)) from ⟨A9, c9, by rw [hv9, ← hrel.1, List.length_map], by rw [← hrel.1, List.length_map]; exact hle9, by rw [← hrel.1, List.length_map]; exact hC9, HS.out.bl⟩)
       obtain ⟨A8, c8, hv8⟩ := Kd.R_slice HS.out.out
       subst hv8
       clear hrel hv9 hle9 hC9 HS HREL hi hlt
       generalize zs.length = zl at *
       go_wp2
       go_ret2
       rw [HDF.out]
       exact ⟨_, rfl, HRF.out⟩
end Go.Proofs.YtdlamomabonkjaaDoor.Pk
end
section
namespace Go.Proofs.YtdlamomabonkjaaDoor.Pk
open Go.RowKit YtdlamomabonkjaaDoorW.PrintWords YtdlamomabonkjaaDoorW.PrintLast Base PCh ParDec ParEnc Ch Crc CrcMath
theorem put_take (l : List UInt8) (h : 12 ≤ l.length) : (putL l).take 8 = l.take 8 ∧ (putL l).drop 12 = l.drop 12 := by
 rw [putL_eq, puts_four _ _ h]
 have h8 : (l.take 8).length = 8 := by rw [List.length_take]; omega
 constructor
 ·rw [List.append_assoc, List.take_append_of_le_length (by omega), List.take_of_length_le (by omega)]
 ·rw [List.drop_append]
  simp [h8]
theorem allL_back {l : List Chk} {b : List UInt8} (hok : ∀ x ∈ l, OkC x ∧ checkD x = 0) (hb : ints b = flatL l) : allL b = (l, 0, 0) := by
 have := all_back l (b.length + 1) 0 b [] hok (by rw [List.drop_zero]; exact hb) (Nat.zero_le _) (by omega)
 unfold allL
 rw [this, List.nil_append]
theorem flat_pos (x : Chk) (l : List Chk) : 4 ≤ (flatL (x :: l)).length := by
 rw [flatL, List.length_append, chunkL_len]
 omega
structure PkOk (f t q : Int) (l : List Chk) : Prop where
 f0 : 0 < f
 f1 : f < 65536
 t0 : 0 < t
 t1 : t < 65536
 q : in32 q
 ok : ∀ x ∈ l, OkC x
theorem penc_good {f t q : Int} {l : List Chk} (h : (pencD f t q l).2 = 0) : 0 < f ∧ 0 < t ∧ l.length ≠ 0 ∧ apartB l = false ∧ (encD l).2 = 0 ∧ 12 + (encD l).1.length ≤ 65536 ∧ (pencD f t q l).1 = putL (bytesOf (headL f t q ++ (encD l).1)) := by
 unfold pencD at h ⊢
 by_cases h1 : (decide (0 < f) && decide (0 < t)) = false
 ·rw [if_pos h1] at h; cases h
 rw [if_neg h1] at h ⊢
 have h1' : 0 < f ∧ 0 < t := by simpa using h1
 by_cases h2 : l.length = 0
 ·rw [if_pos h2] at h; cases h
 rw [if_neg h2] at h ⊢
 by_cases h3 : apartB l = true
 ·rw [if_pos h3] at h; cases h
 rw [if_neg h3] at h ⊢
 by_cases h4 : (encD l).2 = 0
 ·rw [if_pos h4] at h ⊢
  by_cases h5 : 65536 < 12 + (encD l).1.length
  ·rw [if_pos h5] at h; cases h
  rw [if_neg h5]
  exact ⟨h1'.1, h1'.2, h2, Bool.eq_false_iff.2 h3, h4, by omega, rfl⟩
 ·rw [if_neg h4] at h; exact absurd h h4
theorem penc_ok {f t q : Int} {l : List Chk} (h1 : 0 < f) (h2 : 0 < t) (h3 : l.length ≠ 0) (h4 : apartB l = false) (h5 : (encD l).2 = 0) (h6 : 12 + (encD l).1.length ≤ 65536) : pencD f t q l = (putL (bytesOf (headL f t q ++ (encD l).1)), 0) := by
 unfold pencD
 rw [if_neg (by simp [h1, h2]), if_neg h3, if_neg (by rw [h4]; exact Bool.false_ne_true), if_pos h5, if_neg (by omega)]
theorem in16_of {f : Int} (h0 : 0 < f) (h1 : f < 65536) : in16 f := ⟨by omega, h1⟩
theorem pback {f t q : Int} {l : List Chk} (hk : PkOk f t q l) (h : (pencD f t q l).2 = 0) : preadD (pencD f t q l).1 true = ⟨f, t, q, l, 0, 0⟩ ∧ 12 < (pencD f t q l).1.length ∧ (pencD f t q l).1.length ≤ 65536 := by
 obtain ⟨_, _, hl, hap, he, hlen, hb⟩ := penc_good h
 obtain ⟨hck, hfl, _⟩ := enc_good he
 rw [hb]
 have hin : ∀ b ∈ headL f t q ++ (encD l).1, inB b := app_in (head_in f t q) (enc_in hk.ok)
 obtain ⟨hs, hhs⟩ : ∃ hs, bytesOf (headL f t q ++ (encD l).1) = hs := ⟨_, rfl⟩
 have hi : ints hs = headL f t q ++ (encD l).1 := by rw [← hhs]; exact ints_bytesOf _ hin
 rw [hhs]
 have hln : hs.length = 12 + (encD l).1.length := by rw [← ints_length, hi, List.length_append, headL_length]
 obtain ⟨p8, p12⟩ := put_take hs (by omega)
 have hpl := putL_length hs
 have hi0 : ints hs = twoL [f] ++ (twoL [t] ++ (fourL [q] ++ (fourL [0] ++ (encD l).1))) := by rw [hi]; unfold headL; simp only [List.append_assoc]
 obtain ⟨b1, r1⟩ := be2 hi0 (in16_of hk.f0 hk.f1)
 obtain ⟨b2, r2⟩ := be2 r1 (in16_of hk.t0 hk.t1)
 obtain ⟨b3, r3⟩ := be4 r2 hk.q
 obtain ⟨b4, r4⟩ := be4 r3 z32
 rw [List.drop_drop, List.drop_drop, List.drop_drop] at r4
 have hF : ((hdF (putL hs) : Nat) : Int) = f := by
  unfold hdF
  rw [← b1, show (putL hs).take 2 = ((putL hs).take 8).take 2 by rw [List.take_take]; rfl, p8, List.take_take]
  rfl
 have hT : ((hdT (putL hs) : Nat) : Int) = t := by
  unfold hdT
  rw [← b2, show ((putL hs).drop 2).take 2 = (((putL hs).take 8).drop 2).take 2 by rw [List.drop_take, List.take_take]; rfl, p8, List.drop_take, List.take_take]
  rfl
 have hQ : ((hdQ (putL hs) : Nat) : Int) = q := by
  unfold hdQ
  rw [← b3, List.drop_drop, List.drop_drop, show ((putL hs).drop (2 + 2)).take 4 = (((putL hs).take 8).drop (2 + 2)).take 4 by rw [List.drop_take, List.take_take]; rfl, p8, List.drop_take, List.take_take]
  rfl
 have hH : headE (putL hs) = 0 := by
  unfold headE
  rw [if_neg (by omega), if_pos (check_put hs (by omega)), if_pos]
  rw [hF, hT]
  have := hk.f0
  have := hk.t0
  simp [*]
 have hA : allL ((putL hs).drop 12) = (l, 0, 0) := by
  rw [p12]
  refine allL_back (fun x hx => ⟨hk.ok x hx, hck x hx⟩) ?_
  rw [← hfl]
  exact r4
 have hpos : 4 ≤ (encD l).1.length := by
  rw [hfl]
  cases l with
  | nil => exact absurd rfl hl
  | cons x r => exact flat_pos x r
 refine ⟨?_, by omega, by omega⟩
 unfold preadD
 rw [if_pos hH, if_neg (by decide), if_neg (by rw [List.length_drop]; omega), hA, if_pos rfl, if_neg (by rw [hap]; exact Bool.false_ne_true), hF, hT, hQ]
end Go.Proofs.YtdlamomabonkjaaDoor.Pk
end
section
namespace Go.Proofs.YtdlamomabonkjaaDoor.Ch
open Go.RowKit YtdlamomabonkjaaDoorW.PrintWords YtdlamomabonkjaaDoorW.PrintLast Base PCh ParDec
def schT6 : Bool × List (List Nat × List Nat) := (true, [([], []), ([], []), ([0, 1], [0, 1]), ([2], [2]), ([], []), ([], []), ([4, 5], [4, 5]), ([6], [6]), ([3, 7], [3, 7]), ([8], [8])])
def schB6 : List Nat := [0, 0, 3, 7, 0, 0, 48, 112, 255, 511]
theorem schtab6 : Go.Proofs.YtdlamomabonkjaaDoorW.PrintLast.rtab .any (Go.Proofs.YtdlamomabonkjaaDoorW.PrintLast.opsOf Tryd.f25 6) = schT6 := by kernel_rfl
theorem schbits6 : Go.Proofs.YtdlamomabonkjaaDoorW.PrintLast.waitsOk schT6.2 schB6 = true := by kernel_rfl
set_option maxHeartbeats 4000000 in
theorem schunks_calls (w : World) (A B' : Option Addr) (c d : Nat) (xs ys : List Chk) (hx : Kd.C k41 w A xs.length xs) (hy : Kd.C k41 w B' ys.length ys) (ox : ∀ x ∈ xs, OkB x) (oy : ∀ y ∈ ys, OkB y) :
  Calls Tryd.prog 25 #[.slice A xs.length c, .slice B' ys.length d] w fun e w' => e = .returned (.bool (decide (xs = ys))) ∧ Below w.heap.size w w' := by
 have hmx := hx.2.1
 have hmy := hy.2.1
 have HX := Lh (fun (W : World) (h : Below w.heap.size w W) => Kd.C_below hx h)
 have HY := Lh (fun (W : World) (h : Below w.heap.size w W) => Kd.C_below hy h)
 have HOX := Lh ox
 have HOY := Lh oy
 clear hx hy ox oy
 by_cases hl : xs.length = ys.length
 ·have q : ((xs.length : Int) != (ys.length : Int)) = false := by simp [hl]
  have HL := Lh hl
  clear hl
  go_enter Tryd.func25, Tryd.ntmps25
  go_wp2
  go_loopw [5] (fun v5 wr => ∃ i : Nat, i ≤ xs.length ∧ v5 = .int .i64 (i : Int) ∧ Hid (decide (xs = ys) = decide (xs.drop i = ys.drop i)) ∧ Hid (Below w.heap.size w wr)) (fun v5 _ => xs.length - (intOf v5).toNat)
  case atStart => exact ⟨0, Nat.zero_le _, rfl, rfl, Below.refl _ _⟩
  case round =>
   obtain ⟨i, hi, rfl, HS, HB⟩ := hrel
   by_cases hlt : i < xs.length
   ·have hlt' : i < ys.length := by have := HL.out; omega
    obtain ⟨ax, x, L, rfl, hdx, hxm, hcx, hxr⟩ := chk_at (HX.out _ HB.out) i hlt
    obtain ⟨ay, y, M, rfl, hdy, hym, hcy, hyr⟩ := chk_at (HY.out _ HB.out) i hlt'
    have hd := HS.out
    rw [hdx, hdy] at hd
    have HSM := Lh (fun (W : World) (h : Below wr.heap.size wr W) => rsame_calls W x y L M (hxr.below h) (hyr.below h) (HOX.out x hxm) (HOY.out y hym))
    have HXS := Lh (show (Tryd.prog.info? 41).map (·.size) = some (CV x L).size by kernel_rfl)
    have HYS := Lh (show (Tryd.prog.info? 41).map (·.size) = some (CV y M).size by kernel_rfl)
    have HLX := Lh hcx
    have HLY := Lh hcy
    have s2 : (x :: xs.drop (i + 1) = y :: ys.drop (i + 1)) = (x = y ∧ xs.drop (i + 1) = ys.drop (i + 1)) := by simp
    have HD := Lh hd
    have HS2 := Lh s2
    clear hd s2 hcx hcy hxr hyr hdx hdy hxm hym
    by_cases hxy : x = y
    ·have HDD := Lh (show decide (xs = ys) = decide (xs.drop (i + 1) = ys.drop (i + 1)) by rw [HD.out]; exact decide_eq_decide.2 (by rw [HS2.out]; simp [hxy]))
     rw [decide_eq_true hxy] at HSM
     clear HD HS2 hxy HS
     generalize CV x L = CX at *
     generalize CV y M = CY at *
     obtain ⟨q, hq⟩ : ∃ q, q = true := ⟨_, rfl⟩
     rw [← hq] at HSM
     have HQ := Lh hq
     clear hq
     have HN2 := HB
     go_upto_region 6 with (fail)
     generalize wr = W at *
     have B := True.intro
     refine start_ (n := 10) (S := fun w' => True) (ds := []) #[false, false, false, false, false, false, false, false, false, false] (by kernel_rfl) rfl rfl trivial (fun hHeld => ?_)
     refine with_tabW schtab6 schbits6 (fun HT_ HW_ => ?_)
     refine pu 0 17 ?_ rfl rfl (any_of HT_.out (by kernel_rfl)) (fun _ _ _ h => h) (by rfl) ?_ ?_ ?_ ?_
     rotate_left
     ·intro w'
      go_simp
      with_reducible rfl
     rotate_left
     ·simp only [sL]
      rfl
     refine pu 1 18 ?_ rfl rfl (any_of HT_.out (by kernel_rfl)) (fun _ _ _ h => h) (by rfl) ?_ ?_ ?_ ?_
     rotate_left
     ·intro w'
      go_simp
      with_reducible rfl
     rotate_left
     ·simp only [sL]
      rfl
     refine pu 4 21 ?_ rfl rfl (any_of HT_.out (by kernel_rfl)) (fun _ _ _ h => h) (by rfl) ?_ ?_ ?_ ?_
     rotate_left
     ·intro w'
      go_simp
      with_reducible rfl
     rotate_left
     ·simp only [sL]
      rfl
     refine pu 5 22 ?_ rfl rfl (any_of HT_.out (by kernel_rfl)) (fun _ _ _ h => h) (by rfl) ?_ ?_ ?_ ?_
     rotate_left
     ·intro w'
      go_simp
      with_reducible rfl
     rotate_left
     ·simp only [sL]
      rfl
     refine inv_at [2, 3, 6, 7, 8, 9] (fun a0_ b a w' => a = putSel a0_ b [(2, 19, .pointer (some (ax.add (i * 15)))), (3, 20, .agg CX), (6, 23, .pointer (some (ay.add (i * 15)))), (7, 24, .agg CY), (8, 25, .bool q), (9, 26, .bool (!q))] ∧ (Below W.heap.size W w')) HT_.out HW_.out (by kernel_rfl) (by kernel_rfl) ?_ ?_ ?_
     ·exact ⟨by simp only [putSel, Bool.false_eq_true, if_false], below_drew (Below.refl _ _)⟩
     ·skip
      clear B
      refine sc rfl ?_ ?_
      ·rintro b a w' ⟨ha, Q_B⟩ hb_ hon hoff K hK
       have e17 : a.tmps[17]? = some (.slice (some ax) xs.length c) := by rw [ha]; exact (putSel_off rfl).trans rfl
       have e18 : a.tmps[18]? = some (.int .i64 (i : Int)) := by rw [ha]; exact (putSel_off rfl).trans rfl
       replace ha := Am ha
       refine value_ (w1 := w') (v := .pointer (some (ax.add (i * 15)))) (by rfl) rfl ?_ ?_
       ·go_simp
        (try simp only [i64_w])
        try rfl
       refine hK.out _ _ ⟨(puk ha 0 hb_ rfl rfl rfl), Q_B⟩
      refine sc rfl ?_ ?_
      ·rintro b a w' ⟨ha, Q_B⟩ hb_ hon hoff K hK
       have e19 := psn ha 0 rfl rfl (hon 2 (by kernel_rfl)) rfl
       replace ha := Am ha
       have B := Am Q_B
       refine value_ (w1 := w') (v := .agg CX) (by rfl) rfl (exec_load_cells 41 (.tmp 19) rfl (eval_of e19) CX _ (fun j v hv => pw_cell_below B.out (HLX.out j v hv)) Tryd.underlying41 rfl HXS.out) ?_
       refine hK.out _ _ ⟨(puk ha 1 hb_ rfl rfl rfl), B.out⟩
      refine sc rfl ?_ ?_
      ·rintro b a w' ⟨ha, Q_B⟩ hb_ hon hoff K hK
       have e21 : a.tmps[21]? = some (.slice (some ay) ys.length d) := by rw [ha]; exact (putSel_off rfl).trans rfl
       have e22 : a.tmps[22]? = some (.int .i64 (i : Int)) := by rw [ha]; exact (putSel_off rfl).trans rfl
       replace ha := Am ha
       refine value_ (w1 := w') (v := .pointer (some (ay.add (i * 15)))) (by rfl) rfl ?_ ?_
       ·go_simp
        (try simp only [i64_w])
        try rfl
       refine hK.out _ _ ⟨(puk ha 2 hb_ rfl rfl rfl), Q_B⟩
      refine sc rfl ?_ ?_
      ·rintro b a w' ⟨ha, Q_B⟩ hb_ hon hoff K hK
       have e23 := psn ha 2 rfl rfl (hon 6 (by kernel_rfl)) rfl
       replace ha := Am ha
       have B := Am Q_B
       refine value_ (w1 := w') (v := .agg CY) (by rfl) rfl (exec_load_cells 41 (.tmp 23) rfl (eval_of e23) CY _ (fun j v hv => pw_cell_below B.out (HLY.out j v hv)) Tryd.underlying41 rfl HYS.out) ?_
       refine hK.out _ _ ⟨(puk ha 3 hb_ rfl rfl rfl), B.out⟩
      refine sc rfl ?_ ?_
      ·rintro b a w' ⟨ha, Q_B⟩ hb_ hon hoff K hK
       have e20 := psn ha 1 rfl rfl (hon 3 (by kernel_rfl)) rfl
       have e24 := psn ha 3 rfl rfl (hon 7 (by kernel_rfl)) rfl
       replace ha := Am ha
       have B := Am Q_B
       refine goes_ Tryd.func32 (by kernel_rfl) rfl #[.agg CX, .agg CY] (by rfl) rfl rfl (by first | (simp only [List.map_toArray, List.map_cons, List.map_nil, Act.eval, Array.getD_eq_getD_getElem?, Option.getD_some, e20, e24]; done) | (simp only [List.map_toArray, List.map_cons, List.map_nil, Act.eval, Array.getD_eq_getD_getElem?, Option.getD_some, e20, e24]; rfl)) ?_
       refine (HSM.out w' B.out).mono ?_
       rintro e w1 ⟨rfl, hB1⟩
       refine ⟨_, rfl, ?_⟩
       refine hK.out _ _ ⟨(puk ha 4 hb_ rfl rfl rfl), below_then B.out B.out.size hB1⟩
      refine sc rfl ?_ ?_
      ·rintro b a w' ⟨ha, Q_B⟩ hb_ hon hoff K hK
       have e25 := psn ha 4 rfl rfl (hon 8 (by kernel_rfl)) rfl
       replace ha := Am ha
       refine value_ (w1 := w') (v := .bool (!q)) (by rfl) rfl ?_ ?_
       ·go_simp
        (try simp only [i64_w])
        try rfl
       refine hK.out _ _ ⟨(puk ha 5 hb_ rfl rfl rfl), Q_B⟩
      exact steps_nil
     rintro b a w' hall ⟨ha, Q_B⟩
     clear B
     have hb2_ := hall 2 (by kernel_rfl)
     have hb3_ := hall 3 (by kernel_rfl)
     have hb6_ := hall 6 (by kernel_rfl)
     have hb7_ := hall 7 (by kernel_rfl)
     have hb8_ := hall 8 (by kernel_rfl)
     have hb9_ := hall 9 (by kernel_rfl)
     subst ha
     simp only [putSel, hb2_, hb3_, hb6_, hb7_, hb8_, hb9_, if_true, Act.put, List.setIfInBounds_toArray, List.set_cons_zero, List.set_cons_succ]
     have B := Am Q_B
     clear Q_B
     clear hall hb2_ hb3_ hb6_ hb7_ hb8_ hb9_
     have HB2 := Lh (below_then HB.out HB.out.size B.out)
     rw [HQ.out]
     clear B HSM HLX HLY HQ HN2
     go_wp2
     go_roundw
     case rel => exact ⟨i + 1, by omega, by go_num, HDD, HB2⟩
     case measure => simp [intOf]; omega
    ·have HDD := Lh (show decide (xs = ys) = false by rw [HD.out]; exact decide_eq_false (fun e => hxy (HS2.out.mp e).1))
     rw [decide_eq_false hxy] at HSM
     clear HD HS2 hxy HS
     generalize CV x L = CX at *
     generalize CV y M = CY at *
     obtain ⟨q, hq⟩ : ∃ q, q = false := ⟨_, rfl⟩
     rw [← hq] at HSM
     have HQ := Lh hq
     clear hq
     go_upto_region 6 with (fail)
     generalize wr = W at *
     have B := True.intro
     refine start_ (n := 10) (S := fun w' => True) (ds := []) #[false, false, false, false, false, false, false, false, false, false] (by kernel_rfl) rfl rfl trivial (fun hHeld => ?_)
     refine with_tabW schtab6 schbits6 (fun HT_ HW_ => ?_)
     refine pu 0 17 ?_ rfl rfl (any_of HT_.out (by kernel_rfl)) (fun _ _ _ h => h) (by rfl) ?_ ?_ ?_ ?_
     rotate_left
     ·intro w'
      go_simp
      with_reducible rfl
     rotate_left
     ·simp only [sL]
      rfl
     refine pu 1 18 ?_ rfl rfl (any_of HT_.out (by kernel_rfl)) (fun _ _ _ h => h) (by rfl) ?_ ?_ ?_ ?_
     rotate_left
     ·intro w'
      go_simp
      with_reducible rfl
     rotate_left
     ·simp only [sL]
      rfl
     refine pu 4 21 ?_ rfl rfl (any_of HT_.out (by kernel_rfl)) (fun _ _ _ h => h) (by rfl) ?_ ?_ ?_ ?_
     rotate_left
     ·intro w'
      go_simp
      with_reducible rfl
     rotate_left
     ·simp only [sL]
      rfl
     refine pu 5 22 ?_ rfl rfl (any_of HT_.out (by kernel_rfl)) (fun _ _ _ h => h) (by rfl) ?_ ?_ ?_ ?_
     rotate_left
     ·intro w'
      go_simp
      with_reducible rfl
     rotate_left
     ·simp only [sL]
      rfl
     refine inv_at [2, 3, 6, 7, 8, 9] (fun a0_ b a w' => a = putSel a0_ b [(2, 19, .pointer (some (ax.add (i * 15)))), (3, 20, .agg CX), (6, 23, .pointer (some (ay.add (i * 15)))), (7, 24, .agg CY), (8, 25, .bool q), (9, 26, .bool (!q))] ∧ (Below W.heap.size W w')) HT_.out HW_.out (by kernel_rfl) (by kernel_rfl) ?_ ?_ ?_
     ·exact ⟨by simp only [putSel, Bool.false_eq_true, if_false], below_drew (Below.refl _ _)⟩
     ·skip
      clear B
      refine sc rfl ?_ ?_
      ·rintro b a w' ⟨ha, Q_B⟩ hb_ hon hoff K hK
       have e17 : a.tmps[17]? = some (.slice (some ax) xs.length c) := by rw [ha]; exact (putSel_off rfl).trans rfl
       have e18 : a.tmps[18]? = some (.int .i64 (i : Int)) := by rw [ha]; exact (putSel_off rfl).trans rfl
       replace ha := Am ha
       refine value_ (w1 := w') (v := .pointer (some (ax.add (i * 15)))) (by rfl) rfl ?_ ?_
       ·go_simp
        (try simp only [i64_w])
        try rfl
       refine hK.out _ _ ⟨(puk ha 0 hb_ rfl rfl rfl), Q_B⟩
      refine sc rfl ?_ ?_
      ·rintro b a w' ⟨ha, Q_B⟩ hb_ hon hoff K hK
       have e19 := psn ha 0 rfl rfl (hon 2 (by kernel_rfl)) rfl
       replace ha := Am ha
       have B := Am Q_B
       refine value_ (w1 := w') (v := .agg CX) (by rfl) rfl (exec_load_cells 41 (.tmp 19) rfl (eval_of e19) CX _ (fun j v hv => pw_cell_below B.out (HLX.out j v hv)) Tryd.underlying41 rfl HXS.out) ?_
       refine hK.out _ _ ⟨(puk ha 1 hb_ rfl rfl rfl), B.out⟩
      refine sc rfl ?_ ?_
      ·rintro b a w' ⟨ha, Q_B⟩ hb_ hon hoff K hK
       have e21 : a.tmps[21]? = some (.slice (some ay) ys.length d) := by rw [ha]; exact (putSel_off rfl).trans rfl
       have e22 : a.tmps[22]? = some (.int .i64 (i : Int)) := by rw [ha]; exact (putSel_off rfl).trans rfl
       replace ha := Am ha
       refine value_ (w1 := w') (v := .pointer (some (ay.add (i * 15)))) (by rfl) rfl ?_ ?_
       ·go_simp
        (try simp only [i64_w])
        try rfl
       refine hK.out _ _ ⟨(puk ha 2 hb_ rfl rfl rfl), Q_B⟩
      refine sc rfl ?_ ?_
      ·rintro b a w' ⟨ha, Q_B⟩ hb_ hon hoff K hK
       have e23 := psn ha 2 rfl rfl (hon 6 (by kernel_rfl)) rfl
       replace ha := Am ha
       have B := Am Q_B
       refine value_ (w1 := w') (v := .agg CY) (by rfl) rfl (exec_load_cells 41 (.tmp 23) rfl (eval_of e23) CY _ (fun j v hv => pw_cell_below B.out (HLY.out j v hv)) Tryd.underlying41 rfl HYS.out) ?_
       refine hK.out _ _ ⟨(puk ha 3 hb_ rfl rfl rfl), B.out⟩
      refine sc rfl ?_ ?_
      ·rintro b a w' ⟨ha, Q_B⟩ hb_ hon hoff K hK
       have e20 := psn ha 1 rfl rfl (hon 3 (by kernel_rfl)) rfl
       have e24 := psn ha 3 rfl rfl (hon 7 (by kernel_rfl)) rfl
       replace ha := Am ha
       have B := Am Q_B
       refine goes_ Tryd.func32 (by kernel_rfl) rfl #[.agg CX, .agg CY] (by rfl) rfl rfl (by first | (simp only [List.map_toArray, List.map_cons, List.map_nil, Act.eval, Array.getD_eq_getD_getElem?, Option.getD_some, e20, e24]; done) | (simp only [List.map_toArray, List.map_cons, List.map_nil, Act.eval, Array.getD_eq_getD_getElem?, Option.getD_some, e20, e24]; rfl)) ?_
       refine (HSM.out w' B.out).mono ?_
       rintro e w1 ⟨rfl, hB1⟩
       refine ⟨_, rfl, ?_⟩
       refine hK.out _ _ ⟨(puk ha 4 hb_ rfl rfl rfl), below_then B.out B.out.size hB1⟩
      refine sc rfl ?_ ?_
      ·rintro b a w' ⟨ha, Q_B⟩ hb_ hon hoff K hK
       have e25 := psn ha 4 rfl rfl (hon 8 (by kernel_rfl)) rfl
       replace ha := Am ha
       refine value_ (w1 := w') (v := .bool (!q)) (by rfl) rfl ?_ ?_
       ·go_simp
        (try simp only [i64_w])
        try rfl
       refine hK.out _ _ ⟨(puk ha 5 hb_ rfl rfl rfl), Q_B⟩
      exact steps_nil
     rintro b a w' hall ⟨ha, Q_B⟩
     clear B
     have hb2_ := hall 2 (by kernel_rfl)
     have hb3_ := hall 3 (by kernel_rfl)
     have hb6_ := hall 6 (by kernel_rfl)
     have hb7_ := hall 7 (by kernel_rfl)
     have hb8_ := hall 8 (by kernel_rfl)
     have hb9_ := hall 9 (by kernel_rfl)
     subst ha
     simp only [putSel, hb2_, hb3_, hb6_, hb7_, hb8_, hb9_, if_true, Act.put, List.setIfInBounds_toArray, List.set_cons_zero, List.set_cons_succ]
     have B := Am Q_B
     clear Q_B
     clear hall hb2_ hb3_ hb6_ hb7_ hb8_ hb9_
     have HB2 := Lh (below_then HB.out HB.out.size B.out)
     rw [HQ.out]
     clear B HSM HLX HLY HQ
     go_wp2
     go_ret
     exact ⟨by rw [HDD.out]; try rfl, HB2.out⟩
   ·obtain rfl : i = xs.length := by omega
    have HD := Lh (show decide (xs = ys) = true by rw [HS.out, List.drop_length, HL.out, List.drop_length]; rfl)
    go_wp2
    go_ret
    exact ⟨by rw [HD.out]; try rfl, HB.out⟩
 ·have HD := Lh (show decide (xs = ys) = false from decide_eq_false (fun e => hl (congrArg List.length e)))
  have hl2 : ¬ (xs.length : Int) = (ys.length : Int) := by omega
  go_enter Tryd.func25, Tryd.ntmps25
  go_wp2
  go_ret
  exact ⟨by rw [HD.out]; try rfl, Below.refl _ _⟩
end Go.Proofs.YtdlamomabonkjaaDoor.Ch
end
section
namespace Go.Proofs.YtdlamomabonkjaaDoor.Pk
open Go.RowKit YtdlamomabonkjaaDoorW.PrintWords YtdlamomabonkjaaDoorW.PrintLast Base PCh ParDec ParEnc Ch Crc CrcMath
set_option maxHeartbeats 4000000 in
theorem pencode_with (w : World) (f t q : Int) (A : Option Addr) (c : Nat) (l : List Chk) (hT : Table w) (hl : Kd.C k41 w A l.length l) (hc : l.length ≤ c) (hce : ∀ W, Below w.heap.size w W → Calls Tryd.prog 28 #[.slice A l.length c] W fun e w' => ∃ v, e = .returned (.tuple #[v, .int .i64 (encD l).2]) ∧ (Kd.int .u8).R 5 w' W.heap.size (fun _ => True) v (encD l).1 ∧ Below W.heap.size W w') (hin : ∀ b ∈ (encD l).1, inB b) (hen : (encD l).2 = 0 → (encD l).1.length ≤ 65536) :
  Calls Tryd.prog 10 #[.agg #[.int .u16 f, .int .u16 t, .int .u32 q, .slice A l.length c]] w fun e w' => ∃ v, e = .returned (.tuple #[v, .int .i64 (pencD f t q l).2]) ∧ byte.R 5 w' w.heap.size (fun _ => True) v (pencD f t q l).1 ∧ Below w.heap.size w w' := by
 have HP := Lh (fun (W : World) (hW : Below w.heap.size w W) => packet_ports.calls f t q A c l _ W (Kd.C_below hl hW) hc (ports_ok f t q l))
 have HA := Lh (fun (W : World) (hW : Below w.heap.size w W) => apart_calls W A c l (Kd.C_below hl hW))
 have HE := Lh hce
 have HT := Lh (fun (W : World) (hW : Below w.heap.size w W) => hT.below hW)
 obtain ⟨D, hD⟩ : ∃ D, pencD f t q l = D := ⟨_, rfl⟩
 rw [hD]
 unfold pencD at hD
 obtain ⟨g, hg⟩ : ∃ g, w.heap.size = g := ⟨_, rfl⟩
 have HG := Lh hg
 generalize (decide (0 < f) && decide (0 < t)) = pb at *
 generalize apartB l = ab at *
 have HIN := Lh hin
 have HEN := Lh hen
 clear hin hen
 generalize (encD l).2 = ec at *
 generalize (encD l).1 = eb at *
 have hln : ((l.length : Int) = 0) = (l.length = 0) := by simp
 have HLN := Lh hln
 clear hl hc hce hT hln hg
 have HD := Lh hD
 clear hD
 go_enter Tryd.func10, Tryd.ntmps10
 go_upto_region 1 with (fail)
 refine wp_gen (fun W => Below w.heap.size w W ∧ W.heap[w.heap.size]? = some (.cells #[.int .u16 f, .int .u16 t, .int .u32 q, .slice A l.length c] 26 (0, 0))) ⟨below_alloc (Below.refl _ _) _, blk_new w _⟩ ?_
 rintro W0 ⟨hB0, hb0⟩
 have HB0 := Lh hB0
 have k0 : W0.cell? ⟨w.heap.size, 0, none⟩ = some (.int .u16 f) := blk_cell hb0 0
 have k1 : W0.cell? ⟨w.heap.size, 1, none⟩ = some (.int .u16 t) := blk_cell hb0 1
 have k2 : W0.cell? ⟨w.heap.size, 2, none⟩ = some (.int .u32 q) := blk_cell hb0 2
 have k3 : W0.cell? ⟨w.heap.size, 3, none⟩ = some (.slice A l.length c) := blk_cell hb0 3
 have HBK := Lh (fun (W : World) (h : Below W0.heap.size W0 W) => blk_below hb0 h)
 clear hb0 hB0
 go_wp2_with fail
 refine (HP.out W0 HB0.out).mono ?_
 rintro e W1 ⟨rfl, hB1⟩
 have H1 := Lh hB1
 clear hB1 HP k0 k1 k2 k3
 cases pb with
 | false =>
  have hd := HD.out
  rw [if_pos rfl] at hd
  have HD1 := Lh hd
  clear hd HD HA HE HEN HIN HT
  go_wp2
  go_ret2
  rw [← HD1.out]
  exact ⟨_, rfl, Kd.R_nil _ _ _ _ _, below_then HB0.out HB0.out.size H1.out⟩
 | true =>
  have hd := HD.out
  rw [if_neg (by decide)] at hd
  clear HD
  have k3 : W1.cell? ⟨w.heap.size, 3, none⟩ = some (.slice A l.length c) := blk_cell (HBK.out _ H1.out) 3
  by_cases hl0 : l.length = 0
  ·rw [if_pos hl0] at hd
   have hz : (((l.length : Nat) : Int) == 0) = true := by simp [hl0]
   have HD1 := Lh hd
   clear hd HA HE HEN HIN HT hl0
   go_wp2
   go_ret2
   rw [← HD1.out]
   exact ⟨_, rfl, Kd.R_nil _ _ _ _ _, below_then HB0.out HB0.out.size H1.out⟩
  have hz : (((l.length : Nat) : Int) == 0) = false := by simp [hl0]
  rw [if_neg hl0] at hd
  have HD := Lh hd
  clear hd hl0
  go_wp2_with fail
  refine (HA.out W1 (below_then HB0.out HB0.out.size H1.out)).mono ?_
  rintro e W2 ⟨rfl, hB2⟩
  have H2 := Lh (below_then H1.out H1.out.size hB2)
  clear hB2 HA k3 H1
  have k3 : W2.cell? ⟨w.heap.size, 3, none⟩ = some (.slice A l.length c) := blk_cell (HBK.out _ H2.out) 3
  cases ab with
  | true =>
   have hd := HD.out
   rw [if_pos rfl] at hd
   have HD1 := Lh hd
   clear hd HD HE HEN HIN HT
   go_wp2
   go_ret2
   rw [← HD1.out]
   exact ⟨_, rfl, Kd.R_nil _ _ _ _ _, below_then HB0.out HB0.out.size H2.out⟩
  | false =>
   have hd := HD.out
   rw [if_neg (by decide)] at hd
   clear HD
   have HD := Lh hd
   clear hd
   go_wp2_with fail
   refine (HE.out W2 (below_then HB0.out HB0.out.size H2.out)).mono ?_
   rintro e w2 ⟨v, rfl, hR, hB2⟩
   obtain ⟨A1, c1, rfl, hle, hC1⟩ := Kd.R_reads hR
   have H3 := Lh (below_then H2.out H2.out.size hB2)
   have HBW := Lh (below_then HB0.out HB0.out.size H3.out)
   have HC1 := Lh hC1
   have HLE := Lh hle
   clear hB2 HE k3 H2 hR hC1 hle
   by_cases hec : ec = 0
   ·subst hec
    have hd := HD.out
    rw [if_pos rfl] at hd
    clear HD
    have HN1 := Lh (HEN.out rfl)
    have hw : wrap64 (12 + ((eb.length : Nat) : Int)) = ((12 + eb.length : Nat) : Int) := by have := HN1.out; unfold wrap64; omega
    by_cases hl6 : 65536 < 12 + eb.length
    ·rw [if_pos hl6] at hd
     have hz2 : decide ((65536 : Int) < ((12 + eb.length : Nat) : Int)) = true := decide_eq_true (by omega)
     have HD1 := Lh hd
     clear hd HEN HIN HT hl6
     generalize ((12 + eb.length : Nat) : Int) = n12 at *
     generalize eb.length = ebl at *
     go_wp2
     go_ret2
     rw [← HD1.out]
     exact ⟨_, rfl, Kd.R_nil _ _ _ _ _, HBW.out⟩
    ·rw [if_neg hl6] at hd
     have hz2 : decide ((65536 : Int) < ((12 + eb.length : Nat) : Int)) = false := decide_eq_false (by omega)
     have HD1 := Lh hd
     clear hd
     generalize ((12 + eb.length : Nat) : Int) = n12 at *
     go_upto_region 12 with (fail)
     clear hw hz2 n12
     have HBG := Lh (HBK.out _ H3.out)
     rw [HG.out] at HBG ⊢
     clear HBK
     refine grow_region (B := pkeB12) [0, 1, 2, 3, 4, 5, 6, 7, 8, 9, 10, 11] [3, 7, 10, 11] (fun s v W => match s with | 0 => Below w2.heap.size w2 W | 1 => PX w2 ([] ++ twoL [f]) v W | 2 => PX w2 ([] ++ twoL [f] ++ twoL [t]) v W | _ => PX w2 ([] ++ twoL [f] ++ twoL [t] ++ fourL [q]) v W) (.slice none 0 0) (fun vs => [(0, 33, .pointer (some ⟨g, 0, none⟩)), (1, 34, .int .u16 f), (2, 35, .int .u32 (IntKind.u32.wrap f)), (3, 36, vs 1), (4, 37, .pointer (some ⟨g, 1, none⟩)), (5, 38, .int .u16 t), (6, 39, .int .u32 (IntKind.u32.wrap t)), (7, 40, vs 2), (8, 41, .pointer (some ⟨g, 2, none⟩)), (9, 42, .int .u32 q), (10, 43, vs 3), (11, 6, vs 4)]) (by kernel_rfl) rfl (l := #[false, false, false, false, false, false, false, false, false, false, false, false]) rfl pketab12 pkebits12 (by kernel_rfl) (by kernel_rfl) (fun _ => rfl) rfl ?_ ?_ ?_
     ·exact pw_below_drewN (Below.refl _ _) 1
     ·exact steps_cons (gr_op (p := 1) (fun w => Below w2.heap.size w2 w) 0 0 rfl rfl rfl (fun _ => rfl) (fun _ => rfl) rfl (u := .pointer (some ⟨g, 0, none⟩)) (rd_off (p := 1) (fun _ => rfl) rfl) (fun s x w h => by match s, h with | 0, h => exact h | 1, h => exact h.bl | 2, h => exact h.bl | _ + 3, h => exact h.bl) (fun a w hJ e => by go_simp)) (steps_cons (gr_op (p := 33) (fun w => Below w2.heap.size w2 w) 1 1 rfl rfl rfl (fun _ => rfl) (fun _ => rfl) rfl (u := .pointer (some ⟨g, 0, none⟩)) (rd_on (p := 33) 0 0 (fun _ => rfl) (fun _ => rfl) (by kernel_rfl) rfl) (fun s x w h => by match s, h with | 0, h => exact h | 1, h => exact h.bl | 2, h => exact h.bl | _ + 3, h => exact h.bl) (fun a w hJ e => by have hs : w.cell? ⟨g, 0, none⟩ = some (.int .u16 f) := blk_cell (blk_below HBG.out hJ) 0; go_simp)) (steps_cons (gr_op (p := 34) (fun w => Below w2.heap.size w2 w) 2 2 rfl rfl rfl (fun _ => rfl) (fun _ => rfl) rfl (u := .int .u16 f) (rd_on (p := 34) 1 1 (fun _ => rfl) (fun _ => rfl) (by kernel_rfl) rfl) (fun s x w h => by match s, h with | 0, h => exact h | 1, h => exact h.bl | 2, h => exact h.bl | _ + 3, h => exact h.bl) (fun a w hJ e => by go_simp)) (steps_cons (gr_callc (vals := [.slice none 0 0, .int .u32 (IntKind.u32.wrap f), .int .i64 2]) 3 3 0 rfl rfl rfl rfl (fun _ => rfl) (fun _ _ => rfl) (fun _ => rfl) rfl (by kernel_rfl) Tryd.func29 (by kernel_rfl) rfl rfl (ar_c (.slice none 0 0) (ar_t (rd_on (p := 35) 2 2 (fun _ => rfl) (fun _ => rfl) (by kernel_rfl) rfl) (ar_c (.int .i64 2) (ar_n)))) (fun u w h => by have h := (PX.nil h).two (IntKind.u32.wrap f) _ (two32 f) (by simp); exact h)) (steps_cons (gr_op (p := 1) (fun w => Below w2.heap.size w2 w) 4 4 rfl rfl rfl (fun _ => rfl) (fun _ => rfl) rfl (u := .pointer (some ⟨g, 0, none⟩)) (rd_off (p := 1) (fun _ => rfl) rfl) (fun s x w h => by match s, h with | 0, h => exact h | 1, h => exact h.bl | 2, h => exact h.bl | _ + 3, h => exact h.bl) (fun a w hJ e => by go_simp)) (steps_cons (gr_op (p := 37) (fun w => Below w2.heap.size w2 w) 5 5 rfl rfl rfl (fun _ => rfl) (fun _ => rfl) rfl (u := .pointer (some ⟨g, 1, none⟩)) (rd_on (p := 37) 4 4 (fun _ => rfl) (fun _ => rfl) (by kernel_rfl) rfl) (fun s x w h => by match s, h with | 0, h => exact h | 1, h => exact h.bl | 2, h => exact h.bl | _ + 3, h => exact h.bl) (fun a w hJ e => by have hs : w.cell? ⟨g, 1, none⟩ = some (.int .u16 t) := blk_cell (blk_below HBG.out hJ) 1; go_simp)) (steps_cons (gr_op (p := 38) (fun w => Below w2.heap.size w2 w) 6 6 rfl rfl rfl (fun _ => rfl) (fun _ => rfl) rfl (u := .int .u16 t) (rd_on (p := 38) 5 5 (fun _ => rfl) (fun _ => rfl) (by kernel_rfl) rfl) (fun s x w h => by match s, h with | 0, h => exact h | 1, h => exact h.bl | 2, h => exact h.bl | _ + 3, h => exact h.bl) (fun a w hJ e => by go_simp)) (steps_cons (gr_call (vals := [.int .u32 (IntKind.u32.wrap t), .int .i64 2]) 7 7 1 rfl rfl rfl rfl (fun _ => rfl) (fun _ _ => rfl) (fun _ => rfl) rfl (by kernel_rfl) Tryd.func29 (by kernel_rfl) rfl rfl rfl (fv := fun vs => vs 1) (rd_on (p := 36) 3 3 (fun _ => rfl) (fun _ => rfl) (by kernel_rfl) rfl) (fun _ _ => rfl) (ar_t (rd_on (p := 39) 6 6 (fun _ => rfl) (fun _ => rfl) (by kernel_rfl) rfl) (ar_c (.int .i64 2) (ar_n))) (fun u w h => h.two (IntKind.u32.wrap t) _ (two32 t) (by simp [twoL_length]))) (steps_cons (gr_op (p := 1) (fun w => Below w2.heap.size w2 w) 8 8 rfl rfl rfl (fun _ => rfl) (fun _ => rfl) rfl (u := .pointer (some ⟨g, 0, none⟩)) (rd_off (p := 1) (fun _ => rfl) rfl) (fun s x w h => by match s, h with | 0, h => exact h | 1, h => exact h.bl | 2, h => exact h.bl | _ + 3, h => exact h.bl) (fun a w hJ e => by go_simp)) (steps_cons (gr_op (p := 41) (fun w => Below w2.heap.size w2 w) 9 9 rfl rfl rfl (fun _ => rfl) (fun _ => rfl) rfl (u := .pointer (some ⟨g, 2, none⟩)) (rd_on (p := 41) 8 8 (fun _ => rfl) (fun _ => rfl) (by kernel_rfl) rfl) (fun s x w h => by match s, h with | 0, h => exact h | 1, h => exact h.bl | 2, h => exact h.bl | _ + 3, h => exact h.bl) (fun a w hJ e => by have hs : w.cell? ⟨g, 2, none⟩ = some (.int .u32 q) := blk_cell (blk_below HBG.out hJ) 2; go_simp)) (steps_cons (gr_call (vals := [.int .u32 q, .int .i64 4]) 10 10 2 rfl rfl rfl rfl (fun _ => rfl) (fun _ _ => rfl) (fun _ => rfl) rfl (by kernel_rfl) Tryd.func29 (by kernel_rfl) rfl rfl rfl (fv := fun vs => vs 2) (rd_on (p := 40) 7 7 (fun _ => rfl) (fun _ => rfl) (by kernel_rfl) rfl) (fun _ _ => rfl) (ar_t (rd_on (p := 42) 9 9 (fun _ => rfl) (fun _ => rfl) (by kernel_rfl) rfl) (ar_c (.int .i64 4) (ar_n))) (fun u w h => h.four q (by simp [twoL_length]))) (steps_cons (gr_last 11 11 3 rfl rfl rfl rfl (fun _ => rfl) (fun _ _ => rfl) (fun _ => rfl) rfl (by kernel_rfl) (fv := fun vs => vs 3) (rd_on (p := 43) 10 10 (fun _ => rfl) (fun _ => rfl) (by kernel_rfl) rfl) (fun _ _ => rfl) (fun a w u e => by go_simp) (fun _ _ h => h)) steps_nil)))))))))))
     intro vs1 W4 hX9
     have HX := Lh hX9
     clear hX9
     simp only [putSel, if_true, Act.put, List.setIfInBounds_toArray, List.set_cons_zero, List.set_cons_succ]
     obtain ⟨u1_, hu⟩ : ∃ u, vs1 4 = u := ⟨_, rfl⟩
     replace HX := Lh (show PX w2 ([] ++ twoL [f] ++ twoL [t] ++ fourL [q]) (vs1 4) W4 from HX.out)
     rw [hu] at HX ⊢
     clear hu
     go_wp2_with fail
     have HF := HX.out.four 0 (by simp [twoL_length, fourL_length])
     rw [show ([] ++ twoL [f] ++ twoL [t] ++ fourL [q] ++ fourL [0] : List Int) = headL f t q from rfl] at HF
     have HYL := Lh (headL_length f t q)
     have HYI := Lh (head_in f t q)
     generalize headL f t q = ys at *
     refine HF.mono ?_
     clear HF HX
     rintro e W4 ⟨v4, rfl, hX9⟩
     obtain ⟨Au, cu, hu⟩ := Kd.R_slice hX9.r
     subst hu
     have HX4 := Lh hX9
     clear hX9
     go_wp2_with (at_builtin; go_must (refine Kd.R_append_row (Value.int .u8) (0 : Int) (w0 := w2) (W := W4) w2.heap.size rfl _ _ 27 5 _ 1 rfl Tryd.underlying27 info_u8 rfl (by decide) (.slice Au ys.length cu) ys eb A1 _ c1 (fun _ => True) rfl rfl (fun _ _ => trivial) HX4.out.r (Kd.C_below HC1.out HX4.out.bl) HX4.out.bl HX4.out.bl.size (by have := HYL.out; have := HN1.out; omega) ?_); (intro v1 w1 hR1 hB1 hG1 _; have HR1 := Lh hR1; have HB1 := Lh hB1; clear hR1 hB1 hG1; refine RowKit.Hid.out ?_))
     refine Lh ?_
     obtain ⟨A5, c5, hv5, hle5, hC5⟩ := Kd.R_reads HR1.out
     subst hv5
     have hin5 : ∀ b ∈ ys ++ eb, inB b := fun b hb => by
      rcases List.mem_append.1 hb with h | h
      ·exact HYI.out b h
      ·exact HIN.out b h
     have hlen : (ys ++ eb).length = 12 + eb.length := by rw [List.length_append, HYL.out]
     obtain ⟨bs, hbs⟩ : ∃ bs, bytesOf (ys ++ eb) = bs := ⟨_, rfl⟩
     have hbi : ints bs = ys ++ eb := by rw [← hbs]; exact ints_bytesOf _ hin5
     have hbl : (ys ++ eb).length = bs.length := by rw [← hbi, ints_length]
     rw [hbs] at HD1
     have HC5 := byte_of_int (by rw [hbi]; exact hC5 : (Kd.int .u8).C w1 A5 (ints bs).length (ints bs))
     have HPUT := Lh (Crc.put_calls A5 c5 bs w1 (HT.out w1 (below_then HBW.out HBW.out.size HB1.out)) HC5 (by rw [← hbl]; exact hle5) (by have := HN1.out; omega) (by omega))
     unfold PutDone at HPUT
     rw [← putL_eq] at HPUT
     have HB5 := Lh (below_then HBW.out HBW.out.size HB1.out)
     rw [hbl]
     clear hbl hbi hin5 hlen HC5 hC5 hle5 hbs HR1 HB1 HX4 HIN HEN HT HC1
     generalize bs.length = bl at *
     generalize putL bs = pl at *
     go_wp2_with fail
     refine HPUT.out.mono ?_
     rintro e W6 ⟨v6, rfl, hR6, hB6⟩
     have HR6 := Lh hR6
     have HB6 := Lh hB6
     clear hR6 hB6 HPUT
     go_wp2
     go_ret2
     rw [← HD1.out]
     exact ⟨_, rfl, Kd.R_lower HR6.out HB5.out.size, below_then HB5.out HB5.out.size HB6.out⟩
   ·have hd := HD.out
    rw [if_neg hec] at hd
    have hz : (ec == 0) = false := by simp [hec]
    have HD1 := Lh hd
    clear hd HD HEN HIN HT
    go_wp2
    go_ret2
    rw [← HD1.out]
    exact ⟨_, rfl, Kd.R_nil _ _ _ _ _, HBW.out⟩
end Go.Proofs.YtdlamomabonkjaaDoor.Pk
end
section
namespace Go.Proofs.YtdlamomabonkjaaDoor.Ch
open Go.RowKit YtdlamomabonkjaaDoorW.PrintWords YtdlamomabonkjaaDoorW.PrintLast Base PCh
theorem eqn_u32 (w : World) (A B : Option Addr) (c d : Nat) : Calls Tryd.prog 66 #[.slice A 0 c, .slice B 0 d] w fun e w' => e = .returned (.bool true) ∧ Below w.heap.size w w' := by
 go_enter Tryd.func66, Tryd.ntmps66
 go_wp2
 go_loopw [13] (fun v13 w' => v13 = .int .i64 0 ∧ w' = w) (fun v13 _ => 0)
 case atStart => exact ⟨rfl, rfl⟩
 case round =>
  obtain ⟨rfl, rfl⟩ := hrel
  go_wp2
  go_ret
  exact ⟨rfl, Below.refl _ _⟩
theorem eqn_byte (w : World) (A B : Option Addr) (c d : Nat) : Calls Tryd.prog 67 #[.slice A 0 c, .slice B 0 d] w fun e w' => e = .returned (.bool true) ∧ Below w.heap.size w w' := by
 go_enter Tryd.func67, Tryd.ntmps67
 go_wp2
 go_loopw [13] (fun v13 w' => v13 = .int .i64 0 ∧ w' = w) (fun v13 _ => 0)
 case atStart => exact ⟨rfl, rfl⟩
 case round =>
  obtain ⟨rfl, rfl⟩ := hrel
  go_wp2
  go_ret
  exact ⟨rfl, Below.refl _ _⟩
theorem eqn_gap0 (w : World) (A B : Option Addr) (c d : Nat) : Calls Tryd.prog 82 #[.slice A 0 c, .slice B 0 d] w fun e w' => e = .returned (.bool true) ∧ Below w.heap.size w w' := by
 go_enter Tryd.func82, Tryd.ntmps82
 go_wp2
 go_loopw [13] (fun v13 w' => v13 = .int .i64 0 ∧ w' = w) (fun v13 _ => 0)
 case atStart => exact ⟨rfl, rfl⟩
 case round =>
  obtain ⟨rfl, rfl⟩ := hrel
  go_wp2
  go_ret
  exact ⟨rfl, Below.refl _ _⟩
theorem eqn_gap (w : World) (A B : Option Addr) (c d : Nat) : Calls Tryd.prog 65 #[.slice A 0 c, .slice B 0 d] w fun e w' => e = .returned (.bool true) ∧ Below w.heap.size w w' := by
 have HE := Lh (eqn_gap0 w A B c d)
 go_enter Tryd.func65, Tryd.ntmps65
 go_wp2_with fail
 refine HE.out.mono ?_
 rintro e w1 ⟨rfl, hB1⟩
 go_wp2
 go_ret
 exact ⟨rfl, hB1⟩
theorem eqn_prm0 (w : World) (A B : Option Addr) (c d : Nat) : Calls Tryd.prog 83 #[.slice A 0 c, .slice B 0 d, .func (.func 84) #[] #[]] w fun e w' => e = .returned (.bool true) ∧ Below w.heap.size w w' := by
 go_enter Tryd.func83, Tryd.ntmps83
 go_wp2
 go_loopw [17] (fun v17 w' => v17 = .int .i64 0 ∧ w' = w) (fun v17 _ => 0)
 case atStart => exact ⟨rfl, rfl⟩
 case round =>
  obtain ⟨rfl, rfl⟩ := hrel
  go_wp2
  go_ret
  exact ⟨rfl, Below.refl _ _⟩
theorem eqn_prm (w : World) (A B : Option Addr) (c d : Nat) : Calls Tryd.prog 68 #[.slice A 0 c, .slice B 0 d] w fun e w' => e = .returned (.bool true) ∧ Below w.heap.size w w' := by
 have HE := Lh (eqn_prm0 w A B c d)
 go_enter Tryd.func68, Tryd.ntmps68
 go_wp2_with fail
 refine HE.out.mono ?_
 rintro e w1 ⟨rfl, hB1⟩
 go_wp2
 go_ret
 exact ⟨rfl, hB1⟩
theorem enc_none (w : World) (A : Option Addr) (c : Nat) : Calls Tryd.prog 74 #[.slice A 0 c] w fun e w' => e = .returned (.tuple #[.slice none 0 0, .int .i64 0]) ∧ Below w.heap.size w w' := by
 go_enter Tryd.func74, Tryd.ntmps74
 go_wp2
 go_loopw [12, 4] (fun v12 v4 w' => v12 = .int .i64 0 ∧ v4 = .slice none 0 0 ∧ w' = w) (fun v12 _ _ => 0)
 case atStart => exact ⟨rfl, rfl, rfl⟩
 case round =>
  obtain ⟨rfl, rfl, rfl⟩ := hrel
  go_wp2
  go_ret2
  exact ⟨rfl, Below.refl _ _⟩
def avX : Chk := ⟨11, 0, 0, 0, 0, 0, 0, 0, 0, 0, [], [], [], [], []⟩
set_option maxHeartbeats 4000000 in
theorem same_av (w : World) (L M : Lay) : Calls Tryd.prog 38 #[.agg (CV avX L), .agg (CV avX M)] w fun e w' => e = .returned (.bool true) ∧ Below w.heap.size w w' := by
 have O0 := Lh (show ((w.alloc (.cells (CV avX L) 41)).alloc (.cells (CV avX M) 41)).heap[w.heap.size]? = some (.cells (CV avX L) 41 (0, 0)) from blk_alloc (blk_new _ _) _)
 have O1 := Lh (show ((w.alloc (.cells (CV avX L) 41)).alloc (.cells (CV avX M) 41)).heap[w.heap.size + 1]? = some (.cells (CV avX M) 41 (0, 0)) by have h := blk_new (w.alloc (.cells (CV avX L) 41)) (.cells (CV avX M) 41); rw [World.size_alloc] at h; exact h)
 have HB := Lh (below_alloc (below_alloc (Below.refl w.heap.size w) (.cells (CV avX L) 41)) (.cells (CV avX M) 41))
 have H10 := Lh (fun (W : World) => eqn_gap W L.A10 M.A10 L.c10 M.c10)
 have H11 := Lh (fun (W : World) => eqn_gap W L.A11 M.A11 L.c11 M.c11)
 have H12 := Lh (fun (W : World) => eqn_u32 W L.A12 M.A12 L.c12 M.c12)
 have H13 := Lh (fun (W : World) => eqn_byte W L.A13 M.A13 L.c13 M.c13)
 have H14 := Lh (fun (W : World) => eqn_prm W L.A14 M.A14 L.c14 M.c14)
 have u0 := (blk_cell O0.out 0).trans (show (CV avX L)[0]? = some (.int .u8 11) from rfl)
 have v0 := (blk_cell O1.out 0).trans (show (CV avX M)[0]? = some (.int .u8 11) from rfl)
 have u1 := (blk_cell O0.out 1).trans (show (CV avX L)[1]? = some (.int .u8 0) from rfl)
 have v1 := (blk_cell O1.out 1).trans (show (CV avX M)[1]? = some (.int .u8 0) from rfl)
 have u2 := (blk_cell O0.out 2).trans (show (CV avX L)[2]? = some (.int .u32 0) from rfl)
 have v2 := (blk_cell O1.out 2).trans (show (CV avX M)[2]? = some (.int .u32 0) from rfl)
 have u3 := (blk_cell O0.out 3).trans (show (CV avX L)[3]? = some (.int .u16 0) from rfl)
 have v3 := (blk_cell O1.out 3).trans (show (CV avX M)[3]? = some (.int .u16 0) from rfl)
 have u4 := (blk_cell O0.out 4).trans (show (CV avX L)[4]? = some (.int .u16 0) from rfl)
 have v4 := (blk_cell O1.out 4).trans (show (CV avX M)[4]? = some (.int .u16 0) from rfl)
 have u5 := (blk_cell O0.out 5).trans (show (CV avX L)[5]? = some (.int .u32 0) from rfl)
 have v5 := (blk_cell O1.out 5).trans (show (CV avX M)[5]? = some (.int .u32 0) from rfl)
 have u6 := (blk_cell O0.out 6).trans (show (CV avX L)[6]? = some (.int .u32 0) from rfl)
 have v6 := (blk_cell O1.out 6).trans (show (CV avX M)[6]? = some (.int .u32 0) from rfl)
 have u7 := (blk_cell O0.out 7).trans (show (CV avX L)[7]? = some (.int .u32 0) from rfl)
 have v7 := (blk_cell O1.out 7).trans (show (CV avX M)[7]? = some (.int .u32 0) from rfl)
 have u8 := (blk_cell O0.out 8).trans (show (CV avX L)[8]? = some (.int .u16 0) from rfl)
 have v8 := (blk_cell O1.out 8).trans (show (CV avX M)[8]? = some (.int .u16 0) from rfl)
 have u9 := (blk_cell O0.out 9).trans (show (CV avX L)[9]? = some (.int .u16 0) from rfl)
 have v9 := (blk_cell O1.out 9).trans (show (CV avX M)[9]? = some (.int .u16 0) from rfl)
 have u10 := (blk_cell O0.out 10).trans (show (CV avX L)[10]? = some (.slice L.A10 0 L.c10) from rfl)
 have v10 := (blk_cell O1.out 10).trans (show (CV avX M)[10]? = some (.slice M.A10 0 M.c10) from rfl)
 have u11 := (blk_cell O0.out 11).trans (show (CV avX L)[11]? = some (.slice L.A11 0 L.c11) from rfl)
 have v11 := (blk_cell O1.out 11).trans (show (CV avX M)[11]? = some (.slice M.A11 0 M.c11) from rfl)
 have u12 := (blk_cell O0.out 12).trans (show (CV avX L)[12]? = some (.slice L.A12 0 L.c12) from rfl)
 have v12 := (blk_cell O1.out 12).trans (show (CV avX M)[12]? = some (.slice M.A12 0 M.c12) from rfl)
 have u13 := (blk_cell O0.out 13).trans (show (CV avX L)[13]? = some (.slice L.A13 0 L.c13) from rfl)
 have v13 := (blk_cell O1.out 13).trans (show (CV avX M)[13]? = some (.slice M.A13 0 M.c13) from rfl)
 have u14 := (blk_cell O0.out 14).trans (show (CV avX L)[14]? = some (.slice L.A14 0 L.c14) from rfl)
 have v14 := (blk_cell O1.out 14).trans (show (CV avX M)[14]? = some (.slice M.A14 0 M.c14) from rfl)
 have EU11 := Lh (show (CV avX L)[11]? = some (.slice L.A11 0 L.c11) from rfl)
 have EV11 := Lh (show (CV avX M)[11]? = some (.slice M.A11 0 M.c11) from rfl)
 have EU12 := Lh (show (CV avX L)[12]? = some (.slice L.A12 0 L.c12) from rfl)
 have EV12 := Lh (show (CV avX M)[12]? = some (.slice M.A12 0 M.c12) from rfl)
 have EU13 := Lh (show (CV avX L)[13]? = some (.slice L.A13 0 L.c13) from rfl)
 have EV13 := Lh (show (CV avX M)[13]? = some (.slice M.A13 0 M.c13) from rfl)
 have EU14 := Lh (show (CV avX L)[14]? = some (.slice L.A14 0 L.c14) from rfl)
 have EV14 := Lh (show (CV avX M)[14]? = some (.slice M.A14 0 M.c14) from rfl)
 generalize CV avX L = CX at *
 generalize CV avX M = CY at *
 go_enter Tryd.func38, Tryd.ntmps38
 go_wp2_with fail
 refine (H10.out _).mono ?_
 rintro e W1 ⟨rfl, hB1⟩
 clear u0 v0 u1 v1 u2 v2 u3 v3 u4 v4 u5 v5 u6 v6 u7 v7 u8 v8 u9 v9 u10 v10 u11 v11 u12 v12 u13 v13 u14 v14
 replace O0 := Lh (blk_below O0.out hB1)
 replace O1 := Lh (blk_below O1.out hB1)
 replace HB := Lh (below_then HB.out HB.out.size hB1)
 have u11 := (blk_cell O0.out 11).trans EU11.out
 have v11 := (blk_cell O1.out 11).trans EV11.out
 clear hB1
 go_wp2_with fail
 refine (H11.out _).mono ?_
 rintro e W2 ⟨rfl, hB2⟩
 clear u11 v11
 replace O0 := Lh (blk_below O0.out hB2)
 replace O1 := Lh (blk_below O1.out hB2)
 replace HB := Lh (below_then HB.out HB.out.size hB2)
 have u12 := (blk_cell O0.out 12).trans EU12.out
 have v12 := (blk_cell O1.out 12).trans EV12.out
 clear hB2
 go_wp2_with fail
 refine (H12.out _).mono ?_
 rintro e W3 ⟨rfl, hB3⟩
 clear u12 v12
 replace O0 := Lh (blk_below O0.out hB3)
 replace O1 := Lh (blk_below O1.out hB3)
 replace HB := Lh (below_then HB.out HB.out.size hB3)
 have u13 := (blk_cell O0.out 13).trans EU13.out
 have v13 := (blk_cell O1.out 13).trans EV13.out
 clear hB3
 go_wp2_with fail
 refine (H13.out _).mono ?_
 rintro e W4 ⟨rfl, hB4⟩
 clear u13 v13
 replace O0 := Lh (blk_below O0.out hB4)
 replace O1 := Lh (blk_below O1.out hB4)
 replace HB := Lh (below_then HB.out HB.out.size hB4)
 have u14 := (blk_cell O0.out 14).trans EU14.out
 have v14 := (blk_cell O1.out 14).trans EV14.out
 clear hB4
 go_wp2_with fail
 refine (H14.out _).mono ?_
 rintro e W5 ⟨rfl, hB5⟩
 clear u14 v14
 go_wp2
 go_ret
 exact ⟨rfl, below_then HB.out HB.out.size hB5⟩
end Go.Proofs.YtdlamomabonkjaaDoor.Ch
end
section
namespace Go.Proofs.YtdlamomabonkjaaDoor.Ch
open Go.RowKit YtdlamomabonkjaaDoorW.PrintWords YtdlamomabonkjaaDoorW.PrintLast Base PCh ParDec
set_option maxHeartbeats 8000000 in
theorem bare_none (w : World) (x : Chk) (L : Lay) (hx : CR w x L) (h0 : x.f0 = 11) :
  Calls Tryd.prog 71 #[.agg (CV x L)] w fun e w' => e = .returned (.agg (CV (bareD x) (keepL (hasF x.f0) L))) ∧ Below w.heap.size w w' := by
 clear hx
 obtain ⟨f0, f1, f2, f3, f4, f5, f6, f7, f8, f9, f10, f11, f12, f13, f14⟩ := x
 dsimp only at h0
 subst h0
 obtain ⟨A10, c10, A11, c11, A12, c12, A13, c13, A14, c14⟩ := L
 have hkd : (∃ r, bareD ⟨11, f1, f2, f3, f4, f5, f6, f7, f8, f9, f10, f11, f12, f13, f14⟩ = r) := ⟨_, rfl⟩
 clear hkd
 have X := Bx.new w (CV ⟨11, f1, f2, f3, f4, f5, f6, f7, f8, f9, f10, f11, f12, f13, f14⟩ ⟨A10, c10, A11, c11, A12, c12, A13, c13, A14, c14⟩)
 go_enter Tryd.func71, Tryd.ntmps71
 go_upto_region 1 with (fail)
 refine wp_gen (Bx w (CV ⟨11, f1, f2, f3, f4, f5, f6, f7, f8, f9, f10, f11, f12, f13, f14⟩ ⟨A10, c10, A11, c11, A12, c12, A13, c13, A14, c14⟩)) X ?_
 clear X
 intro W X
 have U0 := Lh (show W.cell? ⟨w.heap.size, 0, none⟩ = some (.int .u8 11) from X.cell 0)
 have U1 := Lh (show W.cell? ⟨w.heap.size, 1, none⟩ = some (.int .u8 f1) from X.cell 1)
 have U2 := Lh (show W.cell? ⟨w.heap.size, 2, none⟩ = some (.int .u32 f2) from X.cell 2)
 have U3 := Lh (show W.cell? ⟨w.heap.size, 3, none⟩ = some (.int .u16 f3) from X.cell 3)
 have U4 := Lh (show W.cell? ⟨w.heap.size, 4, none⟩ = some (.int .u16 f4) from X.cell 4)
 have U5 := Lh (show W.cell? ⟨w.heap.size, 5, none⟩ = some (.int .u32 f5) from X.cell 5)
 have U6 := Lh (show W.cell? ⟨w.heap.size, 6, none⟩ = some (.int .u32 f6) from X.cell 6)
 have U7 := Lh (show W.cell? ⟨w.heap.size, 7, none⟩ = some (.int .u32 f7) from X.cell 7)
 have U8 := Lh (show W.cell? ⟨w.heap.size, 8, none⟩ = some (.int .u16 f8) from X.cell 8)
 have U9 := Lh (show W.cell? ⟨w.heap.size, 9, none⟩ = some (.int .u16 f9) from X.cell 9)
 have U10 := Lh (show W.cell? ⟨w.heap.size, 10, none⟩ = some (.slice A10 f10.length c10) from X.cell 10)
 have U11 := Lh (show W.cell? ⟨w.heap.size, 11, none⟩ = some (.slice A11 f11.length c11) from X.cell 11)
 have U12 := Lh (show W.cell? ⟨w.heap.size, 12, none⟩ = some (.slice A12 f12.length c12) from X.cell 12)
 have U13 := Lh (show W.cell? ⟨w.heap.size, 13, none⟩ = some (.slice A13 f13.length c13) from X.cell 13)
 have U14 := Lh (show W.cell? ⟨w.heap.size, 14, none⟩ = some (.slice A14 f14.length c14) from X.cell 14)
 obtain ⟨fl, hfl⟩ : ∃ fl, flD 11 f1 = fl := ⟨_, rfl⟩
 have HFL := Lh (show bits .and .u8 f1 (maskD 11) = fl from hfl)
 have HFE := Lh hfl
 clear hfl
 have B := True.intro
 refine start_ (n := 11) (S := fun w' => True) (ds := []) #[false, false, false, false, false, false, false, false, false, false, false] (by kernel_rfl) rfl rfl trivial (fun hHeld => ?_)
 refine with_tabW baretab1 barebits1 (fun HT_ HW_ => ?_)
 refine inv_at [0, 1, 2, 3, 4, 5, 6, 7, 8, 9, 10] (fun a0_ b a w' => ∃ (g3 : Nat) (m9_ : Value), a = putSel a0_ b [(0, 4, .pointer (some ⟨w.heap.size, 0, none⟩)), (1, 5, .int .u8 11), (2, 6, .pointer (some ⟨w.heap.size, 1, none⟩)), (3, 7, .int .u8 f1), (4, 8, .pointer (some ⟨w.heap.size, 0, none⟩)), (5, 9, .int .u8 11), (6, 10, .int .u8 (maskD 11)), (7, 11, .int .u8 fl), (8, 12, .agg (#[.int .u8 (11), .int .u8 (fl), .int .u32 0, .int .u16 0, .int .u16 0, .int .u32 0, .int .u32 0, .int .u32 0, .int .u16 0, .int .u16 0, .slice none 0 0, .slice none 0 0, .slice none 0 0, .slice none 0 0, .slice none 0 0])), (9, 3, m9_)] ∧ (Below W.heap.size W w') ∧ (b 9 = true → b 10 = false → w'.heap[g3]? = some (.cells (#[.int .u8 0, .int .u8 0, .int .u32 0, .int .u16 0, .int .u16 0, .int .u32 0, .int .u32 0, .int .u32 0, .int .u16 0, .int .u16 0, .slice none 0 0, .slice none 0 0, .slice none 0 0, .slice none 0 0, .slice none 0 0]) 41 (0, 0)) ∧ W.heap.size ≤ g3) ∧ (b 10 = true → w'.heap[g3]? = some (.cells (#[.int .u8 (11), .int .u8 (fl), .int .u32 0, .int .u16 0, .int .u16 0, .int .u32 0, .int .u32 0, .int .u32 0, .int .u16 0, .int .u16 0, .slice none 0 0, .slice none 0 0, .slice none 0 0, .slice none 0 0, .slice none 0 0]) 41 (0, 0)) ∧ W.heap.size ≤ g3) ∧ (b 9 = true → (m9_ : Value) = .pointer (some ⟨g3, 0, none⟩))) HT_.out HW_.out (by kernel_rfl) (by kernel_rfl) ?_ ?_ ?_
 ·exact ⟨0, .bool false, by simp only [putSel, Bool.false_eq_true, if_false], below_drew (Below.refl _ _), fun h_ => absurd h_ (by decide), fun h_ => absurd h_ (by decide), fun h_ => absurd h_ (by decide)⟩
 ·skip
  clear B
  refine sc rfl ?_ ?_
  ·rintro b a w' ⟨g3, m9_, ha, Q_B, Q_Z, Q_Z2, Q_X9_⟩ hb_ hon hoff K hK
   have e1 : a.tmps[1]? = some (.pointer (some ⟨w.heap.size, 0, none⟩)) := by rw [ha]; exact (putSel_off rfl).trans rfl
   replace ha := Am ha
   refine value_ (w1 := w') (v := .pointer (some ⟨w.heap.size, 0, none⟩)) (by rfl) rfl ?_ ?_
   ·go_simp
    (try simp only [i64_w])
    try rfl
   refine hK.out _ _ ⟨g3, m9_, (puk ha 0 hb_ rfl rfl rfl), Q_B, Q_Z, fun h0_ => hof (hoff 10 (by kernel_rfl)) h0_, Q_X9_⟩
  refine sc rfl ?_ ?_
  ·rintro b a w' ⟨g3, m9_, ha, Q_B, Q_Z, Q_Z2, Q_X9_⟩ hb_ hon hoff K hK
   have e4 := psn ha 0 rfl rfl (hon 0 (by kernel_rfl)) rfl
   replace ha := Am ha
   have B := Am Q_B
   have hs : w'.cell? ⟨w.heap.size, 0, none⟩ = some (.int .u8 11) := pw_cell_below B.out U0.out
   refine value_ (w1 := w') (v := .int .u8 11) (by rfl) rfl ?_ ?_
   ·go_simp
    (try simp only [i64_w])
    try rfl
   refine hK.out _ _ ⟨g3, m9_, (puk ha 1 hb_ rfl rfl rfl), Q_B, Q_Z, fun h0_ => hof (hoff 10 (by kernel_rfl)) h0_, Q_X9_⟩
  refine sc rfl ?_ ?_
  ·rintro b a w' ⟨g3, m9_, ha, Q_B, Q_Z, Q_Z2, Q_X9_⟩ hb_ hon hoff K hK
   have e1 : a.tmps[1]? = some (.pointer (some ⟨w.heap.size, 0, none⟩)) := by rw [ha]; exact (putSel_off rfl).trans rfl
   replace ha := Am ha
   refine value_ (w1 := w') (v := .pointer (some ⟨w.heap.size, 1, none⟩)) (by rfl) rfl ?_ ?_
   ·go_simp
    (try simp only [i64_w])
    try rfl
   refine hK.out _ _ ⟨g3, m9_, (puk ha 2 hb_ rfl rfl rfl), Q_B, Q_Z, fun h0_ => hof (hoff 10 (by kernel_rfl)) h0_, Q_X9_⟩
  refine sc rfl ?_ ?_
  ·rintro b a w' ⟨g3, m9_, ha, Q_B, Q_Z, Q_Z2, Q_X9_⟩ hb_ hon hoff K hK
   have e6 := psn ha 2 rfl rfl (hon 2 (by kernel_rfl)) rfl
   replace ha := Am ha
   have B := Am Q_B
   have hs : w'.cell? ⟨w.heap.size, 1, none⟩ = some (.int .u8 f1) := pw_cell_below B.out U1.out
   refine value_ (w1 := w') (v := .int .u8 f1) (by rfl) rfl ?_ ?_
   ·go_simp
    (try simp only [i64_w])
    try rfl
   refine hK.out _ _ ⟨g3, m9_, (puk ha 3 hb_ rfl rfl rfl), Q_B, Q_Z, fun h0_ => hof (hoff 10 (by kernel_rfl)) h0_, Q_X9_⟩
  refine sc rfl ?_ ?_
  ·rintro b a w' ⟨g3, m9_, ha, Q_B, Q_Z, Q_Z2, Q_X9_⟩ hb_ hon hoff K hK
   have e1 : a.tmps[1]? = some (.pointer (some ⟨w.heap.size, 0, none⟩)) := by rw [ha]; exact (putSel_off rfl).trans rfl
   replace ha := Am ha
   refine value_ (w1 := w') (v := .pointer (some ⟨w.heap.size, 0, none⟩)) (by rfl) rfl ?_ ?_
   ·go_simp
    (try simp only [i64_w])
    try rfl
   refine hK.out _ _ ⟨g3, m9_, (puk ha 4 hb_ rfl rfl rfl), Q_B, Q_Z, fun h0_ => hof (hoff 10 (by kernel_rfl)) h0_, Q_X9_⟩
  refine sc rfl ?_ ?_
  ·rintro b a w' ⟨g3, m9_, ha, Q_B, Q_Z, Q_Z2, Q_X9_⟩ hb_ hon hoff K hK
   have e8 := psn ha 4 rfl rfl (hon 4 (by kernel_rfl)) rfl
   replace ha := Am ha
   have B := Am Q_B
   have hs : w'.cell? ⟨w.heap.size, 0, none⟩ = some (.int .u8 11) := pw_cell_below B.out U0.out
   refine value_ (w1 := w') (v := .int .u8 11) (by rfl) rfl ?_ ?_
   ·go_simp
    (try simp only [i64_w])
    try rfl
   refine hK.out _ _ ⟨g3, m9_, (puk ha 5 hb_ rfl rfl rfl), Q_B, Q_Z, fun h0_ => hof (hoff 10 (by kernel_rfl)) h0_, Q_X9_⟩
  refine sc rfl ?_ ?_
  ·rintro b a w' ⟨g3, m9_, ha, Q_B, Q_Z, Q_Z2, Q_X9_⟩ hb_ hon hoff K hK
   have e9 := psn ha 5 rfl rfl (hon 5 (by kernel_rfl)) rfl
   replace ha := Am ha
   have B := Am Q_B
   refine goes_ Tryd.func88 (by kernel_rfl) rfl #[.int .u8 11] (by rfl) rfl rfl (by first | (simp only [List.map_toArray, List.map_cons, List.map_nil, Act.eval, Array.getD_eq_getD_getElem?, Option.getD_some, e9]; done) | (simp only [List.map_toArray, List.map_cons, List.map_nil, Act.eval, Array.getD_eq_getD_getElem?, Option.getD_some, e9]; rfl)) ?_
   refine (mask_calls 11 w').mono ?_
   rintro e w1 ⟨rfl, hD1⟩
   refine ⟨_, rfl, ?_⟩
   refine hK.out _ _ ⟨g3, m9_, (puk ha 6 hb_ rfl rfl rfl), below_then B.out B.out.size (drawn_below hD1), fun h0_ h1_ => ⟨blk_below (Q_Z h0_ h1_).1 (drawn_below hD1), (Q_Z h0_ h1_).2⟩, fun h0_ => hof (hoff 10 (by kernel_rfl)) h0_, Q_X9_⟩
  refine sc rfl ?_ ?_
  ·rintro b a w' ⟨g3, m9_, ha, Q_B, Q_Z, Q_Z2, Q_X9_⟩ hb_ hon hoff K hK
   have e7 := psn ha 3 rfl rfl (hon 3 (by kernel_rfl)) rfl
   have e10 := psn ha 6 rfl rfl (hon 6 (by kernel_rfl)) rfl
   replace ha := Am ha
   have B := Am Q_B
   refine value_ (w1 := w') (v := .int .u8 fl) (by rfl) rfl (by go_simp; first | done | exact HFL.out) ?_
   refine hK.out _ _ ⟨g3, m9_, (puk ha 7 hb_ rfl rfl rfl), B.out, fun h0_ h1_ => (Q_Z h0_ h1_), fun h0_ => hof (hoff 10 (by kernel_rfl)) h0_, Q_X9_⟩
  refine sc rfl ?_ ?_
  ·rintro b a w' ⟨g3, m9_, ha, Q_B, Q_Z, Q_Z2, Q_X9_⟩ hb_ hon hoff K hK
   have e5 := psn ha 1 rfl rfl (hon 1 (by kernel_rfl)) rfl
   have e11 := psn ha 7 rfl rfl (hon 7 (by kernel_rfl)) rfl
   replace ha := Am ha
   refine value_ (w1 := w') (v := .agg (#[.int .u8 (11), .int .u8 (fl), .int .u32 0, .int .u16 0, .int .u16 0, .int .u32 0, .int .u32 0, .int .u32 0, .int .u16 0, .int .u16 0, .slice none 0 0, .slice none 0 0, .slice none 0 0, .slice none 0 0, .slice none 0 0])) (by rfl) rfl ?_ ?_
   ·go_simp
    (try simp only [i64_w])
    try rfl
   refine hK.out _ _ ⟨g3, m9_, (puk ha 8 hb_ rfl rfl rfl), Q_B, Q_Z, fun h0_ => hof (hoff 10 (by kernel_rfl)) h0_, Q_X9_⟩
  refine sc rfl ?_ ?_
  ·rintro b a w' ⟨g3, m9_, ha, Q_B, Q_Z, Q_Z2, Q_X9_⟩ hb_ hon hoff K hK
   replace ha := Am ha
   have B := Am Q_B
   refine value_ (w1 := w'.alloc (.cells #[.int .u8 0, .int .u8 0, .int .u32 0, .int .u16 0, .int .u16 0, .int .u32 0, .int .u32 0, .int .u32 0, .int .u16 0, .int .u16 0, .slice none 0 0, .slice none 0 0, .slice none 0 0, .slice none 0 0, .slice none 0 0] 41)) (v := .pointer (some ⟨w'.heap.size, 0, none⟩)) (by rfl) rfl (by go_simp; try rfl) ?_
   refine hK.out _ _ ⟨w'.heap.size, (.pointer (some ⟨w'.heap.size, 0, none⟩)), (puk ha 9 hb_ rfl rfl rfl), B.out.alloc B.out.size _, fun _ _ => ⟨blk_new _ _, B.out.size⟩, fun h0_ => hof (hoff 10 (by kernel_rfl)) h0_, fun _ => rfl⟩
  refine sc rfl ?_ ?_
  ·rintro b a w' ⟨g3, m9_, ha, Q_B, Q_Z, Q_Z2, Q_X9_⟩ hb_ hon hoff K hK
   have e3 := psn ha 9 rfl rfl (hon 9 (by kernel_rfl)) rfl
   rw [Q_X9_ (hon 9 (by kernel_rfl))] at e3
   have e12 := psn ha 8 rfl rfl (hon 8 (by kernel_rfl)) rfl
   replace ha := Am ha
   have B := Am Q_B
   have Z := Am (Q_Z (hon 9 (by kernel_rfl)) hb_)
   refine skip_ (w1 := w'.setRow g3 (#[.int .u8 (11), .int .u8 (fl), .int .u32 0, .int .u16 0, .int .u16 0, .int .u32 0, .int .u32 0, .int .u32 0, .int .u16 0, .int .u16 0, .slice none 0 0, .slice none 0 0, .slice none 0 0, .slice none 0 0, .slice none 0 0])) (by rfl) rfl (exec_store_row 41 (.tmp 3) (.tmp 12) rfl (eval_of e3) (eval_of e12) Z.out.1 (by kernel_rfl) rfl (by simp [Value.oneCell'])) ?_
   refine hK.out _ _ ⟨g3, m9_, (by rw [ha.out]; exact putSel_none (v := undef) rfl), below_setRow B.out Z.out.2 _, fun _ h1_ => absurd ((up_self b 10).symm.trans h1_) (by decide), fun _ => ⟨setRow_heap _ _ _ _ _ _ Z.out.1, Z.out.2⟩, Q_X9_⟩
  exact steps_nil
 rintro b a w' hall ⟨g3, m9_, ha, Q_B, Q_Z, Q_Z2, Q_X9_⟩
 clear B
 have hb0_ := hall 0 (by kernel_rfl)
 have hb1_ := hall 1 (by kernel_rfl)
 have hb2_ := hall 2 (by kernel_rfl)
 have hb3_ := hall 3 (by kernel_rfl)
 have hb4_ := hall 4 (by kernel_rfl)
 have hb5_ := hall 5 (by kernel_rfl)
 have hb6_ := hall 6 (by kernel_rfl)
 have hb7_ := hall 7 (by kernel_rfl)
 have hb8_ := hall 8 (by kernel_rfl)
 have hb9_ := hall 9 (by kernel_rfl)
 have hb10_ := hall 10 (by kernel_rfl)
 subst ha
 obtain rfl := Q_X9_ hb9_
 simp only [putSel, hb0_, hb1_, hb2_, hb3_, hb4_, hb5_, hb6_, hb7_, hb8_, hb9_, hb10_, if_true, Act.put, List.setIfInBounds_toArray, List.set_cons_zero, List.set_cons_succ]
 have B := Am Q_B
 clear Q_B
 clear Q_Z
 have Z2 := Am (Q_Z2 hb10_)
 clear Q_Z2
 clear hall hb0_ hb1_ hb2_ hb3_ hb4_ hb5_ hb6_ hb7_ hb8_ hb9_ hb10_
 replace X : By w (CV ⟨11, f1, f2, f3, f4, f5, f6, f7, f8, f9, f10, f11, f12, f13, f14⟩ ⟨A10, c10, A11, c11, A12, c12, A13, c13, A14, c14⟩) (#[.int .u8 (11), .int .u8 (fl), .int .u32 0, .int .u16 0, .int .u16 0, .int .u32 0, .int .u32 0, .int .u32 0, .int .u16 0, .int .u16 0, .slice none 0 0, .slice none 0 0, .slice none 0 0, .slice none 0 0, .slice none 0 0]) g3 w' := ⟨X.below B.out, Z2.out.1, Nat.le_trans X.x3 Z2.out.2⟩
 replace U0 := Lh (pw_cell_below B.out U0.out)
 replace U1 := Lh (pw_cell_below B.out U1.out)
 replace U2 := Lh (pw_cell_below B.out U2.out)
 replace U3 := Lh (pw_cell_below B.out U3.out)
 replace U4 := Lh (pw_cell_below B.out U4.out)
 replace U5 := Lh (pw_cell_below B.out U5.out)
 replace U6 := Lh (pw_cell_below B.out U6.out)
 replace U7 := Lh (pw_cell_below B.out U7.out)
 replace U8 := Lh (pw_cell_below B.out U8.out)
 replace U9 := Lh (pw_cell_below B.out U9.out)
 replace U10 := Lh (pw_cell_below B.out U10.out)
 replace U11 := Lh (pw_cell_below B.out U11.out)
 replace U12 := Lh (pw_cell_below B.out U12.out)
 replace U13 := Lh (pw_cell_below B.out U13.out)
 replace U14 := Lh (pw_cell_below B.out U14.out)
 clear B Z2 HFL
 generalize w' = W at *
 have HN := Lh (show ¬ w.heap.size = g3 by have := X.hg; omega)
 have k0 := U0.out
 go_wp2_with (with_reducible refine gate_dst (N := 93) rfl ?_; go_must (refine wpList_ret_row 93 rfl rfl rfl (.tmp 3) (.tmp 2) rfl rfl rfl _ _ _ _ rfl rfl rfl X.x3 X.bx.x1 rfl rfl (by simp [Value.oneCell']) ?_))
 exact row_end rfl rfl rfl X.bx.x1 rfl X.bx.x2 (Nat.le_succ _) (by rw [← HFE.out]; rfl)
end Go.Proofs.YtdlamomabonkjaaDoor.Ch
end
section
namespace Go.Proofs.YtdlamomabonkjaaDoor.Ch
open Go.RowKit YtdlamomabonkjaaDoorW.PrintWords YtdlamomabonkjaaDoorW.PrintLast Base PCh ParDec ParEnc
set_option maxHeartbeats 4000000 in
theorem check_with (w : World) (x : Chk) (L : Lay) (hx : CR w x L) (hv : ValOk x L)
  (hbr : ∀ W, Below w.heap.size w W → Calls Tryd.prog 71 #[.agg (CV x L)] W fun e w' => e = .returned (.agg (CV (bareD x) (keepL (hasF x.f0) L))) ∧ Below W.heap.size W w')
  (hsm : ∀ W, Below w.heap.size w W → Calls Tryd.prog 38 #[.agg (CV x L), .agg (CV (bareD x) (keepL (hasF x.f0) L))] W fun e w' => e = .returned (.bool (decide (x = bareD x))) ∧ Below W.heap.size W w')
  (hen : ∀ W, Below w.heap.size w W → Calls Tryd.prog 74 #[.slice L.A14 x.f14.length L.c14] W fun e w' => ∃ v0 : Value, e = .returned (.tuple #[v0, .int .i64 (encP x.f14).2]) ∧ Kd.R (Kd.int .u8) 5 w' W.heap.size (fun _ => True) v0 (encP x.f14).1 ∧ Below W.heap.size W w') :
  Calls Tryd.prog 46 #[.agg (CV x L)] w fun e w' => e = .returned (.int .i64 (checkD x)) ∧ Below w.heap.size w w' := by
 have HBR := Lh hbr
 have HSM := Lh hsm
 have HEN := Lh hen
 have HXC := Lh (fun (W : World) (h : Below w.heap.size w W) => hx.below h)
 have HXS := Lh (show (Tryd.prog.info? 41).map (·.size) = some (CV x L).size by kernel_rfl)
 have HM13 := Lh hx.h13.2.1
 obtain ⟨CD, hcd⟩ : ∃ CD, checkD x = CD := ⟨_, rfl⟩
 have HCD := Lh hcd
 rw [hcd]
 have X := B1.new w x L
 clear hx hcd hbr hsm hen
 go_enter Tryd.func46, Tryd.ntmps46
 go_upto_region 1 with (fail)
 refine wp_gen (B1 w x L) X ?_
 clear X
 intro W X
 obtain ⟨q, hq⟩ : ∃ q, decide (x = bareD x) = q := ⟨_, rfl⟩
 rw [hq] at HSM
 have HQ := Lh hq
 clear hq
 have HX0 := Lh X
 have B := True.intro
 refine start_ (n := 6) (S := fun w' => True) (ds := []) #[false, false, false, false, false, false] (by kernel_rfl) rfl rfl trivial (fun hHeld => ?_)
 refine with_tabW checktab1 checkbits1 (fun HT_ HW_ => ?_)
 refine inv_at [0, 1, 2, 3, 4, 5] (fun a0_ b a w' => a = putSel a0_ b [(0, 6, .agg (CV x L)), (1, 7, .agg (CV x L)), (2, 8, .agg (CV (bareD x) (keepL (hasF x.f0) L))), (3, 9, .bool q), (4, 10, .bool (!q)), (5, 5, .bool (!q))] ∧ (Below W.heap.size W w')) HT_.out HW_.out (by kernel_rfl) (by kernel_rfl) ?_ ?_ ?_
 ·exact ⟨by simp only [putSel, Bool.false_eq_true, if_false], below_drew (Below.refl _ _)⟩
 ·skip
  clear B
  refine sc rfl ?_ ?_
  ·rintro b a w' ⟨ha, Q_B⟩ hb_ hon hoff K hK
   have e1 : a.tmps[1]? = some (.pointer (some ⟨w.heap.size, 0, none⟩)) := by rw [ha]; exact (putSel_off rfl).trans rfl
   replace ha := Am ha
   have B := Am Q_B
   refine value_ (w1 := w') (v := .agg (CV x L)) (by rfl) rfl (exec_load_row 41 (.tmp 1) rfl (eval_of e1) (blk_below HX0.out.x0 B.out) Tryd.underlying41 rfl HXS.out) ?_
   refine hK.out _ _ ⟨(puk ha 0 hb_ rfl rfl rfl), B.out⟩
  refine sc rfl ?_ ?_
  ·rintro b a w' ⟨ha, Q_B⟩ hb_ hon hoff K hK
   have e1 : a.tmps[1]? = some (.pointer (some ⟨w.heap.size, 0, none⟩)) := by rw [ha]; exact (putSel_off rfl).trans rfl
   replace ha := Am ha
   have B := Am Q_B
   refine value_ (w1 := w') (v := .agg (CV x L)) (by rfl) rfl (exec_load_row 41 (.tmp 1) rfl (eval_of e1) (blk_below HX0.out.x0 B.out) Tryd.underlying41 rfl HXS.out) ?_
   refine hK.out _ _ ⟨(puk ha 1 hb_ rfl rfl rfl), B.out⟩
  refine sc rfl ?_ ?_
  ·rintro b a w' ⟨ha, Q_B⟩ hb_ hon hoff K hK
   have e7 := psn ha 1 rfl rfl (hon 1 (by kernel_rfl)) rfl
   replace ha := Am ha
   have B := Am Q_B
   refine goes_ Tryd.func71 (by kernel_rfl) rfl #[.agg (CV x L)] (by rfl) rfl rfl (by first | (simp only [List.map_toArray, List.map_cons, List.map_nil, Act.eval, Array.getD_eq_getD_getElem?, Option.getD_some, e7]; done) | (simp only [List.map_toArray, List.map_cons, List.map_nil, Act.eval, Array.getD_eq_getD_getElem?, Option.getD_some, e7]; rfl)) ?_
   refine (HBR.out w' (HX0.out.below B.out).x2).mono ?_
   rintro e w1 ⟨rfl, hB1⟩
   refine ⟨_, rfl, ?_⟩
   refine hK.out _ _ ⟨(puk ha 2 hb_ rfl rfl rfl), B.out.trans (hB1.mono B.out.size)⟩
  refine sc rfl ?_ ?_
  ·rintro b a w' ⟨ha, Q_B⟩ hb_ hon hoff K hK
   have e6 := psn ha 0 rfl rfl (hon 0 (by kernel_rfl)) rfl
   have e8 := psn ha 2 rfl rfl (hon 2 (by kernel_rfl)) rfl
   replace ha := Am ha
   have B := Am Q_B
   refine goes_ Tryd.func38 (by kernel_rfl) rfl #[.agg (CV x L), .agg (CV (bareD x) (keepL (hasF x.f0) L))] (by rfl) rfl rfl (by first | (simp only [List.map_toArray, List.map_cons, List.map_nil, Act.eval, Array.getD_eq_getD_getElem?, Option.getD_some, e6, e8]; done) | (simp only [List.map_toArray, List.map_cons, List.map_nil, Act.eval, Array.getD_eq_getD_getElem?, Option.getD_some, e6, e8]; rfl)) ?_
   refine (HSM.out w' (HX0.out.below B.out).x2).mono ?_
   rintro e w1 ⟨rfl, hB1⟩
   refine ⟨_, rfl, ?_⟩
   refine hK.out _ _ ⟨(puk ha 3 hb_ rfl rfl rfl), B.out.trans (hB1.mono B.out.size)⟩
  refine sc rfl ?_ ?_
  ·rintro b a w' ⟨ha, Q_B⟩ hb_ hon hoff K hK
   have e9 := psn ha 3 rfl rfl (hon 3 (by kernel_rfl)) rfl
   replace ha := Am ha
   refine value_ (w1 := w') (v := .bool (!q)) (by rfl) rfl ?_ ?_
   ·go_simp
    (try simp only [i64_w])
    try rfl
   refine hK.out _ _ ⟨(puk ha 4 hb_ rfl rfl rfl), Q_B⟩
  refine sc rfl ?_ ?_
  ·rintro b a w' ⟨ha, Q_B⟩ hb_ hon hoff K hK
   have e10 := psn ha 4 rfl rfl (hon 4 (by kernel_rfl)) rfl
   replace ha := Am ha
   refine value_ (w1 := w') (v := .bool (!q)) (by rfl) rfl ?_ ?_
   ·go_simp
    (try simp only [i64_w])
    try rfl
   refine hK.out _ _ ⟨(puk ha 5 hb_ rfl rfl rfl), Q_B⟩
  exact steps_nil
 rintro b a w' hall ⟨ha, Q_B⟩
 clear B
 have hb0_ := hall 0 (by kernel_rfl)
 have hb1_ := hall 1 (by kernel_rfl)
 have hb2_ := hall 2 (by kernel_rfl)
 have hb3_ := hall 3 (by kernel_rfl)
 have hb4_ := hall 4 (by kernel_rfl)
 have hb5_ := hall 5 (by kernel_rfl)
 subst ha
 simp only [putSel, hb0_, hb1_, hb2_, hb3_, hb4_, hb5_, if_true, Act.put, List.setIfInBounds_toArray, List.set_cons_zero, List.set_cons_succ]
 have B := Am Q_B
 clear Q_B
 clear hall hb0_ hb1_ hb2_ hb3_ hb4_ hb5_
 replace X := X.below B.out
 clear B HBR HSM HX0
 generalize w' = W at *
 cases q with
 | false =>
  have hC : CD = 63 := by rw [← HCD.out]; unfold checkD; rw [if_pos HQ.out]
  subst hC
  go_wp2
  go_ret
  exact ⟨rfl, X.x2⟩
 | true =>
 have HXE := Lh (show x = bareD x from of_decide_eq_true HQ.out)
 have n1 : ¬ decide (x = bareD x) = false := by rw [HQ.out]; decide
 have hcd := HCD.out
 unfold checkD at hcd
 rw [if_neg n1] at hcd
 clear n1 HCD
 have k0 : W.cell? ⟨w.heap.size, 0, none⟩ = some (.int .u8 x.f0) := X.cell 0
 have k10 : W.cell? ⟨w.heap.size, 10, none⟩ = some (.slice L.A10 x.f10.length L.c10) := X.cell 10
 have k11 : W.cell? ⟨w.heap.size, 11, none⟩ = some (.slice L.A11 x.f11.length L.c11) := X.cell 11
 have k12 : W.cell? ⟨w.heap.size, 12, none⟩ = some (.slice L.A12 x.f12.length L.c12) := X.cell 12
 have k13 : W.cell? ⟨w.heap.size, 13, none⟩ = some (.slice L.A13 x.f13.length L.c13) := X.cell 13
 have k14 : W.cell? ⟨w.heap.size, 14, none⟩ = some (.slice L.A14 x.f14.length L.c14) := X.cell 14
 by_cases h62 : x.f0 = 0 ∧ x.f13.length = 0
 ·rw [if_pos h62] at hcd
  have q0 : (x.f0 == 0) = true := by simp [h62.1]
  have q13 : ((x.f13.length : Int) == 0) = true := by rw [h62.2]; rfl
  subst hcd
  clear h62
  go_wp2
  go_ret
  exact ⟨rfl, X.x2⟩
 rw [if_neg h62] at hcd
 have hbt : beatB x.f14 = true ∨ beatB x.f14 = false := by cases beatB x.f14 <;> simp
 by_cases h61 : (x.f0 = 4 ∨ x.f0 = 5) ∧ beatB x.f14 = false
 ·rw [if_pos h61] at hcd
  have q0 : (x.f0 == 0) = false := by simp; omega
  have HBT := Lh (fun (W' : World) (h : Below w.heap.size w W') => chunk_beat.calls x.f0 x.f1 x.f2 x.f3 x.f4 x.f5 x.f6 x.f7 x.f8 x.f9 L.A10 L.c10 x.f10 L.A11 L.c11 x.f11 L.A12 L.c12 x.f12 L.A13 L.c13 x.f13 L.A14 L.c14 x.f14 false W' (HXC.out W' h).h10 (HXC.out W' h).l10 (HXC.out W' h).h11 (HXC.out W' h).l11 (HXC.out W' h).h12 (HXC.out W' h).l12 (HXC.out W' h).h13 (HXC.out W' h).l13 (HXC.out W' h).h14 (HXC.out W' h).l14 (by rw [beat_f, h61.2]))
  have HIB := Lh (fun W' => isBeat_calls x.f0 W')
  rw [decide_eq_true h61.1] at HIB
  subst hcd
  clear h61 h62 hbt
  go_wp2_with fail
  refine (HIB.out _).mono ?_
  rintro e w2 ⟨rfl, ⟨m2, rfl⟩⟩
  replace X := X.drewN m2
  go_wp2_with (with_reducible refine gate_dst (N := 26) rfl ?_; go_must (refine step_on (wanted_on rfl rfl rfl rfl) (exec_load_row 41 (.tmp 1) rfl rfl X.x0 Tryd.underlying41 rfl HXS.out) ?_))
  refine (HBT.out _ X.x2).mono ?_
  rintro e w2 ⟨rfl, hB2⟩
  replace X := X.below hB2
  go_wp2
  go_ret
  exact ⟨rfl, X.x2⟩
 rw [if_neg h61] at hcd
 have HCD := Lh hcd
 clear hcd
 have hvar : (x.f0 = 0 ∧ ¬ x.f13.length = 0) ∨ (¬ x.f0 = 0 ∧ ¬ (x.f0 = 4 ∨ x.f0 = 5)) ∨ (¬ x.f0 = 0 ∧ (x.f0 = 4 ∨ x.f0 = 5) ∧ beatB x.f14 = true) := by
  by_cases a0 : x.f0 = 0
  ·exact Or.inl ⟨a0, fun e => h62 ⟨a0, e⟩⟩
  ·by_cases a4 : x.f0 = 4 ∨ x.f0 = 5
   ·exact Or.inr (Or.inr ⟨a0, a4, hbt.elim id (fun e => absurd ⟨a4, e⟩ h61)⟩)
   ·exact Or.inr (Or.inl ⟨a0, a4⟩)
 clear h61 h62 hbt
 rcases hvar with ⟨a0, a13⟩ | ⟨a0, a4⟩ | ⟨a0, a4, hbt⟩
 ·have HIB := Lh (fun W' => isBeat_calls x.f0 W')
  rw [decide_eq_false (by omega)] at HIB
  have q0 : (x.f0 == 0) = true := by simp [a0]
  have q13 : ((x.f13.length : Int) == 0) = false := by rw [beq_eq_false_iff_ne]; omega
  clear a0 a13
  go_wp2_with fail
  refine (HIB.out _).mono ?_
  rintro e w2 ⟨rfl, ⟨m2, rfl⟩⟩
  replace X := X.drewN m2
  go_upto_region 7 with (fail)
  refine wp_gen (B1 w x L) X ?_
  clear X k0 k10 k11 k12 k13 k14 q0 q13 HIB
  intro W X
  have k10 : W.cell? ⟨w.heap.size, 10, none⟩ = some (.slice L.A10 x.f10.length L.c10) := X.cell 10
  have k11 : W.cell? ⟨w.heap.size, 11, none⟩ = some (.slice L.A11 x.f11.length L.c11) := X.cell 11
  have k12 : W.cell? ⟨w.heap.size, 12, none⟩ = some (.slice L.A12 x.f12.length L.c12) := X.cell 12
  have k14 : W.cell? ⟨w.heap.size, 14, none⟩ = some (.slice L.A14 x.f14.length L.c14) := X.cell 14
  by_cases hm : 4096 < x.f10.length ∨ 4096 < x.f11.length ∨ 4096 < x.f12.length
  ·have hc := HCD.out
   rw [if_pos hm] at hc
   subst hc
   go_wp2
   all_goals first | (exfalso; omega) | (go_ret; exact ⟨rfl, X.x2⟩)
  have b10 : decide ((4096 : Int) < (x.f10.length : Int)) = false := by simp; omega
  have b11 : decide ((4096 : Int) < (x.f11.length : Int)) = false := by simp; omega
  have b12 : decide ((4096 : Int) < (x.f12.length : Int)) = false := by simp; omega
  have HCE := Lh HCD.out
  rw [if_neg hm] at HCE
  have l10 : x.f10.length ≤ 4096 := by omega
  have l11 : x.f11.length ≤ 4096 := by omega
  have l12 : x.f12.length ≤ 4096 := by omega
  have HEW := Lh (HEN.out W X.x2)
  by_cases he : (encP x.f14).2 = 0
  ·have HVL := Lh (fun (W' : World) (h : Below w.heap.size w W') => hv W' (HXC.out W' h) HXE.out l10 l11 l12 he)
   rw [if_neg (fun e => e he)] at HCE
   rw [he] at HEW
   clear hm he
   unfold ValP at HVL
   go_wp2_with fail
   refine HEW.out.mono ?_
   rintro e w3 ⟨v0, rfl, hR, hB3⟩
   obtain ⟨A0, c0, rfl⟩ := Kd.R_slice hR
   replace X := X.below hB3
   clear hR hB3 k10 k11 k12 k14
   go_wp2_with (with_reducible refine gate_dst (N := 52) rfl ?_; refine wpList_load_row rfl 41 (.tmp 1) rfl _ rfl 41 _ (0, 0) _ X.x0 Tryd.underlying41 rfl HXS.out ?_)
   refine (HVL.out _ X.x2).mono ?_
   rintro e w5 ⟨A9, c9, rfl, hle9, hC9, hB5⟩
   replace X := X.below hB5
   clear hC9 hB5 hle9
   generalize (valueD x).length = vl at *
   by_cases h2 : 65531 < vl
   ·have hc := HCE.out
    rw [if_pos h2] at hc
    subst hc
    go_wp2
    go_ret
    exact ⟨rfl, X.x2⟩
   ·have hc := HCE.out
    rw [if_neg h2] at hc
    subst hc
    go_wp2
    go_ret
    exact ⟨rfl, X.x2⟩
  ·have hc := HCE.out
   rw [if_pos he] at hc
   rw [hc] at HEW he
   have q : (CD != 0) = true := by simp [he]
   clear hm he hc
   go_wp2_with fail
   refine HEW.out.mono ?_
   rintro e w3 ⟨v0, rfl, hR, hB3⟩
   obtain ⟨A0, c0, rfl⟩ := Kd.R_slice hR
   replace X := X.below hB3
   clear hR hB3 k10 k11 k12 k14
   go_wp2
   go_ret
   exact ⟨rfl, X.x2⟩
 ·have HIB := Lh (fun W' => isBeat_calls x.f0 W')
  rw [decide_eq_false a4] at HIB
  have q0 : (x.f0 == 0) = false := by simp [a0]
  clear a0 a4
  go_wp2_with fail
  refine (HIB.out _).mono ?_
  rintro e w2 ⟨rfl, ⟨m2, rfl⟩⟩
  replace X := X.drewN m2
  go_upto_region 7 with (fail)
  refine wp_gen (B1 w x L) X ?_
  clear X k0 k10 k11 k12 k13 k14 q0 HIB
  intro W X
  have k10 : W.cell? ⟨w.heap.size, 10, none⟩ = some (.slice L.A10 x.f10.length L.c10) := X.cell 10
  have k11 : W.cell? ⟨w.heap.size, 11, none⟩ = some (.slice L.A11 x.f11.length L.c11) := X.cell 11
  have k12 : W.cell? ⟨w.heap.size, 12, none⟩ = some (.slice L.A12 x.f12.length L.c12) := X.cell 12
  have k14 : W.cell? ⟨w.heap.size, 14, none⟩ = some (.slice L.A14 x.f14.length L.c14) := X.cell 14
  by_cases hm : 4096 < x.f10.length ∨ 4096 < x.f11.length ∨ 4096 < x.f12.length
  ·have hc := HCD.out
   rw [if_pos hm] at hc
   subst hc
   go_wp2
   all_goals first | (exfalso; omega) | (go_ret; exact ⟨rfl, X.x2⟩)
  have b10 : decide ((4096 : Int) < (x.f10.length : Int)) = false := by simp; omega
  have b11 : decide ((4096 : Int) < (x.f11.length : Int)) = false := by simp; omega
  have b12 : decide ((4096 : Int) < (x.f12.length : Int)) = false := by simp; omega
  have HCE := Lh HCD.out
  rw [if_neg hm] at HCE
  have l10 : x.f10.length ≤ 4096 := by omega
  have l11 : x.f11.length ≤ 4096 := by omega
  have l12 : x.f12.length ≤ 4096 := by omega
  have HEW := Lh (HEN.out W X.x2)
  by_cases he : (encP x.f14).2 = 0
  ·have HVL := Lh (fun (W' : World) (h : Below w.heap.size w W') => hv W' (HXC.out W' h) HXE.out l10 l11 l12 he)
   rw [if_neg (fun e => e he)] at HCE
   rw [he] at HEW
   clear hm he
   unfold ValP at HVL
   go_wp2_with fail
   refine HEW.out.mono ?_
   rintro e w3 ⟨v0, rfl, hR, hB3⟩
   obtain ⟨A0, c0, rfl⟩ := Kd.R_slice hR
   replace X := X.below hB3
   clear hR hB3 k10 k11 k12 k14
   go_wp2_with (with_reducible refine gate_dst (N := 52) rfl ?_; refine wpList_load_row rfl 41 (.tmp 1) rfl _ rfl 41 _ (0, 0) _ X.x0 Tryd.underlying41 rfl HXS.out ?_)
   refine (HVL.out _ X.x2).mono ?_
   rintro e w5 ⟨A9, c9, rfl, hle9, hC9, hB5⟩
   replace X := X.below hB5
   clear hC9 hB5 hle9
   generalize (valueD x).length = vl at *
   by_cases h2 : 65531 < vl
   ·have hc := HCE.out
    rw [if_pos h2] at hc
    subst hc
    go_wp2
    go_ret
    exact ⟨rfl, X.x2⟩
   ·have hc := HCE.out
    rw [if_neg h2] at hc
    subst hc
    go_wp2
    go_ret
    exact ⟨rfl, X.x2⟩
  ·have hc := HCE.out
   rw [if_pos he] at hc
   rw [hc] at HEW he
   have q : (CD != 0) = true := by simp [he]
   clear hm he hc
   go_wp2_with fail
   refine HEW.out.mono ?_
   rintro e w3 ⟨v0, rfl, hR, hB3⟩
   obtain ⟨A0, c0, rfl⟩ := Kd.R_slice hR
   replace X := X.below hB3
   clear hR hB3 k10 k11 k12 k14
   go_wp2
   go_ret
   exact ⟨rfl, X.x2⟩
 ·have HIB := Lh (fun W' => isBeat_calls x.f0 W')
  rw [decide_eq_true a4] at HIB
  have HBT := Lh (fun (W' : World) (h : Below w.heap.size w W') => chunk_beat.calls x.f0 x.f1 x.f2 x.f3 x.f4 x.f5 x.f6 x.f7 x.f8 x.f9 L.A10 L.c10 x.f10 L.A11 L.c11 x.f11 L.A12 L.c12 x.f12 L.A13 L.c13 x.f13 L.A14 L.c14 x.f14 true W' (HXC.out W' h).h10 (HXC.out W' h).l10 (HXC.out W' h).h11 (HXC.out W' h).l11 (HXC.out W' h).h12 (HXC.out W' h).l12 (HXC.out W' h).h13 (HXC.out W' h).l13 (HXC.out W' h).h14 (HXC.out W' h).l14 (by rw [beat_f, hbt]))
  have q0 : (x.f0 == 0) = false := by simp [a0]
  clear a0 a4 hbt
  go_wp2_with fail
  refine (HIB.out _).mono ?_
  rintro e w2 ⟨rfl, ⟨m2, rfl⟩⟩
  replace X := X.drewN m2
  go_wp2_with (with_reducible refine gate_dst (N := 26) rfl ?_; go_must (refine step_on (wanted_on rfl rfl rfl rfl) (exec_load_row 41 (.tmp 1) rfl rfl X.x0 Tryd.underlying41 rfl HXS.out) ?_))
  refine (HBT.out _ X.x2).mono ?_
  rintro e w2 ⟨rfl, hB2⟩
  replace X := X.below hB2
  clear hB2
  go_upto_region 7 with (fail)
  refine wp_gen (B1 w x L) X ?_
  clear X k0 k10 k11 k12 k13 k14 q0 HIB HBT
  intro W X
  have k10 : W.cell? ⟨w.heap.size, 10, none⟩ = some (.slice L.A10 x.f10.length L.c10) := X.cell 10
  have k11 : W.cell? ⟨w.heap.size, 11, none⟩ = some (.slice L.A11 x.f11.length L.c11) := X.cell 11
  have k12 : W.cell? ⟨w.heap.size, 12, none⟩ = some (.slice L.A12 x.f12.length L.c12) := X.cell 12
  have k14 : W.cell? ⟨w.heap.size, 14, none⟩ = some (.slice L.A14 x.f14.length L.c14) := X.cell 14
  by_cases hm : 4096 < x.f10.length ∨ 4096 < x.f11.length ∨ 4096 < x.f12.length
  ·have hc := HCD.out
   rw [if_pos hm] at hc
   subst hc
   go_wp2
   all_goals first | (exfalso; omega) | (go_ret; exact ⟨rfl, X.x2⟩)
  have b10 : decide ((4096 : Int) < (x.f10.length : Int)) = false := by simp; omega
  have b11 : decide ((4096 : Int) < (x.f11.length : Int)) = false := by simp; omega
  have b12 : decide ((4096 : Int) < (x.f12.length : Int)) = false := by simp; omega
  have HCE := Lh HCD.out
  rw [if_neg hm] at HCE
  have l10 : x.f10.length ≤ 4096 := by omega
  have l11 : x.f11.length ≤ 4096 := by omega
  have l12 : x.f12.length ≤ 4096 := by omega
  have HEW := Lh (HEN.out W X.x2)
  by_cases he : (encP x.f14).2 = 0
  ·have HVL := Lh (fun (W' : World) (h : Below w.heap.size w W') => hv W' (HXC.out W' h) HXE.out l10 l11 l12 he)
   rw [if_neg (fun e => e he)] at HCE
   rw [he] at HEW
   clear hm he
   unfold ValP at HVL
   go_wp2_with fail
   refine HEW.out.mono ?_
   rintro e w3 ⟨v0, rfl, hR, hB3⟩
   obtain ⟨A0, c0, rfl⟩ := Kd.R_slice hR
   replace X := X.below hB3
   clear hR hB3 k10 k11 k12 k14
   go_wp2_with (with_reducible refine gate_dst (N := 52) rfl ?_; refine wpList_load_row rfl 41 (.tmp 1) rfl _ rfl 41 _ (0, 0) _ X.x0 Tryd.underlying41 rfl HXS.out ?_)
   refine (HVL.out _ X.x2).mono ?_
   rintro e w5 ⟨A9, c9, rfl, hle9, hC9, hB5⟩
   replace X := X.below hB5
   clear hC9 hB5 hle9
   generalize (valueD x).length = vl at *
   by_cases h2 : 65531 < vl
   ·have hc := HCE.out
    rw [if_pos h2] at hc
    subst hc
    go_wp2
    go_ret
    exact ⟨rfl, X.x2⟩
   ·have hc := HCE.out
    rw [if_neg h2] at hc
    subst hc
    go_wp2
    go_ret
    exact ⟨rfl, X.x2⟩
  ·have hc := HCE.out
   rw [if_pos he] at hc
   rw [hc] at HEW he
   have q : (CD != 0) = true := by simp [he]
   clear hm he hc
   go_wp2_with fail
   refine HEW.out.mono ?_
   rintro e w3 ⟨v0, rfl, hR, hB3⟩
   obtain ⟨A0, c0, rfl⟩ := Kd.R_slice hR
   replace X := X.below hB3
   clear hR hB3 k10 k11 k12 k14
   go_wp2
   go_ret
   exact ⟨rfl, X.x2⟩
end Go.Proofs.YtdlamomabonkjaaDoor.Ch
end
section
namespace Go.Proofs.YtdlamomabonkjaaDoor.Pk
open Go.RowKit YtdlamomabonkjaaDoorW.PrintWords YtdlamomabonkjaaDoorW.PrintLast Base PCh ParDec ParEnc Ch Crc CrcMath
theorem av_bare : bareD avX = avX := by
 unfold bareD
 rw [show flD avX.f0 avX.f1 = 0 from by rfl]
 rfl
theorem av_value : valueD avX = [] := by rfl
theorem av_check : checkD avX = 0 := by
 unfold checkD
 rw [av_bare, if_neg (by simp), if_neg (by simp [avX]), if_neg (by simp [avX]), if_neg (by simp [avX]), if_neg (by simp [avX, encP, runB]), av_value, if_neg (by simp)]
theorem value_av (b0 : Nat) (w : World) (L : Lay) (hb0 : b0 ≤ w.heap.size) :
  Calls Tryd.prog 52 #[.agg (CV avX L)] w (ValQ b0 (valueD avX) w) := by
 rw [av_value]
 have X := VX.new w avX L
 have E0 := Lh (show (CV avX L)[0]? = some (.int .u8 11) from rfl)
 go_enter Tryd.func52, Tryd.ntmps52
 go_upto_region 2 with (fail)
 refine wp_gen (VX w avX L []) X ?_
 clear X
 intro W X
 have k0 : W.cell? ⟨w.heap.size, 0, none⟩ = some (.int .u8 11) := (X.cell 0).trans E0.out
 obtain ⟨u, hg, hR⟩ := X.ws
 obtain ⟨Au, cu, rfl⟩ := Kd.R_slice hR
 have k9 : W.cell? ⟨w.heap.size + 1, 0, none⟩ = some (.slice Au [].length cu) := blk_cell hg 0
 have HR := Lh hR
 have HB := Lh X.bl
 clear hg hR X
 go_wp2
 go_ret
 exact ValQ.of_R HR.out (by omega) HB.out
theorem check_av (w : World) (L : Lay) (hx : CR w avX L) : Calls Tryd.prog 46 #[.agg (CV avX L)] w fun e w' => e = .returned (.int .i64 (checkD avX)) ∧ Below w.heap.size w w' := by
 refine check_with w avX L hx (fun W hW _ _ _ _ _ => (value_av W.heap.size W L (Nat.le_refl _)).mono fun e w' h => h.P) (fun W h => bare_none W avX L (hx.below h) rfl) (fun W h => ?_) (fun W h => ?_)
 ·rw [av_bare, decide_eq_true rfl]
  exact same_av W L _
 ·refine (enc_none W L.A14 L.c14).mono ?_
  rintro e w' ⟨rfl, hB⟩
  exact ⟨_, rfl, Kd.R_nil _ _ _ _ _, hB⟩
theorem encode_av (w : World) (A : Option Addr) (c : Nat) (hC : Kd.C k41 w A [avX].length [avX]) :
  Calls Tryd.prog 28 #[.slice A [avX].length c] w fun e w' => ∃ v, e = .returned (.tuple #[v, .int .i64 (encD [avX]).2]) ∧ (Kd.int .u8).R 5 w' w.heap.size (fun _ => True) v (encD [avX]).1 ∧ Below w.heap.size w w' :=
 encode_chunks w A c [avX] hC (fun x hx W L hW => by
  obtain rfl := List.mem_singleton.1 hx
  exact check_av W L hW) (fun x hx _ W L hb hW => by
  obtain rfl := List.mem_singleton.1 hx
  exact value_av w.heap.size W L hb)
end Go.Proofs.YtdlamomabonkjaaDoor.Pk
end
section
namespace Go.Proofs.YtdlamomabonkjaaDoor.Pk
open Go.RowKit YtdlamomabonkjaaDoorW.PrintWords YtdlamomabonkjaaDoorW.PrintLast Base PCh ParDec ParEnc Ch Crc CrcMath
def avL : Lay := ⟨none, 0, none, 0, none, 0, none, 0, none, 0⟩
theorem av_enc : encD [avX] = ([11, 0, 0, 4], 0) := by
 unfold encD chkAll
 rw [if_pos av_check, chkAll, if_pos rfl, runE]
 have h : [] ++ chunkL avX = [11, 0, 0, 4] := by
  unfold chunkL
  rw [av_value]
  rfl
 rw [h, if_neg (by decide), runE]
theorem av_ok : OkC avX := ⟨(show 0 ≤ (11 : Int) ∧ (11 : Int) < 256 by omega), (show 0 ≤ (0 : Int) ∧ (0 : Int) < 256 by omega), z32, z16, z16, z32, z32, z32, z16, z16, nog, nog, noi, noi, nop, by decide⟩
theorem av_pk : PkOk 1 2 3 [avX] := ⟨by decide, by decide, by decide, by decide, by unfold in32; omega, fun x hx => by rw [List.mem_singleton.1 hx]; exact av_ok⟩
theorem av_penc : pencD 1 2 3 [avX] = (putL (bytesOf (headL 1 2 3 ++ [11, 0, 0, 4])), 0) := by
 have h := penc_ok (f := 1) (t := 2) (q := 3) (l := [avX]) (by decide) (by decide) (by decide) rfl (by rw [av_enc]) (by rw [av_enc]; decide)
 rw [av_enc] at h
 exact h
theorem av_len : (pencD 1 2 3 [avX]).1.length = 16 := by
 rw [av_penc]
 show (putL _).length = 16
 rw [putL_length]
 rfl
theorem av_12 : (pencD 1 2 3 [avX]).1.getD 12 0 = 11 := by
 have h : ∀ l : List UInt8, l.getD 12 0 = (l.drop 12).getD 0 0 := fun l => by simp [List.getD_eq_getElem?_getD, List.getElem?_drop]
 rw [h, av_penc]
 show ((putL _).drop 12).getD 0 0 = 11
 rw [(put_take _ (by decide)).2]
 rfl
theorem av_back : preadD (pencD 1 2 3 [avX]).1 true = ⟨1, 2, 3, [avX], 0, 0⟩ := (pback av_pk (by rw [av_penc])).1
theorem CR_av (w : World) : CR w avX avL := ⟨Nat.le_refl _, Kd.C_nil _ _, Nat.le_refl _, Kd.C_nil _ _, Nat.le_refl _, Kd.C_nil _ _, Nat.le_refl _, Kd.C_nil _ _, Nat.le_refl _, Kd.C_nil _ _⟩
theorem av_drop : (pencD 1 2 3 [avX]).1.drop 12 = [11, 0, 0, 4] := by
 rw [av_penc]
 show (putL _).drop 12 = _
 rw [(put_take _ (by decide)).2]
 rfl
theorem av_all : AllOk ((pencD 1 2 3 [avX]).1.drop 12) := by
 rw [av_drop]
 intro W A c hb hc hv
 refine all_with W A [11, 0, 0, 4] c hb hc hv fun at_ W B d hlt hB hd => decC_with W B (([11, 0, 0, 4] : List UInt8).drop at_) d hB hd (by rw [List.length_drop]; simp; omega) ?_
 intro h4 kd fl v hk hv2 w0 w g gc j1 j2 j3 j4 j5 j6 j7
 have ha : at_ = 0 := by
  rw [List.length_drop] at h4
  simp at h4
  omega
 subst ha
 obtain rfl : kd = 11 := hk.symm
 exact read_none w0 w g gc v 11 fl j1 j2 j3 j4 j5 j6 j7 (Or.inr (Or.inl rfl))
set_option maxHeartbeats 4000000 in
theorem alive_calls (w : World) (hT : Table w) : Calls Tryd.prog 11 #[] w fun e w' => e = .returned (.bool true) ∧ Below w.heap.size w w' := by
 have HT := Lh (fun (W : World) (h : Below w.heap.size w W) => hT.below h)
 have HE := Lh (fun (W : World) (h : Below w.heap.size w W) (g : Nat) (hb : W.heap[g]? = some (.cells (CV avX avL) 41 (0, 0))) => pencode_with W 1 2 3 (some ⟨g, 0, none⟩) 1 [avX] (hT.below h) (chk_row1 hb (CR_av W)) (by decide) (fun W' h' => encode_av W' _ 1 (Kd.C_below (chk_row1 hb (CR_av W)) h')) (enc_in av_pk.ok) (fun _ => by rw [av_enc]; decide))
 have HD := Lh (fun (W : World) (h : Below w.heap.size w W) (A : Option Addr) (c : Nat) (hb : byte.C W A (pencD 1 2 3 [avX]).1.length (pencD 1 2 3 [avX]).1) (hc : (pencD 1 2 3 [avX]).1.length ≤ c) => pdecode_with W A (pencD 1 2 3 [avX]).1 c (hT.below h) hb hc (by rw [av_len]; decide) av_all)
 rw [av_back] at HD
 unfold ReadPP at HD
 have HP2 := Lh (show (pencD 1 2 3 [avX]).2 = 0 by rw [av_penc])
 have HPL := Lh av_len
 have HP12 := Lh av_12
 rw [HP2.out] at HE
 generalize (pencD 1 2 3 [avX]).1 = V at *
 clear hT HP2
 obtain ⟨g, hg⟩ : ∃ g, w.heap.size = g := ⟨_, rfl⟩
 have HG := Lh hg
 clear hg
 go_enter Tryd.func11, Tryd.ntmps11
 go_wp2_with fail
 refine (HE.out _ (below_alloc (Below.refl _ _) _) w.heap.size (by first | exact blk_new _ _ | (rw [HG.out]; exact blk_new _ _))).mono ?_
 rintro e W1 ⟨v, rfl, hR, hB1⟩
 obtain ⟨A1, c1, rfl, hle, hC⟩ := Kd.R_reads hR
 have HB1 := Lh (below_then (below_alloc (Below.refl w.heap.size w) _) (by simp) hB1)
 have HDD := Lh (HD.out W1 HB1.out A1 c1 hC hle)
 obtain ⟨ad, rfl, x12⟩ := byte_at hC 12 (by rw [HPL.out]; decide)
 have X12 := Lh (fun (W : World) (h : Below W1.heap.size W1 W) => (show W.cell? ⟨ad.block, ad.off + 12, none⟩ = some (.int .u8 11) by
  have h1 := pw_cell_below h x12
  rw [HP12.out, show ad.add 12 = ad.add (0 + 12) from rfl, add_field _ _ 12 (by omega)] at h1
  exact h1))
 rw [HPL.out] at HDD ⊢
 clear hR hB1 hC hle x12 HE HD HPL HP12
 go_wp2_with fail
 refine HDD.out.mono ?_
 rintro e W2 ⟨v2, rfl, hR2, hB2⟩
 obtain ⟨A2, c2, rfl, hle2, hC2⟩ := Kd.R_reads hR2
 obtain ⟨ad2, x2, L2, rfl, hd2, _, hc2, hx2⟩ := chk_at hC2 0 (by decide)
 obtain rfl : x2 = avX := by
  have h : ([avX] : List Chk) = x2 :: [] := hd2
  exact (List.cons.inj h).1.symm
 have HB2 := Lh (below_then HB1.out HB1.out.size hB2)
 have XC := Lh (fun (W : World) (h : Below W2.heap.size W2 W) => (show W.cell? ad2 = some (.int .u8 11) from by
  have h1 := pw_cell_below h (hc2 0 _ rfl)
  rw [Nat.zero_mul] at h1
  have h0 : ∀ a : Addr, (a.add 0).add 0 = a := fun a => by
   rw [show a.add 0 = a from rfl]
   rfl
  rw [h0] at h1
  exact h1))
 have X13 := Lh (fun (W : World) (h : Below W2.heap.size W2 W) => X12.out W (below_then hB2 hB2.size h))
 clear hR2 hB2 hC2 hle2 hd2 hc2 hx2 X12 HDD
 obtain ⟨g2, hg2⟩ : ∃ g, W2.heap.size = g := ⟨_, rfl⟩
 have HG2 := Lh hg2
 clear hg2
 go_upto_region 5 with (fail)
 refine wp_gen (fun W => W.heap[W2.heap.size]? = some (.cells #[.int .u16 1, .int .u16 2, .int .u32 3, .slice (some ad2) 1 c2] 26 (0, 0)) ∧ Below W2.heap.size W2 W) ⟨by first | exact blk_new _ _ | exact blk_put (blk_new _ _) 0 _ rfl, below_alloc (Below.refl _ _) _⟩ ?_
 rintro W3 ⟨h3, hB3⟩
 rw [HG2.out] at h3 ⊢
 have k2 : W3.cell? ⟨g2, 2, none⟩ = some (.int .u32 3) := blk_cell h3 2
 have k3 : W3.cell? ⟨g2, 3, none⟩ = some (.slice (some ad2) 1 c2) := blk_cell h3 3
 have kc := XC.out W3 hB3
 have kb := X13.out W3 hB3
 have HB3 := Lh (below_then HB2.out HB2.out.size hB3)
 clear h3 hB3 XC X13
 go_wp2
 go_ret
 exact ⟨rfl, HB3.out⟩
end Go.Proofs.YtdlamomabonkjaaDoor.Pk
end
section
namespace Go.Proofs.YtdlamomabonkjaaDoor.Pk
open Go.RowKit YtdlamomabonkjaaDoorW.PrintWords YtdlamomabonkjaaDoorW.PrintLast Base PCh ParDec ParEnc Ch Crc CrcMath
def lbuT8 : Bool × List (List Nat × List Nat) := (true, [([], []), ([], []), ([0, 1], [0, 1]), ([2], [2]), ([], []), ([], []), ([4, 5], [4, 5]), ([6], [6]), ([3, 7], [3, 7]), ([8], [8])])
def lbuB8 : List Nat := [0, 0, 3, 7, 0, 0, 48, 112, 255, 511]
theorem lbutab8 : Go.Proofs.YtdlamomabonkjaaDoorW.PrintLast.rtab .any (Go.Proofs.YtdlamomabonkjaaDoorW.PrintLast.opsOf Tryd.f8 8) = lbuT8 := by kernel_rfl
theorem lbubits8 : Go.Proofs.YtdlamomabonkjaaDoorW.PrintLast.waitsOk lbuT8.2 lbuB8 = true := by kernel_rfl
theorem row_at {w : World} {A : Option Addr} {rows : List (List Chk)} (h : (Kd.slice 41 k41).C w A rows.length rows) (i : Nat) (hi : i < rows.length) : ∃ ad B d, A = some ad ∧ w.cell? (ad.add i) = some (.slice B (rows.getD i []).length d) ∧ (rows.getD i []).length ≤ d ∧ Kd.C k41 w B (rows.getD i []).length (rows.getD i []) := by
 obtain ⟨ad, c, e, _, hK, hc0⟩ := Kd.C_get h ([] : List Chk) (i : Int) (by omega) (by omega)
 rw [Int.toNat_natCast] at hK hc0
 obtain ⟨B, d, rfl, hle, hC⟩ := hK
 have := hc0 0 _ rfl
 exact ⟨ad, B, d, e, by simpa [Kd.slice] using this, hle, hC⟩
theorem bund_mem (mtu : Int) (l : List Chk) : ∀ r ∈ (bundD mtu l).1, ∀ x ∈ r, x ∈ l := by
 unfold bundD
 by_cases h1 : mtu < 100 ∨ 1500 < mtu
 ·rw [if_pos h1]
  intro r hr
  cases hr
 rw [if_neg h1]
 by_cases h2 : chkAll l = 0
 ·rw [if_pos h2]
  by_cases h3 : ∀ x ∈ l, 12 + sizeD x ≤ mtu.toNat
  ·rw [if_pos h3]
   exact rows_mem (P := fun x => x ∈ l) (rows_ok (binv_rows l (fun x hx => chkAll_mem h2 hx) h3).1) (fun x hx => hx)
  ·rw [if_neg h3]
   intro r hr
   cases hr
 ·rw [if_neg h2]
  intro r hr
  cases hr
set_option maxHeartbeats 4000000 in
theorem bundles_row {w : World} (mtu : Int) (hm : (Lit.int .i64 mtu).wf = true) (A : Option Addr) (c : Nat) (l : List Chk) (hl : Kd.C k41 w A l.length l) (hc : l.length ≤ c) (ho : OkL l) (ht : Table w) :
  Calls Tryd.prog 8 #[.int .i64 mtu, .slice A l.length c] w fun e w' => e = .returned (.bool true) ∧ Below w.heap.size w w' := by
 have HBU := Lh (fun (W : World) (h : Below w.heap.size w W) => bundle_calls W mtu A c l (Kd.C_below hl h) hc ho)
 have HRB := Lh (fun (W : World) (h : Below w.heap.size w W) => rbundle_calls W mtu A c l (Kd.C_below hl h) hc ho)
 have HA := Lh (fun (W : World) (h : Below w.heap.size w W) => alive_calls W (ht.below h))
 have HOB := Lh (fun r (hr : r ∈ (bundD mtu l).1) x (hx : x ∈ r) => (ho.2 x (bund_mem mtu l r hr x hx)).okB)
 clear hm ho ht hl hc
 generalize bundD mtu l = D at *
 obtain ⟨rows, ec⟩ := D
 dsimp only at HBU HRB HOB
 generalize l.length = nl at *
 have hne : (ec != ec) = false := by simp
 go_enter Tryd.func8, Tryd.ntmps8
 go_wp2_with fail
 refine (HBU.out w (Below.refl _ _)).mono ?_
 rintro e W1 ⟨v1, rfl, A1, c1, rfl, hle1, hC1, hB1⟩
 have HC1 := Lh hC1
 have HB1 := Lh hB1
 clear hC1 hB1 hle1 HBU
 go_wp2_with fail
 refine (HRB.out W1 HB1.out).mono ?_
 rintro e W2 ⟨v2, rfl, A2, c2, rfl, hle2, hC2, hB2⟩
 have HC2 := Lh hC2
 have HB2 := Lh (below_then HB1.out HB1.out.size hB2)
 replace HC1 := Lh (Kd.C_below HC1.out hB2)
 clear hC2 hB2 hle2 HRB HB1
 obtain ⟨n, hn⟩ : ∃ n, rows.length = n := ⟨_, rfl⟩
 have HN := Lh hn
 rw [hn] at HC1 HC2 ⊢
 have hmx := HC1.out.2.1
 clear hn
 have hne2 : ((n : Int) != (n : Int)) = false := by simp
 go_wp2
 clear hne hne2
 go_loopw [9] (fun v9 W => ∃ i : Nat, i ≤ n ∧ v9 = .int .i64 (i : Int) ∧ Hid (Below W2.heap.size W2 W)) (fun v9 _ => n - (intOf v9).toNat)
 case atStart => exact ⟨0, by omega, rfl, Below.refl _ _⟩
 case round =>
  obtain ⟨i, hi, rfl, HB⟩ := hrel
  by_cases hlt : i < n
  ·obtain ⟨ad1, B1, d1, e1, hc1, hd1, hr1⟩ := row_at (by rw [HN.out]; exact HC1.out) i (by rw [HN.out]; exact hlt)
   obtain ⟨ad2, B2, d2, e2, hc2, hd2, hr2⟩ := row_at (by rw [HN.out]; exact HC2.out) i (by rw [HN.out]; exact hlt)
   subst e1 e2
   have hmem : rows.getD i [] ∈ rows := by
    rw [getD_lt _ _ _ (by rw [HN.out]; exact hlt)]
    exact List.getElem_mem _
   have HSC := Lh (fun (W : World) (h : Below wr.heap.size wr W) => (show Calls Tryd.prog 25 #[.slice B1 (rows.getD i []).length d1, .slice B2 (rows.getD i []).length d2] W fun e w' => e = .returned (.bool true) ∧ Below W.heap.size W w' from by
    have hb := below_then HB.out HB.out.size h
    have h1 := schunks_calls W B1 B2 d1 d2 _ _ (Kd.C_below hr1 hb) (Kd.C_below hr2 hb) (HOB.out _ hmem) (HOB.out _ hmem)
    rw [decide_eq_true rfl] at h1
    exact h1))
   have HC1' := Lh (fun (W : World) (h : Below wr.heap.size wr W) => pw_cell_below (below_then HB.out HB.out.size h) hc1)
   have HC2' := Lh (fun (W : World) (h : Below wr.heap.size wr W) => pw_cell_below (below_then HB.out HB.out.size h) hc2)
   have HLI := Lh (show ¬ n ≤ i by omega)
   clear hc1 hc2 hd1 hd2 hr1 hr2 hmem
   obtain ⟨nr, hnr⟩ : ∃ nr, (rows.getD i []).length = nr := ⟨_, rfl⟩
   rw [hnr] at HSC HC1' HC2'
   clear hnr
   go_upto_region 8 with (fail)
   refine grow_v (B := lbuB8) [0, 1, 2, 3, 4, 5, 6, 7, 8, 9] [8] (fun s vs W => Below wr.heap.size wr W ∧ (match s with | 0 => True | _ => vs 1 = .bool true)) (fun vs => [(0, 38, .slice (some ad1) n c1), (1, 39, .int .i64 (i : Int)), (2, 40, .pointer (some (ad1.add i))), (3, 41, .slice B1 nr d1), (4, 42, .slice (some ad2) n c2), (5, 43, .int .i64 (i : Int)), (6, 44, .pointer (some (ad2.add i))), (7, 45, .slice B2 nr d2), (8, 46, vs 1), (9, 47, .bool false)]) (by kernel_rfl) rfl (l := #[false, false, false, false, false, false, false, false, false, false]) rfl lbutab8 lbubits8 (by kernel_rfl) (by kernel_rfl) (fun _ => rfl) rfl (fun _ => undef) ?_ ?_ ?_
   ·exact ⟨pw_below_drewN (Below.refl _ _) 1, trivial⟩
   ·exact steps_cons (gv_op 0 0 [(5, fun vs => .slice (some ad1) n c1)] 0 0 (fv := fun vs => .slice (some ad1) n c1) rfl rfl (wt_none rfl) (fun _ => rfl) (fun _ => rfl) rfl rfl (by kernel_rfl) (by kernel_rfl) ⟨rd_off (p := 5) (fun _ => rfl) rfl, trivial⟩ (fun a w s vs hm hs h e => by
     obtain rfl : s = 0 := by omega
     obtain ⟨e5, _⟩ := e
     replace e5 : a.tmps[5]? = some (.slice (some ad1) n c1) := e5
     go_simp)) (steps_cons (gv_op 0 0 [(9, fun vs => .int .i64 (i : Int))] 1 1 (fv := fun vs => .int .i64 (i : Int)) rfl rfl (wt_none rfl) (fun _ => rfl) (fun _ => rfl) rfl rfl (by kernel_rfl) (by kernel_rfl) ⟨rd_off (p := 9) (fun _ => rfl) rfl, trivial⟩ (fun a w s vs hm hs h e => by
     obtain rfl : s = 0 := by omega
     obtain ⟨e9, _⟩ := e
     replace e9 : a.tmps[9]? = some (.int .i64 (i : Int)) := e9
     go_simp)) (steps_cons (gv_op 0 0 [(38, fun vs => .slice (some ad1) n c1), (39, fun vs => .int .i64 (i : Int))] 2 2 (fv := fun vs => .pointer (some (ad1.add i))) rfl rfl (wt_none rfl) (fun _ => rfl) (fun _ => rfl) rfl rfl (by kernel_rfl) (by kernel_rfl) ⟨rd_on (p := 38) 0 0 (fun _ => rfl) (fun _ => rfl) (by kernel_rfl) rfl, rd_on (p := 39) 1 1 (fun _ => rfl) (fun _ => rfl) (by kernel_rfl) rfl, trivial⟩ (fun a w s vs hm hs h e => by
     obtain rfl : s = 0 := by omega
     obtain ⟨e38, e39, _⟩ := e
     replace e38 : a.tmps[38]? = some (.slice (some ad1) n c1) := e38
     replace e39 : a.tmps[39]? = some (.int .i64 (i : Int)) := e39
     have hl := HLI.out; go_simp; first | done | rfl)) (steps_cons (gv_op 0 0 [(40, fun vs => .pointer (some (ad1.add i)))] 3 3 (fv := fun vs => .slice B1 nr d1) rfl rfl (wt_none rfl) (fun _ => rfl) (fun _ => rfl) rfl rfl (by kernel_rfl) (by kernel_rfl) ⟨rd_on (p := 40) 2 2 (fun _ => rfl) (fun _ => rfl) (by kernel_rfl) rfl, trivial⟩ (fun a w s vs hm hs h e => by
     obtain rfl : s = 0 := by omega
     obtain ⟨e40, _⟩ := e
     replace e40 : a.tmps[40]? = some (.pointer (some (ad1.add i))) := e40
     have hs := HC1'.out w h.1; go_simp)) (steps_cons (gv_op 0 0 [(7, fun vs => .slice (some ad2) n c2)] 4 4 (fv := fun vs => .slice (some ad2) n c2) rfl rfl (wt_none rfl) (fun _ => rfl) (fun _ => rfl) rfl rfl (by kernel_rfl) (by kernel_rfl) ⟨rd_off (p := 7) (fun _ => rfl) rfl, trivial⟩ (fun a w s vs hm hs h e => by
     obtain rfl : s = 0 := by omega
     obtain ⟨e7, _⟩ := e
     replace e7 : a.tmps[7]? = some (.slice (some ad2) n c2) := e7
     go_simp)) (steps_cons (gv_op 0 0 [(9, fun vs => .int .i64 (i : Int))] 5 5 (fv := fun vs => .int .i64 (i : Int)) rfl rfl (wt_none rfl) (fun _ => rfl) (fun _ => rfl) rfl rfl (by kernel_rfl) (by kernel_rfl) ⟨rd_off (p := 9) (fun _ => rfl) rfl, trivial⟩ (fun a w s vs hm hs h e => by
     obtain rfl : s = 0 := by omega
     obtain ⟨e9, _⟩ := e
     replace e9 : a.tmps[9]? = some (.int .i64 (i : Int)) := e9
     go_simp)) (steps_cons (gv_op 0 0 [(42, fun vs => .slice (some ad2) n c2), (43, fun vs => .int .i64 (i : Int))] 6 6 (fv := fun vs => .pointer (some (ad2.add i))) rfl rfl (wt_none rfl) (fun _ => rfl) (fun _ => rfl) rfl rfl (by kernel_rfl) (by kernel_rfl) ⟨rd_on (p := 42) 4 4 (fun _ => rfl) (fun _ => rfl) (by kernel_rfl) rfl, rd_on (p := 43) 5 5 (fun _ => rfl) (fun _ => rfl) (by kernel_rfl) rfl, trivial⟩ (fun a w s vs hm hs h e => by
     obtain rfl : s = 0 := by omega
     obtain ⟨e42, e43, _⟩ := e
     replace e42 : a.tmps[42]? = some (.slice (some ad2) n c2) := e42
     replace e43 : a.tmps[43]? = some (.int .i64 (i : Int)) := e43
     have hl := HLI.out; go_simp; first | done | rfl)) (steps_cons (gv_op 0 0 [(44, fun vs => .pointer (some (ad2.add i)))] 7 7 (fv := fun vs => .slice B2 nr d2) rfl rfl (wt_none rfl) (fun _ => rfl) (fun _ => rfl) rfl rfl (by kernel_rfl) (by kernel_rfl) ⟨rd_on (p := 44) 6 6 (fun _ => rfl) (fun _ => rfl) (by kernel_rfl) rfl, trivial⟩ (fun a w s vs hm hs h e => by
     obtain rfl : s = 0 := by omega
     obtain ⟨e44, _⟩ := e
     replace e44 : a.tmps[44]? = some (.pointer (some (ad2.add i))) := e44
     have hs := HC2'.out w h.1; go_simp)) (steps_cons (gv_call (vals := fun vs => [.slice B1 nr d1, .slice B2 nr d2]) 8 8 0 rfl rfl (wt_none rfl) rfl (fun _ => rfl) (fun _ _ => rfl) (fun _ => rfl) rfl (by kernel_rfl) Tryd.func25 (by kernel_rfl) rfl rfl (arv_t (rd_on (p := 41) 3 3 (fun _ => rfl) (fun _ => rfl) (by kernel_rfl) rfl) (arv_t (rd_on (p := 45) 7 7 (fun _ => rfl) (fun _ => rfl) (by kernel_rfl) rfl) (arv_n))) (fun vs w h => (HSC.out w h.1).mono fun e w' ⟨he, hb⟩ => ⟨_, he, below_then h.1 h.1.size hb, rfl⟩)) (steps_cons (gv_op 1 1 [(46, fun vs => vs 1)] 9 9 (fv := fun vs => .bool false) rfl rfl (wt_none rfl) (fun _ => rfl) (fun _ => rfl) rfl rfl (by kernel_rfl) (by kernel_rfl) ⟨rd_on (p := 46) 8 8 (fun _ => rfl) (fun _ => rfl) (by kernel_rfl) rfl, trivial⟩ (fun a w s vs hm hs h e => by
     obtain rfl : s = 1 := by omega
     obtain ⟨e46, _⟩ := e
     replace e46 : a.tmps[46]? = some (vs 1) := e46
     rw [h.2] at e46; go_simp)) steps_nil)))))))))
   intro vs W3 hX
   obtain ⟨hB3, hv⟩ := hX
   simp only [putSel, if_true, Act.put, List.setIfInBounds_toArray, List.set_cons_zero, List.set_cons_succ]
   rw [hv]
   have HB3 := Lh (below_then HB.out HB.out.size hB3)
   clear hB3 hv HSC HC1' HC2' HB
   go_wp2
   go_roundw
   case rel => exact ⟨i + 1, by omega, by go_num, HB3⟩
   case measure => simp [intOf]; omega
  ·obtain rfl : i = n := by omega
   have HB9 := Lh (below_then HB2.out HB2.out.size HB.out)
   clear HB HC1 HC2 HOB HN
   have HAL := Lh (HA.out wr HB9.out)
   go_wp2_with fail
   refine HAL.out.mono ?_
   rintro e W8 ⟨rfl, hB8⟩
   have HB8 := Lh (below_then HB9.out HB9.out.size hB8)
   clear hB8 HAL
   go_wp2
   go_ret
   exact ⟨rfl, HB8.out⟩
end Go.Proofs.YtdlamomabonkjaaDoor.Pk
end
section
namespace Go.Proofs.YtdlamomabonkjaaDoor.Crc
open Go.RowKit YtdlamomabonkjaaDoorW.PrintWords Base CrcMath
theorem gSteps : Tryd.prog.globalNamed "ropewalk/crc.steps" = some 0 := by kernel_rfl
theorem gStepsType : (Tryd.prog.globals[0]?).map (·.type) = some 136 := by kernel_rfl
theorem cells16 : Tryd.prog.cellsOf 136 = 16 := by kernel_rfl
theorem cells32 : Tryd.prog.cellsOf 23 = 1 := by kernel_rfl
theorem table_of {W : World} (h : laidMetH Tryd.prog [("ropewalk/crc.steps", Rows.laid_ropewalk_crc_steps)] W) : Table W := by
 have ht : Lib.TabIs Tryd.prog W "ropewalk/crc.steps" .u32 [0, 274646895, 549293790, 820201905, 1098587580, 1361435347, 1640403810, 1905808397, 2197175160, 2460548119, 2722870694, 2987750089, 3280807620, 3553878443, 3811616794, 4084100981] :=
  Lib.tabIs_of_head (rest := []) gSteps gStepsType Tryd.underlying136 Tryd.underlying23 cells32 cells16 h
 refine ⟨fun i hi => ?_⟩
 have := ht.cell gSteps i (by simpa using hi)
 rw [this]
 have hn : ∀ i : Nat, i < 16 → ([0, 274646895, 549293790, 820201905, 1098587580, 1361435347, 1640403810, 1905808397, 2197175160, 2460548119, 2722870694, 2987750089, 3280807620, 3553878443, 3811616794, 4084100981] : List Int).getD i 0 = (nib i : Int) := by decide +kernel
 rw [← hn i hi]
end Go.Proofs.YtdlamomabonkjaaDoor.Crc
end
section
namespace Go.Proofs.YtdlamomabonkjaaDoor.packetBundles
open Go.ChangeShapes Go.WideShapes Go.ChangeAt Go.RowKit Base
open Go.ChangeMaps (open_string shut_string)
set_option maxRecDepth 100000 in
theorem contract (H : Type) (enc : TypeId × Value → H) (W : World) (base : Nat) (args : Array Value) (ds gs : List (DataW H)) (before : List MemPlace)
  (hval : ∀ (j : Nat) t v, Tryd.f8.params[j]? = some t → args[j]? = some v → Value.okWide Tryd.prog W .any base t v)
  (hW : DataW.Whole enc Tryd.prog Tryd.f8.params.toList Rows.packetBundlesSpec.vars false W args.toList ds gs before)
  (hsz0 : (DataW.weightsEach Tryd.prog (Tryd.f8.params.toList ++ (OpenSpec.ofChange Rows.packetBundlesSpec).bare.plain.varTypes Tryd.prog) (ds ++ gs)).all (· ≤ reachBytes) = true)
  (hL : laidMetH Tryd.prog Rows.packetBundlesRow.laid W) :
  Calls Tryd.prog 8 args W fun e W' => ∃ v, e = .returned v ∧ Rows.packetBundlesSpec.post enc Tryd.prog Tryd.f8 false true false false W args v W' := by
 have hW' := hW
 obtain ⟨p, q, hA0, hV, rfl, hfz, hnd⟩ := hW
 have hA : DataW.TrodAll enc Tryd.prog W 0 (fun _ => true) true Tryd.f8.params.toList args.toList ds p := hA0
 rw [Tryd.params8] at hA hval
 obtain ⟨v0, vs0, d0, ds0, p0, q0, hargs, rfl, rfl, h0, r0⟩ := trodAll_cons hA
 obtain ⟨v1, vs1, d1, ds1, p1, q1, rfl, rfl, rfl, h1, r1⟩ := trodAll_cons r0
 obtain ⟨rfl, rfl, rfl⟩ := trodAll_nil r1
 obtain rfl : args = #[v0, v1] := by cases args; simp_all
 obtain ⟨rfl, rfl⟩ := trodVars_none hV
 have hsz := hsz0
 rw [Tryd.params8] at hsz
 obtain ⟨a0, rfl, rfl, rfl, w0⟩ := open_int Tryd.underlying3 (hval 0 3 v0 rfl rfl) h0
 obtain ⟨a1, len1, cap1, rfl⟩ := okWide_slice Tryd.underlying24 (hval 1 24 v1 rfl rfl)
 have k1 := h1
 have lt1 : ∀ x ∈ p1, x.block < W.heap.size := by obtain ⟨m, hm⟩ := k1; exact DataW.trod_lt m _ _ _ hm
 obtain ⟨l1, rfl, hc1, hb1, hw1, hp1⟩ := OpensP.arg (Classical.choose_spec Ch.opens_chks) h1 (short_part hsz (j := 1) rfl rfl)
 clear hA0 hsz hsz0
 have ht := Crc.table_of hL
 refine (Pk.bundles_row a0 w0 a1 cap1 l1 hb1 hc1 hp1 ht).mono fun e W' ⟨he, bel⟩ => ?_
 subst he
 exact ⟨_, rfl, _, _, _, [], _, [], hW', trodAll_mk1 (shut_bool Tryd.underlying4 _), (trodAll_cons_mk (shut_int Tryd.underlying3 w0) (trodAll_cons_mk (Below.trod laidOut (by kernel_rfl) (of_decide_eq_true (by kernel_rfl)) k1 bel lt1) trodAll_mk0)), rfl, bel.frame _, fun h => by cases h⟩
noncomputable def laidWorld (os : Os) : World := World.doorLaid Tryd.prog 14 os
theorem laid_met (os : Os) : laidMet Tryd.prog Rows.packetBundlesRow.laid ((laidWorld os).forCall (fun _ _ => 0) ⟨#[], #[.int .i64 0, .slice none 0 0], []⟩).memory :=
 laidMet_of_run' 8 (by kernel_rfl) (by kernel_rfl)
theorem reads (os : Os) {H : Type} (enc : TypeId × Value → H) : ∃ places, DataW.whole enc Tryd.prog ((laidWorld os).forCall (fun _ _ => 0) ⟨#[], #[.int .i64 0, .slice none 0 0], []⟩).memory Tryd.f8.params.toList Rows.packetBundlesSpec.vars false (#[.int .i64 0, .slice none 0 0] : Array Value).toList 8 = some ([.lit (.int .i64 0), .nil], [], places) :=
 ⟨[], by kernel_rfl⟩
set_option maxRecDepth 100000 in
theorem lifted (os : Os) (started : os.Started) (H : Type) (enc : TypeId × Value → H) (F : Stop.Interp) :
  ReturnsInHanded {} Tryd.checked os 8 .any ((OpenSpec.ofChange Rows.packetBundlesSpec).preRow enc Tryd.prog Tryd.f8 Rows.packetBundlesRow.domain false Rows.packetBundlesRow.laid) (((OpenSpec.ofChange Rows.packetBundlesSpec).at F).post enc Tryd.prog Tryd.f8 false true false false) := by
 obtain ⟨places, hx⟩ := reads os enc
 refine returnsInHanded_of_row (C := Tryd.checked) (s := (OpenSpec.ofChange Rows.packetBundlesSpec)) own started (by kernel_rfl) Tryd.func8
  (witness_row_at (enc := enc) (C := Tryd.checked) false (laidWorld os) #[.int .i64 0, .slice none 0 0] rfl (by kernel_rfl) (by kernel_rfl) (by kernel_rfl)
   (OpenSpec.preRow_of_cond 8 hx (by kernel_rfl) (fun k hk => by cases hk) (by kernel_rfl) (laid_met os))) ?_
 intro W base args ds gs before hval hW _ hcond hsz hL _ _
 exact contract H enc W base args ds gs before hval hW hsz hL
theorem said : Rows.PacketBundlesSaid :=
 OpenClaim.holds_of_cond 8 Tryd.f8 rfl rfl rfl rfl rfl rfl rfl ⟨rfl, rfl, rfl, rfl, rfl⟩ rfl rfl rfl rfl rfl (by kernel_rfl) Tryd.func8 (by kernel_rfl)
  (of_decide_eq_true (by kernel_rfl)) (by unfold Func.isWrapper; first | (rw [if_pos (by decide +kernel)]; kernel_rfl) | (rw [if_neg (by decide +kernel)]; exact ⟨rfl, rfl⟩))
  (fun os started H enc _ F => by rw [OpenClaim.pre_eq_preRow]; exact lifted os started H enc F)
theorem plain (f : FuncId) (fn : Func) (hf : Tryd.pinned.checked.prog.funcNamed "ropewalk/ropewalklaw07.PacketBundles" = some f) (hfn : Tryd.pinned.checked.prog.funcs[f]? = some fn) :
  true = Tryd.pinned.checked.prog.looks [] ∧ ∀ (j : Nat) t, fn.params[j]? = some t → Tryd.pinned.checked.prog.wantsStandIn t = false := by
 obtain rfl : f = 8 := Option.some.inj ((show Tryd.prog.funcNamed "ropewalk/ropewalklaw07.PacketBundles" = some 8 by kernel_rfl).symm.trans hf) |>.symm
 obtain rfl : fn = Tryd.f8 := (Option.some.inj (Tryd.func8.symm.trans hfn)).symm
 refine ⟨by kernel_rfl, fun j t ht => ?_⟩
 rw [Tryd.params8] at ht
 have hm : t ∈ [3, 24] := by simpa using Array.mem_of_getElem? ht
 have hall : ([3, 24].all fun u => !Tryd.prog.wantsStandIn u) = true := by kernel_rfl
 exact (show Tryd.prog.wantsStandIn t = false by simpa using List.all_eq_true.1 hall t hm)
theorem packetBundles_holds : Rows.PacketBundlesCardSaid :=
 Claim7.holds_tied_plain_at .later [] _ _ _ _ said (fun _ h => by cases h) (by kernel_rfl) (fun _ h => by cases h) packetBundles_row_tie rfl ⟨rfl, rfl⟩ (by kernel_rfl) rfl plain (by kernel_rfl)
#print axioms packetBundles_holds
end Go.Proofs.YtdlamomabonkjaaDoor.packetBundles
end
