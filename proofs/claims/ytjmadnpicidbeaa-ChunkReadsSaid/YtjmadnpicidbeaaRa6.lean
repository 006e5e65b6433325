/- The statement ChunkReads of ropewalk/ropewalklaw06.ChunkReads. Proved from the walk Ch.reads_row. -/
import Derived.Test.YtjmadnpicidbeaaRa5
import Derived.Lib.SlBytesConst
section
namespace Go.Proofs.Ytjmadnpicidbeaa.Ch
open Go.RowKit Go.Proofs.YtjmadnpicidbeaaW.PrintWords Go.Proofs.YtjmadnpicidbeaaW.PrintLast Go.Proofs.Ytjmadnpicidbeaa.Base Go.Proofs.Ytjmadnpicidbeaa.PCh Go.Proofs.Ytjmadnpicidbeaa.ParDec Go.Proofs.Ytjmadnpicidbeaa.ParEnc
set_option maxRecDepth 100000
set_option linter.unusedVariables false
set_option linter.unusedSimpArgs false
theorem two2 (a b : Int) : twoL [a, b] = twoL [a] ++ twoL [b] := rfl
theorem two4 (a b c d : Int) : twoL [a, b, c, d] = twoL [a] ++ (twoL [b] ++ (twoL [c] ++ twoL [d])) := rfl
theorem four2 (a b : Int) : fourL [a, b] = fourL [a] ++ fourL [b] := rfl
theorem encR_calls (w : World) (A : Option Addr) (c : Nat) (ps : List PrmS) (h : Kd.C k75 w A ps.length ps) (hc : ps.length ≤ c) :
    Calls Try.prog 46 #[.slice A ps.length c] w fun e w' => ∃ v0 : Value, e = .returned (.tuple #[v0, .int .i64 (encP ps).2]) ∧ Kd.R (Kd.int .u8) 5 w' w.heap.size (fun _ => True) v0 (encP ps).1 ∧ Below w.heap.size w w' := by
  obtain ⟨k, hk⟩ := refEncode_run ps
  exact ropewalkref05_Encode.calls k A c ps _ _ w h hc hk
theorem encP_nil' : encP [] = ([], 0) := rfl
theorem rest_value {x : Chk} (hb : x = bareD x) (n0 : ¬ x.f0 = 0) (n1 : ¬ x.f0 = 1) (n2 : ¬ x.f0 = 2) (n3 : ¬ x.f0 = 3) (n16 : ¬ x.f0 = 16) (n7 : ¬ x.f0 = 7) : valueD x = [] ++ (encP x.f14).1 ++ x.f13 ∧ (x.f13.length ≤ 140737488351232 → (encP x.f14).1.length + x.f13.length ≤ 140737488351232) := by
  have hl := encP_len x.f14
  unfold valueD
  have k1 : ¬ (x.f0 = 1 ∨ x.f0 = 2) := by omega
  rw [if_neg n0, if_neg k1, if_neg n3, if_neg n16, List.nil_append]
  by_cases k4 : x.f0 = 4 ∨ x.f0 = 5 ∨ x.f0 = 6 ∨ x.f0 = 9
  · have e := bare_f hb (fun i => i == 14) (by funext i; unfold hasF; rw [if_neg n0, if_neg k1, if_neg n16, if_neg n3, if_pos k4])
    have e := congrArg (fun c : Chk => c.f13) e
    have e : x.f13 = [] := e
    rw [if_pos k4, e, List.append_nil]
    exact ⟨rfl, fun _ => by simp; omega⟩
  rw [if_neg k4, if_neg n7]
  by_cases k8 : x.f0 = 8 ∨ x.f0 = 11 ∨ x.f0 = 14
  · have e0 := bare_f hb (fun i => false) (by funext i; unfold hasF; rw [if_neg n0, if_neg k1, if_neg n16, if_neg n3, if_neg k4, if_neg n7, if_pos k8])
    have e := congrArg (fun c : Chk => c.f13) e0
    have e : x.f13 = [] := e
    have e' := congrArg (fun c : Chk => c.f14) e0
    have e' : x.f14 = [] := e'
    rw [if_pos k8, e, e']
    exact ⟨rfl, fun _ => by simp [encP_nil']⟩
  · have e0 := bare_f hb (fun i => i == 13) (by funext i; unfold hasF; rw [if_neg n0, if_neg k1, if_neg n16, if_neg n3, if_neg k4, if_neg n7, if_neg k8])
    have e' := congrArg (fun c : Chk => c.f14) e0
    have e' : x.f14 = [] := e'
    rw [if_neg k8, e']
    exact ⟨rfl, fun h => by rw [encP_nil']; simpa using h⟩
def rvAT6 : Bool × List (List Nat × List Nat) := (true, [([], []), ([], []), ([1], [1]), ([0, 2], [0, 2]), ([], []), ([4], [4]), ([5], [5]), ([3, 6, 3], [3, 6]), ([7, 7, 0, 1, 2, 3, 4, 5, 6, 7], [0, 7])])
def rvAB6 : List Nat := [0, 0, 2, 7, 0, 16, 48, 127, 255]
theorem rvAtab6 : Go.Proofs.YtjmadnpicidbeaaW.PrintLast.rtab .any (Go.Proofs.YtjmadnpicidbeaaW.PrintLast.opsOf Try.f42 6) = rvAT6 := by kernel_rfl
theorem rvAbits6 : Go.Proofs.YtjmadnpicidbeaaW.PrintLast.waitsOk rvAT6.2 rvAB6 = true := by kernel_rfl
def rvBT7 : Bool × List (List Nat × List Nat) := (true, [([], []), ([], []), ([1], [1]), ([2], [2]), ([0, 3], [0, 3]), ([], []), ([5], [5]), ([4, 6, 4], [4, 6]), ([7, 7, 0, 1, 2, 3, 4, 5, 6, 7], [0, 7])])
def rvBB7 : List Nat := [0, 0, 2, 6, 15, 0, 32, 127, 255]
theorem rvBtab7 : Go.Proofs.YtjmadnpicidbeaaW.PrintLast.rtab .any (Go.Proofs.YtjmadnpicidbeaaW.PrintLast.opsOf Try.f42 7) = rvBT7 := by kernel_rfl
theorem rvBbits7 : Go.Proofs.YtjmadnpicidbeaaW.PrintLast.waitsOk rvBT7.2 rvBB7 = true := by kernel_rfl
def rvCT11 : Bool × List (List Nat × List Nat) := (true, [([], []), ([], []), ([1], [1]), ([0, 2], [0, 2]), ([], []), ([4], [4]), ([3, 5, 3], [3, 5]), ([6, 6, 0, 1, 2, 3, 4, 5, 6], [0, 6])])
def rvCB11 : List Nat := [0, 0, 2, 7, 0, 16, 63, 127]
theorem rvCtab11 : Go.Proofs.YtjmadnpicidbeaaW.PrintLast.rtab .any (Go.Proofs.YtjmadnpicidbeaaW.PrintLast.opsOf Try.f42 11) = rvCT11 := by kernel_rfl
theorem rvCbits11 : Go.Proofs.YtjmadnpicidbeaaW.PrintLast.waitsOk rvCT11.2 rvCB11 = true := by kernel_rfl
def rvDT12 : Bool × List (List Nat × List Nat) := (true, [([], []), ([], []), ([1], [1]), ([2], [2]), ([0, 3], [0, 3]), ([], []), ([5], [5]), ([6], [6]), ([4, 7, 4], [4, 7]), ([8, 8, 0, 1, 2, 3, 4, 5, 6, 7, 8], [0, 8])])
def rvDB12 : List Nat := [0, 0, 2, 6, 15, 0, 32, 96, 255, 511]
theorem rvDtab12 : Go.Proofs.YtjmadnpicidbeaaW.PrintLast.rtab .any (Go.Proofs.YtjmadnpicidbeaaW.PrintLast.opsOf Try.f42 12) = rvDT12 := by kernel_rfl
theorem rvDbits12 : Go.Proofs.YtjmadnpicidbeaaW.PrintLast.waitsOk rvDT12.2 rvDB12 = true := by kernel_rfl
def rvCxT11 : Bool × List (List Nat × List Nat) := (true, [([], []), ([], []), ([1], [1]), ([0, 2], [0, 2]), ([], []), ([4], [4]), ([3, 5, 3], [3, 5]), ([6, 6, 0, 1, 2, 3, 4, 5, 6], [0, 6])])
def rvCxB11 : List Nat := [0, 0, 2, 7, 0, 16, 63, 127]
theorem rvCxtab11 : Go.Proofs.YtjmadnpicidbeaaW.PrintLast.rtab .any (Go.Proofs.YtjmadnpicidbeaaW.PrintLast.opsOf Try.f42 11) = rvCxT11 := by kernel_rfl
theorem rvCxbits11 : Go.Proofs.YtjmadnpicidbeaaW.PrintLast.waitsOk rvCxT11.2 rvCxB11 = true := by kernel_rfl
def rvDxT12 : Bool × List (List Nat × List Nat) := (true, [([], []), ([], []), ([1], [1]), ([2], [2]), ([0, 3], [0, 3]), ([], []), ([5], [5]), ([6], [6]), ([4, 7, 4], [4, 7]), ([8, 8, 0, 1, 2, 3, 4, 5, 6, 7, 8], [0, 8])])
def rvDxB12 : List Nat := [0, 0, 2, 6, 15, 0, 32, 96, 255, 511]
theorem rvDxtab12 : Go.Proofs.YtjmadnpicidbeaaW.PrintLast.rtab .any (Go.Proofs.YtjmadnpicidbeaaW.PrintLast.opsOf Try.f42 12) = rvDxT12 := by kernel_rfl
theorem rvDxbits12 : Go.Proofs.YtjmadnpicidbeaaW.PrintLast.waitsOk rvDxT12.2 rvDxB12 = true := by kernel_rfl
def rvET15 : Bool × List (List Nat × List Nat) := (true, [([], []), ([], []), ([1], [1]), ([0, 2], [0, 2]), ([], []), ([4], [4]), ([3, 5, 3], [3, 5]), ([6, 6, 0, 1, 2, 3, 4, 5, 6], [0, 6])])
def rvEB15 : List Nat := [0, 0, 2, 7, 0, 16, 63, 127]
theorem rvEtab15 : Go.Proofs.YtjmadnpicidbeaaW.PrintLast.rtab .any (Go.Proofs.YtjmadnpicidbeaaW.PrintLast.opsOf Try.f42 15) = rvET15 := by kernel_rfl
theorem rvEbits15 : Go.Proofs.YtjmadnpicidbeaaW.PrintLast.waitsOk rvET15.2 rvEB15 = true := by kernel_rfl
def rvFT16 : Bool × List (List Nat × List Nat) := (true, [([], []), ([], []), ([1], [1]), ([2], [2]), ([3], [3]), ([0, 4], [0, 4]), ([], []), ([6], [6]), ([7], [7]), ([8], [8]), ([5, 9, 5], [5, 9]), ([10, 10, 0, 1, 2, 3, 4, 5, 6, 7, 8, 9, 10], [0, 10])])
def rvFB16 : List Nat := [0, 0, 2, 6, 14, 31, 0, 64, 192, 448, 1023, 2047]
theorem rvFtab16 : Go.Proofs.YtjmadnpicidbeaaW.PrintLast.rtab .any (Go.Proofs.YtjmadnpicidbeaaW.PrintLast.opsOf Try.f42 16) = rvFT16 := by kernel_rfl
theorem rvFbits16 : Go.Proofs.YtjmadnpicidbeaaW.PrintLast.waitsOk rvFT16.2 rvFB16 = true := by kernel_rfl
def rvGT19 : Bool × List (List Nat × List Nat) := (true, [([], []), ([], []), ([1], [1]), ([0, 2], [0, 2]), ([], []), ([4], [4]), ([3, 5, 3], [3, 5]), ([6, 6, 0, 1, 2, 3, 4, 5, 6], [0, 6])])
def rvGB19 : List Nat := [0, 0, 2, 7, 0, 16, 63, 127]
theorem rvGtab19 : Go.Proofs.YtjmadnpicidbeaaW.PrintLast.rtab .any (Go.Proofs.YtjmadnpicidbeaaW.PrintLast.opsOf Try.f42 19) = rvGT19 := by kernel_rfl
theorem rvGbits19 : Go.Proofs.YtjmadnpicidbeaaW.PrintLast.waitsOk rvGT19.2 rvGB19 = true := by kernel_rfl
def rvHT20 : Bool × List (List Nat × List Nat) := (true, [([], []), ([], []), ([1], [1]), ([2], [2]), ([3], [3]), ([0, 4], [0, 4]), ([], []), ([6], [6]), ([7], [7]), ([8], [8]), ([5, 9, 5], [5, 9]), ([10, 10, 0, 1, 2, 3, 4, 5, 6, 7, 8, 9, 10], [0, 10])])
def rvHB20 : List Nat := [0, 0, 2, 6, 14, 31, 0, 64, 192, 448, 1023, 2047]
theorem rvHtab20 : Go.Proofs.YtjmadnpicidbeaaW.PrintLast.rtab .any (Go.Proofs.YtjmadnpicidbeaaW.PrintLast.opsOf Try.f42 20) = rvHT20 := by kernel_rfl
theorem rvHbits20 : Go.Proofs.YtjmadnpicidbeaaW.PrintLast.waitsOk rvHT20.2 rvHB20 = true := by kernel_rfl
def rvIT22 : Bool × List (List Nat × List Nat) := (true, [([], []), ([], []), ([1], [1]), ([0, 2], [0, 2]), ([], []), ([4], [4]), ([3, 5, 3], [3, 5]), ([6, 6, 0, 1, 2, 3, 4, 5, 6], [0, 6])])
def rvIB22 : List Nat := [0, 0, 2, 7, 0, 16, 63, 127]
theorem rvItab22 : Go.Proofs.YtjmadnpicidbeaaW.PrintLast.rtab .any (Go.Proofs.YtjmadnpicidbeaaW.PrintLast.opsOf Try.f42 22) = rvIT22 := by kernel_rfl
theorem rvIbits22 : Go.Proofs.YtjmadnpicidbeaaW.PrintLast.waitsOk rvIT22.2 rvIB22 = true := by kernel_rfl
def rvZT4 : Bool × List (List Nat × List Nat) := (true, [([], []), ([], []), ([0, 1], [0, 1]), ([], []), ([3], [3]), ([2, 4, 2], [2, 4]), ([5, 5, 0, 1, 2, 3, 4, 5], [5])])
def rvZB4 : List Nat := [0, 0, 3, 0, 8, 31, 63]
theorem rvZtab4 : Go.Proofs.YtjmadnpicidbeaaW.PrintLast.rtab .any (Go.Proofs.YtjmadnpicidbeaaW.PrintLast.opsOf Try.f42 4) = rvZT4 := by kernel_rfl
theorem rvZbits4 : Go.Proofs.YtjmadnpicidbeaaW.PrintLast.waitsOk rvZT4.2 rvZB4 = true := by kernel_rfl
set_option maxHeartbeats 16000000 in
theorem rvalue_calls (w : World) (x : Chk) (L : Lay) (hx : CR w x L) (hb : x = bareD x) (l10 : x.f10.length ≤ 4096) (l11 : x.f11.length ≤ 4096) (l12 : x.f12.length ≤ 4096) (l13 : x.f13.length ≤ 140737488351232) :
    Calls Try.prog 42 #[.agg (CV x L)] w fun e w' => ∃ v, e = .returned v ∧ (Kd.int .u8).R 5 w' w.heap.size (fun _ => True) v (valueD x) ∧ Below w.heap.size w w' := by
  have HN10 := Lib.hid l10
  have HN11 := Lib.hid l11
  have HN12 := Lib.hid l12
  have HN13 := Lib.hid l13
  have HCR := Lib.hid (fun (W : World) (h : Below w.heap.size w W) => hx.below h)
  have HNP := Lib.hid (encP_len x.f14)
  have HB := Lib.hid hb
  clear hx l10 l11 l12 l13 hb
  have X := (show (w.alloc (.cells (CV x L) 30)).heap[w.heap.size]? = some (.cells (CV x L) 30 (0, 0)) ∧ Below w.heap.size w (w.alloc (.cells (CV x L) 30)) from ⟨blk_new _ _, below_alloc (Below.refl _ _) _⟩)
  go_enter Try.func42, Try.ntmps42
  go_upto_region 2 with (fail)
  refine wp_gen (fun W => W.heap[w.heap.size]? = some (.cells (CV x L) 30 (0, 0)) ∧ Below w.heap.size w W) X ?_
  clear X
  rintro W ⟨hb0, hB0⟩
  have k14 : W.cell? ⟨w.heap.size, 14, none⟩ = some (.slice L.A14 x.f14.length L.c14) := blk_cell hb0 14
  have HE := Lib.hid (encR_calls W L.A14 L.c14 x.f14 (HCR.out W hB0).h14 (HCR.out W hB0).l14)
  have HB1_ := Lib.hid hB0
  have HB2_ := Lib.hid hb0
  clear hb0 hB0
  go_wp2_with fail
  refine HE.out.mono ?_
  rintro e w2 ⟨v0, rfl, hR, hB2⟩
  have hBw := below_then HB1_.out HB1_.out.size hB2
  have HB0 := Lib.hid (blk_below HB2_.out hB2)
  have hcr := HCR.out w2 hBw
  have HG10 := Lib.hid hcr.h10
  have HG11 := Lib.hid hcr.h11
  have HD12 := Lib.hid hcr.h12
  have HD13 := Lib.hid hcr.h13
  obtain ⟨A0, c0, rfl, hle0, hC0⟩ := Kd.R_reads hR
  have HP0 := Lib.hid hC0
  have HLE0 := Lib.hid hle0
  have HFIN := Lib.hid (fun (W' : World) (v : Value) (xs : List Int) (h1 : Below w2.heap.size w2 W') (h2 : (Kd.int .u8).R 5 W' w2.heap.size (fun _ => True) v xs) (h3 : valueD x = xs) => (show ∃ v_1, Ending.returned v = .returned v_1 ∧ (Kd.int .u8).R 5 W' w.heap.size (fun _ => True) v_1 (valueD x) ∧ Below w.heap.size w W' from ⟨v, rfl, by rw [h3]; exact Kd.R_lower h2 hBw.size, hBw.trans (h1.mono hBw.size)⟩))
  clear hR hB2 hcr hC0 hle0 HCR HE HB1_ HB2_ hBw k14
  have k0 : w2.cell? ⟨w.heap.size, 0, none⟩ = some (.int .u8 x.f0) := blk_cell HB0.out 0
  generalize hg : w.heap.size = g at *
  have X := RX.new w2
  by_cases h : x.f0 = 0
  · have q0 : (x.f0 == 0) = true := by simp [h]
    have HVD := Lib.hid (show valueD x = [] ++ fourL [x.f2] ++ twoL [x.f3] ++ twoL [x.f4] ++ fourL [x.f5] ++ x.f13 from by unfold valueD; rw [if_pos h]; unfold valData; simp only [List.nil_append, List.append_assoc, two2])
    go_upto_region 6 with (fail)
    obtain ⟨ys, hys⟩ : ∃ ys : List Int, ys = [] := ⟨_, rfl⟩
    have HX := Lib.hid X
    rw [← hys] at HX
    have HYL := Lib.hid (show ys.length ≤ 100000 by have := HN10.out; have := HN11.out; have := HN12.out; rw [hys]; simp only [List.length_append, twoL_length, fourL_length, gapL_length, List.length_cons, List.length_nil]; omega)
    have HYS := Lib.hid hys
    clear X hys
    refine grow_region (B := rvAB6) [0, 1, 2, 3, 4, 5, 6, 7, 8] [3, 7, 8] (fun s v W => RX w2 (match s with | 0 => ys | 1 => ys ++ fourL [x.f2] | 2 => ys ++ fourL [x.f2] ++ twoL [x.f3] | _ => ys ++ fourL [x.f2] ++ twoL [x.f3]) v W) (.slice none 0 0) (fun vs => [(0, 23, .slice none 0 0), (1, 24, .pointer (some ⟨g, 2, none⟩)), (2, 25, .int .u32 x.f2), (3, 26, vs 1), (4, 27, .pointer (some ⟨g, 3, none⟩)), (5, 28, .int .u16 x.f3), (6, 29, .int .u32 (IntKind.u32.wrap x.f3)), (7, 30, vs 2), (8, 3, vs 3)]) (by kernel_rfl) rfl (l := #[false, false, false, false, false, false, false, false, false]) rfl rvAtab6 rvAbits6 (by kernel_rfl) (by kernel_rfl) (fun _ => rfl) rfl ?_ ?_ ?_
    · exact HX.out.drewN 1
    · exact steps_cons (gr_op (p := 3) (fun w => Below w2.heap.size w2 w) 0 0 rfl rfl rfl (fun _ => rfl) (fun _ => rfl) rfl (u := .slice none 0 0) (rd_not (p := 3) 8 (by kernel_rfl) (fun _ => rfl) rfl) (fun s x w h => RX.bl h) (fun a w hJ e => by go_simp)) (steps_cons (gr_op (p := 1) (fun w => Below w2.heap.size w2 w) 1 1 rfl rfl rfl (fun _ => rfl) (fun _ => rfl) rfl (u := .pointer (some ⟨g, 0, none⟩)) (rd_off (p := 1) (fun _ => rfl) rfl) (fun s x w h => RX.bl h) (fun a w hJ e => by go_simp)) (steps_cons (gr_op (p := 24) (fun w => Below w2.heap.size w2 w) 2 2 rfl rfl rfl (fun _ => rfl) (fun _ => rfl) rfl (u := .pointer (some ⟨g, 2, none⟩)) (rd_on (p := 24) 1 1 (fun _ => rfl) (fun _ => rfl) (by kernel_rfl) rfl) (fun s x w h => RX.bl h) (fun a w hJ e => by have hs : w.cell? ⟨g, 2, none⟩ = some (.int .u32 x.f2) := blk_cell (blk_below HB0.out hJ) 2; go_simp)) (steps_cons (gr_call (vals := [.int .u32 x.f2, .int .i64 4]) 3 3 0 rfl rfl rfl rfl (fun _ => rfl) (fun _ _ => rfl) (fun _ => rfl) rfl (by kernel_rfl) Try.func43 (by kernel_rfl) rfl rfl rfl (fv := fun vs => .slice none 0 0) (rd_on (p := 23) 0 0 (fun _ => rfl) (fun _ => rfl) (by kernel_rfl) rfl) (fun _ h => h.symm) (ar_t (rd_on (p := 25) 2 2 (fun _ => rfl) (fun _ => rfl) (by kernel_rfl) rfl) (ar_c (.int .i64 4) (ar_n))) (fun u w h => h.four _ (by have := HYL.out; (try simp only [List.length_append, twoL_length, fourL_length, List.length_cons, List.length_nil]); omega))) (steps_cons (gr_op (p := 1) (fun w => Below w2.heap.size w2 w) 4 4 rfl rfl rfl (fun _ => rfl) (fun _ => rfl) rfl (u := .pointer (some ⟨g, 0, none⟩)) (rd_off (p := 1) (fun _ => rfl) rfl) (fun s x w h => RX.bl h) (fun a w hJ e => by go_simp)) (steps_cons (gr_op (p := 27) (fun w => Below w2.heap.size w2 w) 5 5 rfl rfl rfl (fun _ => rfl) (fun _ => rfl) rfl (u := .pointer (some ⟨g, 3, none⟩)) (rd_on (p := 27) 4 4 (fun _ => rfl) (fun _ => rfl) (by kernel_rfl) rfl) (fun s x w h => RX.bl h) (fun a w hJ e => by have hs : w.cell? ⟨g, 3, none⟩ = some (.int .u16 x.f3) := blk_cell (blk_below HB0.out hJ) 3; go_simp)) (steps_cons (gr_op (p := 28) (fun w => Below w2.heap.size w2 w) 6 6 rfl rfl rfl (fun _ => rfl) (fun _ => rfl) rfl (u := .int .u16 x.f3) (rd_on (p := 28) 5 5 (fun _ => rfl) (fun _ => rfl) (by kernel_rfl) rfl) (fun s x w h => RX.bl h) (fun a w hJ e => by go_simp)) (steps_cons (gr_call (vals := [.int .u32 (IntKind.u32.wrap x.f3), .int .i64 2]) 7 7 1 rfl rfl rfl rfl (fun _ => rfl) (fun _ _ => rfl) (fun _ => rfl) rfl (by kernel_rfl) Try.func43 (by kernel_rfl) rfl rfl rfl (fv := fun vs => vs 1) (rd_on (p := 26) 3 3 (fun _ => rfl) (fun _ => rfl) (by kernel_rfl) rfl) (fun _ _ => rfl) (ar_t (rd_on (p := 29) 6 6 (fun _ => rfl) (fun _ => rfl) (by kernel_rfl) rfl) (ar_c (.int .i64 2) (ar_n))) (fun u w h => h.two _ _ (two32 _) (by have := HYL.out; (try simp only [List.length_append, twoL_length, fourL_length, List.length_cons, List.length_nil]); omega))) (steps_cons (gr_last 8 8 2 rfl rfl rfl rfl (fun _ => rfl) (fun _ _ => rfl) (fun _ => rfl) rfl (by kernel_rfl) (fv := fun vs => vs 2) (rd_on (p := 30) 7 7 (fun _ => rfl) (fun _ => rfl) (by kernel_rfl) rfl) (fun _ _ => rfl) (fun a w u e => by go_simp) (fun _ _ h => h)) steps_nil))))))))
    intro vs1 W1 hX9
    have HRR := Lib.hid hX9
    clear hX9
    simp only [putSel, if_true, Act.put, List.setIfInBounds_toArray, List.set_cons_zero, List.set_cons_succ]
    obtain ⟨u1_, hu⟩ : ∃ u, vs1 3 = u := ⟨_, rfl⟩
    replace HRR := Lib.hid (show RX w2 (ys ++ fourL [x.f2] ++ twoL [x.f3]) (vs1 3) W1 from HRR.out)
    rw [hu] at HRR ⊢
    clear hu
    have X := HRR.out
    rw [HYS.out] at X
    clear HRR HYS HX HYL
    clear ys
    go_upto_region 7 with (fail)
    obtain ⟨ys, hys⟩ : ∃ ys : List Int, ys = [] ++ fourL [x.f2] ++ twoL [x.f3] := ⟨_, rfl⟩
    have HX := Lib.hid X
    rw [← hys] at HX
    have HYL := Lib.hid (show ys.length ≤ 100000 by have := HN10.out; have := HN11.out; have := HN12.out; rw [hys]; simp only [List.length_append, twoL_length, fourL_length, gapL_length, List.length_cons, List.length_nil]; omega)
    have HYS := Lib.hid hys
    clear X hys
    refine grow_region (B := rvBB7) [0, 1, 2, 3, 4, 5, 6, 7, 8] [4, 7, 8] (fun s v W => RX w2 (match s with | 0 => ys | 1 => ys ++ twoL [x.f4] | 2 => ys ++ twoL [x.f4] ++ fourL [x.f5] | _ => ys ++ twoL [x.f4] ++ fourL [x.f5]) v W) (u1_) (fun vs => [(0, 31, u1_), (1, 32, .pointer (some ⟨g, 4, none⟩)), (2, 33, .int .u16 x.f4), (3, 34, .int .u32 (IntKind.u32.wrap x.f4)), (4, 35, vs 1), (5, 36, .pointer (some ⟨g, 5, none⟩)), (6, 37, .int .u32 x.f5), (7, 38, vs 2), (8, 3, vs 3)]) (by kernel_rfl) rfl (l := #[false, false, false, false, false, false, false, false, false]) rfl rvBtab7 rvBbits7 (by kernel_rfl) (by kernel_rfl) (fun _ => rfl) rfl ?_ ?_ ?_
    · exact HX.out.drewN 1
    · exact steps_cons (gr_op (p := 3) (fun w => Below w2.heap.size w2 w) 0 0 rfl rfl rfl (fun _ => rfl) (fun _ => rfl) rfl (u := u1_) (rd_not (p := 3) 8 (by kernel_rfl) (fun _ => rfl) rfl) (fun s x w h => RX.bl h) (fun a w hJ e => by go_simp)) (steps_cons (gr_op (p := 1) (fun w => Below w2.heap.size w2 w) 1 1 rfl rfl rfl (fun _ => rfl) (fun _ => rfl) rfl (u := .pointer (some ⟨g, 0, none⟩)) (rd_off (p := 1) (fun _ => rfl) rfl) (fun s x w h => RX.bl h) (fun a w hJ e => by go_simp)) (steps_cons (gr_op (p := 32) (fun w => Below w2.heap.size w2 w) 2 2 rfl rfl rfl (fun _ => rfl) (fun _ => rfl) rfl (u := .pointer (some ⟨g, 4, none⟩)) (rd_on (p := 32) 1 1 (fun _ => rfl) (fun _ => rfl) (by kernel_rfl) rfl) (fun s x w h => RX.bl h) (fun a w hJ e => by have hs : w.cell? ⟨g, 4, none⟩ = some (.int .u16 x.f4) := blk_cell (blk_below HB0.out hJ) 4; go_simp)) (steps_cons (gr_op (p := 33) (fun w => Below w2.heap.size w2 w) 3 3 rfl rfl rfl (fun _ => rfl) (fun _ => rfl) rfl (u := .int .u16 x.f4) (rd_on (p := 33) 2 2 (fun _ => rfl) (fun _ => rfl) (by kernel_rfl) rfl) (fun s x w h => RX.bl h) (fun a w hJ e => by go_simp)) (steps_cons (gr_call (vals := [.int .u32 (IntKind.u32.wrap x.f4), .int .i64 2]) 4 4 0 rfl rfl rfl rfl (fun _ => rfl) (fun _ _ => rfl) (fun _ => rfl) rfl (by kernel_rfl) Try.func43 (by kernel_rfl) rfl rfl rfl (fv := fun vs => u1_) (rd_on (p := 31) 0 0 (fun _ => rfl) (fun _ => rfl) (by kernel_rfl) rfl) (fun _ h => h.symm) (ar_t (rd_on (p := 34) 3 3 (fun _ => rfl) (fun _ => rfl) (by kernel_rfl) rfl) (ar_c (.int .i64 2) (ar_n))) (fun u w h => h.two _ _ (two32 _) (by have := HYL.out; (try simp only [List.length_append, twoL_length, fourL_length, List.length_cons, List.length_nil]); omega))) (steps_cons (gr_op (p := 1) (fun w => Below w2.heap.size w2 w) 5 5 rfl rfl rfl (fun _ => rfl) (fun _ => rfl) rfl (u := .pointer (some ⟨g, 0, none⟩)) (rd_off (p := 1) (fun _ => rfl) rfl) (fun s x w h => RX.bl h) (fun a w hJ e => by go_simp)) (steps_cons (gr_op (p := 36) (fun w => Below w2.heap.size w2 w) 6 6 rfl rfl rfl (fun _ => rfl) (fun _ => rfl) rfl (u := .pointer (some ⟨g, 5, none⟩)) (rd_on (p := 36) 5 5 (fun _ => rfl) (fun _ => rfl) (by kernel_rfl) rfl) (fun s x w h => RX.bl h) (fun a w hJ e => by have hs : w.cell? ⟨g, 5, none⟩ = some (.int .u32 x.f5) := blk_cell (blk_below HB0.out hJ) 5; go_simp)) (steps_cons (gr_call (vals := [.int .u32 x.f5, .int .i64 4]) 7 7 1 rfl rfl rfl rfl (fun _ => rfl) (fun _ _ => rfl) (fun _ => rfl) rfl (by kernel_rfl) Try.func43 (by kernel_rfl) rfl rfl rfl (fv := fun vs => vs 1) (rd_on (p := 35) 4 4 (fun _ => rfl) (fun _ => rfl) (by kernel_rfl) rfl) (fun _ _ => rfl) (ar_t (rd_on (p := 37) 6 6 (fun _ => rfl) (fun _ => rfl) (by kernel_rfl) rfl) (ar_c (.int .i64 4) (ar_n))) (fun u w h => h.four _ (by have := HYL.out; (try simp only [List.length_append, twoL_length, fourL_length, List.length_cons, List.length_nil]); omega))) (steps_cons (gr_last 8 8 2 rfl rfl rfl rfl (fun _ => rfl) (fun _ _ => rfl) (fun _ => rfl) rfl (by kernel_rfl) (fv := fun vs => vs 2) (rd_on (p := 38) 7 7 (fun _ => rfl) (fun _ => rfl) (by kernel_rfl) rfl) (fun _ _ => rfl) (fun a w u e => by go_simp) (fun _ _ h => h)) steps_nil))))))))
    intro vs2 W2 hX9
    have HRR := Lib.hid hX9
    clear hX9
    simp only [putSel, if_true, Act.put, List.setIfInBounds_toArray, List.set_cons_zero, List.set_cons_succ]
    obtain ⟨u2_, hu⟩ : ∃ u, vs2 3 = u := ⟨_, rfl⟩
    replace HRR := Lib.hid (show RX w2 (ys ++ twoL [x.f4] ++ fourL [x.f5]) (vs2 3) W2 from HRR.out)
    rw [hu] at HRR ⊢
    clear hu
    have X := HRR.out
    rw [HYS.out] at X
    clear HRR HYS HX HYL
    clear ys
    go_upto_region 8 with (fail)
    obtain ⟨ys, hys⟩ : ∃ ys : List Int, ys = [] ++ fourL [x.f2] ++ twoL [x.f3] ++ twoL [x.f4] ++ fourL [x.f5] := ⟨_, rfl⟩
    have HX := Lib.hid X
    rw [← hys] at HX
    have HYL := Lib.hid (show ys.length ≤ 1000 by have := HN10.out; have := HN11.out; have := HN12.out; rw [hys]; simp only [List.length_append, twoL_length, fourL_length, gapL_length, List.length_cons, List.length_nil]; omega)
    have HYS := Lib.hid hys
    clear X hys
    have k13 : W2.cell? ⟨g, 13, none⟩ = some (.slice L.A13 x.f13.length L.c13) := blk_cell (blk_below HB0.out HX.out.bl) 13
    obtain ⟨Au, cu, hu⟩ := Kd.R_slice HX.out.r
    have HV := Lib.hid HX.out
    rw [hu] at HV
    subst hu
    have HRC := Lib.hid HX.out.r
    have HBC := Lib.hid HX.out.bl
    go_wp2_with (at_builtin; go_must (refine Kd.R_append_row (Value.int .u8) (0 : Int) (w0 := w2) (W := W2) w2.heap.size rfl _ _ 22 5 _ 1 rfl Try.underlying22 info_u8 rfl (by decide) (.slice Au ys.length cu) ys x.f13 L.A13 _ L.c13 (fun _ => True) rfl rfl (fun _ _ => trivial) HRC.out (Kd.C_below HD13.out HBC.out) HBC.out HBC.out.size (by have := HYL.out; have := HN13.out; omega) ?_); (intro v1 w1 hR1 hB1 hG1 _; have HR1 := Lib.hid hR1; have HB1 := Lib.hid hB1; clear hR1 hB1 hG1; refine RowKit.Hid.out ?_))
    refine Lib.hid ?_
    go_wp2
    go_ret
    rw [HYS.out] at HR1
    subst hg
    exact HFIN.out _ _ _ HB1.out HR1.out (by rw [HVD.out])
  have n0 := h
  clear h
  by_cases h : x.f0 = 1
  · have q0 : (x.f0 == 0) = false := by simp; omega
    have q1 : (x.f0 == 1) = true := by simp [h]
    have HVD := Lib.hid (show valueD x = [] ++ fourL [x.f6] ++ fourL [x.f7] ++ twoL [x.f8] ++ twoL [x.f9] ++ fourL [x.f2] ++ (encP x.f14).1 from by unfold valueD; rw [if_neg (by omega), if_pos (by omega)]; simp only [List.nil_append, List.append_assoc, two2, four2])
    go_upto_region 11 with (fail)
    obtain ⟨ys, hys⟩ : ∃ ys : List Int, ys = [] := ⟨_, rfl⟩
    have HX := Lib.hid X
    rw [← hys] at HX
    have HYL := Lib.hid (show ys.length ≤ 100000 by have := HN10.out; have := HN11.out; have := HN12.out; rw [hys]; simp only [List.length_append, twoL_length, fourL_length, gapL_length, List.length_cons, List.length_nil]; omega)
    have HYS := Lib.hid hys
    clear X hys
    refine grow_region (B := rvCB11) [0, 1, 2, 3, 4, 5, 6, 7] [3, 6, 7] (fun s v W => RX w2 (match s with | 0 => ys | 1 => ys ++ fourL [x.f6] | 2 => ys ++ fourL [x.f6] ++ fourL [x.f7] | _ => ys ++ fourL [x.f6] ++ fourL [x.f7]) v W) (.slice none 0 0) (fun vs => [(0, 46, .slice none 0 0), (1, 47, .pointer (some ⟨g, 6, none⟩)), (2, 48, .int .u32 x.f6), (3, 49, vs 1), (4, 50, .pointer (some ⟨g, 7, none⟩)), (5, 51, .int .u32 x.f7), (6, 52, vs 2), (7, 3, vs 3)]) (by kernel_rfl) rfl (l := #[false, false, false, false, false, false, false, false]) rfl rvCtab11 rvCbits11 (by kernel_rfl) (by kernel_rfl) (fun _ => rfl) rfl ?_ ?_ ?_
    · exact HX.out.drewN 1
    · exact steps_cons (gr_op (p := 3) (fun w => Below w2.heap.size w2 w) 0 0 rfl rfl rfl (fun _ => rfl) (fun _ => rfl) rfl (u := .slice none 0 0) (rd_not (p := 3) 7 (by kernel_rfl) (fun _ => rfl) rfl) (fun s x w h => RX.bl h) (fun a w hJ e => by go_simp)) (steps_cons (gr_op (p := 1) (fun w => Below w2.heap.size w2 w) 1 1 rfl rfl rfl (fun _ => rfl) (fun _ => rfl) rfl (u := .pointer (some ⟨g, 0, none⟩)) (rd_off (p := 1) (fun _ => rfl) rfl) (fun s x w h => RX.bl h) (fun a w hJ e => by go_simp)) (steps_cons (gr_op (p := 47) (fun w => Below w2.heap.size w2 w) 2 2 rfl rfl rfl (fun _ => rfl) (fun _ => rfl) rfl (u := .pointer (some ⟨g, 6, none⟩)) (rd_on (p := 47) 1 1 (fun _ => rfl) (fun _ => rfl) (by kernel_rfl) rfl) (fun s x w h => RX.bl h) (fun a w hJ e => by have hs : w.cell? ⟨g, 6, none⟩ = some (.int .u32 x.f6) := blk_cell (blk_below HB0.out hJ) 6; go_simp)) (steps_cons (gr_call (vals := [.int .u32 x.f6, .int .i64 4]) 3 3 0 rfl rfl rfl rfl (fun _ => rfl) (fun _ _ => rfl) (fun _ => rfl) rfl (by kernel_rfl) Try.func43 (by kernel_rfl) rfl rfl rfl (fv := fun vs => .slice none 0 0) (rd_on (p := 46) 0 0 (fun _ => rfl) (fun _ => rfl) (by kernel_rfl) rfl) (fun _ h => h.symm) (ar_t (rd_on (p := 48) 2 2 (fun _ => rfl) (fun _ => rfl) (by kernel_rfl) rfl) (ar_c (.int .i64 4) (ar_n))) (fun u w h => h.four _ (by have := HYL.out; (try simp only [List.length_append, twoL_length, fourL_length, List.length_cons, List.length_nil]); omega))) (steps_cons (gr_op (p := 1) (fun w => Below w2.heap.size w2 w) 4 4 rfl rfl rfl (fun _ => rfl) (fun _ => rfl) rfl (u := .pointer (some ⟨g, 0, none⟩)) (rd_off (p := 1) (fun _ => rfl) rfl) (fun s x w h => RX.bl h) (fun a w hJ e => by go_simp)) (steps_cons (gr_op (p := 50) (fun w => Below w2.heap.size w2 w) 5 5 rfl rfl rfl (fun _ => rfl) (fun _ => rfl) rfl (u := .pointer (some ⟨g, 7, none⟩)) (rd_on (p := 50) 4 4 (fun _ => rfl) (fun _ => rfl) (by kernel_rfl) rfl) (fun s x w h => RX.bl h) (fun a w hJ e => by have hs : w.cell? ⟨g, 7, none⟩ = some (.int .u32 x.f7) := blk_cell (blk_below HB0.out hJ) 7; go_simp)) (steps_cons (gr_call (vals := [.int .u32 x.f7, .int .i64 4]) 6 6 1 rfl rfl rfl rfl (fun _ => rfl) (fun _ _ => rfl) (fun _ => rfl) rfl (by kernel_rfl) Try.func43 (by kernel_rfl) rfl rfl rfl (fv := fun vs => vs 1) (rd_on (p := 49) 3 3 (fun _ => rfl) (fun _ => rfl) (by kernel_rfl) rfl) (fun _ _ => rfl) (ar_t (rd_on (p := 51) 5 5 (fun _ => rfl) (fun _ => rfl) (by kernel_rfl) rfl) (ar_c (.int .i64 4) (ar_n))) (fun u w h => h.four _ (by have := HYL.out; (try simp only [List.length_append, twoL_length, fourL_length, List.length_cons, List.length_nil]); omega))) (steps_cons (gr_last 7 7 2 rfl rfl rfl rfl (fun _ => rfl) (fun _ _ => rfl) (fun _ => rfl) rfl (by kernel_rfl) (fv := fun vs => vs 2) (rd_on (p := 52) 6 6 (fun _ => rfl) (fun _ => rfl) (by kernel_rfl) rfl) (fun _ _ => rfl) (fun a w u e => by go_simp) (fun _ _ h => h)) steps_nil)))))))
    intro vs1 W1 hX9
    have HRR := Lib.hid hX9
    clear hX9
    simp only [putSel, if_true, Act.put, List.setIfInBounds_toArray, List.set_cons_zero, List.set_cons_succ]
    obtain ⟨u1_, hu⟩ : ∃ u, vs1 3 = u := ⟨_, rfl⟩
    replace HRR := Lib.hid (show RX w2 (ys ++ fourL [x.f6] ++ fourL [x.f7]) (vs1 3) W1 from HRR.out)
    rw [hu] at HRR ⊢
    clear hu
    have X := HRR.out
    rw [HYS.out] at X
    clear HRR HYS HX HYL
    clear ys
    go_upto_region 12 with (fail)
    obtain ⟨ys, hys⟩ : ∃ ys : List Int, ys = [] ++ fourL [x.f6] ++ fourL [x.f7] := ⟨_, rfl⟩
    have HX := Lib.hid X
    rw [← hys] at HX
    have HYL := Lib.hid (show ys.length ≤ 100000 by have := HN10.out; have := HN11.out; have := HN12.out; rw [hys]; simp only [List.length_append, twoL_length, fourL_length, gapL_length, List.length_cons, List.length_nil]; omega)
    have HYS := Lib.hid hys
    clear X hys
    refine grow_region (B := rvDB12) [0, 1, 2, 3, 4, 5, 6, 7, 8, 9] [4, 8, 9] (fun s v W => RX w2 (match s with | 0 => ys | 1 => ys ++ twoL [x.f8] | 2 => ys ++ twoL [x.f8] ++ twoL [x.f9] | _ => ys ++ twoL [x.f8] ++ twoL [x.f9]) v W) (u1_) (fun vs => [(0, 53, u1_), (1, 54, .pointer (some ⟨g, 8, none⟩)), (2, 55, .int .u16 x.f8), (3, 56, .int .u32 (IntKind.u32.wrap x.f8)), (4, 57, vs 1), (5, 58, .pointer (some ⟨g, 9, none⟩)), (6, 59, .int .u16 x.f9), (7, 60, .int .u32 (IntKind.u32.wrap x.f9)), (8, 61, vs 2), (9, 3, vs 3)]) (by kernel_rfl) rfl (l := #[false, false, false, false, false, false, false, false, false, false]) rfl rvDtab12 rvDbits12 (by kernel_rfl) (by kernel_rfl) (fun _ => rfl) rfl ?_ ?_ ?_
    · exact HX.out.drewN 1
    · exact steps_cons (gr_op (p := 3) (fun w => Below w2.heap.size w2 w) 0 0 rfl rfl rfl (fun _ => rfl) (fun _ => rfl) rfl (u := u1_) (rd_not (p := 3) 9 (by kernel_rfl) (fun _ => rfl) rfl) (fun s x w h => RX.bl h) (fun a w hJ e => by go_simp)) (steps_cons (gr_op (p := 1) (fun w => Below w2.heap.size w2 w) 1 1 rfl rfl rfl (fun _ => rfl) (fun _ => rfl) rfl (u := .pointer (some ⟨g, 0, none⟩)) (rd_off (p := 1) (fun _ => rfl) rfl) (fun s x w h => RX.bl h) (fun a w hJ e => by go_simp)) (steps_cons (gr_op (p := 54) (fun w => Below w2.heap.size w2 w) 2 2 rfl rfl rfl (fun _ => rfl) (fun _ => rfl) rfl (u := .pointer (some ⟨g, 8, none⟩)) (rd_on (p := 54) 1 1 (fun _ => rfl) (fun _ => rfl) (by kernel_rfl) rfl) (fun s x w h => RX.bl h) (fun a w hJ e => by have hs : w.cell? ⟨g, 8, none⟩ = some (.int .u16 x.f8) := blk_cell (blk_below HB0.out hJ) 8; go_simp)) (steps_cons (gr_op (p := 55) (fun w => Below w2.heap.size w2 w) 3 3 rfl rfl rfl (fun _ => rfl) (fun _ => rfl) rfl (u := .int .u16 x.f8) (rd_on (p := 55) 2 2 (fun _ => rfl) (fun _ => rfl) (by kernel_rfl) rfl) (fun s x w h => RX.bl h) (fun a w hJ e => by go_simp)) (steps_cons (gr_call (vals := [.int .u32 (IntKind.u32.wrap x.f8), .int .i64 2]) 4 4 0 rfl rfl rfl rfl (fun _ => rfl) (fun _ _ => rfl) (fun _ => rfl) rfl (by kernel_rfl) Try.func43 (by kernel_rfl) rfl rfl rfl (fv := fun vs => u1_) (rd_on (p := 53) 0 0 (fun _ => rfl) (fun _ => rfl) (by kernel_rfl) rfl) (fun _ h => h.symm) (ar_t (rd_on (p := 56) 3 3 (fun _ => rfl) (fun _ => rfl) (by kernel_rfl) rfl) (ar_c (.int .i64 2) (ar_n))) (fun u w h => h.two _ _ (two32 _) (by have := HYL.out; (try simp only [List.length_append, twoL_length, fourL_length, List.length_cons, List.length_nil]); omega))) (steps_cons (gr_op (p := 1) (fun w => Below w2.heap.size w2 w) 5 5 rfl rfl rfl (fun _ => rfl) (fun _ => rfl) rfl (u := .pointer (some ⟨g, 0, none⟩)) (rd_off (p := 1) (fun _ => rfl) rfl) (fun s x w h => RX.bl h) (fun a w hJ e => by go_simp)) (steps_cons (gr_op (p := 58) (fun w => Below w2.heap.size w2 w) 6 6 rfl rfl rfl (fun _ => rfl) (fun _ => rfl) rfl (u := .pointer (some ⟨g, 9, none⟩)) (rd_on (p := 58) 5 5 (fun _ => rfl) (fun _ => rfl) (by kernel_rfl) rfl) (fun s x w h => RX.bl h) (fun a w hJ e => by have hs : w.cell? ⟨g, 9, none⟩ = some (.int .u16 x.f9) := blk_cell (blk_below HB0.out hJ) 9; go_simp)) (steps_cons (gr_op (p := 59) (fun w => Below w2.heap.size w2 w) 7 7 rfl rfl rfl (fun _ => rfl) (fun _ => rfl) rfl (u := .int .u16 x.f9) (rd_on (p := 59) 6 6 (fun _ => rfl) (fun _ => rfl) (by kernel_rfl) rfl) (fun s x w h => RX.bl h) (fun a w hJ e => by go_simp)) (steps_cons (gr_call (vals := [.int .u32 (IntKind.u32.wrap x.f9), .int .i64 2]) 8 8 1 rfl rfl rfl rfl (fun _ => rfl) (fun _ _ => rfl) (fun _ => rfl) rfl (by kernel_rfl) Try.func43 (by kernel_rfl) rfl rfl rfl (fv := fun vs => vs 1) (rd_on (p := 57) 4 4 (fun _ => rfl) (fun _ => rfl) (by kernel_rfl) rfl) (fun _ _ => rfl) (ar_t (rd_on (p := 60) 7 7 (fun _ => rfl) (fun _ => rfl) (by kernel_rfl) rfl) (ar_c (.int .i64 2) (ar_n))) (fun u w h => h.two _ _ (two32 _) (by have := HYL.out; (try simp only [List.length_append, twoL_length, fourL_length, List.length_cons, List.length_nil]); omega))) (steps_cons (gr_last 9 9 2 rfl rfl rfl rfl (fun _ => rfl) (fun _ _ => rfl) (fun _ => rfl) rfl (by kernel_rfl) (fv := fun vs => vs 2) (rd_on (p := 61) 8 8 (fun _ => rfl) (fun _ => rfl) (by kernel_rfl) rfl) (fun _ _ => rfl) (fun a w u e => by go_simp) (fun _ _ h => h)) steps_nil)))))))))
    intro vs2 W2 hX9
    have HRR := Lib.hid hX9
    clear hX9
    simp only [putSel, if_true, Act.put, List.setIfInBounds_toArray, List.set_cons_zero, List.set_cons_succ]
    obtain ⟨u2_, hu⟩ : ∃ u, vs2 3 = u := ⟨_, rfl⟩
    replace HRR := Lib.hid (show RX w2 (ys ++ twoL [x.f8] ++ twoL [x.f9]) (vs2 3) W2 from HRR.out)
    rw [hu] at HRR ⊢
    clear hu
    have X := HRR.out
    rw [HYS.out] at X
    clear HRR HYS HX HYL
    clear ys
    go_upto_region 13 with (fail)
    obtain ⟨ys, hys⟩ : ∃ ys : List Int, ys = [] ++ fourL [x.f6] ++ fourL [x.f7] ++ twoL [x.f8] ++ twoL [x.f9] := ⟨_, rfl⟩
    have HX := Lib.hid X
    rw [← hys] at HX
    have HYL := Lib.hid (show ys.length ≤ 100000 by have := HN10.out; have := HN11.out; have := HN12.out; rw [hys]; simp only [List.length_append, twoL_length, fourL_length, gapL_length, List.length_cons, List.length_nil]; omega)
    have HYS := Lib.hid hys
    clear X hys
    have k2 : W2.cell? ⟨g, 2, none⟩ = some (.int .u32 x.f2) := blk_cell (blk_below HB0.out HX.out.bl) 2
    go_wp2_with fail
    refine (HX.out.four _ (by have := HYL.out; (try simp only [List.length_append, twoL_length, fourL_length, List.length_cons, List.length_nil]); omega)).mono ?_
    rintro e W3 ⟨v3_, rfl, hX9⟩
    have HRR := Lib.hid hX9
    clear hX9 k2
    have X := HRR.out
    rw [HYS.out] at X
    clear HRR HYS HX HYL
    clear ys
    obtain ⟨ys, hys⟩ : ∃ ys : List Int, ys = [] ++ fourL [x.f6] ++ fourL [x.f7] ++ twoL [x.f8] ++ twoL [x.f9] ++ fourL [x.f2] := ⟨_, rfl⟩
    have HX := Lib.hid X
    rw [← hys] at HX
    have HYL := Lib.hid (show ys.length ≤ 100000 by have := HN10.out; have := HN11.out; have := HN12.out; rw [hys]; simp only [List.length_append, twoL_length, fourL_length, gapL_length, List.length_cons, List.length_nil]; omega)
    have HYS := Lib.hid hys
    clear X hys
    obtain ⟨Au, cu, hu⟩ := Kd.R_slice HX.out.r
    have HV := Lib.hid HX.out
    rw [hu] at HV
    subst hu
    have HRC := Lib.hid HX.out.r
    have HBC := Lib.hid HX.out.bl
    go_wp2_with (at_builtin; go_must (refine Kd.R_append_row (Value.int .u8) (0 : Int) (w0 := w2) (W := W3) w2.heap.size rfl _ _ 22 5 _ 1 rfl Try.underlying22 info_u8 rfl (by decide) (.slice Au ys.length cu) ys (encP x.f14).1 A0 _ c0 (fun _ => True) rfl rfl (fun _ _ => trivial) HRC.out (Kd.C_below HP0.out HBC.out) HBC.out HBC.out.size (by have := HYL.out; have := HNP.out; omega) ?_); (intro v1 w1 hR1 hB1 hG1 _; have HR1 := Lib.hid hR1; have HB1 := Lib.hid hB1; clear hR1 hB1 hG1; refine RowKit.Hid.out ?_))
    refine Lib.hid ?_
    go_wp2
    go_ret
    rw [HYS.out] at HR1
    subst hg
    exact HFIN.out _ _ _ HB1.out HR1.out (by rw [HVD.out])
  have n1 := h
  clear h
  by_cases h : x.f0 = 2
  · have q0 : (x.f0 == 0) = false := by simp; omega
    have q1 : (x.f0 == 1) = false := by simp; omega
    have q2 : (x.f0 == 2) = true := by simp [h]
    have HVD := Lib.hid (show valueD x = [] ++ fourL [x.f6] ++ fourL [x.f7] ++ twoL [x.f8] ++ twoL [x.f9] ++ fourL [x.f2] ++ (encP x.f14).1 from by unfold valueD; rw [if_neg (by omega), if_pos (by omega)]; simp only [List.nil_append, List.append_assoc, two2, four2])
    go_upto_region 11 with (fail)
    obtain ⟨ys, hys⟩ : ∃ ys : List Int, ys = [] := ⟨_, rfl⟩
    have HX := Lib.hid X
    rw [← hys] at HX
    have HYL := Lib.hid (show ys.length ≤ 100000 by have := HN10.out; have := HN11.out; have := HN12.out; rw [hys]; simp only [List.length_append, twoL_length, fourL_length, gapL_length, List.length_cons, List.length_nil]; omega)
    have HYS := Lib.hid hys
    clear X hys
    refine grow_region (B := rvCxB11) [0, 1, 2, 3, 4, 5, 6, 7] [3, 6, 7] (fun s v W => RX w2 (match s with | 0 => ys | 1 => ys ++ fourL [x.f6] | 2 => ys ++ fourL [x.f6] ++ fourL [x.f7] | _ => ys ++ fourL [x.f6] ++ fourL [x.f7]) v W) (.slice none 0 0) (fun vs => [(0, 46, .slice none 0 0), (1, 47, .pointer (some ⟨g, 6, none⟩)), (2, 48, .int .u32 x.f6), (3, 49, vs 1), (4, 50, .pointer (some ⟨g, 7, none⟩)), (5, 51, .int .u32 x.f7), (6, 52, vs 2), (7, 3, vs 3)]) (by kernel_rfl) rfl (l := #[false, false, false, false, false, false, false, false]) rfl rvCxtab11 rvCxbits11 (by kernel_rfl) (by kernel_rfl) (fun _ => rfl) rfl ?_ ?_ ?_
    · exact HX.out.drewN 1
    · exact steps_cons (gr_op (p := 3) (fun w => Below w2.heap.size w2 w) 0 0 rfl rfl rfl (fun _ => rfl) (fun _ => rfl) rfl (u := .slice none 0 0) (rd_not (p := 3) 7 (by kernel_rfl) (fun _ => rfl) rfl) (fun s x w h => RX.bl h) (fun a w hJ e => by go_simp)) (steps_cons (gr_op (p := 1) (fun w => Below w2.heap.size w2 w) 1 1 rfl rfl rfl (fun _ => rfl) (fun _ => rfl) rfl (u := .pointer (some ⟨g, 0, none⟩)) (rd_off (p := 1) (fun _ => rfl) rfl) (fun s x w h => RX.bl h) (fun a w hJ e => by go_simp)) (steps_cons (gr_op (p := 47) (fun w => Below w2.heap.size w2 w) 2 2 rfl rfl rfl (fun _ => rfl) (fun _ => rfl) rfl (u := .pointer (some ⟨g, 6, none⟩)) (rd_on (p := 47) 1 1 (fun _ => rfl) (fun _ => rfl) (by kernel_rfl) rfl) (fun s x w h => RX.bl h) (fun a w hJ e => by have hs : w.cell? ⟨g, 6, none⟩ = some (.int .u32 x.f6) := blk_cell (blk_below HB0.out hJ) 6; go_simp)) (steps_cons (gr_call (vals := [.int .u32 x.f6, .int .i64 4]) 3 3 0 rfl rfl rfl rfl (fun _ => rfl) (fun _ _ => rfl) (fun _ => rfl) rfl (by kernel_rfl) Try.func43 (by kernel_rfl) rfl rfl rfl (fv := fun vs => .slice none 0 0) (rd_on (p := 46) 0 0 (fun _ => rfl) (fun _ => rfl) (by kernel_rfl) rfl) (fun _ h => h.symm) (ar_t (rd_on (p := 48) 2 2 (fun _ => rfl) (fun _ => rfl) (by kernel_rfl) rfl) (ar_c (.int .i64 4) (ar_n))) (fun u w h => h.four _ (by have := HYL.out; (try simp only [List.length_append, twoL_length, fourL_length, List.length_cons, List.length_nil]); omega))) (steps_cons (gr_op (p := 1) (fun w => Below w2.heap.size w2 w) 4 4 rfl rfl rfl (fun _ => rfl) (fun _ => rfl) rfl (u := .pointer (some ⟨g, 0, none⟩)) (rd_off (p := 1) (fun _ => rfl) rfl) (fun s x w h => RX.bl h) (fun a w hJ e => by go_simp)) (steps_cons (gr_op (p := 50) (fun w => Below w2.heap.size w2 w) 5 5 rfl rfl rfl (fun _ => rfl) (fun _ => rfl) rfl (u := .pointer (some ⟨g, 7, none⟩)) (rd_on (p := 50) 4 4 (fun _ => rfl) (fun _ => rfl) (by kernel_rfl) rfl) (fun s x w h => RX.bl h) (fun a w hJ e => by have hs : w.cell? ⟨g, 7, none⟩ = some (.int .u32 x.f7) := blk_cell (blk_below HB0.out hJ) 7; go_simp)) (steps_cons (gr_call (vals := [.int .u32 x.f7, .int .i64 4]) 6 6 1 rfl rfl rfl rfl (fun _ => rfl) (fun _ _ => rfl) (fun _ => rfl) rfl (by kernel_rfl) Try.func43 (by kernel_rfl) rfl rfl rfl (fv := fun vs => vs 1) (rd_on (p := 49) 3 3 (fun _ => rfl) (fun _ => rfl) (by kernel_rfl) rfl) (fun _ _ => rfl) (ar_t (rd_on (p := 51) 5 5 (fun _ => rfl) (fun _ => rfl) (by kernel_rfl) rfl) (ar_c (.int .i64 4) (ar_n))) (fun u w h => h.four _ (by have := HYL.out; (try simp only [List.length_append, twoL_length, fourL_length, List.length_cons, List.length_nil]); omega))) (steps_cons (gr_last 7 7 2 rfl rfl rfl rfl (fun _ => rfl) (fun _ _ => rfl) (fun _ => rfl) rfl (by kernel_rfl) (fv := fun vs => vs 2) (rd_on (p := 52) 6 6 (fun _ => rfl) (fun _ => rfl) (by kernel_rfl) rfl) (fun _ _ => rfl) (fun a w u e => by go_simp) (fun _ _ h => h)) steps_nil)))))))
    intro vs1 W1 hX9
    have HRR := Lib.hid hX9
    clear hX9
    simp only [putSel, if_true, Act.put, List.setIfInBounds_toArray, List.set_cons_zero, List.set_cons_succ]
    obtain ⟨u1_, hu⟩ : ∃ u, vs1 3 = u := ⟨_, rfl⟩
    replace HRR := Lib.hid (show RX w2 (ys ++ fourL [x.f6] ++ fourL [x.f7]) (vs1 3) W1 from HRR.out)
    rw [hu] at HRR ⊢
    clear hu
    have X := HRR.out
    rw [HYS.out] at X
    clear HRR HYS HX HYL
    clear ys
    go_upto_region 12 with (fail)
    obtain ⟨ys, hys⟩ : ∃ ys : List Int, ys = [] ++ fourL [x.f6] ++ fourL [x.f7] := ⟨_, rfl⟩
    have HX := Lib.hid X
    rw [← hys] at HX
    have HYL := Lib.hid (show ys.length ≤ 100000 by have := HN10.out; have := HN11.out; have := HN12.out; rw [hys]; simp only [List.length_append, twoL_length, fourL_length, gapL_length, List.length_cons, List.length_nil]; omega)
    have HYS := Lib.hid hys
    clear X hys
    refine grow_region (B := rvDxB12) [0, 1, 2, 3, 4, 5, 6, 7, 8, 9] [4, 8, 9] (fun s v W => RX w2 (match s with | 0 => ys | 1 => ys ++ twoL [x.f8] | 2 => ys ++ twoL [x.f8] ++ twoL [x.f9] | _ => ys ++ twoL [x.f8] ++ twoL [x.f9]) v W) (u1_) (fun vs => [(0, 53, u1_), (1, 54, .pointer (some ⟨g, 8, none⟩)), (2, 55, .int .u16 x.f8), (3, 56, .int .u32 (IntKind.u32.wrap x.f8)), (4, 57, vs 1), (5, 58, .pointer (some ⟨g, 9, none⟩)), (6, 59, .int .u16 x.f9), (7, 60, .int .u32 (IntKind.u32.wrap x.f9)), (8, 61, vs 2), (9, 3, vs 3)]) (by kernel_rfl) rfl (l := #[false, false, false, false, false, false, false, false, false, false]) rfl rvDxtab12 rvDxbits12 (by kernel_rfl) (by kernel_rfl) (fun _ => rfl) rfl ?_ ?_ ?_
    · exact HX.out.drewN 1
    · exact steps_cons (gr_op (p := 3) (fun w => Below w2.heap.size w2 w) 0 0 rfl rfl rfl (fun _ => rfl) (fun _ => rfl) rfl (u := u1_) (rd_not (p := 3) 9 (by kernel_rfl) (fun _ => rfl) rfl) (fun s x w h => RX.bl h) (fun a w hJ e => by go_simp)) (steps_cons (gr_op (p := 1) (fun w => Below w2.heap.size w2 w) 1 1 rfl rfl rfl (fun _ => rfl) (fun _ => rfl) rfl (u := .pointer (some ⟨g, 0, none⟩)) (rd_off (p := 1) (fun _ => rfl) rfl) (fun s x w h => RX.bl h) (fun a w hJ e => by go_simp)) (steps_cons (gr_op (p := 54) (fun w => Below w2.heap.size w2 w) 2 2 rfl rfl rfl (fun _ => rfl) (fun _ => rfl) rfl (u := .pointer (some ⟨g, 8, none⟩)) (rd_on (p := 54) 1 1 (fun _ => rfl) (fun _ => rfl) (by kernel_rfl) rfl) (fun s x w h => RX.bl h) (fun a w hJ e => by have hs : w.cell? ⟨g, 8, none⟩ = some (.int .u16 x.f8) := blk_cell (blk_below HB0.out hJ) 8; go_simp)) (steps_cons (gr_op (p := 55) (fun w => Below w2.heap.size w2 w) 3 3 rfl rfl rfl (fun _ => rfl) (fun _ => rfl) rfl (u := .int .u16 x.f8) (rd_on (p := 55) 2 2 (fun _ => rfl) (fun _ => rfl) (by kernel_rfl) rfl) (fun s x w h => RX.bl h) (fun a w hJ e => by go_simp)) (steps_cons (gr_call (vals := [.int .u32 (IntKind.u32.wrap x.f8), .int .i64 2]) 4 4 0 rfl rfl rfl rfl (fun _ => rfl) (fun _ _ => rfl) (fun _ => rfl) rfl (by kernel_rfl) Try.func43 (by kernel_rfl) rfl rfl rfl (fv := fun vs => u1_) (rd_on (p := 53) 0 0 (fun _ => rfl) (fun _ => rfl) (by kernel_rfl) rfl) (fun _ h => h.symm) (ar_t (rd_on (p := 56) 3 3 (fun _ => rfl) (fun _ => rfl) (by kernel_rfl) rfl) (ar_c (.int .i64 2) (ar_n))) (fun u w h => h.two _ _ (two32 _) (by have := HYL.out; (try simp only [List.length_append, twoL_length, fourL_length, List.length_cons, List.length_nil]); omega))) (steps_cons (gr_op (p := 1) (fun w => Below w2.heap.size w2 w) 5 5 rfl rfl rfl (fun _ => rfl) (fun _ => rfl) rfl (u := .pointer (some ⟨g, 0, none⟩)) (rd_off (p := 1) (fun _ => rfl) rfl) (fun s x w h => RX.bl h) (fun a w hJ e => by go_simp)) (steps_cons (gr_op (p := 58) (fun w => Below w2.heap.size w2 w) 6 6 rfl rfl rfl (fun _ => rfl) (fun _ => rfl) rfl (u := .pointer (some ⟨g, 9, none⟩)) (rd_on (p := 58) 5 5 (fun _ => rfl) (fun _ => rfl) (by kernel_rfl) rfl) (fun s x w h => RX.bl h) (fun a w hJ e => by have hs : w.cell? ⟨g, 9, none⟩ = some (.int .u16 x.f9) := blk_cell (blk_below HB0.out hJ) 9; go_simp)) (steps_cons (gr_op (p := 59) (fun w => Below w2.heap.size w2 w) 7 7 rfl rfl rfl (fun _ => rfl) (fun _ => rfl) rfl (u := .int .u16 x.f9) (rd_on (p := 59) 6 6 (fun _ => rfl) (fun _ => rfl) (by kernel_rfl) rfl) (fun s x w h => RX.bl h) (fun a w hJ e => by go_simp)) (steps_cons (gr_call (vals := [.int .u32 (IntKind.u32.wrap x.f9), .int .i64 2]) 8 8 1 rfl rfl rfl rfl (fun _ => rfl) (fun _ _ => rfl) (fun _ => rfl) rfl (by kernel_rfl) Try.func43 (by kernel_rfl) rfl rfl rfl (fv := fun vs => vs 1) (rd_on (p := 57) 4 4 (fun _ => rfl) (fun _ => rfl) (by kernel_rfl) rfl) (fun _ _ => rfl) (ar_t (rd_on (p := 60) 7 7 (fun _ => rfl) (fun _ => rfl) (by kernel_rfl) rfl) (ar_c (.int .i64 2) (ar_n))) (fun u w h => h.two _ _ (two32 _) (by have := HYL.out; (try simp only [List.length_append, twoL_length, fourL_length, List.length_cons, List.length_nil]); omega))) (steps_cons (gr_last 9 9 2 rfl rfl rfl rfl (fun _ => rfl) (fun _ _ => rfl) (fun _ => rfl) rfl (by kernel_rfl) (fv := fun vs => vs 2) (rd_on (p := 61) 8 8 (fun _ => rfl) (fun _ => rfl) (by kernel_rfl) rfl) (fun _ _ => rfl) (fun a w u e => by go_simp) (fun _ _ h => h)) steps_nil)))))))))
    intro vs2 W2 hX9
    have HRR := Lib.hid hX9
    clear hX9
    simp only [putSel, if_true, Act.put, List.setIfInBounds_toArray, List.set_cons_zero, List.set_cons_succ]
    obtain ⟨u2_, hu⟩ : ∃ u, vs2 3 = u := ⟨_, rfl⟩
    replace HRR := Lib.hid (show RX w2 (ys ++ twoL [x.f8] ++ twoL [x.f9]) (vs2 3) W2 from HRR.out)
    rw [hu] at HRR ⊢
    clear hu
    have X := HRR.out
    rw [HYS.out] at X
    clear HRR HYS HX HYL
    clear ys
    go_upto_region 13 with (fail)
    obtain ⟨ys, hys⟩ : ∃ ys : List Int, ys = [] ++ fourL [x.f6] ++ fourL [x.f7] ++ twoL [x.f8] ++ twoL [x.f9] := ⟨_, rfl⟩
    have HX := Lib.hid X
    rw [← hys] at HX
    have HYL := Lib.hid (show ys.length ≤ 100000 by have := HN10.out; have := HN11.out; have := HN12.out; rw [hys]; simp only [List.length_append, twoL_length, fourL_length, gapL_length, List.length_cons, List.length_nil]; omega)
    have HYS := Lib.hid hys
    clear X hys
    have k2 : W2.cell? ⟨g, 2, none⟩ = some (.int .u32 x.f2) := blk_cell (blk_below HB0.out HX.out.bl) 2
    go_wp2_with fail
    refine (HX.out.four _ (by have := HYL.out; (try simp only [List.length_append, twoL_length, fourL_length, List.length_cons, List.length_nil]); omega)).mono ?_
    rintro e W3 ⟨v3_, rfl, hX9⟩
    have HRR := Lib.hid hX9
    clear hX9 k2
    have X := HRR.out
    rw [HYS.out] at X
    clear HRR HYS HX HYL
    clear ys
    obtain ⟨ys, hys⟩ : ∃ ys : List Int, ys = [] ++ fourL [x.f6] ++ fourL [x.f7] ++ twoL [x.f8] ++ twoL [x.f9] ++ fourL [x.f2] := ⟨_, rfl⟩
    have HX := Lib.hid X
    rw [← hys] at HX
    have HYL := Lib.hid (show ys.length ≤ 100000 by have := HN10.out; have := HN11.out; have := HN12.out; rw [hys]; simp only [List.length_append, twoL_length, fourL_length, gapL_length, List.length_cons, List.length_nil]; omega)
    have HYS := Lib.hid hys
    clear X hys
    obtain ⟨Au, cu, hu⟩ := Kd.R_slice HX.out.r
    have HV := Lib.hid HX.out
    rw [hu] at HV
    subst hu
    have HRC := Lib.hid HX.out.r
    have HBC := Lib.hid HX.out.bl
    go_wp2_with (at_builtin; go_must (refine Kd.R_append_row (Value.int .u8) (0 : Int) (w0 := w2) (W := W3) w2.heap.size rfl _ _ 22 5 _ 1 rfl Try.underlying22 info_u8 rfl (by decide) (.slice Au ys.length cu) ys (encP x.f14).1 A0 _ c0 (fun _ => True) rfl rfl (fun _ _ => trivial) HRC.out (Kd.C_below HP0.out HBC.out) HBC.out HBC.out.size (by have := HYL.out; have := HNP.out; omega) ?_); (intro v1 w1 hR1 hB1 hG1 _; have HR1 := Lib.hid hR1; have HB1 := Lib.hid hB1; clear hR1 hB1 hG1; refine RowKit.Hid.out ?_))
    refine Lib.hid ?_
    go_wp2
    go_ret
    rw [HYS.out] at HR1
    subst hg
    exact HFIN.out _ _ _ HB1.out HR1.out (by rw [HVD.out])
  have n2 := h
  clear h
  by_cases h : x.f0 = 3
  · have q0 : (x.f0 == 0) = false := by simp; omega
    have q1 : (x.f0 == 1) = false := by simp; omega
    have q2 : (x.f0 == 2) = false := by simp; omega
    have q3 : (x.f0 == 3) = true := by simp [h]
    have HVD := Lib.hid (show valueD x = [] ++ fourL [x.f2] ++ fourL [x.f7] ++ twoL [IntKind.u16.wrap (x.f10.length : Int)] ++ twoL [IntKind.u16.wrap (x.f12.length : Int)] ++ twoL (gapL x.f10) ++ fourL x.f12 from by unfold valueD; rw [if_neg (by omega), if_neg (by omega), if_pos h]; simp only [List.nil_append, List.append_assoc, two2, four2])
    go_upto_region 15 with (fail)
    obtain ⟨ys, hys⟩ : ∃ ys : List Int, ys = [] := ⟨_, rfl⟩
    have HX := Lib.hid X
    rw [← hys] at HX
    have HYL := Lib.hid (show ys.length ≤ 100000 by have := HN10.out; have := HN11.out; have := HN12.out; rw [hys]; simp only [List.length_append, twoL_length, fourL_length, gapL_length, List.length_cons, List.length_nil]; omega)
    have HYS := Lib.hid hys
    clear X hys
    refine grow_region (B := rvEB15) [0, 1, 2, 3, 4, 5, 6, 7] [3, 6, 7] (fun s v W => RX w2 (match s with | 0 => ys | 1 => ys ++ fourL [x.f2] | 2 => ys ++ fourL [x.f2] ++ fourL [x.f7] | _ => ys ++ fourL [x.f2] ++ fourL [x.f7]) v W) (.slice none 0 0) (fun vs => [(0, 70, .slice none 0 0), (1, 71, .pointer (some ⟨g, 2, none⟩)), (2, 72, .int .u32 x.f2), (3, 73, vs 1), (4, 74, .pointer (some ⟨g, 7, none⟩)), (5, 75, .int .u32 x.f7), (6, 76, vs 2), (7, 3, vs 3)]) (by kernel_rfl) rfl (l := #[false, false, false, false, false, false, false, false]) rfl rvEtab15 rvEbits15 (by kernel_rfl) (by kernel_rfl) (fun _ => rfl) rfl ?_ ?_ ?_
    · exact HX.out.drewN 1
    · exact steps_cons (gr_op (p := 3) (fun w => Below w2.heap.size w2 w) 0 0 rfl rfl rfl (fun _ => rfl) (fun _ => rfl) rfl (u := .slice none 0 0) (rd_not (p := 3) 7 (by kernel_rfl) (fun _ => rfl) rfl) (fun s x w h => RX.bl h) (fun a w hJ e => by go_simp)) (steps_cons (gr_op (p := 1) (fun w => Below w2.heap.size w2 w) 1 1 rfl rfl rfl (fun _ => rfl) (fun _ => rfl) rfl (u := .pointer (some ⟨g, 0, none⟩)) (rd_off (p := 1) (fun _ => rfl) rfl) (fun s x w h => RX.bl h) (fun a w hJ e => by go_simp)) (steps_cons (gr_op (p := 71) (fun w => Below w2.heap.size w2 w) 2 2 rfl rfl rfl (fun _ => rfl) (fun _ => rfl) rfl (u := .pointer (some ⟨g, 2, none⟩)) (rd_on (p := 71) 1 1 (fun _ => rfl) (fun _ => rfl) (by kernel_rfl) rfl) (fun s x w h => RX.bl h) (fun a w hJ e => by have hs : w.cell? ⟨g, 2, none⟩ = some (.int .u32 x.f2) := blk_cell (blk_below HB0.out hJ) 2; go_simp)) (steps_cons (gr_call (vals := [.int .u32 x.f2, .int .i64 4]) 3 3 0 rfl rfl rfl rfl (fun _ => rfl) (fun _ _ => rfl) (fun _ => rfl) rfl (by kernel_rfl) Try.func43 (by kernel_rfl) rfl rfl rfl (fv := fun vs => .slice none 0 0) (rd_on (p := 70) 0 0 (fun _ => rfl) (fun _ => rfl) (by kernel_rfl) rfl) (fun _ h => h.symm) (ar_t (rd_on (p := 72) 2 2 (fun _ => rfl) (fun _ => rfl) (by kernel_rfl) rfl) (ar_c (.int .i64 4) (ar_n))) (fun u w h => h.four _ (by have := HYL.out; (try simp only [List.length_append, twoL_length, fourL_length, List.length_cons, List.length_nil]); omega))) (steps_cons (gr_op (p := 1) (fun w => Below w2.heap.size w2 w) 4 4 rfl rfl rfl (fun _ => rfl) (fun _ => rfl) rfl (u := .pointer (some ⟨g, 0, none⟩)) (rd_off (p := 1) (fun _ => rfl) rfl) (fun s x w h => RX.bl h) (fun a w hJ e => by go_simp)) (steps_cons (gr_op (p := 74) (fun w => Below w2.heap.size w2 w) 5 5 rfl rfl rfl (fun _ => rfl) (fun _ => rfl) rfl (u := .pointer (some ⟨g, 7, none⟩)) (rd_on (p := 74) 4 4 (fun _ => rfl) (fun _ => rfl) (by kernel_rfl) rfl) (fun s x w h => RX.bl h) (fun a w hJ e => by have hs : w.cell? ⟨g, 7, none⟩ = some (.int .u32 x.f7) := blk_cell (blk_below HB0.out hJ) 7; go_simp)) (steps_cons (gr_call (vals := [.int .u32 x.f7, .int .i64 4]) 6 6 1 rfl rfl rfl rfl (fun _ => rfl) (fun _ _ => rfl) (fun _ => rfl) rfl (by kernel_rfl) Try.func43 (by kernel_rfl) rfl rfl rfl (fv := fun vs => vs 1) (rd_on (p := 73) 3 3 (fun _ => rfl) (fun _ => rfl) (by kernel_rfl) rfl) (fun _ _ => rfl) (ar_t (rd_on (p := 75) 5 5 (fun _ => rfl) (fun _ => rfl) (by kernel_rfl) rfl) (ar_c (.int .i64 4) (ar_n))) (fun u w h => h.four _ (by have := HYL.out; (try simp only [List.length_append, twoL_length, fourL_length, List.length_cons, List.length_nil]); omega))) (steps_cons (gr_last 7 7 2 rfl rfl rfl rfl (fun _ => rfl) (fun _ _ => rfl) (fun _ => rfl) rfl (by kernel_rfl) (fv := fun vs => vs 2) (rd_on (p := 76) 6 6 (fun _ => rfl) (fun _ => rfl) (by kernel_rfl) rfl) (fun _ _ => rfl) (fun a w u e => by go_simp) (fun _ _ h => h)) steps_nil)))))))
    intro vs1 W1 hX9
    have HRR := Lib.hid hX9
    clear hX9
    simp only [putSel, if_true, Act.put, List.setIfInBounds_toArray, List.set_cons_zero, List.set_cons_succ]
    obtain ⟨u1_, hu⟩ : ∃ u, vs1 3 = u := ⟨_, rfl⟩
    replace HRR := Lib.hid (show RX w2 (ys ++ fourL [x.f2] ++ fourL [x.f7]) (vs1 3) W1 from HRR.out)
    rw [hu] at HRR ⊢
    clear hu
    have X := HRR.out
    rw [HYS.out] at X
    clear HRR HYS HX HYL
    clear ys
    go_upto_region 16 with (fail)
    obtain ⟨ys, hys⟩ : ∃ ys : List Int, ys = [] ++ fourL [x.f2] ++ fourL [x.f7] := ⟨_, rfl⟩
    have HX := Lib.hid X
    rw [← hys] at HX
    have HYL := Lib.hid (show ys.length ≤ 100000 by have := HN10.out; have := HN11.out; have := HN12.out; rw [hys]; simp only [List.length_append, twoL_length, fourL_length, gapL_length, List.length_cons, List.length_nil]; omega)
    have HYS := Lib.hid hys
    clear X hys
    refine grow_region (B := rvFB16) [0, 1, 2, 3, 4, 5, 6, 7, 8, 9, 10, 11] [5, 10, 11] (fun s v W => RX w2 (match s with | 0 => ys | 1 => ys ++ twoL [IntKind.u16.wrap (x.f10.length : Int)] | 2 => ys ++ twoL [IntKind.u16.wrap (x.f10.length : Int)] ++ twoL [IntKind.u16.wrap (x.f12.length : Int)] | _ => ys ++ twoL [IntKind.u16.wrap (x.f10.length : Int)] ++ twoL [IntKind.u16.wrap (x.f12.length : Int)]) v W) (u1_) (fun vs => [(0, 77, u1_), (1, 78, .pointer (some ⟨g, 10, none⟩)), (2, 79, .slice L.A10 x.f10.length L.c10), (3, 80, .int .i64 (x.f10.length : Int)), (4, 81, .int .u32 (IntKind.u32.wrap (x.f10.length : Int))), (5, 82, vs 1), (6, 83, .pointer (some ⟨g, 12, none⟩)), (7, 84, .slice L.A12 x.f12.length L.c12), (8, 85, .int .i64 (x.f12.length : Int)), (9, 86, .int .u32 (IntKind.u32.wrap (x.f12.length : Int))), (10, 87, vs 2), (11, 3, vs 3)]) (by kernel_rfl) rfl (l := #[false, false, false, false, false, false, false, false, false, false, false, false]) rfl rvFtab16 rvFbits16 (by kernel_rfl) (by kernel_rfl) (fun _ => rfl) rfl ?_ ?_ ?_
    · exact HX.out.drewN 1
    · exact steps_cons (gr_op (p := 3) (fun w => Below w2.heap.size w2 w) 0 0 rfl rfl rfl (fun _ => rfl) (fun _ => rfl) rfl (u := u1_) (rd_not (p := 3) 11 (by kernel_rfl) (fun _ => rfl) rfl) (fun s x w h => RX.bl h) (fun a w hJ e => by go_simp)) (steps_cons (gr_op (p := 1) (fun w => Below w2.heap.size w2 w) 1 1 rfl rfl rfl (fun _ => rfl) (fun _ => rfl) rfl (u := .pointer (some ⟨g, 0, none⟩)) (rd_off (p := 1) (fun _ => rfl) rfl) (fun s x w h => RX.bl h) (fun a w hJ e => by go_simp)) (steps_cons (gr_op (p := 78) (fun w => Below w2.heap.size w2 w) 2 2 rfl rfl rfl (fun _ => rfl) (fun _ => rfl) rfl (u := .pointer (some ⟨g, 10, none⟩)) (rd_on (p := 78) 1 1 (fun _ => rfl) (fun _ => rfl) (by kernel_rfl) rfl) (fun s x w h => RX.bl h) (fun a w hJ e => by have hs : w.cell? ⟨g, 10, none⟩ = some (.slice L.A10 x.f10.length L.c10) := blk_cell (blk_below HB0.out hJ) 10; go_simp)) (steps_cons (gr_op (p := 79) (fun w => Below w2.heap.size w2 w) 3 3 rfl rfl rfl (fun _ => rfl) (fun _ => rfl) rfl (u := .slice L.A10 x.f10.length L.c10) (rd_on (p := 79) 2 2 (fun _ => rfl) (fun _ => rfl) (by kernel_rfl) rfl) (fun s x w h => RX.bl h) (fun a w hJ e => by go_simp)) (steps_cons (gr_op (p := 80) (fun w => Below w2.heap.size w2 w) 4 4 rfl rfl rfl (fun _ => rfl) (fun _ => rfl) rfl (u := .int .i64 (x.f10.length : Int)) (rd_on (p := 80) 3 3 (fun _ => rfl) (fun _ => rfl) (by kernel_rfl) rfl) (fun s x w h => RX.bl h) (fun a w hJ e => by go_simp)) (steps_cons (gr_call (vals := [.int .u32 (IntKind.u32.wrap (x.f10.length : Int)), .int .i64 2]) 5 5 0 rfl rfl rfl rfl (fun _ => rfl) (fun _ _ => rfl) (fun _ => rfl) rfl (by kernel_rfl) Try.func43 (by kernel_rfl) rfl rfl rfl (fv := fun vs => u1_) (rd_on (p := 77) 0 0 (fun _ => rfl) (fun _ => rfl) (by kernel_rfl) rfl) (fun _ h => h.symm) (ar_t (rd_on (p := 81) 4 4 (fun _ => rfl) (fun _ => rfl) (by kernel_rfl) rfl) (ar_c (.int .i64 2) (ar_n))) (fun u w h => h.two _ _ ((two32 _).trans (two16 _).symm) (by have := HYL.out; (try simp only [List.length_append, twoL_length, fourL_length, List.length_cons, List.length_nil]); omega))) (steps_cons (gr_op (p := 1) (fun w => Below w2.heap.size w2 w) 6 6 rfl rfl rfl (fun _ => rfl) (fun _ => rfl) rfl (u := .pointer (some ⟨g, 0, none⟩)) (rd_off (p := 1) (fun _ => rfl) rfl) (fun s x w h => RX.bl h) (fun a w hJ e => by go_simp)) (steps_cons (gr_op (p := 83) (fun w => Below w2.heap.size w2 w) 7 7 rfl rfl rfl (fun _ => rfl) (fun _ => rfl) rfl (u := .pointer (some ⟨g, 12, none⟩)) (rd_on (p := 83) 6 6 (fun _ => rfl) (fun _ => rfl) (by kernel_rfl) rfl) (fun s x w h => RX.bl h) (fun a w hJ e => by have hs : w.cell? ⟨g, 12, none⟩ = some (.slice L.A12 x.f12.length L.c12) := blk_cell (blk_below HB0.out hJ) 12; go_simp)) (steps_cons (gr_op (p := 84) (fun w => Below w2.heap.size w2 w) 8 8 rfl rfl rfl (fun _ => rfl) (fun _ => rfl) rfl (u := .slice L.A12 x.f12.length L.c12) (rd_on (p := 84) 7 7 (fun _ => rfl) (fun _ => rfl) (by kernel_rfl) rfl) (fun s x w h => RX.bl h) (fun a w hJ e => by go_simp)) (steps_cons (gr_op (p := 85) (fun w => Below w2.heap.size w2 w) 9 9 rfl rfl rfl (fun _ => rfl) (fun _ => rfl) rfl (u := .int .i64 (x.f12.length : Int)) (rd_on (p := 85) 8 8 (fun _ => rfl) (fun _ => rfl) (by kernel_rfl) rfl) (fun s x w h => RX.bl h) (fun a w hJ e => by go_simp)) (steps_cons (gr_call (vals := [.int .u32 (IntKind.u32.wrap (x.f12.length : Int)), .int .i64 2]) 10 10 1 rfl rfl rfl rfl (fun _ => rfl) (fun _ _ => rfl) (fun _ => rfl) rfl (by kernel_rfl) Try.func43 (by kernel_rfl) rfl rfl rfl (fv := fun vs => vs 1) (rd_on (p := 82) 5 5 (fun _ => rfl) (fun _ => rfl) (by kernel_rfl) rfl) (fun _ _ => rfl) (ar_t (rd_on (p := 86) 9 9 (fun _ => rfl) (fun _ => rfl) (by kernel_rfl) rfl) (ar_c (.int .i64 2) (ar_n))) (fun u w h => h.two _ _ ((two32 _).trans (two16 _).symm) (by have := HYL.out; (try simp only [List.length_append, twoL_length, fourL_length, List.length_cons, List.length_nil]); omega))) (steps_cons (gr_last 11 11 2 rfl rfl rfl rfl (fun _ => rfl) (fun _ _ => rfl) (fun _ => rfl) rfl (by kernel_rfl) (fv := fun vs => vs 2) (rd_on (p := 87) 10 10 (fun _ => rfl) (fun _ => rfl) (by kernel_rfl) rfl) (fun _ _ => rfl) (fun a w u e => by go_simp) (fun _ _ h => h)) steps_nil)))))))))))
    intro vs2 W2 hX9
    have HRR := Lib.hid hX9
    clear hX9
    simp only [putSel, if_true, Act.put, List.setIfInBounds_toArray, List.set_cons_zero, List.set_cons_succ]
    obtain ⟨u2_, hu⟩ : ∃ u, vs2 3 = u := ⟨_, rfl⟩
    replace HRR := Lib.hid (show RX w2 (ys ++ twoL [IntKind.u16.wrap (x.f10.length : Int)] ++ twoL [IntKind.u16.wrap (x.f12.length : Int)]) (vs2 3) W2 from HRR.out)
    rw [hu] at HRR ⊢
    clear hu
    have X := HRR.out
    rw [HYS.out] at X
    clear HRR HYS HX HYL
    clear ys
    go_upto_region 17 with (fail)
    obtain ⟨ys, hys⟩ : ∃ ys : List Int, ys = [] ++ fourL [x.f2] ++ fourL [x.f7] ++ twoL [IntKind.u16.wrap (x.f10.length : Int)] ++ twoL [IntKind.u16.wrap (x.f12.length : Int)] := ⟨_, rfl⟩
    have HX := Lib.hid X
    rw [← hys] at HX
    have HYL := Lib.hid (show ys.length ≤ 100000 by have := HN10.out; have := HN11.out; have := HN12.out; rw [hys]; simp only [List.length_append, twoL_length, fourL_length, gapL_length, List.length_cons, List.length_nil]; omega)
    have HYS := Lib.hid hys
    clear X hys
    have k10 : W2.cell? ⟨g, 10, none⟩ = some (.slice L.A10 x.f10.length L.c10) := blk_cell (blk_below HB0.out HX.out.bl) 10
    go_wp2_with fail
    refine (rwgaps_calls w2 W2 _ _ _ _ _ HX.out HG10.out (by have := HYL.out; have := HN10.out; have := HN10.out; (try simp only [List.length_append, twoL_length, fourL_length, gapL_length, List.length_cons, List.length_nil]); omega)).mono ?_
    rintro e W3 ⟨v3_, rfl, hX9⟩
    have HRR := Lib.hid hX9
    clear hX9 k10
    have X := HRR.out
    rw [HYS.out] at X
    clear HRR HYS HX HYL
    clear ys
    go_upto_region 25 with (fail)
    obtain ⟨ys, hys⟩ : ∃ ys : List Int, ys = [] ++ fourL [x.f2] ++ fourL [x.f7] ++ twoL [IntKind.u16.wrap (x.f10.length : Int)] ++ twoL [IntKind.u16.wrap (x.f12.length : Int)] ++ twoL (gapL x.f10) := ⟨_, rfl⟩
    have HX := Lib.hid X
    rw [← hys] at HX
    have HYL := Lib.hid (show ys.length ≤ 100000 by have := HN10.out; have := HN11.out; have := HN12.out; rw [hys]; simp only [List.length_append, twoL_length, fourL_length, gapL_length, List.length_cons, List.length_nil]; omega)
    have HYS := Lib.hid hys
    clear X hys
    have HYL2 := Lib.hid (show ys.length ≤ 100000 from HYL.out)
    have HX2 := HX
    have HYS2 := HYS
    clear HX HYS HYL
    go_wp2
    go_loopw [3, 6] (fun v3 v6 wr => ∃ (i : Nat) (zs : List Int), i ≤ x.f12.length ∧ v6 = .int .i64 (i : Int) ∧ Hid (zs.length = ys.length + 4 * i) ∧ Hid (zs ++ fourL (x.f12.drop i) = ys ++ fourL x.f12) ∧ Hid (RX w2 zs v3 wr)) (fun _ v6 _ => x.f12.length - (intOf v6).toNat)
    case atStart => exact ⟨0, ys, Nat.zero_le _, rfl, (by show _ = _; omega), rfl, HX2.out⟩
    case round =>
      clear HX2
      obtain ⟨i, zs, hi, rfl, HZL, HZE, HZ⟩ := hrel
      have k12 : wr.cell? ⟨g, 12, none⟩ = some (.slice L.A12 x.f12.length L.c12) := blk_cell (blk_below HB0.out HZ.out.bl) 12
      have hm12 := HN12.out
      by_cases hlt : i < x.f12.length
      · obtain ⟨ad, hA12, x0⟩ := int_at (Kd.C_below HD12.out HZ.out.bl) i hlt
        rw [hA12] at k12
        have hE := HZE.out
        have hd : x.f12.drop i = x.f12.getD i 0 :: x.f12.drop (i + 1) := by
          rw [List.drop_eq_getElem_cons hlt]
          congr 1
          simp [List.getD_eq_getElem?_getD, hlt]
        rw [hd, fourL_cons, ← List.append_assoc] at hE
        generalize x.f12.getD i 0 = q at *
        have HE2 := Lib.hid hE
        have HP := Lib.hid (HZ.out.four q (by have := HZL.out; have := HYL2.out; omega))
        have HL2 := Lib.hid (show (zs ++ fourL [q]).length = ys.length + 4 * (i + 1) by rw [List.length_append, fourL_length]; have := HZL.out; simp; omega)
        clear hE hd HZE hA12 HZL HZ
        go_wp2_with fail
        refine HP.out.mono ?_
        rintro e wn ⟨vn, rfl, hX9⟩
        have HX9 := Lib.hid hX9
        clear hX9 HP k12 x0
        go_wp2
        go_roundw
        case rel => exact ⟨i + 1, _, by omega, by go_num, HL2, HE2, HX9⟩
        case measure => simp [intOf]; omega
      · obtain rfl : i = x.f12.length := by omega
        have hE := HZE.out
        rw [List.drop_length, show fourL [] = [] from rfl, List.append_nil] at hE
        subst hE
        clear HZE
        go_wp2
        go_ret
        have hX := HZ.out
        rw [HYS2.out] at hX
        subst hg
        exact HFIN.out _ _ _ hX.bl hX.r (by rw [HVD.out])
  have n3 := h
  clear h
  by_cases h : x.f0 = 16
  · have q0 : (x.f0 == 0) = false := by simp; omega
    have q1 : (x.f0 == 1) = false := by simp; omega
    have q2 : (x.f0 == 2) = false := by simp; omega
    have q3 : (x.f0 == 3) = false := by simp; omega
    have q16 : (x.f0 == 16) = true := by simp [h]
    have HVD := Lib.hid (show valueD x = [] ++ fourL [x.f2] ++ fourL [x.f7] ++ twoL [IntKind.u16.wrap (x.f10.length : Int)] ++ twoL [IntKind.u16.wrap (x.f11.length : Int)] ++ twoL [IntKind.u16.wrap (x.f12.length : Int)] ++ twoL [0] ++ twoL (gapL x.f10) ++ twoL (gapL x.f11) ++ fourL x.f12 from by unfold valueD; rw [if_neg (by omega), if_neg (by omega), if_neg (by omega), if_pos h]; simp only [List.nil_append, List.append_assoc, two4, four2])
    go_upto_region 19 with (fail)
    obtain ⟨ys, hys⟩ : ∃ ys : List Int, ys = [] := ⟨_, rfl⟩
    have HX := Lib.hid X
    rw [← hys] at HX
    have HYL := Lib.hid (show ys.length ≤ 100000 by have := HN10.out; have := HN11.out; have := HN12.out; rw [hys]; simp only [List.length_append, twoL_length, fourL_length, gapL_length, List.length_cons, List.length_nil]; omega)
    have HYS := Lib.hid hys
    clear X hys
    refine grow_region (B := rvGB19) [0, 1, 2, 3, 4, 5, 6, 7] [3, 6, 7] (fun s v W => RX w2 (match s with | 0 => ys | 1 => ys ++ fourL [x.f2] | 2 => ys ++ fourL [x.f2] ++ fourL [x.f7] | _ => ys ++ fourL [x.f2] ++ fourL [x.f7]) v W) (.slice none 0 0) (fun vs => [(0, 94, .slice none 0 0), (1, 95, .pointer (some ⟨g, 2, none⟩)), (2, 96, .int .u32 x.f2), (3, 97, vs 1), (4, 98, .pointer (some ⟨g, 7, none⟩)), (5, 99, .int .u32 x.f7), (6, 100, vs 2), (7, 3, vs 3)]) (by kernel_rfl) rfl (l := #[false, false, false, false, false, false, false, false]) rfl rvGtab19 rvGbits19 (by kernel_rfl) (by kernel_rfl) (fun _ => rfl) rfl ?_ ?_ ?_
    · exact HX.out.drewN 1
    · exact steps_cons (gr_op (p := 3) (fun w => Below w2.heap.size w2 w) 0 0 rfl rfl rfl (fun _ => rfl) (fun _ => rfl) rfl (u := .slice none 0 0) (rd_not (p := 3) 7 (by kernel_rfl) (fun _ => rfl) rfl) (fun s x w h => RX.bl h) (fun a w hJ e => by go_simp)) (steps_cons (gr_op (p := 1) (fun w => Below w2.heap.size w2 w) 1 1 rfl rfl rfl (fun _ => rfl) (fun _ => rfl) rfl (u := .pointer (some ⟨g, 0, none⟩)) (rd_off (p := 1) (fun _ => rfl) rfl) (fun s x w h => RX.bl h) (fun a w hJ e => by go_simp)) (steps_cons (gr_op (p := 95) (fun w => Below w2.heap.size w2 w) 2 2 rfl rfl rfl (fun _ => rfl) (fun _ => rfl) rfl (u := .pointer (some ⟨g, 2, none⟩)) (rd_on (p := 95) 1 1 (fun _ => rfl) (fun _ => rfl) (by kernel_rfl) rfl) (fun s x w h => RX.bl h) (fun a w hJ e => by have hs : w.cell? ⟨g, 2, none⟩ = some (.int .u32 x.f2) := blk_cell (blk_below HB0.out hJ) 2; go_simp)) (steps_cons (gr_call (vals := [.int .u32 x.f2, .int .i64 4]) 3 3 0 rfl rfl rfl rfl (fun _ => rfl) (fun _ _ => rfl) (fun _ => rfl) rfl (by kernel_rfl) Try.func43 (by kernel_rfl) rfl rfl rfl (fv := fun vs => .slice none 0 0) (rd_on (p := 94) 0 0 (fun _ => rfl) (fun _ => rfl) (by kernel_rfl) rfl) (fun _ h => h.symm) (ar_t (rd_on (p := 96) 2 2 (fun _ => rfl) (fun _ => rfl) (by kernel_rfl) rfl) (ar_c (.int .i64 4) (ar_n))) (fun u w h => h.four _ (by have := HYL.out; (try simp only [List.length_append, twoL_length, fourL_length, List.length_cons, List.length_nil]); omega))) (steps_cons (gr_op (p := 1) (fun w => Below w2.heap.size w2 w) 4 4 rfl rfl rfl (fun _ => rfl) (fun _ => rfl) rfl (u := .pointer (some ⟨g, 0, none⟩)) (rd_off (p := 1) (fun _ => rfl) rfl) (fun s x w h => RX.bl h) (fun a w hJ e => by go_simp)) (steps_cons (gr_op (p := 98) (fun w => Below w2.heap.size w2 w) 5 5 rfl rfl rfl (fun _ => rfl) (fun _ => rfl) rfl (u := .pointer (some ⟨g, 7, none⟩)) (rd_on (p := 98) 4 4 (fun _ => rfl) (fun _ => rfl) (by kernel_rfl) rfl) (fun s x w h => RX.bl h) (fun a w hJ e => by have hs : w.cell? ⟨g, 7, none⟩ = some (.int .u32 x.f7) := blk_cell (blk_below HB0.out hJ) 7; go_simp)) (steps_cons (gr_call (vals := [.int .u32 x.f7, .int .i64 4]) 6 6 1 rfl rfl rfl rfl (fun _ => rfl) (fun _ _ => rfl) (fun _ => rfl) rfl (by kernel_rfl) Try.func43 (by kernel_rfl) rfl rfl rfl (fv := fun vs => vs 1) (rd_on (p := 97) 3 3 (fun _ => rfl) (fun _ => rfl) (by kernel_rfl) rfl) (fun _ _ => rfl) (ar_t (rd_on (p := 99) 5 5 (fun _ => rfl) (fun _ => rfl) (by kernel_rfl) rfl) (ar_c (.int .i64 4) (ar_n))) (fun u w h => h.four _ (by have := HYL.out; (try simp only [List.length_append, twoL_length, fourL_length, List.length_cons, List.length_nil]); omega))) (steps_cons (gr_last 7 7 2 rfl rfl rfl rfl (fun _ => rfl) (fun _ _ => rfl) (fun _ => rfl) rfl (by kernel_rfl) (fv := fun vs => vs 2) (rd_on (p := 100) 6 6 (fun _ => rfl) (fun _ => rfl) (by kernel_rfl) rfl) (fun _ _ => rfl) (fun a w u e => by go_simp) (fun _ _ h => h)) steps_nil)))))))
    intro vs1 W1 hX9
    have HRR := Lib.hid hX9
    clear hX9
    simp only [putSel, if_true, Act.put, List.setIfInBounds_toArray, List.set_cons_zero, List.set_cons_succ]
    obtain ⟨u1_, hu⟩ : ∃ u, vs1 3 = u := ⟨_, rfl⟩
    replace HRR := Lib.hid (show RX w2 (ys ++ fourL [x.f2] ++ fourL [x.f7]) (vs1 3) W1 from HRR.out)
    rw [hu] at HRR ⊢
    clear hu
    have X := HRR.out
    rw [HYS.out] at X
    clear HRR HYS HX HYL
    clear ys
    go_upto_region 20 with (fail)
    obtain ⟨ys, hys⟩ : ∃ ys : List Int, ys = [] ++ fourL [x.f2] ++ fourL [x.f7] := ⟨_, rfl⟩
    have HX := Lib.hid X
    rw [← hys] at HX
    have HYL := Lib.hid (show ys.length ≤ 100000 by have := HN10.out; have := HN11.out; have := HN12.out; rw [hys]; simp only [List.length_append, twoL_length, fourL_length, gapL_length, List.length_cons, List.length_nil]; omega)
    have HYS := Lib.hid hys
    clear X hys
    refine grow_region (B := rvHB20) [0, 1, 2, 3, 4, 5, 6, 7, 8, 9, 10, 11] [5, 10, 11] (fun s v W => RX w2 (match s with | 0 => ys | 1 => ys ++ twoL [IntKind.u16.wrap (x.f10.length : Int)] | 2 => ys ++ twoL [IntKind.u16.wrap (x.f10.length : Int)] ++ twoL [IntKind.u16.wrap (x.f11.length : Int)] | _ => ys ++ twoL [IntKind.u16.wrap (x.f10.length : Int)] ++ twoL [IntKind.u16.wrap (x.f11.length : Int)]) v W) (u1_) (fun vs => [(0, 101, u1_), (1, 102, .pointer (some ⟨g, 10, none⟩)), (2, 103, .slice L.A10 x.f10.length L.c10), (3, 104, .int .i64 (x.f10.length : Int)), (4, 105, .int .u32 (IntKind.u32.wrap (x.f10.length : Int))), (5, 106, vs 1), (6, 107, .pointer (some ⟨g, 11, none⟩)), (7, 108, .slice L.A11 x.f11.length L.c11), (8, 109, .int .i64 (x.f11.length : Int)), (9, 110, .int .u32 (IntKind.u32.wrap (x.f11.length : Int))), (10, 111, vs 2), (11, 3, vs 3)]) (by kernel_rfl) rfl (l := #[false, false, false, false, false, false, false, false, false, false, false, false]) rfl rvHtab20 rvHbits20 (by kernel_rfl) (by kernel_rfl) (fun _ => rfl) rfl ?_ ?_ ?_
    · exact HX.out.drewN 1
    · exact steps_cons (gr_op (p := 3) (fun w => Below w2.heap.size w2 w) 0 0 rfl rfl rfl (fun _ => rfl) (fun _ => rfl) rfl (u := u1_) (rd_not (p := 3) 11 (by kernel_rfl) (fun _ => rfl) rfl) (fun s x w h => RX.bl h) (fun a w hJ e => by go_simp)) (steps_cons (gr_op (p := 1) (fun w => Below w2.heap.size w2 w) 1 1 rfl rfl rfl (fun _ => rfl) (fun _ => rfl) rfl (u := .pointer (some ⟨g, 0, none⟩)) (rd_off (p := 1) (fun _ => rfl) rfl) (fun s x w h => RX.bl h) (fun a w hJ e => by go_simp)) (steps_cons (gr_op (p := 102) (fun w => Below w2.heap.size w2 w) 2 2 rfl rfl rfl (fun _ => rfl) (fun _ => rfl) rfl (u := .pointer (some ⟨g, 10, none⟩)) (rd_on (p := 102) 1 1 (fun _ => rfl) (fun _ => rfl) (by kernel_rfl) rfl) (fun s x w h => RX.bl h) (fun a w hJ e => by have hs : w.cell? ⟨g, 10, none⟩ = some (.slice L.A10 x.f10.length L.c10) := blk_cell (blk_below HB0.out hJ) 10; go_simp)) (steps_cons (gr_op (p := 103) (fun w => Below w2.heap.size w2 w) 3 3 rfl rfl rfl (fun _ => rfl) (fun _ => rfl) rfl (u := .slice L.A10 x.f10.length L.c10) (rd_on (p := 103) 2 2 (fun _ => rfl) (fun _ => rfl) (by kernel_rfl) rfl) (fun s x w h => RX.bl h) (fun a w hJ e => by go_simp)) (steps_cons (gr_op (p := 104) (fun w => Below w2.heap.size w2 w) 4 4 rfl rfl rfl (fun _ => rfl) (fun _ => rfl) rfl (u := .int .i64 (x.f10.length : Int)) (rd_on (p := 104) 3 3 (fun _ => rfl) (fun _ => rfl) (by kernel_rfl) rfl) (fun s x w h => RX.bl h) (fun a w hJ e => by go_simp)) (steps_cons (gr_call (vals := [.int .u32 (IntKind.u32.wrap (x.f10.length : Int)), .int .i64 2]) 5 5 0 rfl rfl rfl rfl (fun _ => rfl) (fun _ _ => rfl) (fun _ => rfl) rfl (by kernel_rfl) Try.func43 (by kernel_rfl) rfl rfl rfl (fv := fun vs => u1_) (rd_on (p := 101) 0 0 (fun _ => rfl) (fun _ => rfl) (by kernel_rfl) rfl) (fun _ h => h.symm) (ar_t (rd_on (p := 105) 4 4 (fun _ => rfl) (fun _ => rfl) (by kernel_rfl) rfl) (ar_c (.int .i64 2) (ar_n))) (fun u w h => h.two _ _ ((two32 _).trans (two16 _).symm) (by have := HYL.out; (try simp only [List.length_append, twoL_length, fourL_length, List.length_cons, List.length_nil]); omega))) (steps_cons (gr_op (p := 1) (fun w => Below w2.heap.size w2 w) 6 6 rfl rfl rfl (fun _ => rfl) (fun _ => rfl) rfl (u := .pointer (some ⟨g, 0, none⟩)) (rd_off (p := 1) (fun _ => rfl) rfl) (fun s x w h => RX.bl h) (fun a w hJ e => by go_simp)) (steps_cons (gr_op (p := 107) (fun w => Below w2.heap.size w2 w) 7 7 rfl rfl rfl (fun _ => rfl) (fun _ => rfl) rfl (u := .pointer (some ⟨g, 11, none⟩)) (rd_on (p := 107) 6 6 (fun _ => rfl) (fun _ => rfl) (by kernel_rfl) rfl) (fun s x w h => RX.bl h) (fun a w hJ e => by have hs : w.cell? ⟨g, 11, none⟩ = some (.slice L.A11 x.f11.length L.c11) := blk_cell (blk_below HB0.out hJ) 11; go_simp)) (steps_cons (gr_op (p := 108) (fun w => Below w2.heap.size w2 w) 8 8 rfl rfl rfl (fun _ => rfl) (fun _ => rfl) rfl (u := .slice L.A11 x.f11.length L.c11) (rd_on (p := 108) 7 7 (fun _ => rfl) (fun _ => rfl) (by kernel_rfl) rfl) (fun s x w h => RX.bl h) (fun a w hJ e => by go_simp)) (steps_cons (gr_op (p := 109) (fun w => Below w2.heap.size w2 w) 9 9 rfl rfl rfl (fun _ => rfl) (fun _ => rfl) rfl (u := .int .i64 (x.f11.length : Int)) (rd_on (p := 109) 8 8 (fun _ => rfl) (fun _ => rfl) (by kernel_rfl) rfl) (fun s x w h => RX.bl h) (fun a w hJ e => by go_simp)) (steps_cons (gr_call (vals := [.int .u32 (IntKind.u32.wrap (x.f11.length : Int)), .int .i64 2]) 10 10 1 rfl rfl rfl rfl (fun _ => rfl) (fun _ _ => rfl) (fun _ => rfl) rfl (by kernel_rfl) Try.func43 (by kernel_rfl) rfl rfl rfl (fv := fun vs => vs 1) (rd_on (p := 106) 5 5 (fun _ => rfl) (fun _ => rfl) (by kernel_rfl) rfl) (fun _ _ => rfl) (ar_t (rd_on (p := 110) 9 9 (fun _ => rfl) (fun _ => rfl) (by kernel_rfl) rfl) (ar_c (.int .i64 2) (ar_n))) (fun u w h => h.two _ _ ((two32 _).trans (two16 _).symm) (by have := HYL.out; (try simp only [List.length_append, twoL_length, fourL_length, List.length_cons, List.length_nil]); omega))) (steps_cons (gr_last 11 11 2 rfl rfl rfl rfl (fun _ => rfl) (fun _ _ => rfl) (fun _ => rfl) rfl (by kernel_rfl) (fv := fun vs => vs 2) (rd_on (p := 111) 10 10 (fun _ => rfl) (fun _ => rfl) (by kernel_rfl) rfl) (fun _ _ => rfl) (fun a w u e => by go_simp) (fun _ _ h => h)) steps_nil)))))))))))
    intro vs2 W2 hX9
    have HRR := Lib.hid hX9
    clear hX9
    simp only [putSel, if_true, Act.put, List.setIfInBounds_toArray, List.set_cons_zero, List.set_cons_succ]
    obtain ⟨u2_, hu⟩ : ∃ u, vs2 3 = u := ⟨_, rfl⟩
    replace HRR := Lib.hid (show RX w2 (ys ++ twoL [IntKind.u16.wrap (x.f10.length : Int)] ++ twoL [IntKind.u16.wrap (x.f11.length : Int)]) (vs2 3) W2 from HRR.out)
    rw [hu] at HRR ⊢
    clear hu
    have X := HRR.out
    rw [HYS.out] at X
    clear HRR HYS HX HYL
    clear ys
    go_upto_region 21 with (fail)
    obtain ⟨ys, hys⟩ : ∃ ys : List Int, ys = [] ++ fourL [x.f2] ++ fourL [x.f7] ++ twoL [IntKind.u16.wrap (x.f10.length : Int)] ++ twoL [IntKind.u16.wrap (x.f11.length : Int)] := ⟨_, rfl⟩
    have HX := Lib.hid X
    rw [← hys] at HX
    have HYL := Lib.hid (show ys.length ≤ 100000 by have := HN10.out; have := HN11.out; have := HN12.out; rw [hys]; simp only [List.length_append, twoL_length, fourL_length, gapL_length, List.length_cons, List.length_nil]; omega)
    have HYS := Lib.hid hys
    clear X hys
    have k12 : W2.cell? ⟨g, 12, none⟩ = some (.slice L.A12 x.f12.length L.c12) := blk_cell (blk_below HB0.out HX.out.bl) 12
    go_wp2_with fail
    refine (HX.out.two _ _ ((two32 _).trans (two16 _).symm) (by have := HYL.out; (try simp only [List.length_append, twoL_length, fourL_length, List.length_cons, List.length_nil]); omega)).mono ?_
    rintro e W3 ⟨v3_, rfl, hX9⟩
    have HRR := Lib.hid hX9
    clear hX9 k12
    have X := HRR.out
    rw [HYS.out] at X
    clear HRR HYS HX HYL
    clear ys
    obtain ⟨ys, hys⟩ : ∃ ys : List Int, ys = [] ++ fourL [x.f2] ++ fourL [x.f7] ++ twoL [IntKind.u16.wrap (x.f10.length : Int)] ++ twoL [IntKind.u16.wrap (x.f11.length : Int)] ++ twoL [IntKind.u16.wrap (x.f12.length : Int)] := ⟨_, rfl⟩
    have HX := Lib.hid X
    rw [← hys] at HX
    have HYL := Lib.hid (show ys.length ≤ 100000 by have := HN10.out; have := HN11.out; have := HN12.out; rw [hys]; simp only [List.length_append, twoL_length, fourL_length, gapL_length, List.length_cons, List.length_nil]; omega)
    have HYS := Lib.hid hys
    clear X hys
    go_wp2_with fail
    refine (HX.out.two _ _ rfl (by have := HYL.out; (try simp only [List.length_append, twoL_length, fourL_length, List.length_cons, List.length_nil]); omega)).mono ?_
    rintro e W4 ⟨v4_, rfl, hX9⟩
    have HRR := Lib.hid hX9
    clear hX9
    have X := HRR.out
    rw [HYS.out] at X
    clear HRR HYS HX HYL
    clear ys
    go_upto_region 22 with (fail)
    obtain ⟨ys, hys⟩ : ∃ ys : List Int, ys = [] ++ fourL [x.f2] ++ fourL [x.f7] ++ twoL [IntKind.u16.wrap (x.f10.length : Int)] ++ twoL [IntKind.u16.wrap (x.f11.length : Int)] ++ twoL [IntKind.u16.wrap (x.f12.length : Int)] ++ twoL [0] := ⟨_, rfl⟩
    have HX := Lib.hid X
    rw [← hys] at HX
    have HYL := Lib.hid (show ys.length ≤ 100000 by have := HN10.out; have := HN11.out; have := HN12.out; rw [hys]; simp only [List.length_append, twoL_length, fourL_length, gapL_length, List.length_cons, List.length_nil]; omega)
    have HYS := Lib.hid hys
    clear X hys
    refine grow_region (B := rvIB22) [0, 1, 2, 3, 4, 5, 6, 7] [3, 6, 7] (fun s v W => RX w2 (match s with | 0 => ys | 1 => ys ++ twoL (gapL x.f10) | 2 => ys ++ twoL (gapL x.f10) ++ twoL (gapL x.f11) | _ => ys ++ twoL (gapL x.f10) ++ twoL (gapL x.f11)) v W) (v4_) (fun vs => [(0, 119, v4_), (1, 120, .pointer (some ⟨g, 10, none⟩)), (2, 121, .slice L.A10 x.f10.length L.c10), (3, 122, vs 1), (4, 123, .pointer (some ⟨g, 11, none⟩)), (5, 124, .slice L.A11 x.f11.length L.c11), (6, 125, vs 2), (7, 3, vs 3)]) (by kernel_rfl) rfl (l := #[false, false, false, false, false, false, false, false]) rfl rvItab22 rvIbits22 (by kernel_rfl) (by kernel_rfl) (fun _ => rfl) rfl ?_ ?_ ?_
    · exact HX.out.drewN 1
    · exact steps_cons (gr_op (p := 3) (fun w => Below w2.heap.size w2 w) 0 0 rfl rfl rfl (fun _ => rfl) (fun _ => rfl) rfl (u := v4_) (rd_not (p := 3) 7 (by kernel_rfl) (fun _ => rfl) rfl) (fun s x w h => RX.bl h) (fun a w hJ e => by go_simp)) (steps_cons (gr_op (p := 1) (fun w => Below w2.heap.size w2 w) 1 1 rfl rfl rfl (fun _ => rfl) (fun _ => rfl) rfl (u := .pointer (some ⟨g, 0, none⟩)) (rd_off (p := 1) (fun _ => rfl) rfl) (fun s x w h => RX.bl h) (fun a w hJ e => by go_simp)) (steps_cons (gr_op (p := 120) (fun w => Below w2.heap.size w2 w) 2 2 rfl rfl rfl (fun _ => rfl) (fun _ => rfl) rfl (u := .pointer (some ⟨g, 10, none⟩)) (rd_on (p := 120) 1 1 (fun _ => rfl) (fun _ => rfl) (by kernel_rfl) rfl) (fun s x w h => RX.bl h) (fun a w hJ e => by have hs : w.cell? ⟨g, 10, none⟩ = some (.slice L.A10 x.f10.length L.c10) := blk_cell (blk_below HB0.out hJ) 10; go_simp)) (steps_cons (gr_call (vals := [.slice L.A10 x.f10.length L.c10]) 3 3 0 rfl rfl rfl rfl (fun _ => rfl) (fun _ _ => rfl) (fun _ => rfl) rfl (by kernel_rfl) Try.func61 (by kernel_rfl) rfl rfl rfl (fv := fun vs => v4_) (rd_on (p := 119) 0 0 (fun _ => rfl) (fun _ => rfl) (by kernel_rfl) rfl) (fun _ h => h.symm) (ar_t (rd_on (p := 121) 2 2 (fun _ => rfl) (fun _ => rfl) (by kernel_rfl) rfl) (ar_n)) (fun u w h => rwgaps_calls w2 w u _ _ _ _ h HG10.out (by have := HYL.out; have := HN10.out; have := HN10.out; (try simp only [List.length_append, twoL_length, fourL_length, gapL_length, List.length_cons, List.length_nil]); omega))) (steps_cons (gr_op (p := 1) (fun w => Below w2.heap.size w2 w) 4 4 rfl rfl rfl (fun _ => rfl) (fun _ => rfl) rfl (u := .pointer (some ⟨g, 0, none⟩)) (rd_off (p := 1) (fun _ => rfl) rfl) (fun s x w h => RX.bl h) (fun a w hJ e => by go_simp)) (steps_cons (gr_op (p := 123) (fun w => Below w2.heap.size w2 w) 5 5 rfl rfl rfl (fun _ => rfl) (fun _ => rfl) rfl (u := .pointer (some ⟨g, 11, none⟩)) (rd_on (p := 123) 4 4 (fun _ => rfl) (fun _ => rfl) (by kernel_rfl) rfl) (fun s x w h => RX.bl h) (fun a w hJ e => by have hs : w.cell? ⟨g, 11, none⟩ = some (.slice L.A11 x.f11.length L.c11) := blk_cell (blk_below HB0.out hJ) 11; go_simp)) (steps_cons (gr_call (vals := [.slice L.A11 x.f11.length L.c11]) 6 6 1 rfl rfl rfl rfl (fun _ => rfl) (fun _ _ => rfl) (fun _ => rfl) rfl (by kernel_rfl) Try.func61 (by kernel_rfl) rfl rfl rfl (fv := fun vs => vs 1) (rd_on (p := 122) 3 3 (fun _ => rfl) (fun _ => rfl) (by kernel_rfl) rfl) (fun _ _ => rfl) (ar_t (rd_on (p := 124) 5 5 (fun _ => rfl) (fun _ => rfl) (by kernel_rfl) rfl) (ar_n)) (fun u w h => rwgaps_calls w2 w u _ _ _ _ h HG11.out (by have := HYL.out; have := HN10.out; have := HN11.out; (try simp only [List.length_append, twoL_length, fourL_length, gapL_length, List.length_cons, List.length_nil]); omega))) (steps_cons (gr_last 7 7 2 rfl rfl rfl rfl (fun _ => rfl) (fun _ _ => rfl) (fun _ => rfl) rfl (by kernel_rfl) (fv := fun vs => vs 2) (rd_on (p := 125) 6 6 (fun _ => rfl) (fun _ => rfl) (by kernel_rfl) rfl) (fun _ _ => rfl) (fun a w u e => by go_simp) (fun _ _ h => h)) steps_nil)))))))
    intro vs5 W5 hX9
    have HRR := Lib.hid hX9
    clear hX9
    simp only [putSel, if_true, Act.put, List.setIfInBounds_toArray, List.set_cons_zero, List.set_cons_succ]
    obtain ⟨u5_, hu⟩ : ∃ u, vs5 3 = u := ⟨_, rfl⟩
    replace HRR := Lib.hid (show RX w2 (ys ++ twoL (gapL x.f10) ++ twoL (gapL x.f11)) (vs5 3) W5 from HRR.out)
    rw [hu] at HRR ⊢
    clear hu
    have X := HRR.out
    rw [HYS.out] at X
    clear HRR HYS HX HYL
    clear ys
    go_upto_region 25 with (fail)
    obtain ⟨ys, hys⟩ : ∃ ys : List Int, ys = [] ++ fourL [x.f2] ++ fourL [x.f7] ++ twoL [IntKind.u16.wrap (x.f10.length : Int)] ++ twoL [IntKind.u16.wrap (x.f11.length : Int)] ++ twoL [IntKind.u16.wrap (x.f12.length : Int)] ++ twoL [0] ++ twoL (gapL x.f10) ++ twoL (gapL x.f11) := ⟨_, rfl⟩
    have HX := Lib.hid X
    rw [← hys] at HX
    have HYL := Lib.hid (show ys.length ≤ 100000 by have := HN10.out; have := HN11.out; have := HN12.out; rw [hys]; simp only [List.length_append, twoL_length, fourL_length, gapL_length, List.length_cons, List.length_nil]; omega)
    have HYS := Lib.hid hys
    clear X hys
    have HYL2 := Lib.hid (show ys.length ≤ 100000 from HYL.out)
    have HX2 := HX
    have HYS2 := HYS
    clear HX HYS HYL
    go_wp2
    go_loopw [3, 6] (fun v3 v6 wr => ∃ (i : Nat) (zs : List Int), i ≤ x.f12.length ∧ v6 = .int .i64 (i : Int) ∧ Hid (zs.length = ys.length + 4 * i) ∧ Hid (zs ++ fourL (x.f12.drop i) = ys ++ fourL x.f12) ∧ Hid (RX w2 zs v3 wr)) (fun _ v6 _ => x.f12.length - (intOf v6).toNat)
    case atStart => exact ⟨0, ys, Nat.zero_le _, rfl, (by show _ = _; omega), rfl, HX2.out⟩
    case round =>
      clear HX2
      obtain ⟨i, zs, hi, rfl, HZL, HZE, HZ⟩ := hrel
      have k12 : wr.cell? ⟨g, 12, none⟩ = some (.slice L.A12 x.f12.length L.c12) := blk_cell (blk_below HB0.out HZ.out.bl) 12
      have hm12 := HN12.out
      by_cases hlt : i < x.f12.length
      · obtain ⟨ad, hA12, x0⟩ := int_at (Kd.C_below HD12.out HZ.out.bl) i hlt
        rw [hA12] at k12
        have hE := HZE.out
        have hd : x.f12.drop i = x.f12.getD i 0 :: x.f12.drop (i + 1) := by
          rw [List.drop_eq_getElem_cons hlt]
          congr 1
          simp [List.getD_eq_getElem?_getD, hlt]
        rw [hd, fourL_cons, ← List.append_assoc] at hE
        generalize x.f12.getD i 0 = q at *
        have HE2 := Lib.hid hE
        have HP := Lib.hid (HZ.out.four q (by have := HZL.out; have := HYL2.out; omega))
        have HL2 := Lib.hid (show (zs ++ fourL [q]).length = ys.length + 4 * (i + 1) by rw [List.length_append, fourL_length]; have := HZL.out; simp; omega)
        clear hE hd HZE hA12 HZL HZ
        go_wp2_with fail
        refine HP.out.mono ?_
        rintro e wn ⟨vn, rfl, hX9⟩
        have HX9 := Lib.hid hX9
        clear hX9 HP k12 x0
        go_wp2
        go_roundw
        case rel => exact ⟨i + 1, _, by omega, by go_num, HL2, HE2, HX9⟩
        case measure => simp [intOf]; omega
      · obtain rfl : i = x.f12.length := by omega
        have hE := HZE.out
        rw [List.drop_length, show fourL [] = [] from rfl, List.append_nil] at hE
        subst hE
        clear HZE
        go_wp2
        go_ret
        have hX := HZ.out
        rw [HYS2.out] at hX
        subst hg
        exact HFIN.out _ _ _ hX.bl hX.r (by rw [HVD.out])
  have n16 := h
  clear h
  by_cases h : x.f0 = 7
  · have q0 : (x.f0 == 0) = false := by simp; omega
    have q1 : (x.f0 == 1) = false := by simp; omega
    have q2 : (x.f0 == 2) = false := by simp; omega
    have q3 : (x.f0 == 3) = false := by simp; omega
    have q16 : (x.f0 == 16) = false := by simp; omega
    have q7 : (x.f0 == 7) = true := by simp [h]
    have HVD := Lib.hid (show valueD x = [] ++ fourL [x.f2] from by unfold valueD; rw [if_neg (by omega), if_neg (by omega), if_neg (by omega), if_neg (by omega), if_neg (by omega), if_pos h]; rfl)
    go_upto_region 24 with (fail)
    obtain ⟨ys, hys⟩ : ∃ ys : List Int, ys = [] := ⟨_, rfl⟩
    have HX := Lib.hid X
    rw [← hys] at HX
    have HYL := Lib.hid (show ys.length ≤ 100000 by have := HN10.out; have := HN11.out; have := HN12.out; rw [hys]; simp only [List.length_append, twoL_length, fourL_length, gapL_length, List.length_cons, List.length_nil]; omega)
    have HYS := Lib.hid hys
    clear X hys
    have k2 : w2.cell? ⟨g, 2, none⟩ = some (.int .u32 x.f2) := blk_cell (blk_below HB0.out HX.out.bl) 2
    go_wp2_with fail
    refine (HX.out.four _ (by have := HYL.out; (try simp only [List.length_append, twoL_length, fourL_length, List.length_cons, List.length_nil]); omega)).mono ?_
    rintro e W1 ⟨v1_, rfl, hX9⟩
    have HRR := Lib.hid hX9
    clear hX9 k2
    have X := HRR.out
    rw [HYS.out] at X
    clear HRR HYS HX HYL
    clear ys
    go_wp2
    go_ret
    subst hg
    exact HFIN.out _ _ _ X.bl X.r (by rw [HVD.out])
  have n7 := h
  clear h
  have q0 : (x.f0 == 0) = false := by simp [n0]
  have q1 : (x.f0 == 1) = false := by simp [n1]
  have q2 : (x.f0 == 2) = false := by simp [n2]
  have q3 : (x.f0 == 3) = false := by simp [n3]
  have q16 : (x.f0 == 16) = false := by simp [n16]
  have q7 : (x.f0 == 7) = false := by simp [n7]
  have HVD := Lib.hid (rest_value HB.out n0 n1 n2 n3 n16 n7).1
  have HSUM := Lib.hid ((rest_value HB.out n0 n1 n2 n3 n16 n7).2 HN13.out)
  generalize (encP x.f14).1 = ps at *
  obtain ⟨pl, hpl⟩ : ∃ pl, ps.length = pl := ⟨_, rfl⟩
  rw [hpl]
  have HPL := Lib.hid hpl
  clear hpl
  go_upto_region 4 with (fail)
  have HX := Lib.hid X
  clear X
  refine grow_region (B := rvZB4) [0, 1, 2, 3, 4, 5, 6] [2, 5, 6] (fun s v W => RX w2 (match s with | 0 => [] | 1 => [] ++ ps | _ => [] ++ ps ++ x.f13) v W) (.slice none 0 0) (fun vs => [(0, 15, .slice none 0 0), (1, 16, .slice A0 pl c0), (2, 17, vs 1), (3, 18, .pointer (some ⟨g, 13, none⟩)), (4, 19, .slice L.A13 x.f13.length L.c13), (5, 20, vs 2), (6, 2, vs 3)]) (by kernel_rfl) rfl (l := #[false, false, false, false, false, false, false]) rfl rvZtab4 rvZbits4 (by kernel_rfl) (by kernel_rfl) (fun _ => rfl) rfl ?_ ?_ ?_
  · exact HX.out.drewN 1
  · exact steps_cons (gr_op (p := 3) (fun w => Below w2.heap.size w2 w) 0 0 rfl rfl rfl (fun _ => rfl) (fun _ => rfl) rfl (u := .slice none 0 0) (rd_off (p := 3) (fun _ => rfl) rfl) (fun s x w h => RX.bl h) (fun a w hJ e => by go_simp)) (steps_cons (gr_op (p := 4) (fun w => Below w2.heap.size w2 w) 1 1 rfl rfl rfl (fun _ => rfl) (fun _ => rfl) rfl (u := .slice A0 pl c0) (rd_off (p := 4) (fun _ => rfl) rfl) (fun s x w h => RX.bl h) (fun a w hJ e => by go_simp)) (steps_cons (gr_gen (vals := [.slice A0 pl c0]) 2 2 0 rfl rfl rfl rfl (fun _ => rfl) (fun _ _ => rfl) (fun _ => rfl) rfl (by kernel_rfl) (fv := fun vs => .slice none 0 0) (rd_on (p := 15) 0 0 (fun _ => rfl) (fun _ => rfl) (by kernel_rfl) rfl) (fun _ h => h.symm) (ar_t (rd_on (p := 16) 1 1 (fun _ => rfl) (fun _ => rfl) (by kernel_rfl) rfl) (ar_n)) (fun a w K u h e1 e2 hK => by
      obtain ⟨A7, c7, e7⟩ := Kd.R_slice h.r
      subst e7
      refine Kd.R_append_rows_step (Kd.int .u8) (Rr := (Kd.int .u8).K w) (w0 := w2) (W := w) w2.heap.size (by rfl) _ _ 22 5 _ 1 rfl Try.underlying22 info_u8 rfl (by decide) (by decide) (.slice A7 ([] : List Int).length c7) [] ps A0 pl c0 (fun _ => True) (fun _ => False) (eval_of e1) (List.cons.inj e2).1 h.r (by have h := Kd.C_below HP0.out h.bl; rw [HPL.out] at h; exact h) (fun _ _ h => h) (fun _ h => h.elim) (fun _ _ => trivial) h.bl h.bl.size (by have := HSUM.out; have := HPL.out; simp; omega) ?_
      intro v1 w1 hR1 hB1 hG1 _
      exact hK v1 w1 ⟨hB1, hR1⟩)) (steps_cons (gr_op (p := 1) (fun w => Below w2.heap.size w2 w) 3 3 rfl rfl rfl (fun _ => rfl) (fun _ => rfl) rfl (u := .pointer (some ⟨g, 0, none⟩)) (rd_off (p := 1) (fun _ => rfl) rfl) (fun s x w h => RX.bl h) (fun a w hJ e => by go_simp)) (steps_cons (gr_op (p := 18) (fun w => Below w2.heap.size w2 w) 4 4 rfl rfl rfl (fun _ => rfl) (fun _ => rfl) rfl (u := .pointer (some ⟨g, 13, none⟩)) (rd_on (p := 18) 3 3 (fun _ => rfl) (fun _ => rfl) (by kernel_rfl) rfl) (fun s x w h => RX.bl h) (fun a w hJ e => by have hs : w.cell? ⟨g, 13, none⟩ = some (.slice L.A13 x.f13.length L.c13) := blk_cell (blk_below HB0.out hJ) 13; go_simp)) (steps_cons (gr_gen (vals := [.slice L.A13 x.f13.length L.c13]) 5 5 1 rfl rfl rfl rfl (fun _ => rfl) (fun _ _ => rfl) (fun _ => rfl) rfl (by kernel_rfl) (fv := fun vs => vs 1) (rd_on (p := 17) 2 2 (fun _ => rfl) (fun _ => rfl) (by kernel_rfl) rfl) (fun _ _ => rfl) (ar_t (rd_on (p := 19) 4 4 (fun _ => rfl) (fun _ => rfl) (by kernel_rfl) rfl) (ar_n)) (fun a w K u h e1 e2 hK => by
      obtain ⟨A7, c7, e7⟩ := Kd.R_slice h.r
      subst e7
      refine Kd.R_append_rows_step (Kd.int .u8) (Rr := (Kd.int .u8).K w) (w0 := w2) (W := w) w2.heap.size (by rfl) _ _ 22 5 _ 1 rfl Try.underlying22 info_u8 rfl (by decide) (by decide) (.slice A7 ([] ++ ps).length c7) ([] ++ ps) x.f13 L.A13 x.f13.length L.c13 (fun _ => True) (fun _ => False) (eval_of e1) (List.cons.inj e2).1 h.r (Kd.C_below HD13.out h.bl) (fun _ _ h => h) (fun _ h => h.elim) (fun _ _ => trivial) h.bl h.bl.size (by have := HSUM.out; have := HPL.out; simp; omega) ?_
      intro v1 w1 hR1 hB1 hG1 _
      exact hK v1 w1 ⟨hB1, hR1⟩)) (steps_cons (gr_last 6 6 2 rfl rfl rfl rfl (fun _ => rfl) (fun _ _ => rfl) (fun _ => rfl) rfl (by kernel_rfl) (fv := fun vs => vs 2) (rd_on (p := 20) 5 5 (fun _ => rfl) (fun _ => rfl) (by kernel_rfl) rfl) (fun _ _ => rfl) (fun a w u e => by go_simp) (fun _ _ h => h)) steps_nil))))))
  intro vs W9 hX9
  have HRR := Lib.hid hX9
  clear hX9
  simp only [putSel, if_true, Act.put, List.setIfInBounds_toArray, List.set_cons_zero, List.set_cons_succ]
  go_wp2
  go_ret
  subst hg
  exact HFIN.out _ _ _ HRR.out.bl HRR.out.r HVD.out
end Go.Proofs.Ytjmadnpicidbeaa.Ch
end
section
namespace Go.Proofs.Ytjmadnpicidbeaa.Ch
open Go.RowKit Go.Proofs.YtjmadnpicidbeaaW.PrintWords Go.Proofs.YtjmadnpicidbeaaW.PrintLast Go.Proofs.Ytjmadnpicidbeaa.Base Go.Proofs.Ytjmadnpicidbeaa.PCh Go.Proofs.Ytjmadnpicidbeaa.ParDec Go.Proofs.Ytjmadnpicidbeaa.ParEnc
set_option maxRecDepth 100000
set_option linter.unusedVariables false
set_option linter.unusedSimpArgs false
structure B1 (w : World) (x : Chk) (L : Lay) (W : World) : Prop where
  x0 : W.heap[w.heap.size]? = some (.cells (CV x L) 30 (0, 0))
  x2 : Below w.heap.size w W
theorem B1.cell {w W : World} {x : Chk} {L : Lay} (h : B1 w x L W) (i : Nat) : W.cell? ⟨w.heap.size, i, none⟩ = (CV x L)[i]? := blk_cell h.x0 i
theorem B1.below {w W W' : World} {x : Chk} {L : Lay} (h : B1 w x L W) (hb : Below W.heap.size W W') : B1 w x L W' := ⟨blk_below h.x0 hb, below_then h.x2 h.x2.size hb⟩
theorem B1.drewN {w W : World} {x : Chk} {L : Lay} (h : B1 w x L W) (n : Nat) : B1 w x L (W.drewN n) := ⟨blk_drewN h.x0 n, pw_below_drewN h.x2 n⟩
theorem B1.new (w : World) (x : Chk) (L : Lay) : B1 w x L (w.alloc (.cells (CV x L) 30)) := ⟨blk_new _ _, below_alloc (Below.refl _ _) _⟩
set_option maxHeartbeats 4000000 in
theorem check_calls (w : World) (x : Chk) (L : Lay) (hx : CR w x L) (hv : ValOk x L) :
    Calls Try.prog 16 #[.agg (CV x L)] w fun e w' => e = .returned (.int .i64 (checkD x)) ∧ Below w.heap.size w w' := by
  have HBR := Lib.hid (fun (W : World) (h : Below w.heap.size w W) => bare_calls W x L (hx.below h))
  have HSM := Lib.hid (fun (W : World) (h : Below w.heap.size w W) => same_calls W x (bareD x) L (keepL (hasF x.f0) L) (hx.below h) (keep_CR (hx.below h) _ _))
  have HEN := Lib.hid (fun (W : World) (h : Below w.heap.size w W) => encP_calls W L.A14 L.c14 x.f14 (Kd.C_below hx.h14 h) hx.l14)
  have HXC := Lib.hid (fun (W : World) (h : Below w.heap.size w W) => hx.below h)
  have HXS := Lib.hid (show (Try.prog.info? 30).map (·.size) = some (CV x L).size by kernel_rfl)
  have HM13 := Lib.hid hx.h13.2.1
  obtain ⟨CD, hcd⟩ : ∃ CD, checkD x = CD := ⟨_, rfl⟩
  have HCD := Lib.hid hcd
  rw [hcd]
  have X := B1.new w x L
  clear hx hcd
  go_enter Try.func16, Try.ntmps16
  go_upto_region 1 with (fail)
  refine wp_gen (B1 w x L) X ?_
  clear X
  intro W X
  obtain ⟨q, hq⟩ : ∃ q, decide (x = bareD x) = q := ⟨_, rfl⟩
  rw [hq] at HSM
  have HQ := Lib.hid hq
  clear hq
  have HX0 := Lib.hid X
  have B := True.intro
  refine start_ (n := 6) (S := fun w' => True) (ds := []) #[false, false, false, false, false, false] (by kernel_rfl) rfl rfl trivial (fun hHeld => ?_)
  refine with_tabW checktab1 checkbits1 (fun HT_ HW_ => ?_)
  refine inv_at [0, 1, 2, 3, 4, 5] (fun a0_ b a w' => a = putSel a0_ b [(0, 6, .agg (CV x L)), (1, 7, .agg (CV x L)), (2, 8, .agg (CV (bareD x) (keepL (hasF x.f0) L))), (3, 9, .bool q), (4, 10, .bool (!q)), (5, 5, .bool (!q))] ∧ (Below W.heap.size W w')) HT_.out HW_.out (by kernel_rfl) (by kernel_rfl) ?_ ?_ ?_
  · exact ⟨by simp only [putSel, Bool.false_eq_true, if_false], below_drew (Below.refl _ _)⟩
  · skip
    clear B
    refine steps_cons ?_ ?_
    · rintro b a w' ⟨ha, Q_B⟩ hb_ hon hoff
      refine ⟨_, rfl, fun K hK => ?_⟩
      have e1 : a.tmps[1]? = some (.pointer (some ⟨w.heap.size, 0, none⟩)) := by rw [ha]; exact (putSel_off rfl).trans rfl
      replace ha := Aside0.mk ha
      have B := Aside0.mk Q_B
      refine value_ (w1 := w') (v := .agg (CV x L)) (by rfl) rfl (exec_load_row 30 (.tmp 1) rfl (eval_of e1) (blk_below HX0.out.x0 B.out) Try.underlying30 rfl HXS.out) ?_
      refine hK.out _ _ ⟨(by rw [ha.out]; exact putSel_upk 0 hb_ rfl rfl rfl), B.out⟩
    refine steps_cons ?_ ?_
    · rintro b a w' ⟨ha, Q_B⟩ hb_ hon hoff
      refine ⟨_, rfl, fun K hK => ?_⟩
      have e1 : a.tmps[1]? = some (.pointer (some ⟨w.heap.size, 0, none⟩)) := by rw [ha]; exact (putSel_off rfl).trans rfl
      replace ha := Aside0.mk ha
      have B := Aside0.mk Q_B
      refine value_ (w1 := w') (v := .agg (CV x L)) (by rfl) rfl (exec_load_row 30 (.tmp 1) rfl (eval_of e1) (blk_below HX0.out.x0 B.out) Try.underlying30 rfl HXS.out) ?_
      refine hK.out _ _ ⟨(by rw [ha.out]; exact putSel_upk 1 hb_ rfl rfl rfl), B.out⟩
    refine steps_cons ?_ ?_
    · rintro b a w' ⟨ha, Q_B⟩ hb_ hon hoff
      refine ⟨_, rfl, fun K hK => ?_⟩
      have e7 : a.tmps[7]? = some (.agg (CV x L)) := by rw [ha]; exact putSel_on (e := (1, 7, .agg (CV x L))) 1 rfl rfl (hon 1 (by kernel_rfl)) rfl
      replace ha := Aside0.mk ha
      have B := Aside0.mk Q_B
      refine goes_ Try.func38 (by kernel_rfl) rfl #[.agg (CV x L)] (by rfl) rfl rfl (by first | (simp only [List.map_toArray, List.map_cons, List.map_nil, Act.eval, Array.getD_eq_getD_getElem?, Option.getD_some, e7]; done) | (simp only [List.map_toArray, List.map_cons, List.map_nil, Act.eval, Array.getD_eq_getD_getElem?, Option.getD_some, e7]; rfl)) ?_
      refine (HBR.out w' (HX0.out.below B.out).x2).mono ?_
      rintro e w1 ⟨rfl, hB1⟩
      refine ⟨_, rfl, ?_⟩
      refine hK.out _ _ ⟨(by rw [ha.out]; exact putSel_upk 2 hb_ rfl rfl rfl), B.out.trans (hB1.mono B.out.size)⟩
    refine steps_cons ?_ ?_
    · rintro b a w' ⟨ha, Q_B⟩ hb_ hon hoff
      refine ⟨_, rfl, fun K hK => ?_⟩
      have e6 : a.tmps[6]? = some (.agg (CV x L)) := by rw [ha]; exact putSel_on (e := (0, 6, .agg (CV x L))) 0 rfl rfl (hon 0 (by kernel_rfl)) rfl
      have e8 : a.tmps[8]? = some (.agg (CV (bareD x) (keepL (hasF x.f0) L))) := by rw [ha]; exact putSel_on (e := (2, 8, .agg (CV (bareD x) (keepL (hasF x.f0) L)))) 2 rfl rfl (hon 2 (by kernel_rfl)) rfl
      replace ha := Aside0.mk ha
      have B := Aside0.mk Q_B
      refine goes_ Try.func14 (by kernel_rfl) rfl #[.agg (CV x L), .agg (CV (bareD x) (keepL (hasF x.f0) L))] (by rfl) rfl rfl (by first | (simp only [List.map_toArray, List.map_cons, List.map_nil, Act.eval, Array.getD_eq_getD_getElem?, Option.getD_some, e6, e8]; done) | (simp only [List.map_toArray, List.map_cons, List.map_nil, Act.eval, Array.getD_eq_getD_getElem?, Option.getD_some, e6, e8]; rfl)) ?_
      refine (HSM.out w' (HX0.out.below B.out).x2).mono ?_
      rintro e w1 ⟨rfl, hB1⟩
      refine ⟨_, rfl, ?_⟩
      refine hK.out _ _ ⟨(by rw [ha.out]; exact putSel_upk 3 hb_ rfl rfl rfl), B.out.trans (hB1.mono B.out.size)⟩
    refine steps_cons ?_ ?_
    · rintro b a w' ⟨ha, Q_B⟩ hb_ hon hoff
      refine ⟨_, rfl, fun K hK => ?_⟩
      have e9 : a.tmps[9]? = some (.bool q) := by rw [ha]; exact putSel_on (e := (3, 9, .bool q)) 3 rfl rfl (hon 3 (by kernel_rfl)) rfl
      replace ha := Aside0.mk ha
      have B := Aside0.mk Q_B
      refine value_ (w1 := w') (v := .bool (!q)) (by rfl) rfl ?_ ?_
      · go_simp
        (try simp only [i64_w])
        try rfl
      refine hK.out _ _ ⟨(by rw [ha.out]; exact putSel_upk 4 hb_ rfl rfl rfl), Q_B⟩
    refine steps_cons ?_ ?_
    · rintro b a w' ⟨ha, Q_B⟩ hb_ hon hoff
      refine ⟨_, rfl, fun K hK => ?_⟩
      have e10 : a.tmps[10]? = some (.bool (!q)) := by rw [ha]; exact putSel_on (e := (4, 10, .bool (!q))) 4 rfl rfl (hon 4 (by kernel_rfl)) rfl
      replace ha := Aside0.mk ha
      have B := Aside0.mk Q_B
      refine value_ (w1 := w') (v := .bool (!q)) (by rfl) rfl ?_ ?_
      · go_simp
        (try simp only [i64_w])
        try rfl
      refine hK.out _ _ ⟨(by rw [ha.out]; exact putSel_upk 5 hb_ rfl rfl rfl), Q_B⟩
    exact steps_nil
  rintro b a w' hall ⟨ha, Q_B⟩
  clear B
  have hb0_ := hall 0 (by kernel_rfl)
  have hb1_ := hall 1 (by kernel_rfl)
  have hb2_ := hall 2 (by kernel_rfl)
  have hb3_ := hall 3 (by kernel_rfl)
  have hb4_ := hall 4 (by kernel_rfl)
  have hb5_ := hall 5 (by kernel_rfl)
  subst ha
  simp only [putSel, hb0_, hb1_, hb2_, hb3_, hb4_, hb5_, if_true, Act.put, List.setIfInBounds_toArray, List.set_cons_zero, List.set_cons_succ]
  have B := Aside0.mk Q_B
  clear Q_B
  clear hall hb0_ hb1_ hb2_ hb3_ hb4_ hb5_
  replace X := X.below B.out
  clear B HBR HSM HX0
  generalize w' = W at *
  cases q with
  | false =>
    have hC : CD = 63 := by rw [← HCD.out]; unfold checkD; rw [if_pos HQ.out]
    subst hC
    go_wp2
    go_ret
    exact ⟨rfl, X.x2⟩
  | true =>
  have HXE := Lib.hid (show x = bareD x from of_decide_eq_true HQ.out)
  have n1 : ¬ decide (x = bareD x) = false := by rw [HQ.out]; decide
  have hcd := HCD.out
  unfold checkD at hcd
  rw [if_neg n1] at hcd
  clear n1 HCD
  have k0 : W.cell? ⟨w.heap.size, 0, none⟩ = some (.int .u8 x.f0) := X.cell 0
  have k10 : W.cell? ⟨w.heap.size, 10, none⟩ = some (.slice L.A10 x.f10.length L.c10) := X.cell 10
  have k11 : W.cell? ⟨w.heap.size, 11, none⟩ = some (.slice L.A11 x.f11.length L.c11) := X.cell 11
  have k12 : W.cell? ⟨w.heap.size, 12, none⟩ = some (.slice L.A12 x.f12.length L.c12) := X.cell 12
  have k13 : W.cell? ⟨w.heap.size, 13, none⟩ = some (.slice L.A13 x.f13.length L.c13) := X.cell 13
  have k14 : W.cell? ⟨w.heap.size, 14, none⟩ = some (.slice L.A14 x.f14.length L.c14) := X.cell 14
  by_cases h62 : x.f0 = 0 ∧ x.f13.length = 0
  · rw [if_pos h62] at hcd
    have q0 : (x.f0 == 0) = true := by simp [h62.1]
    have q13 : ((x.f13.length : Int) == 0) = true := by rw [h62.2]; rfl
    subst hcd
    clear h62
    go_wp2
    go_ret
    exact ⟨rfl, X.x2⟩
  rw [if_neg h62] at hcd
  have hbt : beatB x.f14 = true ∨ beatB x.f14 = false := by cases beatB x.f14 <;> simp
  by_cases h61 : (x.f0 = 4 ∨ x.f0 = 5) ∧ beatB x.f14 = false
  · rw [if_pos h61] at hcd
    have q0 : (x.f0 == 0) = false := by simp; omega
    have HBT := Lib.hid (fun (W' : World) (h : Below w.heap.size w W') => chunk_beat.calls x.f0 x.f1 x.f2 x.f3 x.f4 x.f5 x.f6 x.f7 x.f8 x.f9 L.A10 L.c10 x.f10 L.A11 L.c11 x.f11 L.A12 L.c12 x.f12 L.A13 L.c13 x.f13 L.A14 L.c14 x.f14 false W' (HXC.out W' h).h10 (HXC.out W' h).l10 (HXC.out W' h).h11 (HXC.out W' h).l11 (HXC.out W' h).h12 (HXC.out W' h).l12 (HXC.out W' h).h13 (HXC.out W' h).l13 (HXC.out W' h).h14 (HXC.out W' h).l14 (by rw [beat_f, h61.2]))
    have HIB := Lib.hid (fun W' => isBeat_calls x.f0 W')
    rw [decide_eq_true h61.1] at HIB
    subst hcd
    clear h61 h62 hbt
    go_wp2_with fail
    refine (HIB.out _).mono ?_
    rintro e w2 ⟨rfl, ⟨m2, rfl⟩⟩
    replace X := X.drewN m2
    go_wp2_with (with_reducible refine gate_dst (N := 26) rfl ?_; go_must (refine step_on (wanted_on rfl rfl rfl rfl) (exec_load_row 30 (.tmp 1) rfl rfl X.x0 Try.underlying30 rfl HXS.out) ?_))
    refine (HBT.out _ X.x2).mono ?_
    rintro e w2 ⟨rfl, hB2⟩
    replace X := X.below hB2
    go_wp2
    go_ret
    exact ⟨rfl, X.x2⟩
  rw [if_neg h61] at hcd
  have HCD := Lib.hid hcd
  clear hcd
  have hvar : (x.f0 = 0 ∧ ¬ x.f13.length = 0) ∨ (¬ x.f0 = 0 ∧ ¬ (x.f0 = 4 ∨ x.f0 = 5)) ∨ (¬ x.f0 = 0 ∧ (x.f0 = 4 ∨ x.f0 = 5) ∧ beatB x.f14 = true) := by
    by_cases a0 : x.f0 = 0
    · exact Or.inl ⟨a0, fun e => h62 ⟨a0, e⟩⟩
    · by_cases a4 : x.f0 = 4 ∨ x.f0 = 5
      · exact Or.inr (Or.inr ⟨a0, a4, hbt.elim id (fun e => absurd ⟨a4, e⟩ h61)⟩)
      · exact Or.inr (Or.inl ⟨a0, a4⟩)
  clear h61 h62 hbt
  rcases hvar with ⟨a0, a13⟩ | ⟨a0, a4⟩ | ⟨a0, a4, hbt⟩
  · have HIB := Lib.hid (fun W' => isBeat_calls x.f0 W')
    rw [decide_eq_false (by omega)] at HIB
    have q0 : (x.f0 == 0) = true := by simp [a0]
    have q13 : ((x.f13.length : Int) == 0) = false := by rw [beq_eq_false_iff_ne]; omega
    clear a0 a13
    go_wp2_with fail
    refine (HIB.out _).mono ?_
    rintro e w2 ⟨rfl, ⟨m2, rfl⟩⟩
    replace X := X.drewN m2
    go_upto_region 7 with (fail)
    refine wp_gen (B1 w x L) X ?_
    clear X k0 k10 k11 k12 k13 k14 q0 q13 HIB
    intro W X
    have k10 : W.cell? ⟨w.heap.size, 10, none⟩ = some (.slice L.A10 x.f10.length L.c10) := X.cell 10
    have k11 : W.cell? ⟨w.heap.size, 11, none⟩ = some (.slice L.A11 x.f11.length L.c11) := X.cell 11
    have k12 : W.cell? ⟨w.heap.size, 12, none⟩ = some (.slice L.A12 x.f12.length L.c12) := X.cell 12
    have k14 : W.cell? ⟨w.heap.size, 14, none⟩ = some (.slice L.A14 x.f14.length L.c14) := X.cell 14
    by_cases hm : 4096 < x.f10.length ∨ 4096 < x.f11.length ∨ 4096 < x.f12.length
    · have hc := HCD.out
      rw [if_pos hm] at hc
      subst hc
      go_wp2
      all_goals first | (exfalso; omega) | (go_ret; exact ⟨rfl, X.x2⟩)
    have b10 : decide ((4096 : Int) < (x.f10.length : Int)) = false := by simp; omega
    have b11 : decide ((4096 : Int) < (x.f11.length : Int)) = false := by simp; omega
    have b12 : decide ((4096 : Int) < (x.f12.length : Int)) = false := by simp; omega
    have HCE := Lib.hid HCD.out
    rw [if_neg hm] at HCE
    have l10 : x.f10.length ≤ 4096 := by omega
    have l11 : x.f11.length ≤ 4096 := by omega
    have l12 : x.f12.length ≤ 4096 := by omega
    have HEW := Lib.hid (HEN.out W X.x2)
    by_cases he : (encP x.f14).2 = 0
    · have HVL := Lib.hid (fun (W' : World) (h : Below w.heap.size w W') => hv W' (HXC.out W' h) HXE.out l10 l11 l12 he)
      rw [if_neg (fun e => e he)] at HCE
      rw [he] at HEW
      clear hm he
      unfold ValP at HVL
      go_wp2_with fail
      refine HEW.out.mono ?_
      rintro e w3 ⟨v0, rfl, hR, hB3⟩
      obtain ⟨A0, c0, rfl⟩ := Kd.R_slice hR
      replace X := X.below hB3
      clear hR hB3 k10 k11 k12 k14
      go_wp2_with (with_reducible refine gate_dst (N := 52) rfl ?_; refine wpList_load_row rfl 30 (.tmp 1) rfl _ rfl 30 _ (0, 0) _ X.x0 Try.underlying30 rfl HXS.out ?_)
      refine (HVL.out _ X.x2).mono ?_
      rintro e w5 ⟨A9, c9, rfl, hle9, hC9, hB5⟩
      replace X := X.below hB5
      clear hC9 hB5 hle9
      generalize (valueD x).length = vl at *
      by_cases h2 : 65531 < vl
      · have hc := HCE.out
        rw [if_pos h2] at hc
        subst hc
        go_wp2
        go_ret
        exact ⟨rfl, X.x2⟩
      · have hc := HCE.out
        rw [if_neg h2] at hc
        subst hc
        go_wp2
        go_ret
        exact ⟨rfl, X.x2⟩
    · have hc := HCE.out
      rw [if_pos he] at hc
      rw [hc] at HEW he
      have q : (CD != 0) = true := by simp [he]
      clear hm he hc
      go_wp2_with fail
      refine HEW.out.mono ?_
      rintro e w3 ⟨v0, rfl, hR, hB3⟩
      obtain ⟨A0, c0, rfl⟩ := Kd.R_slice hR
      replace X := X.below hB3
      clear hR hB3 k10 k11 k12 k14
      go_wp2
      go_ret
      exact ⟨rfl, X.x2⟩
  · have HIB := Lib.hid (fun W' => isBeat_calls x.f0 W')
    rw [decide_eq_false a4] at HIB
    have q0 : (x.f0 == 0) = false := by simp [a0]
    clear a0 a4
    go_wp2_with fail
    refine (HIB.out _).mono ?_
    rintro e w2 ⟨rfl, ⟨m2, rfl⟩⟩
    replace X := X.drewN m2
    go_upto_region 7 with (fail)
    refine wp_gen (B1 w x L) X ?_
    clear X k0 k10 k11 k12 k13 k14 q0 HIB
    intro W X
    have k10 : W.cell? ⟨w.heap.size, 10, none⟩ = some (.slice L.A10 x.f10.length L.c10) := X.cell 10
    have k11 : W.cell? ⟨w.heap.size, 11, none⟩ = some (.slice L.A11 x.f11.length L.c11) := X.cell 11
    have k12 : W.cell? ⟨w.heap.size, 12, none⟩ = some (.slice L.A12 x.f12.length L.c12) := X.cell 12
    have k14 : W.cell? ⟨w.heap.size, 14, none⟩ = some (.slice L.A14 x.f14.length L.c14) := X.cell 14
    by_cases hm : 4096 < x.f10.length ∨ 4096 < x.f11.length ∨ 4096 < x.f12.length
    · have hc := HCD.out
      rw [if_pos hm] at hc
      subst hc
      go_wp2
      all_goals first | (exfalso; omega) | (go_ret; exact ⟨rfl, X.x2⟩)
    have b10 : decide ((4096 : Int) < (x.f10.length : Int)) = false := by simp; omega
    have b11 : decide ((4096 : Int) < (x.f11.length : Int)) = false := by simp; omega
    have b12 : decide ((4096 : Int) < (x.f12.length : Int)) = false := by simp; omega
    have HCE := Lib.hid HCD.out
    rw [if_neg hm] at HCE
    have l10 : x.f10.length ≤ 4096 := by omega
    have l11 : x.f11.length ≤ 4096 := by omega
    have l12 : x.f12.length ≤ 4096 := by omega
    have HEW := Lib.hid (HEN.out W X.x2)
    by_cases he : (encP x.f14).2 = 0
    · have HVL := Lib.hid (fun (W' : World) (h : Below w.heap.size w W') => hv W' (HXC.out W' h) HXE.out l10 l11 l12 he)
      rw [if_neg (fun e => e he)] at HCE
      rw [he] at HEW
      clear hm he
      unfold ValP at HVL
      go_wp2_with fail
      refine HEW.out.mono ?_
      rintro e w3 ⟨v0, rfl, hR, hB3⟩
      obtain ⟨A0, c0, rfl⟩ := Kd.R_slice hR
      replace X := X.below hB3
      clear hR hB3 k10 k11 k12 k14
      go_wp2_with (with_reducible refine gate_dst (N := 52) rfl ?_; refine wpList_load_row rfl 30 (.tmp 1) rfl _ rfl 30 _ (0, 0) _ X.x0 Try.underlying30 rfl HXS.out ?_)
      refine (HVL.out _ X.x2).mono ?_
      rintro e w5 ⟨A9, c9, rfl, hle9, hC9, hB5⟩
      replace X := X.below hB5
      clear hC9 hB5 hle9
      generalize (valueD x).length = vl at *
      by_cases h2 : 65531 < vl
      · have hc := HCE.out
        rw [if_pos h2] at hc
        subst hc
        go_wp2
        go_ret
        exact ⟨rfl, X.x2⟩
      · have hc := HCE.out
        rw [if_neg h2] at hc
        subst hc
        go_wp2
        go_ret
        exact ⟨rfl, X.x2⟩
    · have hc := HCE.out
      rw [if_pos he] at hc
      rw [hc] at HEW he
      have q : (CD != 0) = true := by simp [he]
      clear hm he hc
      go_wp2_with fail
      refine HEW.out.mono ?_
      rintro e w3 ⟨v0, rfl, hR, hB3⟩
      obtain ⟨A0, c0, rfl⟩ := Kd.R_slice hR
      replace X := X.below hB3
      clear hR hB3 k10 k11 k12 k14
      go_wp2
      go_ret
      exact ⟨rfl, X.x2⟩
  · have HIB := Lib.hid (fun W' => isBeat_calls x.f0 W')
    rw [decide_eq_true a4] at HIB
    have HBT := Lib.hid (fun (W' : World) (h : Below w.heap.size w W') => chunk_beat.calls x.f0 x.f1 x.f2 x.f3 x.f4 x.f5 x.f6 x.f7 x.f8 x.f9 L.A10 L.c10 x.f10 L.A11 L.c11 x.f11 L.A12 L.c12 x.f12 L.A13 L.c13 x.f13 L.A14 L.c14 x.f14 true W' (HXC.out W' h).h10 (HXC.out W' h).l10 (HXC.out W' h).h11 (HXC.out W' h).l11 (HXC.out W' h).h12 (HXC.out W' h).l12 (HXC.out W' h).h13 (HXC.out W' h).l13 (HXC.out W' h).h14 (HXC.out W' h).l14 (by rw [beat_f, hbt]))
    have q0 : (x.f0 == 0) = false := by simp [a0]
    clear a0 a4 hbt
    go_wp2_with fail
    refine (HIB.out _).mono ?_
    rintro e w2 ⟨rfl, ⟨m2, rfl⟩⟩
    replace X := X.drewN m2
    go_wp2_with (with_reducible refine gate_dst (N := 26) rfl ?_; go_must (refine step_on (wanted_on rfl rfl rfl rfl) (exec_load_row 30 (.tmp 1) rfl rfl X.x0 Try.underlying30 rfl HXS.out) ?_))
    refine (HBT.out _ X.x2).mono ?_
    rintro e w2 ⟨rfl, hB2⟩
    replace X := X.below hB2
    clear hB2
    go_upto_region 7 with (fail)
    refine wp_gen (B1 w x L) X ?_
    clear X k0 k10 k11 k12 k13 k14 q0 HIB HBT
    intro W X
    have k10 : W.cell? ⟨w.heap.size, 10, none⟩ = some (.slice L.A10 x.f10.length L.c10) := X.cell 10
    have k11 : W.cell? ⟨w.heap.size, 11, none⟩ = some (.slice L.A11 x.f11.length L.c11) := X.cell 11
    have k12 : W.cell? ⟨w.heap.size, 12, none⟩ = some (.slice L.A12 x.f12.length L.c12) := X.cell 12
    have k14 : W.cell? ⟨w.heap.size, 14, none⟩ = some (.slice L.A14 x.f14.length L.c14) := X.cell 14
    by_cases hm : 4096 < x.f10.length ∨ 4096 < x.f11.length ∨ 4096 < x.f12.length
    · have hc := HCD.out
      rw [if_pos hm] at hc
      subst hc
      go_wp2
      all_goals first | (exfalso; omega) | (go_ret; exact ⟨rfl, X.x2⟩)
    have b10 : decide ((4096 : Int) < (x.f10.length : Int)) = false := by simp; omega
    have b11 : decide ((4096 : Int) < (x.f11.length : Int)) = false := by simp; omega
    have b12 : decide ((4096 : Int) < (x.f12.length : Int)) = false := by simp; omega
    have HCE := Lib.hid HCD.out
    rw [if_neg hm] at HCE
    have l10 : x.f10.length ≤ 4096 := by omega
    have l11 : x.f11.length ≤ 4096 := by omega
    have l12 : x.f12.length ≤ 4096 := by omega
    have HEW := Lib.hid (HEN.out W X.x2)
    by_cases he : (encP x.f14).2 = 0
    · have HVL := Lib.hid (fun (W' : World) (h : Below w.heap.size w W') => hv W' (HXC.out W' h) HXE.out l10 l11 l12 he)
      rw [if_neg (fun e => e he)] at HCE
      rw [he] at HEW
      clear hm he
      unfold ValP at HVL
      go_wp2_with fail
      refine HEW.out.mono ?_
      rintro e w3 ⟨v0, rfl, hR, hB3⟩
      obtain ⟨A0, c0, rfl⟩ := Kd.R_slice hR
      replace X := X.below hB3
      clear hR hB3 k10 k11 k12 k14
      go_wp2_with (with_reducible refine gate_dst (N := 52) rfl ?_; refine wpList_load_row rfl 30 (.tmp 1) rfl _ rfl 30 _ (0, 0) _ X.x0 Try.underlying30 rfl HXS.out ?_)
      refine (HVL.out _ X.x2).mono ?_
      rintro e w5 ⟨A9, c9, rfl, hle9, hC9, hB5⟩
      replace X := X.below hB5
      clear hC9 hB5 hle9
      generalize (valueD x).length = vl at *
      by_cases h2 : 65531 < vl
      · have hc := HCE.out
        rw [if_pos h2] at hc
        subst hc
        go_wp2
        go_ret
        exact ⟨rfl, X.x2⟩
      · have hc := HCE.out
        rw [if_neg h2] at hc
        subst hc
        go_wp2
        go_ret
        exact ⟨rfl, X.x2⟩
    · have hc := HCE.out
      rw [if_pos he] at hc
      rw [hc] at HEW he
      have q : (CD != 0) = true := by simp [he]
      clear hm he hc
      go_wp2_with fail
      refine HEW.out.mono ?_
      rintro e w3 ⟨v0, rfl, hR, hB3⟩
      obtain ⟨A0, c0, rfl⟩ := Kd.R_slice hR
      replace X := X.below hB3
      clear hR hB3 k10 k11 k12 k14
      go_wp2
      go_ret
      exact ⟨rfl, X.x2⟩
end Go.Proofs.Ytjmadnpicidbeaa.Ch
end
section
namespace Go.Proofs.Ytjmadnpicidbeaa.Ch
open Go.RowKit Go.Proofs.YtjmadnpicidbeaaW.PrintWords Go.Proofs.YtjmadnpicidbeaaW.PrintLast Go.Proofs.Ytjmadnpicidbeaa.Base Go.Proofs.Ytjmadnpicidbeaa.PCh Go.Proofs.Ytjmadnpicidbeaa.ParDec Go.Proofs.Ytjmadnpicidbeaa.ParEnc
set_option maxRecDepth 100000
set_option linter.unusedVariables false
set_option linter.unusedSimpArgs false
def rcheckT1 : Bool × List (List Nat × List Nat) := (true, [([], []), ([], []), ([1], [1]), ([0, 2, 2], [0, 2]), ([3], [3])])
def rcheckB1 : List Nat := [0, 0, 2, 7, 15]
theorem rchecktab1 : Go.Proofs.YtjmadnpicidbeaaW.PrintLast.rtab .any (Go.Proofs.YtjmadnpicidbeaaW.PrintLast.opsOf Try.f19 1) = rcheckT1 := by kernel_rfl
theorem rcheckbits1 : Go.Proofs.YtjmadnpicidbeaaW.PrintLast.waitsOk rcheckT1.2 rcheckB1 = true := by kernel_rfl
theorem encP_code (ps : List PrmS) : (encP ps).2 = 0 ∨ (encP ps).2 = 2 ∨ (encP ps).2 = 3 := by
  unfold encP
  by_cases h : ps.length > 256
  · rw [if_pos h]; exact Or.inr (Or.inr rfl)
  rw [if_neg h]
  by_cases hs : allShort ps
  · rw [runB_short ps hs]; exact Or.inl rfl
  · rw [runB_long ps hs]; exact Or.inr (Or.inl rfl)
theorem rb4_f {a : Int} (h : a = 4 ∨ a = 5) (b1 b2 b3 b4 b5 b6 b7 b8 b9 : Int) (l0 l1 : List GapS) (l2 l3 : List Int) (l4 : List PrmS) : ropewalkref06_beat.f a b1 b2 b3 b4 b5 b6 b7 b8 b9 l0 l1 l2 l3 l4 = some true := by
  unfold ropewalkref06_beat.f
  rcases h with rfl | rfl <;> simp
theorem nobeat_f {a : Int} (h : ¬ (a = 4 ∨ a = 5)) (b1 b2 b3 b4 b5 b6 b7 b8 b9 : Int) (l0 l1 : List GapS) (l2 l3 : List Int) (l4 : List PrmS) : ropewalkref06_beat.f a b1 b2 b3 b4 b5 b6 b7 b8 b9 l0 l1 l2 l3 l4 = some false := by
  unfold ropewalkref06_beat.f
  rw [if_neg (by omega)]
  simp
  omega
theorem okB_bare {x : Chk} (h : OkB x) : OkB (bareD x) := by
  refine ⟨fun b hb => ?_, fun p hp => ?_⟩
  · unfold bareD keepF at hb
    dsimp only at hb
    by_cases e : hasF x.f0 13 = true
    · rw [if_pos e] at hb; exact h.body b hb
    · rw [if_neg e] at hb; cases hb
  · unfold bareD keepF at hp
    dsimp only at hp
    by_cases e : hasF x.f0 14 = true
    · rw [if_pos e] at hp; exact h.prm p hp
    · rw [if_neg e] at hp; cases hp
theorem prm_one {w : World} {x : Chk} {L : Lay} {p : PrmS} (h : CR w x L) (hp : x.f14 = [p]) : ∃ ad, L.A14 = some ad ∧ w.cell? ad = some (.int .u16 p.f0) := by
  obtain ⟨ad, _, _, e, x0, _⟩ := at_T75 h.h14 (0 : Int) (by omega) (by rw [hp]; simp)
  refine ⟨ad, e, ?_⟩
  rw [hp] at x0
  exact x0
set_option maxHeartbeats 8000000 in
theorem rcheck_calls (w : World) (x : Chk) (L : Lay) (hx : CR w x L) (hok : OkC x) :
    Calls Try.prog 19 #[.agg (CV x L)] w fun e w' => e = .returned (.int .i64 (checkD x)) ∧ Below w.heap.size w w' := by
  have HBR := Lib.hid (fun (W : World) (h : Below w.heap.size w W) => rbare_calls W x L hok.r0.1 hok.r1.1 hok.r1.2)
  have hokb : OkB (bareD x) := okB_bare hok.okB
  have HSM := Lib.hid (fun (W : World) (h : Below w.heap.size w W) => rsame_calls W x (bareD x) L (keepL (hasF x.f0) L) (hx.below h) (keep_CR (hx.below h) _ _) hok.okB hokb)
  have HEN := Lib.hid (fun (W : World) (h : Below w.heap.size w W) => encR_calls W L.A14 L.c14 x.f14 (Kd.C_below hx.h14 h) hx.l14)
  have HXC := Lib.hid (fun (W : World) (h : Below w.heap.size w W) => hx.below h)
  have HXS := Lib.hid (show (Try.prog.info? 30).map (·.size) = some (CV x L).size by kernel_rfl)
  have HM13 := Lib.hid hx.h13.2.1
  have HM14 := Lib.hid hx.h14.2.1
  have HL13 := Lib.hid hok.l13
  obtain ⟨CD, hcd⟩ : ∃ CD, checkD x = CD := ⟨_, rfl⟩
  have HCD := Lib.hid hcd
  rw [hcd]
  have X := B1.new w x L
  clear hx hcd hok hokb
  go_enter Try.func19, Try.ntmps19
  go_upto_region 1 with (fail)
  refine wp_gen (B1 w x L) X ?_
  clear X
  intro W X
  obtain ⟨q, hq⟩ : ∃ q, decide (x = bareD x) = q := ⟨_, rfl⟩
  rw [hq] at HSM
  have HQ := Lib.hid hq
  clear hq
  have HX0 := Lib.hid X
  have B := True.intro
  refine start_ (n := 5) (S := fun w' => True) (ds := []) #[false, false, false, false, false] (by kernel_rfl) rfl rfl trivial (fun hHeld => ?_)
  refine with_tabW rchecktab1 rcheckbits1 (fun HT_ HW_ => ?_)
  refine inv_at [0, 1, 2, 3, 4] (fun a0_ b a w' => a = putSel a0_ b [(0, 5, .agg (CV x L)), (1, 6, .agg (CV x L)), (2, 7, .agg (CV (bareD x) (keepL (hasF x.f0) L))), (3, 8, .bool q), (4, 9, .bool (!q))] ∧ (Below W.heap.size W w')) HT_.out HW_.out (by kernel_rfl) (by kernel_rfl) ?_ ?_ ?_
  · exact ⟨by simp only [putSel, Bool.false_eq_true, if_false], below_drew (Below.refl _ _)⟩
  · skip
    clear B
    refine steps_cons ?_ ?_
    · rintro b a w' ⟨ha, Q_B⟩ hb_ hon hoff
      refine ⟨_, rfl, fun K hK => ?_⟩
      have e1 : a.tmps[1]? = some (.pointer (some ⟨w.heap.size, 0, none⟩)) := by rw [ha]; exact (putSel_off rfl).trans rfl
      replace ha := Aside0.mk ha
      have B := Aside0.mk Q_B
      refine value_ (w1 := w') (v := .agg (CV x L)) (by rfl) rfl (exec_load_row 30 (.tmp 1) rfl (eval_of e1) (blk_below HX0.out.x0 B.out) Try.underlying30 rfl HXS.out) ?_
      refine hK.out _ _ ⟨(by rw [ha.out]; exact putSel_upk 0 hb_ rfl rfl rfl), B.out⟩
    refine steps_cons ?_ ?_
    · rintro b a w' ⟨ha, Q_B⟩ hb_ hon hoff
      refine ⟨_, rfl, fun K hK => ?_⟩
      have e1 : a.tmps[1]? = some (.pointer (some ⟨w.heap.size, 0, none⟩)) := by rw [ha]; exact (putSel_off rfl).trans rfl
      replace ha := Aside0.mk ha
      have B := Aside0.mk Q_B
      refine value_ (w1 := w') (v := .agg (CV x L)) (by rfl) rfl (exec_load_row 30 (.tmp 1) rfl (eval_of e1) (blk_below HX0.out.x0 B.out) Try.underlying30 rfl HXS.out) ?_
      refine hK.out _ _ ⟨(by rw [ha.out]; exact putSel_upk 1 hb_ rfl rfl rfl), B.out⟩
    refine steps_cons ?_ ?_
    · rintro b a w' ⟨ha, Q_B⟩ hb_ hon hoff
      refine ⟨_, rfl, fun K hK => ?_⟩
      have e6 : a.tmps[6]? = some (.agg (CV x L)) := by rw [ha]; exact putSel_on (e := (1, 6, .agg (CV x L))) 1 rfl rfl (hon 1 (by kernel_rfl)) rfl
      replace ha := Aside0.mk ha
      have B := Aside0.mk Q_B
      refine goes_ Try.func44 (by kernel_rfl) rfl #[.agg (CV x L)] (by rfl) rfl rfl (by first | (simp only [List.map_toArray, List.map_cons, List.map_nil, Act.eval, Array.getD_eq_getD_getElem?, Option.getD_some, e6]; done) | (simp only [List.map_toArray, List.map_cons, List.map_nil, Act.eval, Array.getD_eq_getD_getElem?, Option.getD_some, e6]; rfl)) ?_
      refine (HBR.out w' (HX0.out.below B.out).x2).mono ?_
      rintro e w1 ⟨rfl, hB1⟩
      refine ⟨_, rfl, ?_⟩
      refine hK.out _ _ ⟨(by rw [ha.out]; exact putSel_upk 2 hb_ rfl rfl rfl), B.out.trans (hB1.mono B.out.size)⟩
    refine steps_cons ?_ ?_
    · rintro b a w' ⟨ha, Q_B⟩ hb_ hon hoff
      refine ⟨_, rfl, fun K hK => ?_⟩
      have e5 : a.tmps[5]? = some (.agg (CV x L)) := by rw [ha]; exact putSel_on (e := (0, 5, .agg (CV x L))) 0 rfl rfl (hon 0 (by kernel_rfl)) rfl
      have e7 : a.tmps[7]? = some (.agg (CV (bareD x) (keepL (hasF x.f0) L))) := by rw [ha]; exact putSel_on (e := (2, 7, .agg (CV (bareD x) (keepL (hasF x.f0) L)))) 2 rfl rfl (hon 2 (by kernel_rfl)) rfl
      replace ha := Aside0.mk ha
      have B := Aside0.mk Q_B
      refine goes_ Try.func12 (by kernel_rfl) rfl #[.agg (CV x L), .agg (CV (bareD x) (keepL (hasF x.f0) L))] (by rfl) rfl rfl (by first | (simp only [List.map_toArray, List.map_cons, List.map_nil, Act.eval, Array.getD_eq_getD_getElem?, Option.getD_some, e5, e7]; done) | (simp only [List.map_toArray, List.map_cons, List.map_nil, Act.eval, Array.getD_eq_getD_getElem?, Option.getD_some, e5, e7]; rfl)) ?_
      refine (HSM.out w' (HX0.out.below B.out).x2).mono ?_
      rintro e w1 ⟨rfl, hB1⟩
      refine ⟨_, rfl, ?_⟩
      refine hK.out _ _ ⟨(by rw [ha.out]; exact putSel_upk 3 hb_ rfl rfl rfl), B.out.trans (hB1.mono B.out.size)⟩
    refine steps_cons ?_ ?_
    · rintro b a w' ⟨ha, Q_B⟩ hb_ hon hoff
      refine ⟨_, rfl, fun K hK => ?_⟩
      have e8 : a.tmps[8]? = some (.bool q) := by rw [ha]; exact putSel_on (e := (3, 8, .bool q)) 3 rfl rfl (hon 3 (by kernel_rfl)) rfl
      replace ha := Aside0.mk ha
      have B := Aside0.mk Q_B
      refine value_ (w1 := w') (v := .bool (!q)) (by rfl) rfl ?_ ?_
      · go_simp
        (try simp only [i64_w])
        try rfl
      refine hK.out _ _ ⟨(by rw [ha.out]; exact putSel_upk 4 hb_ rfl rfl rfl), Q_B⟩
    exact steps_nil
  rintro b a w' hall ⟨ha, Q_B⟩
  clear B
  have hb0_ := hall 0 (by kernel_rfl)
  have hb1_ := hall 1 (by kernel_rfl)
  have hb2_ := hall 2 (by kernel_rfl)
  have hb3_ := hall 3 (by kernel_rfl)
  have hb4_ := hall 4 (by kernel_rfl)
  subst ha
  simp only [putSel, hb0_, hb1_, hb2_, hb3_, hb4_, if_true, Act.put, List.setIfInBounds_toArray, List.set_cons_zero, List.set_cons_succ]
  have B := Aside0.mk Q_B
  clear Q_B
  clear hall hb0_ hb1_ hb2_ hb3_ hb4_
  replace X := X.below B.out
  clear B HBR HSM HX0
  generalize w' = W at *
  cases q with
  | false =>
    have hC : CD = 63 := by rw [← HCD.out]; unfold checkD; rw [if_pos HQ.out]
    subst hC
    go_wp2
    go_ret
    exact ⟨rfl, X.x2⟩
  | true =>
  have HXE := Lib.hid (show x = bareD x from of_decide_eq_true HQ.out)
  have n1 : ¬ decide (x = bareD x) = false := by rw [HQ.out]; decide
  have hcd := HCD.out
  unfold checkD at hcd
  rw [if_neg n1] at hcd
  clear n1 HCD
  have k0 : W.cell? ⟨w.heap.size, 0, none⟩ = some (.int .u8 x.f0) := X.cell 0
  have k10 : W.cell? ⟨w.heap.size, 10, none⟩ = some (.slice L.A10 x.f10.length L.c10) := X.cell 10
  have k11 : W.cell? ⟨w.heap.size, 11, none⟩ = some (.slice L.A11 x.f11.length L.c11) := X.cell 11
  have k12 : W.cell? ⟨w.heap.size, 12, none⟩ = some (.slice L.A12 x.f12.length L.c12) := X.cell 12
  have k13 : W.cell? ⟨w.heap.size, 13, none⟩ = some (.slice L.A13 x.f13.length L.c13) := X.cell 13
  have k14 : W.cell? ⟨w.heap.size, 14, none⟩ = some (.slice L.A14 x.f14.length L.c14) := X.cell 14
  by_cases h62 : x.f0 = 0 ∧ x.f13.length = 0
  · rw [if_pos h62] at hcd
    have q0 : (x.f0 == 0) = true := by simp [h62.1]
    have q13 : ((x.f13.length : Int) == 0) = true := by rw [h62.2]; rfl
    subst hcd
    clear h62
    go_wp2
    go_ret
    exact ⟨rfl, X.x2⟩
  rw [if_neg h62] at hcd
  have hbt : beatB x.f14 = true ∨ beatB x.f14 = false := by cases beatB x.f14 <;> simp
  by_cases h61 : (x.f0 = 4 ∨ x.f0 = 5) ∧ beatB x.f14 = false
  · rw [if_pos h61] at hcd
    have q0 : (x.f0 == 0) = false := by simp; omega
    subst hcd
    by_cases hn : x.f14.length = 1
    · obtain ⟨p, hp⟩ := List.length_eq_one_iff.1 hn
      have hpf : ¬ p.f0 = 1 := fun e => by
        have := h61.2
        rw [hp] at this
        simp [beatB, e] at this
      have qn : ((x.f14.length : Int) != 1) = false := by rw [hn]; rfl
      have qp : (p.f0 != 1) = true := by simp [hpf]
      have HBT := Lib.hid (fun (W' : World) (h : Below w.heap.size w W') => ropewalkref06_beat.calls x.f0 x.f1 x.f2 x.f3 x.f4 x.f5 x.f6 x.f7 x.f8 x.f9 L.A10 L.c10 x.f10 L.A11 L.c11 x.f11 L.A12 L.c12 x.f12 L.A13 L.c13 x.f13 L.A14 L.c14 x.f14 true W' (HXC.out W' h).h10 (HXC.out W' h).l10 (HXC.out W' h).h11 (HXC.out W' h).l11 (HXC.out W' h).h12 (HXC.out W' h).l12 (HXC.out W' h).h13 (HXC.out W' h).l13 (HXC.out W' h).h14 (HXC.out W' h).l14 (rb4_f h61.1 _ _ _ _ _ _ _ _ _ _ _ _ _ _))
      go_wp2_with (with_reducible refine gate_dst (N := 19) rfl ?_; refine wpList_load_row rfl 30 (.tmp 1) rfl _ rfl 30 _ (0, 0) _ X.x0 Try.underlying30 rfl HXS.out ?_)
      refine (HBT.out _ X.x2).mono ?_
      rintro e w2 ⟨rfl, hB2⟩
      replace X := X.below hB2
      clear HBT
      have hAt := HXC.out w2 X.x2
      have x0 := (prm_one hAt hp)
      obtain ⟨ad, hA, x0⟩ := x0
      have k14 : w2.cell? ⟨w.heap.size, 14, none⟩ = some (.slice L.A14 x.f14.length L.c14) := X.cell 14
      rw [hA, hn] at k14
      clear hAt h61 h62 hbt hpf hp hn
      go_wp2
      go_ret
      exact ⟨rfl, X.x2⟩
    · have qn : ((x.f14.length : Int) != 1) = true := by simp; omega
      have HBT := Lib.hid (fun (W' : World) (h : Below w.heap.size w W') => ropewalkref06_beat.calls x.f0 x.f1 x.f2 x.f3 x.f4 x.f5 x.f6 x.f7 x.f8 x.f9 L.A10 L.c10 x.f10 L.A11 L.c11 x.f11 L.A12 L.c12 x.f12 L.A13 L.c13 x.f13 L.A14 L.c14 x.f14 true W' (HXC.out W' h).h10 (HXC.out W' h).l10 (HXC.out W' h).h11 (HXC.out W' h).l11 (HXC.out W' h).h12 (HXC.out W' h).l12 (HXC.out W' h).h13 (HXC.out W' h).l13 (HXC.out W' h).h14 (HXC.out W' h).l14 (rb4_f h61.1 _ _ _ _ _ _ _ _ _ _ _ _ _ _))
      go_wp2_with (with_reducible refine gate_dst (N := 19) rfl ?_; refine wpList_load_row rfl 30 (.tmp 1) rfl _ rfl 30 _ (0, 0) _ X.x0 Try.underlying30 rfl HXS.out ?_)
      refine (HBT.out _ X.x2).mono ?_
      rintro e w2 ⟨rfl, hB2⟩
      replace X := X.below hB2
      clear HBT
      have k14 : w2.cell? ⟨w.heap.size, 14, none⟩ = some (.slice L.A14 x.f14.length L.c14) := X.cell 14
      clear h61 h62 hbt hn
      go_wp2
      go_ret
      exact ⟨rfl, X.x2⟩
  rw [if_neg h61] at hcd
  have HCD := Lib.hid hcd
  clear hcd
  have hq0 : (x.f0 == 0) = true ∧ ((x.f13.length : Int) == 0) = false ∨ (x.f0 == 0) = false := by
    by_cases a0 : x.f0 = 0
    · exact Or.inl ⟨by simp [a0], by rw [beq_eq_false_iff_ne]; intro e; exact h62 ⟨a0, by omega⟩⟩
    · exact Or.inr (by simp [a0])
  have hvar : (x.f0 = 4 ∨ x.f0 = 5) ∧ beatB x.f14 = true ∨ ¬ (x.f0 = 4 ∨ x.f0 = 5) := by
    by_cases a4 : x.f0 = 4 ∨ x.f0 = 5
    · exact Or.inl ⟨a4, hbt.elim id (fun e => absurd ⟨a4, e⟩ h61)⟩
    · exact Or.inr a4
  have hz : x.f0 = 0 → ¬ (x.f0 = 4 ∨ x.f0 = 5) := by omega
  clear h61 h62 hbt
  rcases hvar with ⟨a4, hbt⟩ | a4
  · have q0 : (x.f0 == 0) = false := by simp; omega
    clear hq0 hz
    obtain ⟨p, hp, hpf⟩ : ∃ p, x.f14 = [p] ∧ p.f0 = 1 := by
      cases hx14 : x.f14 with
      | nil => rw [hx14] at hbt; cases hbt
      | cons p r =>
        cases r with
        | nil => rw [hx14] at hbt; exact ⟨p, rfl, by simpa [beatB] using hbt⟩
        | cons q r => rw [hx14] at hbt; cases hbt
    have hn : x.f14.length = 1 := by rw [hp]; rfl
    have qn : ((x.f14.length : Int) != 1) = false := by rw [hn]; rfl
    have qp : (p.f0 != 1) = false := by simp [hpf]
    have HBT := Lib.hid (fun (W' : World) (h : Below w.heap.size w W') => ropewalkref06_beat.calls x.f0 x.f1 x.f2 x.f3 x.f4 x.f5 x.f6 x.f7 x.f8 x.f9 L.A10 L.c10 x.f10 L.A11 L.c11 x.f11 L.A12 L.c12 x.f12 L.A13 L.c13 x.f13 L.A14 L.c14 x.f14 true W' (HXC.out W' h).h10 (HXC.out W' h).l10 (HXC.out W' h).h11 (HXC.out W' h).l11 (HXC.out W' h).h12 (HXC.out W' h).l12 (HXC.out W' h).h13 (HXC.out W' h).l13 (HXC.out W' h).h14 (HXC.out W' h).l14 (rb4_f a4 _ _ _ _ _ _ _ _ _ _ _ _ _ _))
    go_wp2_with (with_reducible refine gate_dst (N := 19) rfl ?_; refine wpList_load_row rfl 30 (.tmp 1) rfl _ rfl 30 _ (0, 0) _ X.x0 Try.underlying30 rfl HXS.out ?_)
    refine (HBT.out _ X.x2).mono ?_
    rintro e w2 ⟨rfl, hB2⟩
    replace X := X.below hB2
    clear HBT
    have hAt := HXC.out w2 X.x2
    obtain ⟨ad, hA, x0⟩ := prm_one hAt hp
    have k14' : w2.cell? ⟨w.heap.size, 14, none⟩ = some (.slice L.A14 x.f14.length L.c14) := X.cell 14
    rw [hA, hn] at k14'
    clear hAt hbt hpf hp a4 k14
    go_upto_region 7 with (fail)
    refine wp_gen (B1 w x L) X ?_
    clear X k0 k10 k11 k12 k13 k14' x0 q0 qn qp hA hn
    intro W X
    have k10 : W.cell? ⟨w.heap.size, 10, none⟩ = some (.slice L.A10 x.f10.length L.c10) := X.cell 10
    have k11 : W.cell? ⟨w.heap.size, 11, none⟩ = some (.slice L.A11 x.f11.length L.c11) := X.cell 11
    have k12 : W.cell? ⟨w.heap.size, 12, none⟩ = some (.slice L.A12 x.f12.length L.c12) := X.cell 12
    have k14 : W.cell? ⟨w.heap.size, 14, none⟩ = some (.slice L.A14 x.f14.length L.c14) := X.cell 14
    by_cases hm : 4096 < x.f10.length ∨ 4096 < x.f11.length ∨ 4096 < x.f12.length
    · have hc := HCD.out
      rw [if_pos hm] at hc
      have HEW := Lib.hid (HEN.out W X.x2)
      generalize (encP x.f14).2 = ec at *
      subst hc
      go_wp2_with fail
      refine HEW.out.mono ?_
      rintro e w3 ⟨v0, rfl, hR, hB3⟩
      obtain ⟨A0, c0, rfl⟩ := Kd.R_slice hR
      replace X := X.below hB3
      clear hR hB3 k10 k11 k12 k14
      have k10 : w3.cell? ⟨w.heap.size, 10, none⟩ = some (.slice L.A10 x.f10.length L.c10) := X.cell 10
      have k11 : w3.cell? ⟨w.heap.size, 11, none⟩ = some (.slice L.A11 x.f11.length L.c11) := X.cell 11
      have k12 : w3.cell? ⟨w.heap.size, 12, none⟩ = some (.slice L.A12 x.f12.length L.c12) := X.cell 12
      go_wp2
      all_goals first | (exfalso; omega) | (go_ret; exact ⟨rfl, X.x2⟩)
    have b10 : decide ((4096 : Int) < (x.f10.length : Int)) = false := by simp; omega
    have b11 : decide ((4096 : Int) < (x.f11.length : Int)) = false := by simp; omega
    have b12 : decide ((4096 : Int) < (x.f12.length : Int)) = false := by simp; omega
    have HCE := Lib.hid HCD.out
    rw [if_neg hm] at HCE
    have l10 : x.f10.length ≤ 4096 := by omega
    have l11 : x.f11.length ≤ 4096 := by omega
    have l12 : x.f12.length ≤ 4096 := by omega
    have HEW := Lib.hid (HEN.out W X.x2)
    have he3 := encP_code x.f14
    by_cases he : (encP x.f14).2 = 0
    · have HVL := Lib.hid (fun (W' : World) (h : Below w.heap.size w W') => rvalue_calls W' x L (HXC.out W' h) HXE.out l10 l11 l12 HL13.out)
      rw [if_neg (fun e => e he)] at HCE
      rw [he] at HEW
      clear hm he he3
      go_wp2_with fail
      refine HEW.out.mono ?_
      rintro e w3 ⟨v0, rfl, hR, hB3⟩
      obtain ⟨A0, c0, rfl⟩ := Kd.R_slice hR
      replace X := X.below hB3
      clear hR hB3 k10 k11 k12 k14
      have k10 : w3.cell? ⟨w.heap.size, 10, none⟩ = some (.slice L.A10 x.f10.length L.c10) := X.cell 10
      have k11 : w3.cell? ⟨w.heap.size, 11, none⟩ = some (.slice L.A11 x.f11.length L.c11) := X.cell 11
      have k12 : w3.cell? ⟨w.heap.size, 12, none⟩ = some (.slice L.A12 x.f12.length L.c12) := X.cell 12
      go_wp2_with (with_reducible refine gate_dst (N := 64) rfl ?_; go_must (refine step_on (wanted_on rfl rfl rfl rfl) (exec_load_row 30 (.tmp 1) rfl rfl X.x0 Try.underlying30 rfl HXS.out) ?_))
      refine (HVL.out _ X.x2).mono ?_
      rintro e w5 ⟨v9, rfl, hR5, hB5⟩
      obtain ⟨A9, c9, rfl⟩ := Kd.R_slice hR5
      replace X := X.below hB5
      clear hR5 hB5
      generalize (valueD x).length = vl at *
      by_cases h2 : 65531 < vl
      · have hc := HCE.out
        rw [if_pos h2] at hc
        subst hc
        go_wp2
        go_ret
        exact ⟨rfl, X.x2⟩
      · have hc := HCE.out
        rw [if_neg h2] at hc
        subst hc
        go_wp2
        go_ret
        exact ⟨rfl, X.x2⟩
    · have hc := HCE.out
      rw [if_pos he] at hc
      rw [hc] at HEW he he3
      rcases he3 with rfl | rfl | rfl
      · exact absurd rfl he
      · clear hm he hc
        go_wp2_with fail
        refine HEW.out.mono ?_
        rintro e w3 ⟨v0, rfl, hR, hB3⟩
        obtain ⟨A0, c0, rfl⟩ := Kd.R_slice hR
        replace X := X.below hB3
        clear hR hB3 k10 k11 k12 k14
        have k10 : w3.cell? ⟨w.heap.size, 10, none⟩ = some (.slice L.A10 x.f10.length L.c10) := X.cell 10
        have k11 : w3.cell? ⟨w.heap.size, 11, none⟩ = some (.slice L.A11 x.f11.length L.c11) := X.cell 11
        have k12 : w3.cell? ⟨w.heap.size, 12, none⟩ = some (.slice L.A12 x.f12.length L.c12) := X.cell 12
        go_wp2
        go_ret
        exact ⟨rfl, X.x2⟩
      · clear hm he hc
        go_wp2_with fail
        refine HEW.out.mono ?_
        rintro e w3 ⟨v0, rfl, hR, hB3⟩
        obtain ⟨A0, c0, rfl⟩ := Kd.R_slice hR
        replace X := X.below hB3
        clear hR hB3 k10 k11 k12 k14
        have k10 : w3.cell? ⟨w.heap.size, 10, none⟩ = some (.slice L.A10 x.f10.length L.c10) := X.cell 10
        have k11 : w3.cell? ⟨w.heap.size, 11, none⟩ = some (.slice L.A11 x.f11.length L.c11) := X.cell 11
        have k12 : w3.cell? ⟨w.heap.size, 12, none⟩ = some (.slice L.A12 x.f12.length L.c12) := X.cell 12
        go_wp2
        go_ret
        exact ⟨rfl, X.x2⟩
  · rcases hq0 with ⟨q0, q13⟩ | q0
    · clear hz
      have HBT := Lib.hid (fun (W' : World) (h : Below w.heap.size w W') => ropewalkref06_beat.calls x.f0 x.f1 x.f2 x.f3 x.f4 x.f5 x.f6 x.f7 x.f8 x.f9 L.A10 L.c10 x.f10 L.A11 L.c11 x.f11 L.A12 L.c12 x.f12 L.A13 L.c13 x.f13 L.A14 L.c14 x.f14 false W' (HXC.out W' h).h10 (HXC.out W' h).l10 (HXC.out W' h).h11 (HXC.out W' h).l11 (HXC.out W' h).h12 (HXC.out W' h).l12 (HXC.out W' h).h13 (HXC.out W' h).l13 (HXC.out W' h).h14 (HXC.out W' h).l14 (nobeat_f a4 _ _ _ _ _ _ _ _ _ _ _ _ _ _))
      go_wp2_with (with_reducible refine gate_dst (N := 19) rfl ?_; refine wpList_load_row rfl 30 (.tmp 1) rfl _ rfl 30 _ (0, 0) _ X.x0 Try.underlying30 rfl HXS.out ?_)
      refine (HBT.out _ X.x2).mono ?_
      rintro e w2 ⟨rfl, hB2⟩
      replace X := X.below hB2
      clear HBT
      clear a4
      go_upto_region 7 with (fail)
      refine wp_gen (B1 w x L) X ?_
      clear X k0 k10 k11 k12 k13 k14 q0 q13
      intro W X
      have k10 : W.cell? ⟨w.heap.size, 10, none⟩ = some (.slice L.A10 x.f10.length L.c10) := X.cell 10
      have k11 : W.cell? ⟨w.heap.size, 11, none⟩ = some (.slice L.A11 x.f11.length L.c11) := X.cell 11
      have k12 : W.cell? ⟨w.heap.size, 12, none⟩ = some (.slice L.A12 x.f12.length L.c12) := X.cell 12
      have k14 : W.cell? ⟨w.heap.size, 14, none⟩ = some (.slice L.A14 x.f14.length L.c14) := X.cell 14
      by_cases hm : 4096 < x.f10.length ∨ 4096 < x.f11.length ∨ 4096 < x.f12.length
      · have hc := HCD.out
        rw [if_pos hm] at hc
        have HEW := Lib.hid (HEN.out W X.x2)
        generalize (encP x.f14).2 = ec at *
        subst hc
        go_wp2_with fail
        refine HEW.out.mono ?_
        rintro e w3 ⟨v0, rfl, hR, hB3⟩
        obtain ⟨A0, c0, rfl⟩ := Kd.R_slice hR
        replace X := X.below hB3
        clear hR hB3 k10 k11 k12 k14
        have k10 : w3.cell? ⟨w.heap.size, 10, none⟩ = some (.slice L.A10 x.f10.length L.c10) := X.cell 10
        have k11 : w3.cell? ⟨w.heap.size, 11, none⟩ = some (.slice L.A11 x.f11.length L.c11) := X.cell 11
        have k12 : w3.cell? ⟨w.heap.size, 12, none⟩ = some (.slice L.A12 x.f12.length L.c12) := X.cell 12
        go_wp2
        all_goals first | (exfalso; omega) | (go_ret; exact ⟨rfl, X.x2⟩)
      have b10 : decide ((4096 : Int) < (x.f10.length : Int)) = false := by simp; omega
      have b11 : decide ((4096 : Int) < (x.f11.length : Int)) = false := by simp; omega
      have b12 : decide ((4096 : Int) < (x.f12.length : Int)) = false := by simp; omega
      have HCE := Lib.hid HCD.out
      rw [if_neg hm] at HCE
      have l10 : x.f10.length ≤ 4096 := by omega
      have l11 : x.f11.length ≤ 4096 := by omega
      have l12 : x.f12.length ≤ 4096 := by omega
      have HEW := Lib.hid (HEN.out W X.x2)
      have he3 := encP_code x.f14
      by_cases he : (encP x.f14).2 = 0
      · have HVL := Lib.hid (fun (W' : World) (h : Below w.heap.size w W') => rvalue_calls W' x L (HXC.out W' h) HXE.out l10 l11 l12 HL13.out)
        rw [if_neg (fun e => e he)] at HCE
        rw [he] at HEW
        clear hm he he3
        go_wp2_with fail
        refine HEW.out.mono ?_
        rintro e w3 ⟨v0, rfl, hR, hB3⟩
        obtain ⟨A0, c0, rfl⟩ := Kd.R_slice hR
        replace X := X.below hB3
        clear hR hB3 k10 k11 k12 k14
        have k10 : w3.cell? ⟨w.heap.size, 10, none⟩ = some (.slice L.A10 x.f10.length L.c10) := X.cell 10
        have k11 : w3.cell? ⟨w.heap.size, 11, none⟩ = some (.slice L.A11 x.f11.length L.c11) := X.cell 11
        have k12 : w3.cell? ⟨w.heap.size, 12, none⟩ = some (.slice L.A12 x.f12.length L.c12) := X.cell 12
        go_wp2_with (with_reducible refine gate_dst (N := 64) rfl ?_; go_must (refine step_on (wanted_on rfl rfl rfl rfl) (exec_load_row 30 (.tmp 1) rfl rfl X.x0 Try.underlying30 rfl HXS.out) ?_))
        refine (HVL.out _ X.x2).mono ?_
        rintro e w5 ⟨v9, rfl, hR5, hB5⟩
        obtain ⟨A9, c9, rfl⟩ := Kd.R_slice hR5
        replace X := X.below hB5
        clear hR5 hB5
        generalize (valueD x).length = vl at *
        by_cases h2 : 65531 < vl
        · have hc := HCE.out
          rw [if_pos h2] at hc
          subst hc
          go_wp2
          go_ret
          exact ⟨rfl, X.x2⟩
        · have hc := HCE.out
          rw [if_neg h2] at hc
          subst hc
          go_wp2
          go_ret
          exact ⟨rfl, X.x2⟩
      · have hc := HCE.out
        rw [if_pos he] at hc
        rw [hc] at HEW he he3
        rcases he3 with rfl | rfl | rfl
        · exact absurd rfl he
        · clear hm he hc
          go_wp2_with fail
          refine HEW.out.mono ?_
          rintro e w3 ⟨v0, rfl, hR, hB3⟩
          obtain ⟨A0, c0, rfl⟩ := Kd.R_slice hR
          replace X := X.below hB3
          clear hR hB3 k10 k11 k12 k14
          have k10 : w3.cell? ⟨w.heap.size, 10, none⟩ = some (.slice L.A10 x.f10.length L.c10) := X.cell 10
          have k11 : w3.cell? ⟨w.heap.size, 11, none⟩ = some (.slice L.A11 x.f11.length L.c11) := X.cell 11
          have k12 : w3.cell? ⟨w.heap.size, 12, none⟩ = some (.slice L.A12 x.f12.length L.c12) := X.cell 12
          go_wp2
          go_ret
          exact ⟨rfl, X.x2⟩
        · clear hm he hc
          go_wp2_with fail
          refine HEW.out.mono ?_
          rintro e w3 ⟨v0, rfl, hR, hB3⟩
          obtain ⟨A0, c0, rfl⟩ := Kd.R_slice hR
          replace X := X.below hB3
          clear hR hB3 k10 k11 k12 k14
          have k10 : w3.cell? ⟨w.heap.size, 10, none⟩ = some (.slice L.A10 x.f10.length L.c10) := X.cell 10
          have k11 : w3.cell? ⟨w.heap.size, 11, none⟩ = some (.slice L.A11 x.f11.length L.c11) := X.cell 11
          have k12 : w3.cell? ⟨w.heap.size, 12, none⟩ = some (.slice L.A12 x.f12.length L.c12) := X.cell 12
          go_wp2
          go_ret
          exact ⟨rfl, X.x2⟩
    · clear hz
      have HBT := Lib.hid (fun (W' : World) (h : Below w.heap.size w W') => ropewalkref06_beat.calls x.f0 x.f1 x.f2 x.f3 x.f4 x.f5 x.f6 x.f7 x.f8 x.f9 L.A10 L.c10 x.f10 L.A11 L.c11 x.f11 L.A12 L.c12 x.f12 L.A13 L.c13 x.f13 L.A14 L.c14 x.f14 false W' (HXC.out W' h).h10 (HXC.out W' h).l10 (HXC.out W' h).h11 (HXC.out W' h).l11 (HXC.out W' h).h12 (HXC.out W' h).l12 (HXC.out W' h).h13 (HXC.out W' h).l13 (HXC.out W' h).h14 (HXC.out W' h).l14 (nobeat_f a4 _ _ _ _ _ _ _ _ _ _ _ _ _ _))
      go_wp2_with (with_reducible refine gate_dst (N := 19) rfl ?_; refine wpList_load_row rfl 30 (.tmp 1) rfl _ rfl 30 _ (0, 0) _ X.x0 Try.underlying30 rfl HXS.out ?_)
      refine (HBT.out _ X.x2).mono ?_
      rintro e w2 ⟨rfl, hB2⟩
      replace X := X.below hB2
      clear HBT
      clear a4
      go_upto_region 7 with (fail)
      refine wp_gen (B1 w x L) X ?_
      clear X k0 k10 k11 k12 k13 k14 q0
      intro W X
      have k10 : W.cell? ⟨w.heap.size, 10, none⟩ = some (.slice L.A10 x.f10.length L.c10) := X.cell 10
      have k11 : W.cell? ⟨w.heap.size, 11, none⟩ = some (.slice L.A11 x.f11.length L.c11) := X.cell 11
      have k12 : W.cell? ⟨w.heap.size, 12, none⟩ = some (.slice L.A12 x.f12.length L.c12) := X.cell 12
      have k14 : W.cell? ⟨w.heap.size, 14, none⟩ = some (.slice L.A14 x.f14.length L.c14) := X.cell 14
      by_cases hm : 4096 < x.f10.length ∨ 4096 < x.f11.length ∨ 4096 < x.f12.length
      · have hc := HCD.out
        rw [if_pos hm] at hc
        have HEW := Lib.hid (HEN.out W X.x2)
        generalize (encP x.f14).2 = ec at *
        subst hc
        go_wp2_with fail
        refine HEW.out.mono ?_
        rintro e w3 ⟨v0, rfl, hR, hB3⟩
        obtain ⟨A0, c0, rfl⟩ := Kd.R_slice hR
        replace X := X.below hB3
        clear hR hB3 k10 k11 k12 k14
        have k10 : w3.cell? ⟨w.heap.size, 10, none⟩ = some (.slice L.A10 x.f10.length L.c10) := X.cell 10
        have k11 : w3.cell? ⟨w.heap.size, 11, none⟩ = some (.slice L.A11 x.f11.length L.c11) := X.cell 11
        have k12 : w3.cell? ⟨w.heap.size, 12, none⟩ = some (.slice L.A12 x.f12.length L.c12) := X.cell 12
        go_wp2
        all_goals first | (exfalso; omega) | (go_ret; exact ⟨rfl, X.x2⟩)
      have b10 : decide ((4096 : Int) < (x.f10.length : Int)) = false := by simp; omega
      have b11 : decide ((4096 : Int) < (x.f11.length : Int)) = false := by simp; omega
      have b12 : decide ((4096 : Int) < (x.f12.length : Int)) = false := by simp; omega
      have HCE := Lib.hid HCD.out
      rw [if_neg hm] at HCE
      have l10 : x.f10.length ≤ 4096 := by omega
      have l11 : x.f11.length ≤ 4096 := by omega
      have l12 : x.f12.length ≤ 4096 := by omega
      have HEW := Lib.hid (HEN.out W X.x2)
      have he3 := encP_code x.f14
      by_cases he : (encP x.f14).2 = 0
      · have HVL := Lib.hid (fun (W' : World) (h : Below w.heap.size w W') => rvalue_calls W' x L (HXC.out W' h) HXE.out l10 l11 l12 HL13.out)
        rw [if_neg (fun e => e he)] at HCE
        rw [he] at HEW
        clear hm he he3
        go_wp2_with fail
        refine HEW.out.mono ?_
        rintro e w3 ⟨v0, rfl, hR, hB3⟩
        obtain ⟨A0, c0, rfl⟩ := Kd.R_slice hR
        replace X := X.below hB3
        clear hR hB3 k10 k11 k12 k14
        have k10 : w3.cell? ⟨w.heap.size, 10, none⟩ = some (.slice L.A10 x.f10.length L.c10) := X.cell 10
        have k11 : w3.cell? ⟨w.heap.size, 11, none⟩ = some (.slice L.A11 x.f11.length L.c11) := X.cell 11
        have k12 : w3.cell? ⟨w.heap.size, 12, none⟩ = some (.slice L.A12 x.f12.length L.c12) := X.cell 12
        go_wp2_with (with_reducible refine gate_dst (N := 64) rfl ?_; go_must (refine step_on (wanted_on rfl rfl rfl rfl) (exec_load_row 30 (.tmp 1) rfl rfl X.x0 Try.underlying30 rfl HXS.out) ?_))
        refine (HVL.out _ X.x2).mono ?_
        rintro e w5 ⟨v9, rfl, hR5, hB5⟩
        obtain ⟨A9, c9, rfl⟩ := Kd.R_slice hR5
        replace X := X.below hB5
        clear hR5 hB5
        generalize (valueD x).length = vl at *
        by_cases h2 : 65531 < vl
        · have hc := HCE.out
          rw [if_pos h2] at hc
          subst hc
          go_wp2
          go_ret
          exact ⟨rfl, X.x2⟩
        · have hc := HCE.out
          rw [if_neg h2] at hc
          subst hc
          go_wp2
          go_ret
          exact ⟨rfl, X.x2⟩
      · have hc := HCE.out
        rw [if_pos he] at hc
        rw [hc] at HEW he he3
        rcases he3 with rfl | rfl | rfl
        · exact absurd rfl he
        · clear hm he hc
          go_wp2_with fail
          refine HEW.out.mono ?_
          rintro e w3 ⟨v0, rfl, hR, hB3⟩
          obtain ⟨A0, c0, rfl⟩ := Kd.R_slice hR
          replace X := X.below hB3
          clear hR hB3 k10 k11 k12 k14
          have k10 : w3.cell? ⟨w.heap.size, 10, none⟩ = some (.slice L.A10 x.f10.length L.c10) := X.cell 10
          have k11 : w3.cell? ⟨w.heap.size, 11, none⟩ = some (.slice L.A11 x.f11.length L.c11) := X.cell 11
          have k12 : w3.cell? ⟨w.heap.size, 12, none⟩ = some (.slice L.A12 x.f12.length L.c12) := X.cell 12
          go_wp2
          go_ret
          exact ⟨rfl, X.x2⟩
        · clear hm he hc
          go_wp2_with fail
          refine HEW.out.mono ?_
          rintro e w3 ⟨v0, rfl, hR, hB3⟩
          obtain ⟨A0, c0, rfl⟩ := Kd.R_slice hR
          replace X := X.below hB3
          clear hR hB3 k10 k11 k12 k14
          have k10 : w3.cell? ⟨w.heap.size, 10, none⟩ = some (.slice L.A10 x.f10.length L.c10) := X.cell 10
          have k11 : w3.cell? ⟨w.heap.size, 11, none⟩ = some (.slice L.A11 x.f11.length L.c11) := X.cell 11
          have k12 : w3.cell? ⟨w.heap.size, 12, none⟩ = some (.slice L.A12 x.f12.length L.c12) := X.cell 12
          go_wp2
          go_ret
          exact ⟨rfl, X.x2⟩
end Go.Proofs.Ytjmadnpicidbeaa.Ch
end
section
namespace Go.Proofs.Ytjmadnpicidbeaa.Ch
open Go.RowKit Go.Proofs.YtjmadnpicidbeaaW.PrintWords Go.Proofs.YtjmadnpicidbeaaW.PrintLast Go.Proofs.Ytjmadnpicidbeaa.Base Go.Proofs.Ytjmadnpicidbeaa.PCh Go.Proofs.Ytjmadnpicidbeaa.ParDec Go.Proofs.Ytjmadnpicidbeaa.ParEnc
set_option maxRecDepth 100000
set_option linter.unusedVariables false
set_option linter.unusedSimpArgs false
theorem chunkL_len (x : Chk) : (chunkL x).length = ((valueD x).length + 7) / 4 * 4 := by
  unfold chunkL padL
  simp only [List.length_append, twoL_length, List.length_cons, List.length_nil, List.length_replicate]
  omega
theorem ints_take (v : List UInt8) (n : Nat) : ints (v.take n) = (ints v).take n := by unfold ints; rw [List.map_take]
theorem dec_back {x : Chk} (ok : OkC x) (h : ChkOk x) {b : List UInt8} {t : List Int} (hb : ints b = chunkL x ++ t) : decC b = (x, ((chunkL x).length : Int), 0) := by
  have hl := len_ints hb
  have hc := chunkL_len x
  have hv := h.len
  have hq : IntKind.u16.wrap (4 + ((valueD x).length : Int)) = ((4 + (valueD x).length : Nat) : Int) := by simp [IntKind.wrap, IntKind.bits, IntKind.signed]; omega
  rw [List.length_append] at hl
  unfold chunkL at hb
  rw [hq, List.append_assoc, List.append_assoc, List.append_assoc] at hb
  obtain ⟨a, r, rfl, ha, h1⟩ := ints_cons hb
  obtain ⟨c, r, rfl, hc1, h2⟩ := ints_cons h1
  obtain ⟨n1, n2⟩ := be2 (v := r) h2 (by unfold in16; omega)
  have n1' : be (r.take 2) = 4 + (valueD x).length := by omega
  unfold decC
  rw [if_neg (by omega)]
  rw [show ((a :: c :: r).drop 2).take 2 = r.take 2 from rfl, n1', if_neg (by omega), show (a :: c :: r).getD 0 0 = a from rfl, show (a :: c :: r).getD 1 0 = c from rfl, ha, hc1, fl_of h.bare]
  have hvv : ints (((a :: c :: r).take (4 + (valueD x).length)).drop 4) = valueD x := by
    rw [List.drop_take, show 4 + (valueD x).length - 4 = (valueD x).length by omega, ints_take, show (a :: c :: r).drop 4 = r.drop 2 from rfl, n2]
    exact List.take_left
  rw [read_back ok h hvv]
  dsimp only
  rw [show min ((4 + (valueD x).length + 3) / 4 * 4) (a :: c :: r).length = (chunkL x).length by omega]
theorem be_lt (l : List UInt8) : ∀ a, l.foldl (fun a b => a * 256 + b.toNat) a < (a + 1) * 256 ^ l.length := by
  induction l with
  | nil => intro a; simp
  | cons b r ih =>
    intro a
    have h1 := ih (a * 256 + b.toNat)
    have h2 := b.toNat_lt
    refine Nat.lt_of_lt_of_le h1 ?_
    rw [List.length_cons, Nat.pow_succ, Nat.mul_comm (256 ^ r.length) 256, ← Nat.mul_assoc]
    exact Nat.mul_le_mul_right _ (by omega)
theorem be_in16 (v : List UInt8) : in16 (be (v.take 2) : Int) := by
  have h := be_lt (v.take 2) 0
  have hl : (v.take 2).length ≤ 2 := by rw [List.length_take]; omega
  have := Nat.pow_le_pow_right (n := 256) (by decide) hl
  unfold in16 be
  omega
theorem be_in32 (v : List UInt8) (hl : v.length ≤ 4) : in32 (be v : Int) := by
  have h := be_lt v 0
  have := Nat.pow_le_pow_right (n := 256) (by decide) hl
  unfold in32 be
  omega
theorem be4_in (v : List UInt8) : in32 (be (v.take 4) : Int) := be_in32 _ (by rw [List.length_take]; omega)
theorem gapsD_ok (n : Nat) : ∀ v, ∀ g ∈ gapsD n v, okG g := by
  induction n with
  | zero => intro v g h; cases h
  | succ n ih =>
    intro v g h
    rcases List.mem_cons.1 h with rfl | h
    · exact ⟨be_in16 _, be_in16 _⟩
    · exact ih _ g h
theorem dupsD_ok (n : Nat) : ∀ v, ∀ g ∈ dupsD n v, in32 g := by
  induction n with
  | zero => intro v g h; cases h
  | succ n ih =>
    intro v g h
    rcases List.mem_cons.1 h with rfl | h
    · exact be4_in _
    · exact ih _ g h
theorem prmsD_all {v : List UInt8} {ps : List PrmS} (h : prmsD v = .ok ps) : (∀ p ∈ ps, okQ p) ∧ (encP ps).2 = 0 ∧ (encP ps).1.length ≤ v.length := by
  unfold prmsD at h
  by_cases e : (decD v).2.2 = 0
  · rw [if_pos e] at h
    injection h with h
    subst h
    obtain ⟨h1, h2, h3, h4⟩ := dec_ok v e
    have hr := runB_short _ (okP_short h2) []
    unfold encP
    rw [if_neg (by omega), hr]
    exact ⟨fun p hp => ⟨⟨(h2 p hp).1, (h2 p hp).2.1⟩, fun b hb => (h2 p hp).2.2.2 b hb⟩, rfl, h3⟩
  · rw [if_neg e] at h
    cases h
theorem flD_in (kd f1 : Int) (h0 : 0 ≤ f1) (h1 : f1 < 256) : inB (flD kd f1) ∧ flD kd (flD kd f1) = flD kd f1 := by
  have key : ∀ k : Int, (k = 0 ∨ k = 1 ∨ k = 7 ∨ k = 255) → ∀ f, 0 ≤ f → f < 256 → bits .and .u8 f k = f % (k + 1) := by
    intro k hk f f0 f1
    rcases hk with rfl | rfl | rfl | rfl
    · exact and_mod f 0 f0 f1 (by decide)
    · exact and_mod f 1 f0 f1 (by decide)
    · exact and_mod f 3 f0 f1 (by decide)
    · exact and_mod f 8 f0 f1 (by decide)
  have hm : maskD kd = 0 ∨ maskD kd = 1 ∨ maskD kd = 7 ∨ maskD kd = 255 := by
    unfold maskD
    split
    · exact Or.inr (Or.inr (Or.inl rfl))
    · split
      · exact Or.inr (Or.inl rfl)
      · split
        · exact Or.inl rfl
        · exact Or.inr (Or.inr (Or.inr rfl))
  have e1 := key _ hm f1 h0 h1
  unfold flD
  rw [e1]
  have hp : 0 ≤ f1 % (maskD kd + 1) ∧ f1 % (maskD kd + 1) < 256 := by rcases hm with h | h | h | h <;> rw [h] <;> omega
  refine ⟨hp, ?_⟩
  rw [key _ hm _ hp.1 hp.2]
  rcases hm with h | h | h | h <;> rw [h] <;> omega
end Go.Proofs.Ytjmadnpicidbeaa.Ch
end
section
namespace Go.Proofs.Ytjmadnpicidbeaa.Ch
open Go.RowKit Go.Proofs.YtjmadnpicidbeaaW.PrintWords Go.Proofs.YtjmadnpicidbeaaW.PrintLast Go.Proofs.Ytjmadnpicidbeaa.Base Go.Proofs.Ytjmadnpicidbeaa.PCh Go.Proofs.Ytjmadnpicidbeaa.ParDec Go.Proofs.Ytjmadnpicidbeaa.ParEnc
set_option maxRecDepth 100000
set_option linter.unusedVariables false
set_option linter.unusedSimpArgs false
def encAT13 : Bool × List (List Nat × List Nat) := (true, [([], []), ([], []), ([1], [1]), ([2], [2]), ([3], [3]), ([], []), ([5], [5]), ([], []), ([7], [7]), ([6, 8], [6, 8]), ([4, 9], [4, 9]), ([0, 0, 1, 2, 3, 4, 5, 6, 7, 8, 9, 10], [0]), ([11, 0, 1, 2, 3, 4, 5, 6, 7, 8, 9, 10], [11]), ([12, 10, 10, 0, 1, 2, 3, 4, 5, 6, 7, 8, 9, 10], [10, 12])])
def encAB13 : List Nat := [0, 0, 2, 6, 14, 0, 32, 0, 128, 480, 1022, 2047, 4095, 8191]
theorem encAtab13 : Go.Proofs.YtjmadnpicidbeaaW.PrintLast.rtab .any (Go.Proofs.YtjmadnpicidbeaaW.PrintLast.opsOf Try.f15 13) = encAT13 := by kernel_rfl
theorem encAbits13 : Go.Proofs.YtjmadnpicidbeaaW.PrintLast.waitsOk encAT13.2 encAB13 = true := by kernel_rfl
def encBT16 : Bool × List (List Nat × List Nat) := (true, [([], []), ([], []), ([1], [1]), ([2], [2]), ([3], [3]), ([], []), ([5], [5]), ([6], [6]), ([], []), ([8], [8]), ([7, 9], [7, 9]), ([4, 10, 7], [4, 10]), ([0, 0, 1, 2, 3, 4, 5, 6, 7, 8, 9, 10, 11], [0]), ([12, 0, 1, 2, 3, 4, 5, 6, 7, 8, 9, 10, 11], [12]), ([13, 11, 11, 0, 1, 2, 3, 4, 5, 6, 7, 8, 9, 10, 11], [11, 13])])
def encBB16 : List Nat := [0, 0, 2, 6, 14, 0, 32, 96, 0, 256, 992, 2046, 4095, 8191, 16383]
theorem encBtab16 : Go.Proofs.YtjmadnpicidbeaaW.PrintLast.rtab .any (Go.Proofs.YtjmadnpicidbeaaW.PrintLast.opsOf Try.f15 16) = encBT16 := by kernel_rfl
theorem encBbits16 : Go.Proofs.YtjmadnpicidbeaaW.PrintLast.waitsOk encBT16.2 encBB16 = true := by kernel_rfl
set_option maxHeartbeats 4000000 in
theorem encode_chunks (w : World) (A : Option Addr) (c : Nat) (l : List Chk) (hl : Kd.C k30 w A l.length l)
    (hck : ∀ x ∈ l, ∀ W L, CR W x L → Calls Try.prog 16 #[.agg (CV x L)] W fun e w' => e = .returned (.int .i64 (checkD x)) ∧ Below W.heap.size W w')
    (hval : ∀ x ∈ l, checkD x = 0 → ∀ W L, w.heap.size ≤ W.heap.size → (∀ W', Below w.heap.size W W' → CR W' x L) → Calls Try.prog 36 #[.agg (CV x L)] W (ValQ w.heap.size (valueD x) W)) :
    Calls Try.prog 15 #[.slice A l.length c] w fun e w' => ∃ v, e = .returned (.tuple #[v, .int .i64 (encD l).2]) ∧ (Kd.int .u8).R 5 w' w.heap.size (fun _ => True) v (encD l).1 ∧ Below w.heap.size w w' := by
  have HLC := Lib.hid (fun (W : World) (h : Below w.heap.size w W) => Kd.C_below hl h)
  have HCK := Lib.hid hck
  have HVAL := Lib.hid hval
  have HMX := Lib.hid hl.2.1
  obtain ⟨E, hE⟩ : ∃ E, encD l = E := ⟨_, rfl⟩
  rw [hE]
  have HE := Lib.hid hE
  clear hl hck hval hE
  go_enter Try.func15, Try.ntmps15
  have hm := HMX.out
  go_wp2
  go_loopw [13] (fun v13 wr => ∃ (i : Nat), i ≤ l.length ∧ v13 = .int .i64 (i : Int) ∧ Hid (chkAll (l.drop i) = chkAll l) ∧ Hid (Below w.heap.size w wr)) (fun v13 _ => l.length - (intOf v13).toNat)
  case atStart => exact ⟨0, Nat.zero_le _, rfl, rfl, Below.refl _ _⟩
  case round =>
    obtain ⟨i, hi, rfl, HA, HB⟩ := hrel
    by_cases hlt : i < l.length
    · obtain ⟨ad, x, L, rfl, hd, hxm, hcell, hx⟩ := chk_at (HLC.out wr HB.out) i hlt
      have hA := HA.out
      rw [hd, chkAll] at hA
      have HCX := Lib.hid (HCK.out x hxm (wr.alloc (.cells (CV x L) 30)) L (hx.below (below_alloc (Below.refl _ _) _)))
      have HCL := Lib.hid hcell
      have HXS := Lib.hid (show (Try.prog.info? 30).map (·.size) = some (CV x L).size by kernel_rfl)
      have HXZ := Lib.hid (show (#[.int .u8 0, .int .u8 0, .int .u32 0, .int .u16 0, .int .u16 0, .int .u32 0, .int .u32 0, .int .u32 0, .int .u16 0, .int .u16 0, .slice none 0 0, .slice none 0 0, .slice none 0 0, .slice none 0 0, .slice none 0 0] : Array Value).size = (CV x L).size from rfl)
      have HXO := Lib.hid (CV_one x L)
      clear hcell hd hxm
      generalize checkD x = q at *
      generalize CV x L = CX at *
      clear hx HA
      have HA2 := Lib.hid hA
      clear hA
      go_wp2_with (first | (with_reducible refine gate_dst (N := 16) rfl ?_; go_must (refine wpList_load_cells rfl 30 (.tmp 15) rfl rfl CX _ (fun j v hv => HCL.out j v hv) Try.underlying30 rfl HXS.out ?_)) | (with_reducible refine gate_dst (N := 5) rfl ?_; go_must (refine wpList_box rfl rfl 5 rfl rfl (.tmp 16) rfl CX rfl rfl HXZ.out HXS.out HXO.out ?_)) | (with_reducible refine gate_dst (N := 17) rfl ?_; go_must (refine wpList_load_cells rfl 30 (.tmp 5) rfl rfl CX _ (cells_of_blk (blk_new wr (.cells CX 30))) Try.underlying30 rfl HXS.out ?_)))
      refine HCX.out.mono ?_
      rintro e w1 ⟨rfl, hB1⟩
      have HB2 := Lib.hid (below_then HB.out (by have := HB.out.size; exact this) (below_then (below_alloc (Below.refl wr.heap.size wr) (.cells CX 30)) (by simp) hB1))
      clear hB1 HB HCL
      by_cases hq : q = 0
      · subst hq
        have hA := HA2.out
        rw [if_pos rfl] at hA
        have HA := Lib.hid hA
        clear hA HA2
        go_wp2
        go_roundw
        case rel => exact ⟨i + 1, by omega, by go_num, HA, HB2⟩
        case measure => simp [intOf]; omega
      · have hA := HA2.out
        rw [if_neg hq] at hA
        have HA := Lib.hid hA
        clear hA HA2
        go_wp2
        go_ret2
        have hE : encD l = ([], q) := by unfold encD; rw [← HA.out, if_neg hq]
        rw [← HE.out, hE]
        exact ⟨_, rfl, Kd.R_nil _ _ _ _ _, HB2.out⟩
    · obtain rfl : i = l.length := by omega
      have hA := HA.out
      rw [List.drop_length, chkAll] at hA
      have HAL := Lib.hid hA.symm
      have HRE := Lib.hid (show runE [] l = E by have := HE.out; unfold encD at this; rw [if_pos hA.symm] at this; exact this)
      clear hA HA HCK HE
      go_wp2
      have HW0 := Lib.hid (show WS (wr.alloc (.cells #[.slice none 0 0] 66)) wr.heap.size [] from ⟨_, blk_new _ _, Kd.R_nil _ _ _ _ _⟩)
      have HBW := Lib.hid (below_alloc HB.out (.cells #[.slice none 0 0] 66))
      have HGW := Lib.hid (show w.heap.size ≤ wr.heap.size from HB.out.size)
      clear HB
      generalize wr.alloc (.cells #[.slice none 0 0] 66) = W0 at *
      generalize wr.heap.size = gw at *
      go_loopw [27] (fun v27 wr => ∃ (i : Nat) (acc : List Int), i ≤ l.length ∧ v27 = .int .i64 (i : Int) ∧ Hid (runE acc (l.drop i) = E) ∧ Hid (acc.length ≤ 65536) ∧ Hid (WS wr gw acc) ∧ Hid (Below w.heap.size w wr)) (fun v27 _ => l.length - (intOf v27).toNat)
      case atStart => exact ⟨0, [], Nat.zero_le _, rfl, HRE.out, (by show _ ≤ _; simp), HW0.out, HBW.out⟩
      case round =>
        obtain ⟨i, acc, hi, rfl, HA, HLA, HW, HB⟩ := hrel
        by_cases hlt : i < l.length
        · obtain ⟨ad, x, L, rfl, hd, hxm, hcell, hx⟩ := chk_at (HLC.out w (Below.refl _ _)) i hlt
          have hA := HA.out
          rw [hd, runE, chunkL] at hA
          have hc0 := chkAll_mem HAL.out hxm
          have hvl := checkD_len hc0
          have HCL := Lib.hid (fun j v hv => pw_cell_below HB.out (hcell j v hv))
          have HV := Lib.hid (HVAL.out x hxm hc0 (wr.alloc (.cells (CV x L) 30)) L (by have := HB.out.size; rw [World.size_alloc]; omega) (fun W' h => hx.below ((below_alloc HB.out _).trans h)))
          have HXS := Lib.hid (show (Try.prog.info? 30).map (·.size) = some (CV x L).size by kernel_rfl)
          have HXZ := Lib.hid (show (#[.int .u8 0, .int .u8 0, .int .u32 0, .int .u16 0, .int .u16 0, .int .u32 0, .int .u32 0, .int .u32 0, .int .u16 0, .int .u16 0, .slice none 0 0, .slice none 0 0, .slice none 0 0, .slice none 0 0, .slice none 0 0] : Array Value).size = (CV x L).size from rfl)
          have HXO := Lib.hid (CV_one x L)
          have HY0 := Lib.hid (show (CV x L)[0]? = some (.int .u8 x.f0) from rfl)
          have HY1 := Lib.hid (show (CV x L)[1]? = some (.int .u8 x.f1) from rfl)
          clear hcell hd hxm hx hc0 HA HAL HRE HW0 HBW HLC HVAL
          generalize CV x L = CX at *
          generalize valueD x = v at *
          generalize x.f0 = a0 at *
          generalize x.f1 = a1 at *
          obtain ⟨pad, hpad⟩ : ∃ m : Nat, (v.length + 3) / 4 * 4 - v.length = m := ⟨_, rfl⟩
          unfold padL at hA
          rw [hpad] at hA
          simp only [← List.append_assoc] at hA
          have HPL := Lib.hid (show pad ≤ 3 by omega)
          have HSUB := Lib.hid (show wrap64 ((((v.length + 3) / 4 * 4 : Nat) : Int) - (v.length : Int)) = ((pad : Nat) : Int) by unfold wrap64; omega)
          have HPD := Lib.hid (fun W : World => padded_calls v.length (by omega) W)
          have HVL := Lib.hid hvl
          have HA2 := Lib.hid hA
          clear hA hpad hvl
          obtain ⟨n, hn⟩ : ∃ n, v.length = n := ⟨_, rfl⟩
          rw [hn] at HSUB HPD HVL HA2
          have HNV := Lib.hid hn
          clear hn
          generalize hpn : (n + 3) / 4 * 4 = pn at *
          clear hpn
          go_wp2_with (first | (with_reducible refine gate_dst (N := 30) rfl ?_; go_must (refine wpList_load_cells rfl 30 (.tmp 29) rfl rfl CX _ (fun j v hv => HCL.out j v hv) Try.underlying30 rfl HXS.out ?_)) | (with_reducible refine gate_dst (N := 9) rfl ?_; go_must (refine wpList_box rfl rfl 9 rfl rfl (.tmp 30) rfl CX rfl rfl HXZ.out HXS.out HXO.out ?_)) | (with_reducible refine gate_dst (N := 31) rfl ?_; go_must (refine wpList_load_cells rfl 30 (.tmp 9) rfl rfl CX _ (cells_of_blk (blk_new wr (.cells CX 30))) Try.underlying30 rfl HXS.out ?_)))
          refine HV.out.mono ?_
          rintro e W ⟨Av, cv, rfl, hvc, hVC, hB1⟩
          obtain ⟨u, hg, hR⟩ := HW.out
          obtain ⟨Au, cu, rfl⟩ := Kd.R_slice hR
          have hgx := blk_lt hg
          have hsz : (wr.alloc (.cells CX 30)).heap.size = wr.heap.size + 1 := by simp
          have hWz := hB1.size
          rw [hsz] at hWz
          obtain ⟨okW, hokW⟩ : ∃ f : Nat → Prop, ∀ k, f k ↔ (gw < k ∧ (k < wr.heap.size ∨ W.heap.size ≤ k)) := ⟨fun k => gw < k ∧ (k < wr.heap.size ∨ W.heap.size ≤ k), fun k => Iff.rfl⟩
          have HC := Lib.hid (blk_below (blk_alloc hg (.cells CX 30)) hB1)
          have HR := Lib.hid (show (Kd.int .u8).R 5 W (gw + 1) okW (.slice Au acc.length cu) acc from R_only (Kd.R_alloc (Kd.R_mono (Kd.R_bound hR) (fun k hk => (hokW k).2 ⟨by have := hk.2.1; omega, Or.inl hk.2.2.1⟩)) _) (Only.of_below (S := fun _ => False) hB1) (fun _ _ _ h => h))
          have HXB := Lib.hid (blk_below (blk_new wr (.cells CX 30)) hB1)
          have HNX := Lib.hid (show ¬ (wr.heap.size = gw ∨ okW wr.heap.size) from fun h => h.elim (fun h => by omega) (fun h => by have := (hokW _).1 h; omega))
          have HOK := Lib.hid (show ∀ k, W.heap.size ≤ k → okW k from fun k hk => (hokW k).2 ⟨by omega, Or.inr hk⟩)
          have HGO := Lib.hid (show ¬ okW gw from fun h => by have := (hokW _).1 h; omega)
          have HVC := Lib.hid (show ∀ W', Only (fun k => k = gw ∨ okW k) W W' → (Kd.int .u8).C W' Av n v from fun W' hO => by
            rw [← HNV.out]
            exact hVC W' (hO.mono (fun k hk h => by
              rw [hsz]
              have := HGW.out
              rcases h with rfl | h
              · omega
              · have h2 := (hokW k).1 h
                omega)))
          have HBW := Lib.hid ((below_alloc HB.out (.cells CX 30)).trans (hB1.mono (by have := HB.out.size; omega)))
          have HBO := Lib.hid (show ∀ k, (k = gw ∨ okW k) → w.heap.size ≤ k from fun k h => by
            have := HGW.out
            rcases h with rfl | h
            · omega
            · have h2 := (hokW k).1 h
              omega)
          have HXL := Lib.hid (show acc.length ≤ 65536 from HLA.out)
          rw [HNV.out]
          clear hokW hVC hB1 hWz hsz hgx hg hR HW HB HV HCL HLA hvc HXS HXZ HXO
          generalize wr.heap.size = gx at *
          generalize acc = xs at *
          clear wr
          go_upto_region 13 with (fail)
          have B := True.intro
          have C := True.intro
          have R := True.intro
          have D := True.intro
          refine start_ (n := 14) (S := fun w' => True) (ds := []) #[false, false, false, false, false, false, false, false, false, false, false, false, false, false] (by kernel_rfl) rfl rfl trivial (fun hHeld => ?_)
          refine with_tabW encAtab13 encAbits13 (fun HT_ HW_ => ?_)
          refine pure_ (i := 0) (N := some 33) (v := ?_) (a' := ?_) #[true, false, false, false, false, false, false, false, false, false, false, false, false, false] rfl rfl (any_of HT_.out (by kernel_rfl)) (fun _ _ _ h => h) (Or.inl ⟨by rfl, ?_⟩) ?_ ?_
          rotate_left
          · intro w'
            go_simp
            with_reducible rfl
          rotate_left
          · simp only [Act.put, List.setIfInBounds_toArray, List.set_cons_zero, List.set_cons_succ, i64_w, i32_w]
            rfl
          refine pure_ (i := 1) (N := some 34) (v := ?_) (a' := ?_) #[true, true, false, false, false, false, false, false, false, false, false, false, false, false] rfl rfl (any_of HT_.out (by kernel_rfl)) (fun _ _ _ h => h) (Or.inl ⟨by rfl, ?_⟩) ?_ ?_
          rotate_left
          · intro w'
            go_simp
            with_reducible rfl
          rotate_left
          · simp only [Act.put, List.setIfInBounds_toArray, List.set_cons_zero, List.set_cons_succ, i64_w, i32_w]
            rfl
          refine inv_at [2, 3, 4, 5, 6, 7, 8, 9, 10, 11, 12, 13] (fun a0_ b a w' => ∃ (g9 : Nat) (v9 : Value) (m9_ : Value), a = putSel a0_ b [(2, 35, .pointer (some ⟨gw, 0, none⟩)), (3, 36, .pointer (some ⟨gw, 0, none⟩)), (4, 37, .slice Au xs.length cu), (5, 38, .pointer (some ⟨gx, 0, none⟩)), (6, 39, .int .u8 a0), (7, 40, .pointer (some ⟨gx, 1, none⟩)), (8, 41, .int .u8 a1), (9, 42, m9_), (10, 43, v9), (11, 44, .pointer (some ⟨gw, 0, none⟩)), (12, 45, .pointer (some ⟨gw, 0, none⟩))] ∧ (b 10 = false → Only (fun k => k = gw ∨ okW k) W w') ∧ (b 10 = false → w'.heap[gw]? = some (.cells #[.slice Au xs.length cu] 66 (0, 0))) ∧ (b 10 = false → (Kd.int .u8).R 5 w' (gw + 1) okW (.slice Au xs.length cu) (xs)) ∧ (b 9 = true → b 10 = false → (Kd.int .u8).C w' (some ⟨g9, 0, none⟩) 2 [a0, a1]) ∧ (b 10 = true → b 13 = false → (Kd.int .u8).R 5 w' (gw + 1) okW (v9) (xs ++ [a0, a1]) ∧ w'.heap[gw]? = some (.cells #[.slice Au xs.length cu] 66 (0, 0)) ∧ Only (fun k => k = gw ∨ okW k) W w') ∧ (b 13 = true → ∃ u, w'.heap[gw]? = some (.cells #[u] 66 (0, 0)) ∧ (Kd.int .u8).R 5 w' (gw + 1) okW (u) (xs ++ [a0, a1]) ∧ Only (fun k => k = gw ∨ okW k) W w') ∧ (b 9 = true → (m9_ : Value) = .slice (some ⟨g9, 0, none⟩) 2 2)) HT_.out HW_.out (by kernel_rfl) (by kernel_rfl) ?_ ?_ ?_
          · exact ⟨0, .bool false, .bool false, by simp only [putSel, Bool.false_eq_true, if_false], fun _ => (Only.refl _ _).drewN 1, fun _ => HC.out, fun _ => HR.out, fun h_ => absurd h_ (by decide), fun h_ => absurd h_ (by decide), fun h_ => absurd h_ (by decide), fun h_ => absurd h_ (by decide)⟩
          · skip
            clear B C R
            refine steps_cons ?_ ?_
            · rintro b a w' ⟨g9, v9, m9_, ha, Q_B, Q_C, Q_R, Q_D, Q_S1, Q_S2, Q_X9_⟩ hb_ hon hoff
              refine ⟨_, rfl, fun K hK => ?_⟩
              have e34 : a.tmps[34]? = some (.pointer (some ⟨gw, 0, none⟩)) := by rw [ha]; exact (putSel_off rfl).trans rfl
              replace ha := Aside0.mk ha
              have B := Aside0.mk (Q_B (hoff 10 (by kernel_rfl)))
              have C := Aside0.mk (Q_C (hoff 10 (by kernel_rfl)))
              have R := Aside0.mk (Q_R (hoff 10 (by kernel_rfl)))
              refine value_ (w1 := w') (v := .pointer (some ⟨gw, 0, none⟩)) (by rfl) rfl ?_ ?_
              · go_simp
                (try simp only [i64_w])
                try rfl
              refine hK.out _ _ ⟨g9, v9, m9_, (by rw [ha.out]; exact putSel_upk 0 hb_ rfl rfl rfl), Q_B, Q_C, Q_R, Q_D, fun h0_ _ => absurd ((hoff 10 (by kernel_rfl)).symm.trans h0_) (by decide), fun h0_ => absurd ((hoff 13 (by kernel_rfl)).symm.trans h0_) (by decide), Q_X9_⟩
            refine steps_cons ?_ ?_
            · rintro b a w' ⟨g9, v9, m9_, ha, Q_B, Q_C, Q_R, Q_D, Q_S1, Q_S2, Q_X9_⟩ hb_ hon hoff
              refine ⟨_, rfl, fun K hK => ?_⟩
              have e35 : a.tmps[35]? = some (.pointer (some ⟨gw, 0, none⟩)) := by rw [ha]; exact putSel_on (e := (2, 35, .pointer (some ⟨gw, 0, none⟩))) 0 rfl rfl (hon 2 (by kernel_rfl)) rfl
              replace ha := Aside0.mk ha
              have B := Aside0.mk (Q_B (hoff 10 (by kernel_rfl)))
              have C := Aside0.mk (Q_C (hoff 10 (by kernel_rfl)))
              have R := Aside0.mk (Q_R (hoff 10 (by kernel_rfl)))
              refine value_ (w1 := w') (v := .pointer (some ⟨gw, 0, none⟩)) (by rfl) rfl ?_ ?_
              · go_simp
                (try simp only [i64_w])
                try rfl
              refine hK.out _ _ ⟨g9, v9, m9_, (by rw [ha.out]; exact putSel_upk 1 hb_ rfl rfl rfl), Q_B, Q_C, Q_R, Q_D, fun h0_ _ => absurd ((hoff 10 (by kernel_rfl)).symm.trans h0_) (by decide), fun h0_ => absurd ((hoff 13 (by kernel_rfl)).symm.trans h0_) (by decide), Q_X9_⟩
            refine steps_cons ?_ ?_
            · rintro b a w' ⟨g9, v9, m9_, ha, Q_B, Q_C, Q_R, Q_D, Q_S1, Q_S2, Q_X9_⟩ hb_ hon hoff
              refine ⟨_, rfl, fun K hK => ?_⟩
              have e36 : a.tmps[36]? = some (.pointer (some ⟨gw, 0, none⟩)) := by rw [ha]; exact putSel_on (e := (3, 36, .pointer (some ⟨gw, 0, none⟩))) 1 rfl rfl (hon 3 (by kernel_rfl)) rfl
              replace ha := Aside0.mk ha
              have B := Aside0.mk (Q_B (hoff 10 (by kernel_rfl)))
              have C := Aside0.mk (Q_C (hoff 10 (by kernel_rfl)))
              have R := Aside0.mk (Q_R (hoff 10 (by kernel_rfl)))
              have hs := blk_cell C.out 0
              refine value_ (w1 := w') (v := .slice Au xs.length cu) (by rfl) rfl ?_ ?_
              · go_simp
                (try simp only [i64_w])
                try rfl
              refine hK.out _ _ ⟨g9, v9, m9_, (by rw [ha.out]; exact putSel_upk 2 hb_ rfl rfl rfl), Q_B, Q_C, Q_R, Q_D, fun h0_ _ => absurd ((hoff 10 (by kernel_rfl)).symm.trans h0_) (by decide), fun h0_ => absurd ((hoff 13 (by kernel_rfl)).symm.trans h0_) (by decide), Q_X9_⟩
            refine steps_cons ?_ ?_
            · rintro b a w' ⟨g9, v9, m9_, ha, Q_B, Q_C, Q_R, Q_D, Q_S1, Q_S2, Q_X9_⟩ hb_ hon hoff
              refine ⟨_, rfl, fun K hK => ?_⟩
              have e9 : a.tmps[9]? = some (.pointer (some ⟨gx, 0, none⟩)) := by rw [ha]; exact (putSel_off rfl).trans rfl
              replace ha := Aside0.mk ha
              have B := Aside0.mk (Q_B (hoff 10 (by kernel_rfl)))
              have C := Aside0.mk (Q_C (hoff 10 (by kernel_rfl)))
              have R := Aside0.mk (Q_R (hoff 10 (by kernel_rfl)))
              refine value_ (w1 := w') (v := .pointer (some ⟨gx, 0, none⟩)) (by rfl) rfl ?_ ?_
              · go_simp
                (try simp only [i64_w])
                try rfl
              refine hK.out _ _ ⟨g9, v9, m9_, (by rw [ha.out]; exact putSel_upk 3 hb_ rfl rfl rfl), Q_B, Q_C, Q_R, fun h0_ _ => absurd ((hoff 9 (by kernel_rfl)).symm.trans h0_) (by decide), fun h0_ _ => absurd ((hoff 10 (by kernel_rfl)).symm.trans h0_) (by decide), fun h0_ => absurd ((hoff 13 (by kernel_rfl)).symm.trans h0_) (by decide), fun h0_ => absurd ((hoff 9 (by kernel_rfl)).symm.trans h0_) (by decide)⟩
            refine steps_cons ?_ ?_
            · rintro b a w' ⟨g9, v9, m9_, ha, Q_B, Q_C, Q_R, Q_D, Q_S1, Q_S2, Q_X9_⟩ hb_ hon hoff
              refine ⟨_, rfl, fun K hK => ?_⟩
              have e38 : a.tmps[38]? = some (.pointer (some ⟨gx, 0, none⟩)) := by rw [ha]; exact putSel_on (e := (5, 38, .pointer (some ⟨gx, 0, none⟩))) 3 rfl rfl (hon 5 (by kernel_rfl)) rfl
              replace ha := Aside0.mk ha
              have B := Aside0.mk (Q_B (hoff 10 (by kernel_rfl)))
              have C := Aside0.mk (Q_C (hoff 10 (by kernel_rfl)))
              have R := Aside0.mk (Q_R (hoff 10 (by kernel_rfl)))
              have hs : w'.cell? ⟨gx, 0, none⟩ = some (.int .u8 a0) := (blk_cell (B.out.blk HXB.out HNX.out) 0).trans HY0.out
              refine value_ (w1 := w') (v := .int .u8 a0) (by rfl) rfl ?_ ?_
              · go_simp
                (try simp only [i64_w])
                try rfl
              refine hK.out _ _ ⟨g9, v9, m9_, (by rw [ha.out]; exact putSel_upk 4 hb_ rfl rfl rfl), Q_B, Q_C, Q_R, fun h0_ _ => absurd ((hoff 9 (by kernel_rfl)).symm.trans h0_) (by decide), fun h0_ _ => absurd ((hoff 10 (by kernel_rfl)).symm.trans h0_) (by decide), fun h0_ => absurd ((hoff 13 (by kernel_rfl)).symm.trans h0_) (by decide), fun h0_ => absurd ((hoff 9 (by kernel_rfl)).symm.trans h0_) (by decide)⟩
            refine steps_cons ?_ ?_
            · rintro b a w' ⟨g9, v9, m9_, ha, Q_B, Q_C, Q_R, Q_D, Q_S1, Q_S2, Q_X9_⟩ hb_ hon hoff
              refine ⟨_, rfl, fun K hK => ?_⟩
              have e9 : a.tmps[9]? = some (.pointer (some ⟨gx, 0, none⟩)) := by rw [ha]; exact (putSel_off rfl).trans rfl
              replace ha := Aside0.mk ha
              have B := Aside0.mk (Q_B (hoff 10 (by kernel_rfl)))
              have C := Aside0.mk (Q_C (hoff 10 (by kernel_rfl)))
              have R := Aside0.mk (Q_R (hoff 10 (by kernel_rfl)))
              refine value_ (w1 := w') (v := .pointer (some ⟨gx, 1, none⟩)) (by rfl) rfl ?_ ?_
              · go_simp
                (try simp only [i64_w])
                try rfl
              refine hK.out _ _ ⟨g9, v9, m9_, (by rw [ha.out]; exact putSel_upk 5 hb_ rfl rfl rfl), Q_B, Q_C, Q_R, fun h0_ _ => absurd ((hoff 9 (by kernel_rfl)).symm.trans h0_) (by decide), fun h0_ _ => absurd ((hoff 10 (by kernel_rfl)).symm.trans h0_) (by decide), fun h0_ => absurd ((hoff 13 (by kernel_rfl)).symm.trans h0_) (by decide), fun h0_ => absurd ((hoff 9 (by kernel_rfl)).symm.trans h0_) (by decide)⟩
            refine steps_cons ?_ ?_
            · rintro b a w' ⟨g9, v9, m9_, ha, Q_B, Q_C, Q_R, Q_D, Q_S1, Q_S2, Q_X9_⟩ hb_ hon hoff
              refine ⟨_, rfl, fun K hK => ?_⟩
              have e40 : a.tmps[40]? = some (.pointer (some ⟨gx, 1, none⟩)) := by rw [ha]; exact putSel_on (e := (7, 40, .pointer (some ⟨gx, 1, none⟩))) 5 rfl rfl (hon 7 (by kernel_rfl)) rfl
              replace ha := Aside0.mk ha
              have B := Aside0.mk (Q_B (hoff 10 (by kernel_rfl)))
              have C := Aside0.mk (Q_C (hoff 10 (by kernel_rfl)))
              have R := Aside0.mk (Q_R (hoff 10 (by kernel_rfl)))
              have hs : w'.cell? ⟨gx, 1, none⟩ = some (.int .u8 a1) := (blk_cell (B.out.blk HXB.out HNX.out) 1).trans HY1.out
              refine value_ (w1 := w') (v := .int .u8 a1) (by rfl) rfl ?_ ?_
              · go_simp
                (try simp only [i64_w])
                try rfl
              refine hK.out _ _ ⟨g9, v9, m9_, (by rw [ha.out]; exact putSel_upk 6 hb_ rfl rfl rfl), Q_B, Q_C, Q_R, fun h0_ _ => absurd ((hoff 9 (by kernel_rfl)).symm.trans h0_) (by decide), fun h0_ _ => absurd ((hoff 10 (by kernel_rfl)).symm.trans h0_) (by decide), fun h0_ => absurd ((hoff 13 (by kernel_rfl)).symm.trans h0_) (by decide), fun h0_ => absurd ((hoff 9 (by kernel_rfl)).symm.trans h0_) (by decide)⟩
            refine steps_cons ?_ ?_
            · rintro b a w' ⟨g9, v9, m9_, ha, Q_B, Q_C, Q_R, Q_D, Q_S1, Q_S2, Q_X9_⟩ hb_ hon hoff
              refine ⟨_, rfl, fun K hK => ?_⟩
              have e39 : a.tmps[39]? = some (.int .u8 a0) := by rw [ha]; exact putSel_on (e := (6, 39, .int .u8 a0)) 4 rfl rfl (hon 6 (by kernel_rfl)) rfl
              have e41 : a.tmps[41]? = some (.int .u8 a1) := by rw [ha]; exact putSel_on (e := (8, 41, .int .u8 a1)) 6 rfl rfl (hon 8 (by kernel_rfl)) rfl
              replace ha := Aside0.mk ha
              have B := Aside0.mk (Q_B (hoff 10 (by kernel_rfl)))
              have C := Aside0.mk (Q_C (hoff 10 (by kernel_rfl)))
              have R := Aside0.mk (Q_R (hoff 10 (by kernel_rfl)))
              refine value_ (w1 := w'.alloc (.cells #[.int .u8 a0, .int .u8 a1] 5)) (v := .slice (some ⟨w'.heap.size, 0, none⟩) 2 2) (by rfl) rfl (by go_simp; try rfl) ?_
              refine hK.out _ _ ⟨w'.heap.size, v9, (.slice (some ⟨w'.heap.size, 0, none⟩) 2 2), (by rw [ha.out]; exact putSel_upk 7 hb_ rfl rfl rfl), fun _ => B.out.alloc _, fun _ => blk_alloc C.out _, fun _ => Kd.R_alloc R.out _, fun _ _ => (by have := blk_lt C.out; exact row_lit (Kd.int .u8) rfl w' 5 [.int .u8 a0, .int .u8 a1] [a0, a1] rfl (by simp) (fun j v p hv hp => by rcases j with _ | _ | j <;> simp at hv hp <;> (subst hv; subst hp; rfl))), fun h0_ _ => absurd ((hoff 10 (by kernel_rfl)).symm.trans h0_) (by decide), fun h0_ => absurd ((hoff 13 (by kernel_rfl)).symm.trans h0_) (by decide), fun _ => rfl⟩
            refine steps_cons ?_ ?_
            · rintro b a w' ⟨g9, v9, m9_, ha, Q_B, Q_C, Q_R, Q_D, Q_S1, Q_S2, Q_X9_⟩ hb_ hon hoff
              refine ⟨_, rfl, fun K hK => ?_⟩
              have e37 : a.tmps[37]? = some (.slice Au xs.length cu) := by rw [ha]; exact putSel_on (e := (4, 37, .slice Au xs.length cu)) 2 rfl rfl (hon 4 (by kernel_rfl)) rfl
              have e42 : a.tmps[42]? = some (m9_) := by rw [ha]; exact putSel_on (e := (9, 42, m9_)) 7 rfl rfl (hon 9 (by kernel_rfl)) rfl
              rw [Q_X9_ (hon 9 (by kernel_rfl))] at e42
              replace ha := Aside0.mk ha
              have B := Aside0.mk (Q_B hb_)
              have C := Aside0.mk (Q_C hb_)
              have R := Aside0.mk (Q_R hb_)
              have D := Aside0.mk (Q_D (hon 9 (by kernel_rfl)) hb_)
              refine Kd.R_append_rows_step (Kd.int .u8) (Rr := (Kd.int .u8).K w') (w0 := w') (W := w') (gw + 1) (by rfl) _ _ 22 5 _ 1 rfl Try.underlying22 info_u8 rfl (by decide) (by decide) (.slice Au xs.length cu) xs [a0, a1] (some ⟨g9, 0, none⟩) 2 2 okW (fun _ => False) (by simp [Act.eval, Array.getD_eq_getD_getElem?, e37]) (by simp [Act.eval, Array.getD_eq_getD_getElem?, e42]) R.out (D.out) (fun _ _ h => h) (fun _ h => h.elim) (fun k hk => HOK.out k (by have := B.out.size; omega)) (Below.refl _ _) (by have := blk_lt C.out; omega) (by have := HXL.out; simp; omega) ?_
              intro v1 w1 hR1 hB1 hG1 _
              refine hK.out _ _ ⟨g9, v1, m9_, (by rw [ha.out]; exact putSel_upk 8 hb_ rfl rfl rfl), fun h0_ => absurd ((up_self b 10).symm.trans h0_) (by decide), fun h0_ => absurd ((up_self b 10).symm.trans h0_) (by decide), fun h0_ => absurd ((up_self b 10).symm.trans h0_) (by decide), fun _ h1_ => absurd ((up_self b 10).symm.trans h1_) (by decide), fun _ _ => ⟨hR1, blk_grown C.out hG1 (fun e => HGO.out (R.out.1 _ e.symm)), B.out.grown hG1 (fun k _ e => Or.inr (R.out.1 k e))⟩, fun h0_ => absurd ((hoff 13 (by kernel_rfl)).symm.trans h0_) (by decide), Q_X9_⟩
            refine steps_cons ?_ ?_
            · rintro b a w' ⟨g9, v9, m9_, ha, Q_B, Q_C, Q_R, Q_D, Q_S1, Q_S2, Q_X9_⟩ hb_ hon hoff
              refine ⟨_, rfl, fun K hK => ?_⟩
              have e33 : a.tmps[33]? = some (.pointer (some ⟨gw, 0, none⟩)) := by rw [ha]; exact (putSel_off rfl).trans rfl
              replace ha := Aside0.mk ha
              have S1 := Aside0.mk (Q_S1 (hon 10 (by kernel_rfl)) (hoff 13 (by kernel_rfl)))
              refine value_ (w1 := w') (v := .pointer (some ⟨gw, 0, none⟩)) (by rfl) rfl ?_ ?_
              · go_simp
                (try simp only [i64_w])
                try rfl
              refine hK.out _ _ ⟨g9, v9, m9_, (by rw [ha.out]; exact putSel_upk 9 hb_ rfl rfl rfl), fun h0_ => absurd ((hon 10 (by kernel_rfl)).symm.trans h0_) (by decide), fun h0_ => absurd ((hon 10 (by kernel_rfl)).symm.trans h0_) (by decide), fun h0_ => absurd ((hon 10 (by kernel_rfl)).symm.trans h0_) (by decide), fun _ h1_ => absurd ((hon 10 (by kernel_rfl)).symm.trans h1_) (by decide), Q_S1, fun h0_ => absurd ((hoff 13 (by kernel_rfl)).symm.trans h0_) (by decide), Q_X9_⟩
            refine steps_cons ?_ ?_
            · rintro b a w' ⟨g9, v9, m9_, ha, Q_B, Q_C, Q_R, Q_D, Q_S1, Q_S2, Q_X9_⟩ hb_ hon hoff
              refine ⟨_, rfl, fun K hK => ?_⟩
              have e44 : a.tmps[44]? = some (.pointer (some ⟨gw, 0, none⟩)) := by rw [ha]; exact putSel_on (e := (11, 44, .pointer (some ⟨gw, 0, none⟩))) 9 rfl rfl (hon 11 (by kernel_rfl)) rfl
              replace ha := Aside0.mk ha
              have S1 := Aside0.mk (Q_S1 (hon 10 (by kernel_rfl)) (hoff 13 (by kernel_rfl)))
              refine value_ (w1 := w') (v := .pointer (some ⟨gw, 0, none⟩)) (by rfl) rfl ?_ ?_
              · go_simp
                (try simp only [i64_w])
                try rfl
              refine hK.out _ _ ⟨g9, v9, m9_, (by rw [ha.out]; exact putSel_upk 10 hb_ rfl rfl rfl), fun h0_ => absurd ((hon 10 (by kernel_rfl)).symm.trans h0_) (by decide), fun h0_ => absurd ((hon 10 (by kernel_rfl)).symm.trans h0_) (by decide), fun h0_ => absurd ((hon 10 (by kernel_rfl)).symm.trans h0_) (by decide), fun _ h1_ => absurd ((hon 10 (by kernel_rfl)).symm.trans h1_) (by decide), Q_S1, fun h0_ => absurd ((hoff 13 (by kernel_rfl)).symm.trans h0_) (by decide), Q_X9_⟩
            refine steps_cons ?_ ?_
            · rintro b a w' ⟨g9, v9, m9_, ha, Q_B, Q_C, Q_R, Q_D, Q_S1, Q_S2, Q_X9_⟩ hb_ hon hoff
              refine ⟨_, rfl, fun K hK => ?_⟩
              have e45 : a.tmps[45]? = some (.pointer (some ⟨gw, 0, none⟩)) := by rw [ha]; exact putSel_on (e := (12, 45, .pointer (some ⟨gw, 0, none⟩))) 10 rfl rfl (hon 12 (by kernel_rfl)) rfl
              have e43 : a.tmps[43]? = some (v9) := by rw [ha]; exact putSel_on (e := (10, 43, v9)) 8 rfl rfl (hon 10 (by kernel_rfl)) rfl
              replace ha := Aside0.mk ha
              have S1 := Aside0.mk (Q_S1 (hon 10 (by kernel_rfl)) hb_)
              obtain ⟨hR1, hC1, hF1⟩ := S1.out
              obtain ⟨A8, c8, hv9⟩ := Kd.R_slice hR1
              have hs := blk_cell hC1 0
              have hf := blk_frozen hC1 0
              refine skip_ (w1 := w'.setCell ⟨gw, 0, none⟩ v9) (by rfl) rfl (by generalize (xs ++ [a0, a1]).length = zl at hv9; rw [hv9] at e43 ⊢; go_simp; try rfl) ?_
              refine hK.out _ _ ⟨g9, v9, m9_, (by rw [ha.out]; exact putSel_none (v := undef) rfl), fun h0_ => absurd ((hon 10 (by kernel_rfl)).symm.trans h0_) (by decide), fun h0_ => absurd ((hon 10 (by kernel_rfl)).symm.trans h0_) (by decide), fun h0_ => absurd ((hon 10 (by kernel_rfl)).symm.trans h0_) (by decide), fun _ h1_ => absurd ((hon 10 (by kernel_rfl)).symm.trans h1_) (by decide), fun _ h1_ => absurd ((up_self b 13).symm.trans h1_) (by decide), fun _ => ⟨v9, blk_put hC1 0 v9 rfl, Kd.R_far hR1 (p := ⟨gw, 0, none⟩) (fun k hk (e : k = gw) => HGO.out (e ▸ hk)) v9, hF1.setCell (fun _ => Or.inl rfl) v9⟩, Q_X9_⟩
            exact steps_nil
          rintro b a w' hall ⟨g9, v9, m9_, ha, Q_B, Q_C, Q_R, Q_D, Q_S1, Q_S2, Q_X9_⟩
          clear B C R
          have hb2_ := hall 2 (by kernel_rfl)
          have hb3_ := hall 3 (by kernel_rfl)
          have hb4_ := hall 4 (by kernel_rfl)
          have hb5_ := hall 5 (by kernel_rfl)
          have hb6_ := hall 6 (by kernel_rfl)
          have hb7_ := hall 7 (by kernel_rfl)
          have hb8_ := hall 8 (by kernel_rfl)
          have hb9_ := hall 9 (by kernel_rfl)
          have hb10_ := hall 10 (by kernel_rfl)
          have hb11_ := hall 11 (by kernel_rfl)
          have hb12_ := hall 12 (by kernel_rfl)
          have hb13_ := hall 13 (by kernel_rfl)
          subst ha
          obtain rfl := Q_X9_ hb9_
          simp only [putSel, hb2_, hb3_, hb4_, hb5_, hb6_, hb7_, hb8_, hb9_, hb10_, hb11_, hb12_, hb13_, if_true, Act.put, List.setIfInBounds_toArray, List.set_cons_zero, List.set_cons_succ]
          clear Q_B
          clear Q_C
          clear Q_R
          clear Q_D
          clear Q_S1
          have S2 := Aside0.mk (Q_S2 hb13_)
          clear Q_S2
          clear hall hb2_ hb3_ hb4_ hb5_ hb6_ hb7_ hb8_ hb9_ hb10_ hb11_ hb12_ hb13_
          obtain ⟨u, hg, hR, hF⟩ := S2.out
          clear S2 HC HR HY0 HY1 HXB HNX
          have HS := Lib.hid (show WSo okW w' gw (xs ++ [a0, a1]) from ⟨u, hg, hR⟩)
          have HF := Lib.hid hF
          clear hg hR hF
          clear u
          obtain ⟨q, hq⟩ : ∃ q, IntKind.u16.wrap (4 + (n : Int)) = q := ⟨_, rfl⟩
          have HQ := Lib.hid (show IntKind.u16.wrap (wrap64 (4 + (n : Int))) = q by rw [show wrap64 (4 + (n : Int)) = 4 + (n : Int) by unfold wrap64; have := HVL.out; omega, hq])
          rw [hq] at HA2
          clear hq
          have HXL3 := Lib.hid (show (xs ++ [a0, a1]).length + 2 * [q].length ≤ 140737488355328 by have := HXL.out; simp only [List.length_append, List.length_cons, List.length_nil]; omega)
          go_wp2_with fail
          rw [HQ.out]
          refine (wtwo_lit_o w' gw okW (fun k hk => HOK.out k (Nat.le_trans HF.out.size hk)) HGO.out (xs ++ [a0, a1]) [q] [.int .u16 q] 1 rfl rfl HS.out HXL3.out).mono ?_
          rintro e w4 ⟨rfl, hS4, hO4⟩
          have HF4 := Lib.hid (HF.out.trans hO4 (fun k _ h => h))
          have hxl : (xs ++ [a0, a1] ++ twoL [q]).length ≤ 65540 := by have := HXL.out; simp [twoL_length]; omega
          have HXL4 := Lib.hid hxl
          generalize xs ++ [a0, a1] ++ twoL [q] = ys at *
          obtain ⟨u, hg, hR⟩ := hS4
          obtain ⟨Au4, cu4, rfl⟩ := Kd.R_slice hR
          have k0 : w4.cell? ⟨gw, 0, none⟩ = some (.slice Au4 ys.length cu4) := blk_cell hg 0
          have HG4 := Lib.hid hg
          have HR4 := Lib.hid hR
          have HVC4 := Lib.hid (HVC.out w4 HF4.out)
          clear hO4 hxl hg hR HS HF HQ HVC HXL HXL3
          go_wp2_with (at_builtin; go_must (refine Kd.R_append_row (Value.int .u8) (0 : Int) (w0 := w4) (W := w4) (gw + 1) rfl _ _ 22 5 _ 1 rfl Try.underlying22 info_u8 rfl (by decide) (.slice Au4 ys.length cu4) ys v Av n cv okW rfl rfl (fun k hk => HOK.out k (Nat.le_trans HF4.out.size hk)) HR4.out HVC4.out (Below.refl _ _) (by have := blk_lt HG4.out; omega) (by have := HXL4.out; have := HVL.out; have := HNV.out; omega) ?_); (intro v1 w1 hR1 hB1 hG1 _; have HR1 := Lib.hid hR1; have HB1 := Lib.hid hB1; have HGR := Lib.hid hG1; clear hR1 hB1 hG1; refine RowKit.Hid.out ?_))
          refine Lib.hid ?_
          obtain ⟨A7, c7, hv1⟩ := Kd.R_slice HR1.out
          subst hv1
          have hg1 := blk_grown HG4.out HGR.out (fun e => HGO.out (HR4.out.1 _ e.symm))
          have hs := blk_cell hg1 0
          have hf := blk_frozen hg1 0
          have HF5 := Lib.hid ((HF4.out.grown HGR.out (fun k _ e => Or.inr (HR4.out.1 k e))).setCell (p := ⟨gw, 0, none⟩) (fun _ => Or.inl rfl) (.slice A7 (ys ++ v).length c7))
          have HR5 := Lib.hid (Kd.R_far HR1.out (p := ⟨gw, 0, none⟩) (fun k hk (e : k = gw) => HGO.out (e ▸ hk)) (.slice A7 (ys ++ v).length c7))
          have HC5 := Lib.hid (blk_put hg1 0 (.slice A7 (ys ++ v).length c7) rfl)
          have HXL5 := Lib.hid (show (ys ++ v).length ≤ 131071 by have := HXL4.out; have := HVL.out; have := HNV.out; rw [List.length_append]; omega)
          clear hg1 HR1 HB1 HGR HG4 HR4 HVC4 HF4 HXL4 k0 HNV
          generalize hzl : (ys ++ v).length = zl at *
          go_upto_region 16 with (fail)
          generalize w1.setCell ⟨gw, 0, none⟩ (.slice A7 zl c7) = W5 at *
          subst hzl
          generalize ys ++ v = xs at *
          have HC := HC5
          have HR := HR5
          have HXL := HXL5
          have HM := HPL
          have HOK5 := Lib.hid (show ∀ k, W5.heap.size ≤ k → okW k from fun k hk => HOK.out k (Nat.le_trans HF5.out.size hk))
          clear HC5 HR5 HXL5 HPL hs hf HOK
          have B := True.intro
          have C := True.intro
          have R := True.intro
          refine start_ (n := 15) (S := fun w' => True) (ds := []) #[false, false, false, false, false, false, false, false, false, false, false, false, false, false, false] (by kernel_rfl) rfl rfl trivial (fun hHeld => ?_)
          refine with_tabW encBtab16 encBbits16 (fun HT_ HW_ => ?_)
          refine pure_ (i := 0) (N := some 62) (v := ?_) (a' := ?_) #[true, false, false, false, false, false, false, false, false, false, false, false, false, false, false] rfl rfl (any_of HT_.out (by kernel_rfl)) (fun _ _ _ h => h) (Or.inl ⟨by rfl, ?_⟩) ?_ ?_
          rotate_left
          · intro w'
            go_simp
            with_reducible rfl
          rotate_left
          · simp only [Act.put, List.setIfInBounds_toArray, List.set_cons_zero, List.set_cons_succ, i64_w, i32_w]
            rfl
          refine pure_ (i := 1) (N := some 63) (v := ?_) (a' := ?_) #[true, true, false, false, false, false, false, false, false, false, false, false, false, false, false] rfl rfl (any_of HT_.out (by kernel_rfl)) (fun _ _ _ h => h) (Or.inl ⟨by rfl, ?_⟩) ?_ ?_
          rotate_left
          · intro w'
            go_simp
            with_reducible rfl
          rotate_left
          · simp only [Act.put, List.setIfInBounds_toArray, List.set_cons_zero, List.set_cons_succ, i64_w, i32_w]
            rfl
          refine pure_ (i := 5) (N := some 67) (v := ?_) (a' := ?_) #[true, true, false, false, false, true, false, false, false, false, false, false, false, false, false] rfl rfl (any_of HT_.out (by kernel_rfl)) (fun _ _ _ h => h) (Or.inl ⟨by rfl, ?_⟩) ?_ ?_
          rotate_left
          · intro w'
            go_simp
            with_reducible rfl
          rotate_left
          · simp only [Act.put, List.setIfInBounds_toArray, List.set_cons_zero, List.set_cons_succ, i64_w, i32_w]
            rfl
          refine pure_ (i := 8) (N := some 70) (v := ?_) (a' := ?_) #[true, true, false, false, false, true, false, false, true, false, false, false, false, false, false] rfl rfl (any_of HT_.out (by kernel_rfl)) (fun _ _ _ h => h) (Or.inl ⟨by rfl, ?_⟩) ?_ ?_
          rotate_left
          · intro w'
            go_simp
            with_reducible rfl
          rotate_left
          · simp only [Act.put, List.setIfInBounds_toArray, List.set_cons_zero, List.set_cons_succ, i64_w, i32_w]
            rfl
          refine inv_at [2, 3, 4, 6, 7, 9, 10, 11, 12, 13, 14] (fun a0_ b a w' => ∃ (v9 : Value), a = putSel a0_ b [(2, 64, .pointer (some ⟨gw, 0, none⟩)), (3, 65, .pointer (some ⟨gw, 0, none⟩)), (4, 66, .slice A7 xs.length c7), (6, 68, .int .i64 (n : Int)), (7, 69, .int .i64 (pn : Int)), (9, 71, .int .i64 (n : Int)), (10, 72, .int .i64 (pad : Int)), (11, 73, v9), (12, 74, .pointer (some ⟨gw, 0, none⟩)), (13, 75, .pointer (some ⟨gw, 0, none⟩))] ∧ (b 11 = false → Only (fun k => k = gw ∨ okW k) W5 w') ∧ (b 11 = false → w'.heap[gw]? = some (.cells #[.slice A7 xs.length c7] 66 (0, 0))) ∧ (b 11 = false → (Kd.int .u8).R 5 w' (gw + 1) okW (.slice A7 xs.length c7) (xs)) ∧ (b 11 = true → b 14 = false → (Kd.int .u8).R 5 w' (gw + 1) okW (v9) (xs ++ List.replicate pad 0) ∧ w'.heap[gw]? = some (.cells #[.slice A7 xs.length c7] 66 (0, 0)) ∧ Only (fun k => k = gw ∨ okW k) W5 w') ∧ (b 14 = true → ∃ u, w'.heap[gw]? = some (.cells #[u] 66 (0, 0)) ∧ (Kd.int .u8).R 5 w' (gw + 1) okW (u) (xs ++ List.replicate pad 0) ∧ Only (fun k => k = gw ∨ okW k) W5 w')) HT_.out HW_.out (by kernel_rfl) (by kernel_rfl) ?_ ?_ ?_
          · exact ⟨.bool false, by simp only [putSel, Bool.false_eq_true, if_false], fun _ => (Only.refl _ _).drewN 1, fun _ => HC.out, fun _ => HR.out, fun h_ => absurd h_ (by decide), fun h_ => absurd h_ (by decide)⟩
          · skip
            clear B C R
            refine steps_cons ?_ ?_
            · rintro b a w' ⟨v9, ha, Q_B, Q_C, Q_R, Q_S1, Q_S2⟩ hb_ hon hoff
              refine ⟨_, rfl, fun K hK => ?_⟩
              have e63 : a.tmps[63]? = some (.pointer (some ⟨gw, 0, none⟩)) := by rw [ha]; exact (putSel_off rfl).trans rfl
              replace ha := Aside0.mk ha
              have B := Aside0.mk (Q_B (hoff 11 (by kernel_rfl)))
              have C := Aside0.mk (Q_C (hoff 11 (by kernel_rfl)))
              have R := Aside0.mk (Q_R (hoff 11 (by kernel_rfl)))
              refine value_ (w1 := w') (v := .pointer (some ⟨gw, 0, none⟩)) (by rfl) rfl ?_ ?_
              · go_simp
                (try simp only [i64_w])
                try rfl
              refine hK.out _ _ ⟨v9, (by rw [ha.out]; exact putSel_upk 0 hb_ rfl rfl rfl), Q_B, Q_C, Q_R, fun h0_ _ => absurd ((hoff 11 (by kernel_rfl)).symm.trans h0_) (by decide), fun h0_ => absurd ((hoff 14 (by kernel_rfl)).symm.trans h0_) (by decide)⟩
            refine steps_cons ?_ ?_
            · rintro b a w' ⟨v9, ha, Q_B, Q_C, Q_R, Q_S1, Q_S2⟩ hb_ hon hoff
              refine ⟨_, rfl, fun K hK => ?_⟩
              have e64 : a.tmps[64]? = some (.pointer (some ⟨gw, 0, none⟩)) := by rw [ha]; exact putSel_on (e := (2, 64, .pointer (some ⟨gw, 0, none⟩))) 0 rfl rfl (hon 2 (by kernel_rfl)) rfl
              replace ha := Aside0.mk ha
              have B := Aside0.mk (Q_B (hoff 11 (by kernel_rfl)))
              have C := Aside0.mk (Q_C (hoff 11 (by kernel_rfl)))
              have R := Aside0.mk (Q_R (hoff 11 (by kernel_rfl)))
              refine value_ (w1 := w') (v := .pointer (some ⟨gw, 0, none⟩)) (by rfl) rfl ?_ ?_
              · go_simp
                (try simp only [i64_w])
                try rfl
              refine hK.out _ _ ⟨v9, (by rw [ha.out]; exact putSel_upk 1 hb_ rfl rfl rfl), Q_B, Q_C, Q_R, fun h0_ _ => absurd ((hoff 11 (by kernel_rfl)).symm.trans h0_) (by decide), fun h0_ => absurd ((hoff 14 (by kernel_rfl)).symm.trans h0_) (by decide)⟩
            refine steps_cons ?_ ?_
            · rintro b a w' ⟨v9, ha, Q_B, Q_C, Q_R, Q_S1, Q_S2⟩ hb_ hon hoff
              refine ⟨_, rfl, fun K hK => ?_⟩
              have e65 : a.tmps[65]? = some (.pointer (some ⟨gw, 0, none⟩)) := by rw [ha]; exact putSel_on (e := (3, 65, .pointer (some ⟨gw, 0, none⟩))) 1 rfl rfl (hon 3 (by kernel_rfl)) rfl
              replace ha := Aside0.mk ha
              have B := Aside0.mk (Q_B (hoff 11 (by kernel_rfl)))
              have C := Aside0.mk (Q_C (hoff 11 (by kernel_rfl)))
              have R := Aside0.mk (Q_R (hoff 11 (by kernel_rfl)))
              have hs := blk_cell C.out 0
              refine value_ (w1 := w') (v := .slice A7 xs.length c7) (by rfl) rfl ?_ ?_
              · go_simp
                (try simp only [i64_w])
                try rfl
              refine hK.out _ _ ⟨v9, (by rw [ha.out]; exact putSel_upk 2 hb_ rfl rfl rfl), Q_B, Q_C, Q_R, fun h0_ _ => absurd ((hoff 11 (by kernel_rfl)).symm.trans h0_) (by decide), fun h0_ => absurd ((hoff 14 (by kernel_rfl)).symm.trans h0_) (by decide)⟩
            refine steps_cons ?_ ?_
            · rintro b a w' ⟨v9, ha, Q_B, Q_C, Q_R, Q_S1, Q_S2⟩ hb_ hon hoff
              refine ⟨_, rfl, fun K hK => ?_⟩
              have e67 : a.tmps[67]? = some (.slice Av n cv) := by rw [ha]; exact (putSel_off rfl).trans rfl
              replace ha := Aside0.mk ha
              have B := Aside0.mk (Q_B (hoff 11 (by kernel_rfl)))
              have C := Aside0.mk (Q_C (hoff 11 (by kernel_rfl)))
              have R := Aside0.mk (Q_R (hoff 11 (by kernel_rfl)))
              refine value_ (w1 := w') (v := .int .i64 (n : Int)) (by rfl) rfl ?_ ?_
              · go_simp
                (try simp only [i64_w])
                try rfl
              refine hK.out _ _ ⟨v9, (by rw [ha.out]; exact putSel_upk 3 hb_ rfl rfl rfl), Q_B, Q_C, Q_R, fun h0_ _ => absurd ((hoff 11 (by kernel_rfl)).symm.trans h0_) (by decide), fun h0_ => absurd ((hoff 14 (by kernel_rfl)).symm.trans h0_) (by decide)⟩
            refine steps_cons ?_ ?_
            · rintro b a w' ⟨v9, ha, Q_B, Q_C, Q_R, Q_S1, Q_S2⟩ hb_ hon hoff
              refine ⟨_, rfl, fun K hK => ?_⟩
              have e68 : a.tmps[68]? = some (.int .i64 (n : Int)) := by rw [ha]; exact putSel_on (e := (6, 68, .int .i64 (n : Int))) 3 rfl rfl (hon 6 (by kernel_rfl)) rfl
              replace ha := Aside0.mk ha
              have B := Aside0.mk (Q_B (hoff 11 (by kernel_rfl)))
              have C := Aside0.mk (Q_C (hoff 11 (by kernel_rfl)))
              have R := Aside0.mk (Q_R (hoff 11 (by kernel_rfl)))
              refine goes_ Try.func27 (by kernel_rfl) rfl #[.int .i64 (n : Int)] (by rfl) rfl rfl (by first | (simp only [List.map_toArray, List.map_cons, List.map_nil, Act.eval, Array.getD_eq_getD_getElem?, Option.getD_some, e68]; done) | (simp only [List.map_toArray, List.map_cons, List.map_nil, Act.eval, Array.getD_eq_getD_getElem?, Option.getD_some, e68]; rfl)) ?_
              refine (HPD.out w').mono ?_
              rintro e w1 ⟨rfl, hD1⟩
              refine ⟨_, rfl, ?_⟩
              refine hK.out _ _ ⟨v9, (by rw [ha.out]; exact putSel_upk 4 hb_ rfl rfl rfl), fun _ => B.out.trans (Only.of_below (S := fun _ => False) (drawn_below hD1)) (fun k _ h => h.elim), fun _ => blk_below C.out (drawn_below hD1), fun _ => R_only R.out (Only.of_below (S := fun _ => False) (drawn_below hD1)) (fun _ _ _ h => h), fun h0_ _ => absurd ((hoff 11 (by kernel_rfl)).symm.trans h0_) (by decide), fun h0_ => absurd ((hoff 14 (by kernel_rfl)).symm.trans h0_) (by decide)⟩
            refine steps_cons ?_ ?_
            · rintro b a w' ⟨v9, ha, Q_B, Q_C, Q_R, Q_S1, Q_S2⟩ hb_ hon hoff
              refine ⟨_, rfl, fun K hK => ?_⟩
              have e70 : a.tmps[70]? = some (.slice Av n cv) := by rw [ha]; exact (putSel_off rfl).trans rfl
              replace ha := Aside0.mk ha
              have B := Aside0.mk (Q_B (hoff 11 (by kernel_rfl)))
              have C := Aside0.mk (Q_C (hoff 11 (by kernel_rfl)))
              have R := Aside0.mk (Q_R (hoff 11 (by kernel_rfl)))
              refine value_ (w1 := w') (v := .int .i64 (n : Int)) (by rfl) rfl ?_ ?_
              · go_simp
                (try simp only [i64_w])
                try rfl
              refine hK.out _ _ ⟨v9, (by rw [ha.out]; exact putSel_upk 5 hb_ rfl rfl rfl), Q_B, Q_C, Q_R, fun h0_ _ => absurd ((hoff 11 (by kernel_rfl)).symm.trans h0_) (by decide), fun h0_ => absurd ((hoff 14 (by kernel_rfl)).symm.trans h0_) (by decide)⟩
            refine steps_cons ?_ ?_
            · rintro b a w' ⟨v9, ha, Q_B, Q_C, Q_R, Q_S1, Q_S2⟩ hb_ hon hoff
              refine ⟨_, rfl, fun K hK => ?_⟩
              have e69 : a.tmps[69]? = some (.int .i64 (pn : Int)) := by rw [ha]; exact putSel_on (e := (7, 69, .int .i64 (pn : Int))) 4 rfl rfl (hon 7 (by kernel_rfl)) rfl
              have e71 : a.tmps[71]? = some (.int .i64 (n : Int)) := by rw [ha]; exact putSel_on (e := (9, 71, .int .i64 (n : Int))) 5 rfl rfl (hon 9 (by kernel_rfl)) rfl
              replace ha := Aside0.mk ha
              have B := Aside0.mk (Q_B (hoff 11 (by kernel_rfl)))
              have C := Aside0.mk (Q_C (hoff 11 (by kernel_rfl)))
              have R := Aside0.mk (Q_R (hoff 11 (by kernel_rfl)))
              have hs := HSUB.out
              refine value_ (w1 := w') (v := .int .i64 (pad : Int)) (by rfl) rfl (by go_simp; simp only [i64_w]; exact hs) ?_
              refine hK.out _ _ ⟨v9, (by rw [ha.out]; exact putSel_upk 6 hb_ rfl rfl rfl), fun _ => B.out, fun _ => C.out, fun _ => R.out, fun h0_ _ => absurd ((hoff 11 (by kernel_rfl)).symm.trans h0_) (by decide), fun h0_ => absurd ((hoff 14 (by kernel_rfl)).symm.trans h0_) (by decide)⟩
            refine steps_cons ?_ ?_
            · rintro b a w' ⟨v9, ha, Q_B, Q_C, Q_R, Q_S1, Q_S2⟩ hb_ hon hoff
              refine ⟨_, rfl, fun K hK => ?_⟩
              have e66 : a.tmps[66]? = some (.slice A7 xs.length c7) := by rw [ha]; exact putSel_on (e := (4, 66, .slice A7 xs.length c7)) 2 rfl rfl (hon 4 (by kernel_rfl)) rfl
              have e72 : a.tmps[72]? = some (.int .i64 (pad : Int)) := by rw [ha]; exact putSel_on (e := (10, 72, .int .i64 (pad : Int))) 6 rfl rfl (hon 10 (by kernel_rfl)) rfl
              replace ha := Aside0.mk ha
              have B := Aside0.mk (Q_B hb_)
              have C := Aside0.mk (Q_C hb_)
              have R := Aside0.mk (Q_R hb_)
              refine Kd.R_append_zeros_step (kx := .i64) (Kd.int .u8) (w0 := w') (W := w') (gw + 1) (by rfl) _ _ 22 3 5 (.int .u8 0) 1 rfl Try.underlying22 Try.underlying3 info_u8 rfl (by decide) (by decide) (.slice A7 xs.length c7) xs 0 (pad : Int) okW (by simp [Act.eval, Array.getD_eq_getD_getElem?, e66]) (by simp [Act.eval, Array.getD_eq_getD_getElem?, e72]) rfl (fun k hk => HOK5.out k (by have := B.out.size; omega)) R.out (by omega) (Below.refl _ _) (by have := blk_lt C.out; omega) (by have := HXL.out; have := HM.out; omega) ?_
              intro v1 w1 hR1 hB1 hG1 _
              rw [Int.toNat_natCast] at hR1
              refine hK.out _ _ ⟨v1, (by rw [ha.out]; exact putSel_upk 7 hb_ rfl rfl rfl), fun h0_ => absurd ((up_self b 11).symm.trans h0_) (by decide), fun h0_ => absurd ((up_self b 11).symm.trans h0_) (by decide), fun h0_ => absurd ((up_self b 11).symm.trans h0_) (by decide), fun _ _ => ⟨hR1, blk_grown C.out hG1 (fun e => HGO.out (R.out.1 _ e.symm)), B.out.grown hG1 (fun k _ e => Or.inr (R.out.1 k e))⟩, fun h0_ => absurd ((hoff 14 (by kernel_rfl)).symm.trans h0_) (by decide)⟩
            refine steps_cons ?_ ?_
            · rintro b a w' ⟨v9, ha, Q_B, Q_C, Q_R, Q_S1, Q_S2⟩ hb_ hon hoff
              refine ⟨_, rfl, fun K hK => ?_⟩
              have e62 : a.tmps[62]? = some (.pointer (some ⟨gw, 0, none⟩)) := by rw [ha]; exact (putSel_off rfl).trans rfl
              replace ha := Aside0.mk ha
              have S1 := Aside0.mk (Q_S1 (hon 11 (by kernel_rfl)) (hoff 14 (by kernel_rfl)))
              refine value_ (w1 := w') (v := .pointer (some ⟨gw, 0, none⟩)) (by rfl) rfl ?_ ?_
              · go_simp
                (try simp only [i64_w])
                try rfl
              refine hK.out _ _ ⟨v9, (by rw [ha.out]; exact putSel_upk 8 hb_ rfl rfl rfl), fun h0_ => absurd ((hon 11 (by kernel_rfl)).symm.trans h0_) (by decide), fun h0_ => absurd ((hon 11 (by kernel_rfl)).symm.trans h0_) (by decide), fun h0_ => absurd ((hon 11 (by kernel_rfl)).symm.trans h0_) (by decide), Q_S1, fun h0_ => absurd ((hoff 14 (by kernel_rfl)).symm.trans h0_) (by decide)⟩
            refine steps_cons ?_ ?_
            · rintro b a w' ⟨v9, ha, Q_B, Q_C, Q_R, Q_S1, Q_S2⟩ hb_ hon hoff
              refine ⟨_, rfl, fun K hK => ?_⟩
              have e74 : a.tmps[74]? = some (.pointer (some ⟨gw, 0, none⟩)) := by rw [ha]; exact putSel_on (e := (12, 74, .pointer (some ⟨gw, 0, none⟩))) 8 rfl rfl (hon 12 (by kernel_rfl)) rfl
              replace ha := Aside0.mk ha
              have S1 := Aside0.mk (Q_S1 (hon 11 (by kernel_rfl)) (hoff 14 (by kernel_rfl)))
              refine value_ (w1 := w') (v := .pointer (some ⟨gw, 0, none⟩)) (by rfl) rfl ?_ ?_
              · go_simp
                (try simp only [i64_w])
                try rfl
              refine hK.out _ _ ⟨v9, (by rw [ha.out]; exact putSel_upk 9 hb_ rfl rfl rfl), fun h0_ => absurd ((hon 11 (by kernel_rfl)).symm.trans h0_) (by decide), fun h0_ => absurd ((hon 11 (by kernel_rfl)).symm.trans h0_) (by decide), fun h0_ => absurd ((hon 11 (by kernel_rfl)).symm.trans h0_) (by decide), Q_S1, fun h0_ => absurd ((hoff 14 (by kernel_rfl)).symm.trans h0_) (by decide)⟩
            refine steps_cons ?_ ?_
            · rintro b a w' ⟨v9, ha, Q_B, Q_C, Q_R, Q_S1, Q_S2⟩ hb_ hon hoff
              refine ⟨_, rfl, fun K hK => ?_⟩
              have e75 : a.tmps[75]? = some (.pointer (some ⟨gw, 0, none⟩)) := by rw [ha]; exact putSel_on (e := (13, 75, .pointer (some ⟨gw, 0, none⟩))) 9 rfl rfl (hon 13 (by kernel_rfl)) rfl
              have e73 : a.tmps[73]? = some (v9) := by rw [ha]; exact putSel_on (e := (11, 73, v9)) 7 rfl rfl (hon 11 (by kernel_rfl)) rfl
              replace ha := Aside0.mk ha
              have S1 := Aside0.mk (Q_S1 (hon 11 (by kernel_rfl)) hb_)
              obtain ⟨hR1, hC1, hF1⟩ := S1.out
              obtain ⟨A8, c8, hv9⟩ := Kd.R_slice hR1
              have hs := blk_cell hC1 0
              have hf := blk_frozen hC1 0
              refine skip_ (w1 := w'.setCell ⟨gw, 0, none⟩ v9) (by rfl) rfl (by generalize (xs ++ List.replicate pad 0).length = zl at hv9; rw [hv9] at e73 ⊢; go_simp; try rfl) ?_
              refine hK.out _ _ ⟨v9, (by rw [ha.out]; exact putSel_none (v := undef) rfl), fun h0_ => absurd ((hon 11 (by kernel_rfl)).symm.trans h0_) (by decide), fun h0_ => absurd ((hon 11 (by kernel_rfl)).symm.trans h0_) (by decide), fun h0_ => absurd ((hon 11 (by kernel_rfl)).symm.trans h0_) (by decide), fun _ h1_ => absurd ((up_self b 14).symm.trans h1_) (by decide), fun _ => ⟨v9, blk_put hC1 0 v9 rfl, Kd.R_far hR1 (p := ⟨gw, 0, none⟩) (fun k hk (e : k = gw) => HGO.out (e ▸ hk)) v9, hF1.setCell (fun _ => Or.inl rfl) v9⟩⟩
            exact steps_nil
          rintro b a w' hall ⟨v9, ha, Q_B, Q_C, Q_R, Q_S1, Q_S2⟩
          clear B C R
          have hb2_ := hall 2 (by kernel_rfl)
          have hb3_ := hall 3 (by kernel_rfl)
          have hb4_ := hall 4 (by kernel_rfl)
          have hb6_ := hall 6 (by kernel_rfl)
          have hb7_ := hall 7 (by kernel_rfl)
          have hb9_ := hall 9 (by kernel_rfl)
          have hb10_ := hall 10 (by kernel_rfl)
          have hb11_ := hall 11 (by kernel_rfl)
          have hb12_ := hall 12 (by kernel_rfl)
          have hb13_ := hall 13 (by kernel_rfl)
          have hb14_ := hall 14 (by kernel_rfl)
          subst ha
          simp only [putSel, hb2_, hb3_, hb4_, hb6_, hb7_, hb9_, hb10_, hb11_, hb12_, hb13_, hb14_, if_true, Act.put, List.setIfInBounds_toArray, List.set_cons_zero, List.set_cons_succ]
          clear Q_B
          clear Q_C
          clear Q_R
          clear Q_S1
          have S2 := Aside0.mk (Q_S2 hb14_)
          clear Q_S2
          clear hall hb2_ hb3_ hb4_ hb6_ hb7_ hb9_ hb10_ hb11_ hb12_ hb13_ hb14_
          obtain ⟨u, hg, hR, hF⟩ := S2.out
          clear S2 HC HR HSUB HPD
          obtain ⟨A9, c9, rfl⟩ := Kd.R_slice hR
          have HB9 := Lib.hid (HBW.out.trans ((HF5.out.trans hF (fun k _ h => h)).below HBW.out.size HBO.out))
          have HR9 := Lib.hid (Kd.R_mono (ok' := fun k => k ≠ gw) hR (fun k hk (e : k = gw) => HGO.out (e ▸ hk)))
          have HC9 := Lib.hid hg
          have k0 : w'.cell? ⟨gw, 0, none⟩ = some (.slice A9 (xs ++ List.replicate pad 0).length c9) := blk_cell hg 0
          have hxl : (xs ++ List.replicate pad (0 : Int)).length ≤ 131074 := by have := HXL.out; have := HM.out; simp; omega
          clear hg hR hF HF5 HOK5 HXL HM HGO HBO HBW
          generalize hacc : xs ++ List.replicate pad (0 : Int) = acc2 at *
          obtain ⟨nl, hnl⟩ : ∃ nl, acc2.length = nl := ⟨_, rfl⟩
          rw [hnl] at k0 hxl
          have HNL := Lib.hid hnl
          have hA3 := HA2.out
          rw [hnl] at hA3
          by_cases hb : 65536 < nl
          · rw [if_pos hb] at hA3
            subst hA3
            clear HA2 HR9 HC9 hnl HNL hacc
            go_wp2
            go_ret2
            exact ⟨_, rfl, Kd.R_nil _ _ _ _ _, HB9.out⟩
          · rw [if_neg hb] at hA3
            have HA3 := Lib.hid hA3
            clear HA2 hA3 hacc hnl
            go_wp2
            go_roundw
            case rel => exact ⟨i + 1, acc2, by omega, by go_num, HA3, (by have := HNL.out; show _ ≤ _; omega), ⟨_, HC9.out, HR9.out⟩, HB9⟩
            case measure => simp [intOf]; omega
        · obtain rfl : i = l.length := by omega
          have hA := HA.out
          rw [List.drop_length, runE] at hA
          subst hA
          obtain ⟨u, hg, hR⟩ := HW.out
          obtain ⟨Au, cu, rfl⟩ := Kd.R_slice hR
          have k0 : wr.cell? ⟨gw, 0, none⟩ = some (.slice Au acc.length cu) := blk_cell hg 0
          have HR := Lib.hid (Kd.R_mono (ok' := fun _ => True) (Kd.R_lower hR (base' := w.heap.size) (by have := HGW.out; omega)) (fun _ _ => trivial))
          clear HRE HW0 HBW HVAL HLC HA hg hR HW HAL
          generalize hnl : acc.length = nl at *
          go_wp2
          go_ret2
          exact ⟨_, rfl, HR.out, HB.out⟩
end Go.Proofs.Ytjmadnpicidbeaa.Ch
end
section
namespace Go.Proofs.Ytjmadnpicidbeaa.Ch
open Go.RowKit Go.Proofs.YtjmadnpicidbeaaW.PrintWords Go.Proofs.YtjmadnpicidbeaaW.PrintLast Go.Proofs.Ytjmadnpicidbeaa.Base Go.Proofs.Ytjmadnpicidbeaa.PCh Go.Proofs.Ytjmadnpicidbeaa.ParDec Go.Proofs.Ytjmadnpicidbeaa.ParEnc
set_option maxRecDepth 100000
set_option linter.unusedVariables false
set_option linter.unusedSimpArgs false
def awX : Chk := ⟨0, 3, 1, 2, 3, 0, 0, 0, 0, 0, [], [], [], [104, 105], []⟩
def awL : List UInt8 := [0, 3, 0, 18, 0, 0, 0, 1, 0, 2, 0, 3, 0, 0, 0, 0, 104, 105, 0, 0]
theorem aw_bare : bareD awX = awX := by
  unfold bareD
  rw [show flD awX.f0 awX.f1 = 3 from by rfl]
  rfl
theorem aw_value : valueD awX = [0, 0, 0, 1, 0, 2, 0, 3, 0, 0, 0, 0, 104, 105] := by
  unfold valueD
  rw [if_pos (show awX.f0 = 0 from rfl)]
  rfl
theorem aw_check : checkD awX = 0 := by
  unfold checkD
  rw [aw_bare, if_neg (by simp), if_neg (by simp [awX]), if_neg (by simp [awX]), if_neg (by simp [awX]), if_neg (by simp [awX, encP, runB]), aw_value, if_neg (by simp)]
theorem aw_enc : encD [awX] = (ints awL, 0) := by
  unfold encD chkAll
  rw [if_pos aw_check, chkAll, if_pos rfl, runE]
  have h : [] ++ chunkL awX = ints awL := by
    unfold chunkL
    rw [aw_value]
    rfl
  rw [h, if_neg (by decide), runE]
theorem aw_dec : decC awL = (awX, 20, 0) := by rfl
theorem aw_ok : OkB awX := ⟨fun b hb => by
  simp only [awX, List.mem_cons, List.not_mem_nil, or_false] at hb
  rcases hb with rfl | rfl <;> (unfold inB; omega), fun p hp => by cases hp⟩
theorem byte_of_int {w : World} {A : Option Addr} {l : List UInt8} (h : (Kd.int .u8).C w A (ints l).length (ints l)) : byte.C w A l.length l := by
  obtain ⟨h1, h2, h3⟩ := h
  rw [ints_length] at h2 h3
  refine ⟨rfl, h2, fun hn => ?_⟩
  obtain ⟨ad, e, hc⟩ := h3 hn
  refine ⟨ad, e, fun j p hj => ?_⟩
  exact hc j (p.toNat : Int) (by unfold ints; rw [List.getElem?_map, hj]; rfl)
theorem chk_row1 {w : World} {g : Nat} {x : Chk} {L : Lay} (hb : w.heap[g]? = some (.cells (CV x L) 30 (0, 0))) (hx : CR w x L) : Kd.C k30 w (some ⟨g, 0, none⟩) 1 [x] := by
  refine ⟨rfl, by simp, fun _ => ⟨_, rfl, fun j p hj => ?_⟩⟩
  rcases j with _ | j
  · simp only [List.getElem?_cons_zero, Option.some.injEq] at hj
    subst hj
    refine ⟨(CV x L).toList, rfl, hx.K, fun i u hu => ?_⟩
    rw [Nat.zero_mul, Nat.zero_add]
    exact cells_of_blk hb i u hu
  · simp at hj
theorem CR.of_M {w : World} {base : Nat} {ok : Nat → Prop} {x : Chk} {cs : List Value} (h : k30.M w base ok x cs) : ∃ L, cs = (CV x L).toList ∧ CR w x L := by
  obtain ⟨v10, v11, v12, v13, v14, rfl, h10, h11, h12, h13, h14⟩ := k30_openM h
  obtain ⟨A10, c10, rfl, l10, g10⟩ := Kd.R_reads h10
  obtain ⟨A11, c11, rfl, l11, g11⟩ := Kd.R_reads h11
  obtain ⟨A12, c12, rfl, l12, g12⟩ := Kd.R_reads h12
  obtain ⟨A13, c13, rfl, l13, g13⟩ := Kd.R_reads h13
  obtain ⟨A14, c14, rfl, l14, g14⟩ := Kd.R_reads h14
  exact ⟨⟨A10, c10, A11, c11, A12, c12, A13, c13, A14, c14⟩, rfl, ⟨l10, g10, l11, g11, l12, g12, l13, g13, l14, g14⟩⟩
theorem checkD_lists {x : Chk} (h : checkD x = 0) : x.f10.length ≤ 4096 ∧ x.f11.length ≤ 4096 ∧ x.f12.length ≤ 4096 := by
  unfold checkD at h
  split at h
  · cases h
  · split at h
    · cases h
    · split at h
      · cases h
      · split at h
        · cases h
        · omega
theorem check_any (w : World) (x : Chk) (L : Lay) (hx : CR w x L) (hl : x.f13.length ≤ 140737488355232) : Calls Try.prog 16 #[.agg (CV x L)] w fun e w' => e = .returned (.int .i64 (checkD x)) ∧ Below w.heap.size w w' :=
  check_calls w x L hx (fun W hW _ h10 h11 h12 _ => (value_calls W.heap.size W x L (Nat.le_refl _) (fun W' hB => hW.below hB) h10 h11 h12 hl).mono fun e w' h => h.P)
theorem encode_any (w : World) (A : Option Addr) (c : Nat) (l : List Chk) (hC : Kd.C k30 w A l.length l) (hl : ∀ x ∈ l, x.f13.length ≤ 140737488355232) :
    Calls Try.prog 15 #[.slice A l.length c] w fun e w' => ∃ v, e = .returned (.tuple #[v, .int .i64 (encD l).2]) ∧ (Kd.int .u8).R 5 w' w.heap.size (fun _ => True) v (encD l).1 ∧ Below w.heap.size w w' :=
  encode_chunks w A c l hC (fun x hx W L hW => check_any W x L hW (hl x hx)) (fun x hx hc W L hb hW => by
    have h := checkD_lists hc
    exact value_calls w.heap.size W x L hb hW h.1 h.2.1 h.2.2 (hl x hx))
theorem aw_encode (w : World) (g : Nat) (L : Lay) (hb : w.heap[g]? = some (.cells (CV awX L) 30 (0, 0))) (hx : CR w awX L) :
    Calls Try.prog 15 #[.slice (some ⟨g, 0, none⟩) 1 1] w fun e w' => ∃ A c, e = .returned (.tuple #[.slice A 20 c, .int .i64 0]) ∧ 20 ≤ c ∧ byte.C w' A awL.length awL ∧ Below w.heap.size w w' := by
  refine (encode_any w (some ⟨g, 0, none⟩) 1 [awX] (chk_row1 hb hx) (fun x hxm => by rw [List.mem_singleton.1 hxm]; decide)).mono fun e w' h => ?_
  · obtain ⟨v, rfl, hR, hB⟩ := h
    rw [aw_enc] at hR ⊢
    obtain ⟨A, c, rfl, hle, hC⟩ := Kd.R_reads hR
    exact ⟨A, c, rfl, hle, byte_of_int hC, hB⟩
theorem aw_decode (w : World) (A : Option Addr) (c : Nat) (hC : byte.C w A awL.length awL) (hc : 20 ≤ c) :
    Calls Try.prog 10 #[.slice A 20 c] w fun e w' => ∃ L, e = .returned (.tuple #[.agg (CV awX L), .int .i64 20, .int .i64 0]) ∧ CR w' awX L ∧ Below w.heap.size w w' := by
  refine (decC_calls w A awL c hC hc (by decide)).mono fun e w' h => ?_
  obtain ⟨cs, rfl, hM, hB⟩ := h
  rw [aw_dec] at hM ⊢
  obtain ⟨L, hcs, hx⟩ := CR.of_M hM
  obtain rfl : cs = CV awX L := Array.toList_inj.1 hcs
  exact ⟨L, rfl, hx, hB⟩
set_option maxHeartbeats 2000000 in
theorem awake_calls (w : World) : Calls Try.prog 13 #[] w fun e w' => e = .returned (.bool true) ∧ Below w.heap.size w w' := by
  have kc := fun (w : World) (C : Array Value) (n c : Nat) => Lib.run_convert_bytes_const (P := Try.prog) w 22 5 C n c Try.underlying22 Try.underlying5
  have HI := Lib.hid (show (Try.prog.info? 30).map (·.size) = some (#[.int .u8 0, .int .u8 3, .int .u32 1, .int .u16 2, .int .u16 3, .int .u32 0, .int .u32 0, .int .u32 0, .int .u16 0, .int .u16 0, .slice none 0 0, .slice none 0 0, .slice none 0 0, .slice (some ⟨w.heap.size, 0, none⟩) 2 2, .slice none 0 0] : Array Value).size by kernel_rfl)
  have HW1 := Lib.hid (show (w.alloc (.cells #[.int .u8 104, .int .u8 105] 5 (2, 3))).heap.size = w.heap.size + 1 by simp)
  have HB1 := Lib.hid (below_alloc (Below.refl w.heap.size w) (.cells #[.int .u8 104, .int .u8 105] 5 (2, 3)))
  have HX1 := Lib.hid (show CR (w.alloc (.cells #[.int .u8 104, .int .u8 105] 5 (2, 3))) awX ⟨none, 0, none, 0, none, 0, some ⟨w.heap.size, 0, none⟩, 2, none, 0⟩ from ⟨Nat.le_refl _, Kd.C_nil _ _, Nat.le_refl _, Kd.C_nil _ _, Nat.le_refl _, Kd.C_nil _ _, Nat.le_refl _, row_lit (Kd.int .u8) rfl w _ [.int .u8 104, .int .u8 105] [104, 105] rfl (by simp) (fun j v p hv hp => by rcases j with _ | _ | j <;> simp at hv hp <;> (subst hv; subst hp; rfl)) (fr := (2, 3)), Nat.le_refl _, Kd.C_nil _ _⟩)
  go_enter Try.func13, Try.ntmps13
  go_wp2_with (first | (with_reducible refine gate_dst (N := 1) rfl ?_; go_must (refine wpList_box rfl rfl 1 rfl rfl (.tmp 9) rfl #[.int .u8 0, .int .u8 3, .int .u32 1, .int .u16 2, .int .u16 3, .int .u32 0, .int .u32 0, .int .u32 0, .int .u16 0, .int .u16 0, .slice none 0 0, .slice none 0 0, .slice none 0 0, .slice (some ⟨w.heap.size, 0, none⟩) 2 2, .slice none 0 0] rfl rfl (by simp) HI.out (by simp [Value.oneCell']) ?_); refine RowKit.Hid.out ?_))
  refine Lib.hid ?_
  have HW2 := Lib.hid (blk_new (w.alloc (.cells #[.int .u8 104, .int .u8 105] 5 (2, 3))) (.cells #[.int .u8 0, .int .u8 3, .int .u32 1, .int .u16 2, .int .u16 3, .int .u32 0, .int .u32 0, .int .u32 0, .int .u16 0, .int .u16 0, .slice none 0 0, .slice none 0 0, .slice none 0 0, .slice (some ⟨w.heap.size, 0, none⟩) 2 2, .slice none 0 0] 30))
  replace HX1 := Lib.hid (CR.below HX1.out (below_alloc (Below.refl _ _) (.cells #[.int .u8 0, .int .u8 3, .int .u32 1, .int .u16 2, .int .u16 3, .int .u32 0, .int .u32 0, .int .u32 0, .int .u16 0, .int .u16 0, .slice none 0 0, .slice none 0 0, .slice none 0 0, .slice (some ⟨w.heap.size, 0, none⟩) 2 2, .slice none 0 0] 30)))
  replace HB1 := Lib.hid (below_alloc HB1.out (.cells #[.int .u8 0, .int .u8 3, .int .u32 1, .int .u16 2, .int .u16 3, .int .u32 0, .int .u32 0, .int .u32 0, .int .u16 0, .int .u16 0, .slice none 0 0, .slice none 0 0, .slice none 0 0, .slice (some ⟨w.heap.size, 0, none⟩) 2 2, .slice none 0 0] 30))
  rw [HW1.out] at HW2
  have HW3 := Lib.hid (show ((w.alloc (.cells #[.int .u8 104, .int .u8 105] 5 (2, 3))).alloc (.cells #[.int .u8 0, .int .u8 3, .int .u32 1, .int .u16 2, .int .u16 3, .int .u32 0, .int .u32 0, .int .u32 0, .int .u16 0, .int .u16 0, .slice none 0 0, .slice none 0 0, .slice none 0 0, .slice (some ⟨w.heap.size, 0, none⟩) 2 2, .slice none 0 0] 30)).heap.size = w.heap.size + 2 by simp)
  clear HW1 kc
  generalize ((w.alloc (.cells #[.int .u8 104, .int .u8 105] 5 (2, 3))).alloc (.cells #[.int .u8 0, .int .u8 3, .int .u32 1, .int .u16 2, .int .u16 3, .int .u32 0, .int .u32 0, .int .u32 0, .int .u16 0, .int .u16 0, .slice none 0 0, .slice none 0 0, .slice none 0 0, .slice (some ⟨w.heap.size, 0, none⟩) 2 2, .slice none 0 0] 30)) = W at *
  go_wp2_with (first | (with_reducible refine gate_dst (N := 11) rfl ?_; go_must (refine wpList_load_cells rfl 30 (.tmp 1) rfl rfl #[.int .u8 0, .int .u8 3, .int .u32 1, .int .u16 2, .int .u16 3, .int .u32 0, .int .u32 0, .int .u32 0, .int .u16 0, .int .u16 0, .slice none 0 0, .slice none 0 0, .slice none 0 0, .slice (some ⟨w.heap.size, 0, none⟩) 2 2, .slice none 0 0] _ (cells_of_blk HW2.out) Try.underlying30 rfl HI.out ?_)))
  refine (aw_encode (W.alloc (.cells #[.int .u8 0, .int .u8 3, .int .u32 1, .int .u16 2, .int .u16 3, .int .u32 0, .int .u32 0, .int .u32 0, .int .u16 0, .int .u16 0, .slice none 0 0, .slice none 0 0, .slice none 0 0, .slice (some ⟨w.heap.size, 0, none⟩) 2 2, .slice none 0 0] 30)) W.heap.size ⟨none, 0, none, 0, none, 0, some ⟨w.heap.size, 0, none⟩, 2, none, 0⟩ (blk_new _ _) (CR.below HX1.out (below_alloc (Below.refl _ _) _))).mono ?_
  rintro e w1 ⟨A, c, rfl, hc, hC, hB⟩
  replace HW2 := Lib.hid (blk_below (blk_alloc HW2.out (.cells #[.int .u8 0, .int .u8 3, .int .u32 1, .int .u16 2, .int .u16 3, .int .u32 0, .int .u32 0, .int .u32 0, .int .u16 0, .int .u16 0, .slice none 0 0, .slice none 0 0, .slice none 0 0, .slice (some ⟨w.heap.size, 0, none⟩) 2 2, .slice none 0 0] 30)) hB)
  replace HX1 := Lib.hid ((HX1.out.below (below_alloc (Below.refl _ _) (.cells #[.int .u8 0, .int .u8 3, .int .u32 1, .int .u16 2, .int .u16 3, .int .u32 0, .int .u32 0, .int .u32 0, .int .u16 0, .int .u16 0, .slice none 0 0, .slice none 0 0, .slice none 0 0, .slice (some ⟨w.heap.size, 0, none⟩) 2 2, .slice none 0 0] 30))).below hB)
  replace HB1 := Lib.hid (below_then (below_alloc HB1.out (.cells #[.int .u8 0, .int .u8 3, .int .u32 1, .int .u16 2, .int .u16 3, .int .u32 0, .int .u32 0, .int .u32 0, .int .u16 0, .int .u16 0, .slice none 0 0, .slice none 0 0, .slice none 0 0, .slice (some ⟨w.heap.size, 0, none⟩) 2 2, .slice none 0 0] 30)) (below_alloc HB1.out (.cells #[.int .u8 0, .int .u8 3, .int .u32 1, .int .u16 2, .int .u16 3, .int .u32 0, .int .u32 0, .int .u32 0, .int .u16 0, .int .u16 0, .slice none 0 0, .slice none 0 0, .slice none 0 0, .slice (some ⟨w.heap.size, 0, none⟩) 2 2, .slice none 0 0] 30)).size hB)
  have HC := Lib.hid hC
  have HCL := Lib.hid hc
  clear hB hC hc HW3
  go_wp2_with fail
  refine (aw_decode w1 A c HC.out HCL.out).mono ?_
  rintro e w2 ⟨L, rfl, hx, hB⟩
  have HZ := Lib.hid (show (#[.int .u8 0, .int .u8 0, .int .u32 0, .int .u16 0, .int .u16 0, .int .u32 0, .int .u32 0, .int .u32 0, .int .u16 0, .int .u16 0, .slice none 0 0, .slice none 0 0, .slice none 0 0, .slice none 0 0, .slice none 0 0] : Array Value).size = (CV awX L).size from rfl)
  have HO := Lib.hid (CV_one awX L)
  have HI2 := Lib.hid (show (Try.prog.info? 30).map (·.size) = some (CV awX L).size by kernel_rfl)
  go_wp2_with (first | (with_reducible refine gate_dst (N := 4) rfl ?_; go_must (refine wpList_box rfl rfl 4 rfl rfl (.tmp 19) rfl (CV awX L) rfl rfl HZ.out HI2.out HO.out ?_); refine RowKit.Hid.out ?_))
  refine Lib.hid ?_
  have HW4 := Lib.hid (blk_new w2 (.cells (CV awX L) 30))
  replace HW2 := Lib.hid (blk_alloc (blk_below HW2.out hB) (.cells (CV awX L) 30))
  replace HX1 := Lib.hid ((HX1.out.below hB).below (below_alloc (Below.refl _ _) (.cells (CV awX L) 30)))
  have HX2 := Lib.hid (hx.below (below_alloc (Below.refl _ _) (.cells (CV awX L) 30)))
  replace HB1 := Lib.hid (below_alloc (below_then HB1.out HB1.out.size hB) (.cells (CV awX L) 30))
  replace HC := Lib.hid (Kd.C_below (Kd.C_below HC.out hB) (below_alloc (Below.refl _ _) (.cells (CV awX L) 30)))
  clear hB hx HZ HO HI2 HI
  generalize w2.alloc (.cells (CV awX L) 30) = w3 at *
  generalize w2.heap.size = g4 at *
  have u0 := (blk_cell (blk_alloc HW2.out (.cells #[.int .u8 0, .int .u8 3, .int .u8 0, .int .u8 18, .int .u8 0, .int .u8 0, .int .u8 0, .int .u8 1, .int .u8 0, .int .u8 2, .int .u8 0, .int .u8 3, .int .u8 0, .int .u8 0, .int .u8 0, .int .u8 0, .int .u8 104, .int .u8 105, .int .u8 0, .int .u8 0] 5)) 0).trans (show (#[.int .u8 0, .int .u8 3, .int .u32 1, .int .u16 2, .int .u16 3, .int .u32 0, .int .u32 0, .int .u32 0, .int .u16 0, .int .u16 0, .slice none 0 0, .slice none 0 0, .slice none 0 0, .slice (some ⟨w.heap.size, 0, none⟩) 2 2, .slice none 0 0] : Array Value)[0]? = some (.int .u8 0) from rfl)
  have u1 := (blk_cell (blk_alloc HW2.out (.cells #[.int .u8 0, .int .u8 3, .int .u8 0, .int .u8 18, .int .u8 0, .int .u8 0, .int .u8 0, .int .u8 1, .int .u8 0, .int .u8 2, .int .u8 0, .int .u8 3, .int .u8 0, .int .u8 0, .int .u8 0, .int .u8 0, .int .u8 104, .int .u8 105, .int .u8 0, .int .u8 0] 5)) 1).trans (show (#[.int .u8 0, .int .u8 3, .int .u32 1, .int .u16 2, .int .u16 3, .int .u32 0, .int .u32 0, .int .u32 0, .int .u16 0, .int .u16 0, .slice none 0 0, .slice none 0 0, .slice none 0 0, .slice (some ⟨w.heap.size, 0, none⟩) 2 2, .slice none 0 0] : Array Value)[1]? = some (.int .u8 3) from rfl)
  have u2 := (blk_cell (blk_alloc HW2.out (.cells #[.int .u8 0, .int .u8 3, .int .u8 0, .int .u8 18, .int .u8 0, .int .u8 0, .int .u8 0, .int .u8 1, .int .u8 0, .int .u8 2, .int .u8 0, .int .u8 3, .int .u8 0, .int .u8 0, .int .u8 0, .int .u8 0, .int .u8 104, .int .u8 105, .int .u8 0, .int .u8 0] 5)) 2).trans (show (#[.int .u8 0, .int .u8 3, .int .u32 1, .int .u16 2, .int .u16 3, .int .u32 0, .int .u32 0, .int .u32 0, .int .u16 0, .int .u16 0, .slice none 0 0, .slice none 0 0, .slice none 0 0, .slice (some ⟨w.heap.size, 0, none⟩) 2 2, .slice none 0 0] : Array Value)[2]? = some (.int .u32 1) from rfl)
  have u3 := (blk_cell (blk_alloc HW2.out (.cells #[.int .u8 0, .int .u8 3, .int .u8 0, .int .u8 18, .int .u8 0, .int .u8 0, .int .u8 0, .int .u8 1, .int .u8 0, .int .u8 2, .int .u8 0, .int .u8 3, .int .u8 0, .int .u8 0, .int .u8 0, .int .u8 0, .int .u8 104, .int .u8 105, .int .u8 0, .int .u8 0] 5)) 3).trans (show (#[.int .u8 0, .int .u8 3, .int .u32 1, .int .u16 2, .int .u16 3, .int .u32 0, .int .u32 0, .int .u32 0, .int .u16 0, .int .u16 0, .slice none 0 0, .slice none 0 0, .slice none 0 0, .slice (some ⟨w.heap.size, 0, none⟩) 2 2, .slice none 0 0] : Array Value)[3]? = some (.int .u16 2) from rfl)
  have u4 := (blk_cell (blk_alloc HW2.out (.cells #[.int .u8 0, .int .u8 3, .int .u8 0, .int .u8 18, .int .u8 0, .int .u8 0, .int .u8 0, .int .u8 1, .int .u8 0, .int .u8 2, .int .u8 0, .int .u8 3, .int .u8 0, .int .u8 0, .int .u8 0, .int .u8 0, .int .u8 104, .int .u8 105, .int .u8 0, .int .u8 0] 5)) 4).trans (show (#[.int .u8 0, .int .u8 3, .int .u32 1, .int .u16 2, .int .u16 3, .int .u32 0, .int .u32 0, .int .u32 0, .int .u16 0, .int .u16 0, .slice none 0 0, .slice none 0 0, .slice none 0 0, .slice (some ⟨w.heap.size, 0, none⟩) 2 2, .slice none 0 0] : Array Value)[4]? = some (.int .u16 3) from rfl)
  have u5 := (blk_cell (blk_alloc HW2.out (.cells #[.int .u8 0, .int .u8 3, .int .u8 0, .int .u8 18, .int .u8 0, .int .u8 0, .int .u8 0, .int .u8 1, .int .u8 0, .int .u8 2, .int .u8 0, .int .u8 3, .int .u8 0, .int .u8 0, .int .u8 0, .int .u8 0, .int .u8 104, .int .u8 105, .int .u8 0, .int .u8 0] 5)) 5).trans (show (#[.int .u8 0, .int .u8 3, .int .u32 1, .int .u16 2, .int .u16 3, .int .u32 0, .int .u32 0, .int .u32 0, .int .u16 0, .int .u16 0, .slice none 0 0, .slice none 0 0, .slice none 0 0, .slice (some ⟨w.heap.size, 0, none⟩) 2 2, .slice none 0 0] : Array Value)[5]? = some (.int .u32 0) from rfl)
  have u6 := (blk_cell (blk_alloc HW2.out (.cells #[.int .u8 0, .int .u8 3, .int .u8 0, .int .u8 18, .int .u8 0, .int .u8 0, .int .u8 0, .int .u8 1, .int .u8 0, .int .u8 2, .int .u8 0, .int .u8 3, .int .u8 0, .int .u8 0, .int .u8 0, .int .u8 0, .int .u8 104, .int .u8 105, .int .u8 0, .int .u8 0] 5)) 6).trans (show (#[.int .u8 0, .int .u8 3, .int .u32 1, .int .u16 2, .int .u16 3, .int .u32 0, .int .u32 0, .int .u32 0, .int .u16 0, .int .u16 0, .slice none 0 0, .slice none 0 0, .slice none 0 0, .slice (some ⟨w.heap.size, 0, none⟩) 2 2, .slice none 0 0] : Array Value)[6]? = some (.int .u32 0) from rfl)
  have u7 := (blk_cell (blk_alloc HW2.out (.cells #[.int .u8 0, .int .u8 3, .int .u8 0, .int .u8 18, .int .u8 0, .int .u8 0, .int .u8 0, .int .u8 1, .int .u8 0, .int .u8 2, .int .u8 0, .int .u8 3, .int .u8 0, .int .u8 0, .int .u8 0, .int .u8 0, .int .u8 104, .int .u8 105, .int .u8 0, .int .u8 0] 5)) 7).trans (show (#[.int .u8 0, .int .u8 3, .int .u32 1, .int .u16 2, .int .u16 3, .int .u32 0, .int .u32 0, .int .u32 0, .int .u16 0, .int .u16 0, .slice none 0 0, .slice none 0 0, .slice none 0 0, .slice (some ⟨w.heap.size, 0, none⟩) 2 2, .slice none 0 0] : Array Value)[7]? = some (.int .u32 0) from rfl)
  have u8 := (blk_cell (blk_alloc HW2.out (.cells #[.int .u8 0, .int .u8 3, .int .u8 0, .int .u8 18, .int .u8 0, .int .u8 0, .int .u8 0, .int .u8 1, .int .u8 0, .int .u8 2, .int .u8 0, .int .u8 3, .int .u8 0, .int .u8 0, .int .u8 0, .int .u8 0, .int .u8 104, .int .u8 105, .int .u8 0, .int .u8 0] 5)) 8).trans (show (#[.int .u8 0, .int .u8 3, .int .u32 1, .int .u16 2, .int .u16 3, .int .u32 0, .int .u32 0, .int .u32 0, .int .u16 0, .int .u16 0, .slice none 0 0, .slice none 0 0, .slice none 0 0, .slice (some ⟨w.heap.size, 0, none⟩) 2 2, .slice none 0 0] : Array Value)[8]? = some (.int .u16 0) from rfl)
  have u9 := (blk_cell (blk_alloc HW2.out (.cells #[.int .u8 0, .int .u8 3, .int .u8 0, .int .u8 18, .int .u8 0, .int .u8 0, .int .u8 0, .int .u8 1, .int .u8 0, .int .u8 2, .int .u8 0, .int .u8 3, .int .u8 0, .int .u8 0, .int .u8 0, .int .u8 0, .int .u8 104, .int .u8 105, .int .u8 0, .int .u8 0] 5)) 9).trans (show (#[.int .u8 0, .int .u8 3, .int .u32 1, .int .u16 2, .int .u16 3, .int .u32 0, .int .u32 0, .int .u32 0, .int .u16 0, .int .u16 0, .slice none 0 0, .slice none 0 0, .slice none 0 0, .slice (some ⟨w.heap.size, 0, none⟩) 2 2, .slice none 0 0] : Array Value)[9]? = some (.int .u16 0) from rfl)
  have u10 := (blk_cell (blk_alloc HW2.out (.cells #[.int .u8 0, .int .u8 3, .int .u8 0, .int .u8 18, .int .u8 0, .int .u8 0, .int .u8 0, .int .u8 1, .int .u8 0, .int .u8 2, .int .u8 0, .int .u8 3, .int .u8 0, .int .u8 0, .int .u8 0, .int .u8 0, .int .u8 104, .int .u8 105, .int .u8 0, .int .u8 0] 5)) 10).trans (show (#[.int .u8 0, .int .u8 3, .int .u32 1, .int .u16 2, .int .u16 3, .int .u32 0, .int .u32 0, .int .u32 0, .int .u16 0, .int .u16 0, .slice none 0 0, .slice none 0 0, .slice none 0 0, .slice (some ⟨w.heap.size, 0, none⟩) 2 2, .slice none 0 0] : Array Value)[10]? = some (.slice none 0 0) from rfl)
  have u11 := (blk_cell (blk_alloc HW2.out (.cells #[.int .u8 0, .int .u8 3, .int .u8 0, .int .u8 18, .int .u8 0, .int .u8 0, .int .u8 0, .int .u8 1, .int .u8 0, .int .u8 2, .int .u8 0, .int .u8 3, .int .u8 0, .int .u8 0, .int .u8 0, .int .u8 0, .int .u8 104, .int .u8 105, .int .u8 0, .int .u8 0] 5)) 11).trans (show (#[.int .u8 0, .int .u8 3, .int .u32 1, .int .u16 2, .int .u16 3, .int .u32 0, .int .u32 0, .int .u32 0, .int .u16 0, .int .u16 0, .slice none 0 0, .slice none 0 0, .slice none 0 0, .slice (some ⟨w.heap.size, 0, none⟩) 2 2, .slice none 0 0] : Array Value)[11]? = some (.slice none 0 0) from rfl)
  have u12 := (blk_cell (blk_alloc HW2.out (.cells #[.int .u8 0, .int .u8 3, .int .u8 0, .int .u8 18, .int .u8 0, .int .u8 0, .int .u8 0, .int .u8 1, .int .u8 0, .int .u8 2, .int .u8 0, .int .u8 3, .int .u8 0, .int .u8 0, .int .u8 0, .int .u8 0, .int .u8 104, .int .u8 105, .int .u8 0, .int .u8 0] 5)) 12).trans (show (#[.int .u8 0, .int .u8 3, .int .u32 1, .int .u16 2, .int .u16 3, .int .u32 0, .int .u32 0, .int .u32 0, .int .u16 0, .int .u16 0, .slice none 0 0, .slice none 0 0, .slice none 0 0, .slice (some ⟨w.heap.size, 0, none⟩) 2 2, .slice none 0 0] : Array Value)[12]? = some (.slice none 0 0) from rfl)
  have u13 := (blk_cell (blk_alloc HW2.out (.cells #[.int .u8 0, .int .u8 3, .int .u8 0, .int .u8 18, .int .u8 0, .int .u8 0, .int .u8 0, .int .u8 1, .int .u8 0, .int .u8 2, .int .u8 0, .int .u8 3, .int .u8 0, .int .u8 0, .int .u8 0, .int .u8 0, .int .u8 104, .int .u8 105, .int .u8 0, .int .u8 0] 5)) 13).trans (show (#[.int .u8 0, .int .u8 3, .int .u32 1, .int .u16 2, .int .u16 3, .int .u32 0, .int .u32 0, .int .u32 0, .int .u16 0, .int .u16 0, .slice none 0 0, .slice none 0 0, .slice none 0 0, .slice (some ⟨w.heap.size, 0, none⟩) 2 2, .slice none 0 0] : Array Value)[13]? = some (.slice (some ⟨w.heap.size, 0, none⟩) 2 2) from rfl)
  have u14 := (blk_cell (blk_alloc HW2.out (.cells #[.int .u8 0, .int .u8 3, .int .u8 0, .int .u8 18, .int .u8 0, .int .u8 0, .int .u8 0, .int .u8 1, .int .u8 0, .int .u8 2, .int .u8 0, .int .u8 3, .int .u8 0, .int .u8 0, .int .u8 0, .int .u8 0, .int .u8 104, .int .u8 105, .int .u8 0, .int .u8 0] 5)) 14).trans (show (#[.int .u8 0, .int .u8 3, .int .u32 1, .int .u16 2, .int .u16 3, .int .u32 0, .int .u32 0, .int .u32 0, .int .u16 0, .int .u16 0, .slice none 0 0, .slice none 0 0, .slice none 0 0, .slice (some ⟨w.heap.size, 0, none⟩) 2 2, .slice none 0 0] : Array Value)[14]? = some (.slice none 0 0) from rfl)
  have v0 := (blk_cell (blk_alloc HW4.out (.cells #[.int .u8 0, .int .u8 3, .int .u8 0, .int .u8 18, .int .u8 0, .int .u8 0, .int .u8 0, .int .u8 1, .int .u8 0, .int .u8 2, .int .u8 0, .int .u8 3, .int .u8 0, .int .u8 0, .int .u8 0, .int .u8 0, .int .u8 104, .int .u8 105, .int .u8 0, .int .u8 0] 5)) 0).trans (show (CV awX L)[0]? = some (.int .u8 0) from rfl)
  have v1 := (blk_cell (blk_alloc HW4.out (.cells #[.int .u8 0, .int .u8 3, .int .u8 0, .int .u8 18, .int .u8 0, .int .u8 0, .int .u8 0, .int .u8 1, .int .u8 0, .int .u8 2, .int .u8 0, .int .u8 3, .int .u8 0, .int .u8 0, .int .u8 0, .int .u8 0, .int .u8 104, .int .u8 105, .int .u8 0, .int .u8 0] 5)) 1).trans (show (CV awX L)[1]? = some (.int .u8 3) from rfl)
  have v2 := (blk_cell (blk_alloc HW4.out (.cells #[.int .u8 0, .int .u8 3, .int .u8 0, .int .u8 18, .int .u8 0, .int .u8 0, .int .u8 0, .int .u8 1, .int .u8 0, .int .u8 2, .int .u8 0, .int .u8 3, .int .u8 0, .int .u8 0, .int .u8 0, .int .u8 0, .int .u8 104, .int .u8 105, .int .u8 0, .int .u8 0] 5)) 2).trans (show (CV awX L)[2]? = some (.int .u32 1) from rfl)
  have v3 := (blk_cell (blk_alloc HW4.out (.cells #[.int .u8 0, .int .u8 3, .int .u8 0, .int .u8 18, .int .u8 0, .int .u8 0, .int .u8 0, .int .u8 1, .int .u8 0, .int .u8 2, .int .u8 0, .int .u8 3, .int .u8 0, .int .u8 0, .int .u8 0, .int .u8 0, .int .u8 104, .int .u8 105, .int .u8 0, .int .u8 0] 5)) 3).trans (show (CV awX L)[3]? = some (.int .u16 2) from rfl)
  have v4 := (blk_cell (blk_alloc HW4.out (.cells #[.int .u8 0, .int .u8 3, .int .u8 0, .int .u8 18, .int .u8 0, .int .u8 0, .int .u8 0, .int .u8 1, .int .u8 0, .int .u8 2, .int .u8 0, .int .u8 3, .int .u8 0, .int .u8 0, .int .u8 0, .int .u8 0, .int .u8 104, .int .u8 105, .int .u8 0, .int .u8 0] 5)) 4).trans (show (CV awX L)[4]? = some (.int .u16 3) from rfl)
  have v5 := (blk_cell (blk_alloc HW4.out (.cells #[.int .u8 0, .int .u8 3, .int .u8 0, .int .u8 18, .int .u8 0, .int .u8 0, .int .u8 0, .int .u8 1, .int .u8 0, .int .u8 2, .int .u8 0, .int .u8 3, .int .u8 0, .int .u8 0, .int .u8 0, .int .u8 0, .int .u8 104, .int .u8 105, .int .u8 0, .int .u8 0] 5)) 5).trans (show (CV awX L)[5]? = some (.int .u32 0) from rfl)
  have v6 := (blk_cell (blk_alloc HW4.out (.cells #[.int .u8 0, .int .u8 3, .int .u8 0, .int .u8 18, .int .u8 0, .int .u8 0, .int .u8 0, .int .u8 1, .int .u8 0, .int .u8 2, .int .u8 0, .int .u8 3, .int .u8 0, .int .u8 0, .int .u8 0, .int .u8 0, .int .u8 104, .int .u8 105, .int .u8 0, .int .u8 0] 5)) 6).trans (show (CV awX L)[6]? = some (.int .u32 0) from rfl)
  have v7 := (blk_cell (blk_alloc HW4.out (.cells #[.int .u8 0, .int .u8 3, .int .u8 0, .int .u8 18, .int .u8 0, .int .u8 0, .int .u8 0, .int .u8 1, .int .u8 0, .int .u8 2, .int .u8 0, .int .u8 3, .int .u8 0, .int .u8 0, .int .u8 0, .int .u8 0, .int .u8 104, .int .u8 105, .int .u8 0, .int .u8 0] 5)) 7).trans (show (CV awX L)[7]? = some (.int .u32 0) from rfl)
  have v8 := (blk_cell (blk_alloc HW4.out (.cells #[.int .u8 0, .int .u8 3, .int .u8 0, .int .u8 18, .int .u8 0, .int .u8 0, .int .u8 0, .int .u8 1, .int .u8 0, .int .u8 2, .int .u8 0, .int .u8 3, .int .u8 0, .int .u8 0, .int .u8 0, .int .u8 0, .int .u8 104, .int .u8 105, .int .u8 0, .int .u8 0] 5)) 8).trans (show (CV awX L)[8]? = some (.int .u16 0) from rfl)
  have v9 := (blk_cell (blk_alloc HW4.out (.cells #[.int .u8 0, .int .u8 3, .int .u8 0, .int .u8 18, .int .u8 0, .int .u8 0, .int .u8 0, .int .u8 1, .int .u8 0, .int .u8 2, .int .u8 0, .int .u8 3, .int .u8 0, .int .u8 0, .int .u8 0, .int .u8 0, .int .u8 104, .int .u8 105, .int .u8 0, .int .u8 0] 5)) 9).trans (show (CV awX L)[9]? = some (.int .u16 0) from rfl)
  have v10 := (blk_cell (blk_alloc HW4.out (.cells #[.int .u8 0, .int .u8 3, .int .u8 0, .int .u8 18, .int .u8 0, .int .u8 0, .int .u8 0, .int .u8 1, .int .u8 0, .int .u8 2, .int .u8 0, .int .u8 3, .int .u8 0, .int .u8 0, .int .u8 0, .int .u8 0, .int .u8 104, .int .u8 105, .int .u8 0, .int .u8 0] 5)) 10).trans (show (CV awX L)[10]? = some (.slice L.A10 0 L.c10) from rfl)
  have v11 := (blk_cell (blk_alloc HW4.out (.cells #[.int .u8 0, .int .u8 3, .int .u8 0, .int .u8 18, .int .u8 0, .int .u8 0, .int .u8 0, .int .u8 1, .int .u8 0, .int .u8 2, .int .u8 0, .int .u8 3, .int .u8 0, .int .u8 0, .int .u8 0, .int .u8 0, .int .u8 104, .int .u8 105, .int .u8 0, .int .u8 0] 5)) 11).trans (show (CV awX L)[11]? = some (.slice L.A11 0 L.c11) from rfl)
  have v12 := (blk_cell (blk_alloc HW4.out (.cells #[.int .u8 0, .int .u8 3, .int .u8 0, .int .u8 18, .int .u8 0, .int .u8 0, .int .u8 0, .int .u8 1, .int .u8 0, .int .u8 2, .int .u8 0, .int .u8 3, .int .u8 0, .int .u8 0, .int .u8 0, .int .u8 0, .int .u8 104, .int .u8 105, .int .u8 0, .int .u8 0] 5)) 12).trans (show (CV awX L)[12]? = some (.slice L.A12 0 L.c12) from rfl)
  have v13 := (blk_cell (blk_alloc HW4.out (.cells #[.int .u8 0, .int .u8 3, .int .u8 0, .int .u8 18, .int .u8 0, .int .u8 0, .int .u8 0, .int .u8 1, .int .u8 0, .int .u8 2, .int .u8 0, .int .u8 3, .int .u8 0, .int .u8 0, .int .u8 0, .int .u8 0, .int .u8 104, .int .u8 105, .int .u8 0, .int .u8 0] 5)) 13).trans (show (CV awX L)[13]? = some (.slice L.A13 2 L.c13) from rfl)
  have v14 := (blk_cell (blk_alloc HW4.out (.cells #[.int .u8 0, .int .u8 3, .int .u8 0, .int .u8 18, .int .u8 0, .int .u8 0, .int .u8 0, .int .u8 1, .int .u8 0, .int .u8 2, .int .u8 0, .int .u8 3, .int .u8 0, .int .u8 0, .int .u8 0, .int .u8 0, .int .u8 104, .int .u8 105, .int .u8 0, .int .u8 0] 5)) 14).trans (show (CV awX L)[14]? = some (.slice L.A14 0 L.c14) from rfl)
  have r1 : (convert 22 9 (.slice A 20 c)).run Try.prog w3 = .ok (.string (bstr awL)) w3 := run_bstr HC.out
  have r2 : (convert 22 9 (.slice (some ⟨w3.heap.size, 0, none⟩) 20 20)).run Try.prog (w3.alloc (.cells #[.int .u8 0, .int .u8 3, .int .u8 0, .int .u8 18, .int .u8 0, .int .u8 0, .int .u8 0, .int .u8 1, .int .u8 0, .int .u8 2, .int .u8 0, .int .u8 3, .int .u8 0, .int .u8 0, .int .u8 0, .int .u8 0, .int .u8 104, .int .u8 105, .int .u8 0, .int .u8 0] 5)) = .ok (.string (bstr awL)) (w3.alloc (.cells #[.int .u8 0, .int .u8 3, .int .u8 0, .int .u8 18, .int .u8 0, .int .u8 0, .int .u8 0, .int .u8 1, .int .u8 0, .int .u8 2, .int .u8 0, .int .u8 3, .int .u8 0, .int .u8 0, .int .u8 0, .int .u8 0, .int .u8 104, .int .u8 105, .int .u8 0, .int .u8 0] 5)) := run_bstr (n := 20) (row_lit byte rfl w3 5 (#[.int .u8 0, .int .u8 3, .int .u8 0, .int .u8 18, .int .u8 0, .int .u8 0, .int .u8 0, .int .u8 1, .int .u8 0, .int .u8 2, .int .u8 0, .int .u8 3, .int .u8 0, .int .u8 0, .int .u8 0, .int .u8 0, .int .u8 104, .int .u8 105, .int .u8 0, .int .u8 0]).toList awL rfl (by decide) (lit_byte w3 awL rfl))
  have HR := Lib.hid (fun (W : World) (h : Below w3.heap.size w3 W) => rsame_calls W awX awX ⟨none, 0, none, 0, none, 0, some ⟨w.heap.size, 0, none⟩, 2, none, 0⟩ L (HX1.out.below h) (HX2.out.below h) aw_ok aw_ok)
  generalize bstr awL = sb at *
  clear HW2 HW4 HX1 HX2 HC HCL
  have hbb := below_alloc (Below.refl w3.heap.size w3) (.cells #[.int .u8 0, .int .u8 3, .int .u8 0, .int .u8 18, .int .u8 0, .int .u8 0, .int .u8 0, .int .u8 1, .int .u8 0, .int .u8 2, .int .u8 0, .int .u8 3, .int .u8 0, .int .u8 0, .int .u8 0, .int .u8 0, .int .u8 104, .int .u8 105, .int .u8 0, .int .u8 0] 5)
  have HBB := Lib.hid hbb
  replace HB1 := Lib.hid (below_alloc HB1.out (.cells #[.int .u8 0, .int .u8 3, .int .u8 0, .int .u8 18, .int .u8 0, .int .u8 0, .int .u8 0, .int .u8 1, .int .u8 0, .int .u8 2, .int .u8 0, .int .u8 3, .int .u8 0, .int .u8 0, .int .u8 0, .int .u8 0, .int .u8 104, .int .u8 105, .int .u8 0, .int .u8 0] 5))
  clear hbb
  go_wp2_with fail
  refine (HR.out _ HBB.out).mono ?_
  rintro e w5 ⟨rfl, hB⟩
  rw [show decide True = true from rfl]
  replace HB1 := Lib.hid (below_then HB1.out HB1.out.size hB)
  clear HR r1 r2
  go_wp2
  go_ret
  exact ⟨rfl, HB1.out⟩
end Go.Proofs.Ytjmadnpicidbeaa.Ch
end
section
namespace Go.Proofs.Ytjmadnpicidbeaa.Ch
open Go.RowKit Go.Proofs.YtjmadnpicidbeaaW.PrintWords Go.Proofs.YtjmadnpicidbeaaW.PrintLast Go.Proofs.Ytjmadnpicidbeaa.Base Go.Proofs.Ytjmadnpicidbeaa.PCh Go.Proofs.Ytjmadnpicidbeaa.ParDec Go.Proofs.Ytjmadnpicidbeaa.ParEnc
set_option maxRecDepth 100000
set_option linter.unusedVariables false
set_option linter.unusedSimpArgs false
noncomputable def sizeD (x : Chk) : Nat := if checkD x = 0 then (chunkL x).length else 0
set_option maxHeartbeats 4000000 in
theorem rsize_calls (w : World) (x : Chk) (L : Lay) (hx : CR w x L) (hok : OkC x) :
    Calls Try.prog 17 #[.agg (CV x L)] w fun e w' => e = .returned (.int .i64 (sizeD x : Int)) ∧ Below w.heap.size w w' := by
  have HC := Lib.hid (fun (W : World) (h : Below w.heap.size w W) => rcheck_calls W x L (hx.below h) hok)
  have HV := Lib.hid (fun (W : World) (h : Below w.heap.size w W) (hc : checkD x = 0) => rvalue_calls W x L (hx.below h) (check_ok.1 hc).bare (checkD_lists hc).1 (checkD_lists hc).2.1 (checkD_lists hc).2.2 hok.l13)
  have HXS := Lib.hid (show (Try.prog.info? 30).map (·.size) = some (CV x L).size by kernel_rfl)
  have HCL := Lib.hid (chunkL_len x)
  have HLE := Lib.hid (fun hc : checkD x = 0 => checkD_len hc)
  have X := B1.new w x L
  unfold sizeD
  obtain ⟨CD, hcd⟩ : ∃ CD, checkD x = CD := ⟨_, rfl⟩
  rw [hcd] at HC HV HLE ⊢
  clear hx hcd hok
  generalize (chunkL x).length = cl at *
  obtain ⟨SZ, hsz⟩ : ∃ SZ : Nat, (if CD = 0 then cl else 0) = SZ := ⟨_, rfl⟩
  rw [hsz]
  have HSZ := Lib.hid hsz
  clear hsz
  go_enter Try.func17, Try.ntmps17
  go_upto_region 1 with (fail)
  refine wp_gen (B1 w x L) X ?_
  clear X
  intro W X
  go_wp2_with (with_reducible refine gate_dst (N := 3) rfl ?_; refine wpList_load_row rfl 30 (.tmp 1) rfl _ rfl 30 _ (0, 0) _ X.x0 Try.underlying30 rfl HXS.out ?_)
  refine (HC.out W X.x2).mono ?_
  rintro e w2 ⟨rfl, hB2⟩
  replace X := X.below hB2
  clear hB2 HC
  by_cases h0 : CD = 0
  · subst h0
    have HV2 := Lib.hid (HV.out w2 X.x2 rfl)
    have HL2 := Lib.hid (HLE.out rfl)
    clear HV HLE
    go_wp2_with (with_reducible refine gate_dst (N := 6) rfl ?_; refine wpList_load_row rfl 30 (.tmp 1) rfl _ rfl 30 _ (0, 0) _ X.x0 Try.underlying30 rfl HXS.out ?_)
    refine HV2.out.mono ?_
    rintro e w5 ⟨v9, rfl, hR5, hB5⟩
    obtain ⟨A9, c9, rfl⟩ := Kd.R_slice hR5
    replace X := X.below hB5
    clear hR5 hB5 HV2
    generalize (valueD x).length = vl at *
    go_wp2
    go_ret
    have hz : wrap64 (wrap64 ((wrap64 ((vl : Int) + 7)).tdiv 4) * 4) = (SZ : Int) := by
      have h1 := HSZ.out
      have h2 := HCL.out
      have h3 := HL2.out
      simp only [if_true] at h1
      rw [show wrap64 ((vl : Int) + 7) = (vl : Int) + 7 by unfold wrap64; omega, Int.tdiv_eq_ediv_of_nonneg (by omega)]
      unfold wrap64
      omega
    exact ⟨congrArg (fun z => Ending.returned (.int .i64 z)) hz, X.x2⟩
  · have q : (CD != 0) = true := by simp [h0]
    go_wp2
    go_ret
    have hz : (0 : Int) = (SZ : Int) := by
      have h1 := HSZ.out
      rw [if_neg h0] at h1
      omega
    exact ⟨congrArg (fun z => Ending.returned (.int .i64 z)) hz, X.x2⟩
end Go.Proofs.Ytjmadnpicidbeaa.Ch
end
section
namespace Go.Proofs.Ytjmadnpicidbeaa.Ch
open Go.RowKit Go.Proofs.YtjmadnpicidbeaaW.PrintWords Go.Proofs.YtjmadnpicidbeaaW.PrintLast Go.Proofs.Ytjmadnpicidbeaa.Base Go.Proofs.Ytjmadnpicidbeaa.PCh Go.Proofs.Ytjmadnpicidbeaa.ParDec Go.Proofs.Ytjmadnpicidbeaa.ParEnc
set_option maxRecDepth 100000
set_option linter.unusedVariables false
set_option linter.unusedSimpArgs false
theorem z16 : in16 0 := by unfold in16; omega
theorem z32 : in32 0 := by unfold in32; omega
theorem inB_intsL (l : List UInt8) : ∀ b ∈ intsL l, inB b := fun b hb => by
  unfold intsL at hb
  obtain ⟨x, _, rfl⟩ := List.mem_map.1 hb
  have := x.toNat_lt
  unfold inB
  omega
theorem intsL_len (l : List UInt8) : (intsL l).length = l.length := List.length_map ..
theorem nog : ∀ g ∈ ([] : List GapS), okG g := fun _ h => by cases h
theorem noi {P : Int → Prop} : ∀ g ∈ ([] : List Int), P g := fun _ h => by cases h
theorem nop : ∀ p ∈ ([] : List PrmS), okQ p := fun _ h => by cases h
theorem bare_mk {x : Chk} (p : Nat → Bool) (hp : hasF x.f0 = p) (hfl : flD x.f0 x.f1 = x.f1) (h : x = ⟨x.f0, x.f1, if p 2 then x.f2 else 0, if p 3 then x.f3 else 0, if p 4 then x.f4 else 0, if p 5 then x.f5 else 0, if p 6 then x.f6 else 0, if p 7 then x.f7 else 0, if p 8 then x.f8 else 0, if p 9 then x.f9 else 0, if p 10 then x.f10 else [], if p 11 then x.f11 else [], if p 12 then x.f12 else [], if p 13 then x.f13 else [], if p 14 then x.f14 else []⟩) : x = bareD x := by
  unfold bareD keepF
  rw [hp, hfl]
  exact h
theorem read_ok {kd fl : Int} {v : List UInt8} {d : Chk} (h : readD kd fl v = .ok d) (hk : inB kd) (hf : inB fl) (hff : flD kd fl = fl) (hv : v.length ≤ 65531) : OkC d ∧ ChkOk d ∧ d.f0 = kd ∧ d.f1 = fl ∧ (valueD d).length ≤ v.length := by
  unfold readD at h
  by_cases k0 : kd = 0
  · rw [if_pos k0] at h
    unfold readData at h
    split at h
    · cases h
    split at h
    · cases h
    rename_i h12 h12'
    injection h with h
    have hl : (valueD d).length ≤ v.length := by
      subst h
      unfold valueD
      rw [if_pos k0]
      unfold valData
      simp only [List.length_append, fourL_length, twoL_length, List.length_cons, List.length_nil, intsL_len, List.length_drop]
      omega
    subst h
    refine ⟨⟨hk, hf, be4_in _, be_in16 _, be_in16 _, be4_in _, z32, z32, z16, z16, nog, nog, noi, inB_intsL _, nop, by rw [intsL_len, List.length_drop]; omega⟩, ⟨bare_mk (fun i => i == 2 || i == 3 || i == 4 || i == 5 || i == 13) (by funext i; unfold hasF; rw [if_pos k0]) hff rfl, fun _ e => ?_, fun e => ?_, Nat.zero_le _, Nat.zero_le _, Nat.zero_le _, rfl, by omega⟩, rfl, rfl, hl⟩
    · have e := congrArg List.length e
      rw [intsL_len, List.length_drop] at e
      have e : v.length - 12 = 0 := e
      omega
    · dsimp only at e; omega
  rw [if_neg k0] at h
  by_cases k1 : kd = 1 ∨ kd = 2
  · rw [if_pos k1] at h
    unfold readInit at h
    split at h
    · cases h
    split at h
    · cases h
    rename_i h16 ps hps
    injection h with h
    obtain ⟨p1, p2, p3⟩ := prmsD_all hps
    rw [List.length_drop] at p3
    have hl : (valueD d).length ≤ v.length := by
      subst h
      unfold valueD
      rw [if_neg k0, if_pos k1]
      simp only [List.length_append, fourL_length, twoL_length, List.length_cons, List.length_nil]
      omega
    subst h
    refine ⟨⟨hk, hf, be4_in _, z16, z16, z32, be4_in _, be4_in _, be_in16 _, be_in16 _, nog, nog, noi, noi, p1, Nat.zero_le _⟩, ⟨bare_mk (fun i => i == 2 || i == 6 || i == 7 || i == 8 || i == 9 || i == 14) (by funext i; unfold hasF; rw [if_neg k0, if_pos k1]) hff rfl, fun e => absurd e k0, fun e => ?_, Nat.zero_le _, Nat.zero_le _, Nat.zero_le _, p2, by omega⟩, rfl, rfl, hl⟩
    dsimp only at e; omega
  rw [if_neg k1] at h
  have lists : ∀ nr, kd = (if nr then 16 else 3) → readLists nr kd fl v = .ok d → OkC d ∧ ChkOk d ∧ d.f0 = kd ∧ d.f1 = fl ∧ (valueD d).length ≤ v.length := by
    intro nr hkd h
    unfold readLists at h
    split at h
    · cases h
    rename_i t1 t2 G N D hL
    injection h with h
    unfold listsD at hL
    by_cases l1 : v.length < (if nr then 16 else 12)
    · rw [if_pos l1] at hL; cases hL
    rw [if_neg l1] at hL
    by_cases l2 : 4096 < be ((v.drop 8).take 2) ∨ 4096 < (if nr then be ((v.drop 10).take 2) else 0) ∨ 4096 < be ((v.drop (if nr then 12 else 10)).take 2)
    · rw [if_pos l2] at hL; cases hL
    rw [if_neg l2] at hL
    by_cases l3 : v.length ≠ (if nr then 16 else 12) + 4 * (be ((v.drop 8).take 2) + (if nr then be ((v.drop 10).take 2) else 0) + be ((v.drop (if nr then 12 else 10)).take 2))
    · rw [if_pos l3] at hL; cases hL
    rw [if_neg l3] at hL
    injection hL with hL
    injection hL with e1 hL
    injection hL with e2 hL
    injection hL with e3 hL
    injection hL with e4 e5
    have g3 : G.length = be ((v.drop 8).take 2) := by rw [← e3, gapsD_length]
    have g4 : N.length = if nr then be ((v.drop 10).take 2) else 0 := by rw [← e4, gapsD_length]
    have g5 : D.length = be ((v.drop (if nr then 12 else 10)).take 2) := by rw [← e5, dupsD_length]
    rw [← g3, ← g4, ← g5] at l2 l3
    have hl : (valueD d).length ≤ v.length := by
      subst h
      unfold valueD
      cases nr
      · have e3 : kd = 3 := hkd
        rw [if_neg k0, if_neg k1, if_pos e3]
        simp only [List.length_append, fourL_length, twoL_length, gapL_length, List.length_cons, List.length_nil]
        simp only [Bool.false_eq_true, if_false] at l3
        omega
      · have e16 : kd = 16 := hkd
        rw [if_neg k0, if_neg k1, if_neg (show ¬ kd = 3 by omega), if_pos e16]
        simp only [List.length_append, fourL_length, twoL_length, gapL_length, List.length_cons, List.length_nil]
        simp only [if_true] at l3
        omega
    have i1 : in32 (t1 : Int) := by rw [← e1]; exact be4_in _
    have i2 : in32 (t2 : Int) := by rw [← e2]; exact be4_in _
    have i3 : ∀ g ∈ G, okG g := by rw [← e3]; exact gapsD_ok _ _
    have i4 : ∀ g ∈ N, okG g := by rw [← e4]; exact gapsD_ok _ _
    have i5 : ∀ g ∈ D, in32 g := by rw [← e5]; exact dupsD_ok _ _
    have hN : nr = false → N = [] := fun e => by rw [e] at g4; exact List.length_eq_zero_iff.1 g4
    subst h
    refine ⟨⟨hk, hf, i1, z16, z16, z32, z32, i2, z16, z16, i3, i4, i5, noi, nop, Nat.zero_le _⟩, ⟨?_, fun e => absurd e k0, fun e => ?_, by dsimp only; omega, by dsimp only; omega, by dsimp only; omega, rfl, by omega⟩, rfl, rfl, hl⟩
    · cases nr
      · rw [hN rfl]
        exact bare_mk (fun i => i == 2 || i == 7 || i == 10 || i == 12) (by funext i; unfold hasF; dsimp only; rw [hkd]; rfl) hff rfl
      · exact bare_mk (fun i => i == 2 || i == 7 || i == 10 || i == 11 || i == 12) (by funext i; unfold hasF; dsimp only; rw [hkd]; rfl) hff rfl
    · cases nr <;> simp at hkd <;> dsimp only at e <;> omega
  by_cases k3 : kd = 3
  · rw [if_pos k3] at h
    exact lists false k3 h
  rw [if_neg k3] at h
  by_cases k16 : kd = 16
  · rw [if_pos k16] at h
    exact lists true k16 h
  rw [if_neg k16] at h
  have prms : ∀ bt, (kd = 4 ∨ kd = 5 ∨ kd = 6 ∨ kd = 9) → (kd = 4 ∨ kd = 5 → bt = true) → readPrms bt kd fl v = .ok d → OkC d ∧ ChkOk d ∧ d.f0 = kd ∧ d.f1 = fl ∧ (valueD d).length ≤ v.length := by
    intro bt k4 hbt h
    unfold readPrms at h
    split at h
    · cases h
    split at h
    · cases h
    rename_i ps hps hbb
    injection h with h
    obtain ⟨p1, p2, p3⟩ := prmsD_all hps
    have hl : (valueD d).length ≤ v.length := by
      subst h
      unfold valueD
      rw [if_neg k0, if_neg k1, if_neg k3, if_neg k16, if_pos k4]
      exact p3
    subst h
    refine ⟨⟨hk, hf, z32, z16, z16, z32, z32, z32, z16, z16, nog, nog, noi, noi, p1, Nat.zero_le _⟩, ⟨bare_mk (fun i => i == 14) (by funext i; unfold hasF; rw [if_neg k0, if_neg k1, if_neg k16, if_neg k3, if_pos k4]) hff rfl, fun e => absurd e k0, fun e => ?_, Nat.zero_le _, Nat.zero_le _, Nat.zero_le _, p2, by omega⟩, rfl, rfl, hl⟩
    rw [hbt e] at hbb
    simpa using hbb
  by_cases k4 : kd = 4 ∨ kd = 5
  · rw [if_pos k4] at h
    exact prms true (by omega) (fun _ => rfl) h
  rw [if_neg k4] at h
  by_cases k6 : kd = 6 ∨ kd = 9
  · rw [if_pos k6] at h
    exact prms false (by omega) (fun e => absurd e k4) h
  rw [if_neg k6] at h
  have k46 : ¬(kd = 4 ∨ kd = 5 ∨ kd = 6 ∨ kd = 9) := by omega
  by_cases k7 : kd = 7
  · rw [if_pos k7] at h
    unfold readShut at h
    split at h
    · rename_i h4
      injection h with h
      have hl : (valueD d).length ≤ v.length := by
        subst h
        unfold valueD
        rw [if_neg k0, if_neg k1, if_neg k3, if_neg k16, if_neg k46, if_pos k7]
        rw [fourL_length]
        exact Nat.le_of_eq h4.symm
      subst h
      refine ⟨⟨hk, hf, be_in32 _ (by omega), z16, z16, z32, z32, z32, z16, z16, nog, nog, noi, noi, nop, Nat.zero_le _⟩, ⟨bare_mk (fun i => i == 2) (by funext i; unfold hasF; rw [if_neg k0, if_neg k1, if_neg k16, if_neg k3, if_neg k46, if_pos k7]) hff rfl, fun e => absurd e k0, fun e => absurd e k4, Nat.zero_le _, Nat.zero_le _, Nat.zero_le _, rfl, by omega⟩, rfl, rfl, hl⟩
    · cases h
  rw [if_neg k7] at h
  by_cases k8 : kd = 8 ∨ kd = 11 ∨ kd = 14
  · rw [if_pos k8] at h
    unfold readNone at h
    split at h
    · rename_i h4
      injection h with h
      have hl : (valueD d).length ≤ v.length := by
        subst h
        unfold valueD chk0
        rw [if_neg k0, if_neg k1, if_neg k3, if_neg k16, if_neg k46, if_neg k7, if_pos k8]
        exact Nat.zero_le _
      subst h
      refine ⟨⟨hk, hf, z32, z16, z16, z32, z32, z32, z16, z16, nog, nog, noi, noi, nop, Nat.zero_le _⟩, ⟨bare_mk (fun i => false) (by funext i; unfold hasF chk0; dsimp only; rw [if_neg k0, if_neg k1, if_neg k16, if_neg k3, if_neg k46, if_neg k7, if_pos k8]) hff rfl, fun e => absurd e k0, fun e => absurd e k4, Nat.zero_le _, Nat.zero_le _, Nat.zero_le _, rfl, by omega⟩, rfl, rfl, hl⟩
    · cases h
  rw [if_neg k8] at h
  unfold readBody at h
  injection h with h
  have hl : (valueD d).length ≤ v.length := by
    subst h
    unfold valueD
    rw [if_neg k0, if_neg k1, if_neg k3, if_neg k16, if_neg k46, if_neg k7, if_neg k8]
    rw [intsL_len]
    exact Nat.le_refl _
  subst h
  refine ⟨⟨hk, hf, z32, z16, z16, z32, z32, z32, z16, z16, nog, nog, noi, inB_intsL _, nop, by rw [intsL_len]; omega⟩, ⟨bare_mk (fun i => i == 13) (by funext i; unfold hasF; rw [if_neg k0, if_neg k1, if_neg k16, if_neg k3, if_neg k46, if_neg k7, if_neg k8]) hff rfl, fun e => absurd e k0, fun e => absurd e k4, Nat.zero_le _, Nat.zero_le _, Nat.zero_le _, rfl, by omega⟩, rfl, rfl, hl⟩
theorem fourL_in (l : List Int) : ∀ b ∈ fourL l, inB b := by
  induction l with
  | nil => intro b h; cases h
  | cons n r ih =>
    intro b h
    unfold fourL at h
    rcases List.mem_append.1 h with h | h
    · simp only [List.mem_cons, List.not_mem_nil, or_false] at h
      unfold inB
      omega
    · exact ih b h
theorem twoL_in (l : List Int) : ∀ b ∈ twoL l, inB b := by
  induction l with
  | nil => intro b h; cases h
  | cons n r ih =>
    intro b h
    unfold twoL at h
    rcases List.mem_append.1 h with h | h
    · simp only [List.mem_cons, List.not_mem_nil, or_false] at h
      unfold inB
      omega
    · exact ih b h
theorem nil_in : ∀ b ∈ ([] : List Int), inB b := fun _ h => by cases h
theorem app_in {a b : List Int} (ha : ∀ x ∈ a, inB x) (hb : ∀ x ∈ b, inB x) : ∀ x ∈ a ++ b, inB x := fun x h => (List.mem_append.1 h).elim (ha x) (hb x)
theorem encP_in {ps : List PrmS} (h : ∀ p ∈ ps, okQ p) : ∀ b ∈ (encP ps).1, inB b := by
  unfold encP
  by_cases hl : ps.length > 256
  · rw [if_pos hl]; exact nil_in
  rw [if_neg hl]
  by_cases hs : allShort ps
  · rw [runB_short ps hs]
    exact fold_in ps [] nil_in (fun q hq => ⟨(h q hq).1.1, (h q hq).1.2, by have := hs q hq; omega, fun x hx => (h q hq).2 x hx⟩)
  · rw [runB_long ps hs]; exact nil_in
theorem value_in {x : Chk} (h : OkC x) : ∀ b ∈ valueD x, inB b := by
  unfold valueD
  split
  · unfold valData; exact app_in (app_in (app_in (fourL_in _) (twoL_in _)) (fourL_in _)) h.r13
  split
  · exact app_in (app_in (app_in (fourL_in _) (twoL_in _)) (fourL_in _)) (encP_in h.r14)
  split
  · exact app_in (app_in (app_in (fourL_in _) (twoL_in _)) (twoL_in _)) (fourL_in _)
  split
  · exact app_in (app_in (app_in (app_in (fourL_in _) (twoL_in _)) (twoL_in _)) (twoL_in _)) (fourL_in _)
  split
  · exact encP_in h.r14
  split
  · exact fourL_in _
  split
  · exact nil_in
  · exact h.r13
theorem chunk_in {x : Chk} (h : OkC x) : ∀ b ∈ chunkL x, inB b := by
  unfold chunkL
  refine app_in (app_in (app_in ?_ (twoL_in _)) (value_in h)) ?_
  · intro b hb
    simp only [List.mem_cons, List.not_mem_nil, or_false] at hb
    rcases hb with rfl | rfl
    · exact h.r0
    · exact h.r1
  · intro b hb
    unfold padL at hb
    rw [(List.mem_replicate.1 hb).2]
    unfold inB
    omega
theorem dec_may {b : List UInt8} (h : (decC b).2.2 = 0) : OkC (decC b).1 ∧ checkD (decC b).1 = 0 := by
  unfold decC at h ⊢
  by_cases h4 : b.length < 4
  · rw [if_pos h4] at h; cases h
  rw [if_neg h4] at h ⊢
  by_cases h5 : be ((b.drop 2).take 2) < 4 ∨ b.length < be ((b.drop 2).take 2)
  · rw [if_pos h5] at h; cases h
  rw [if_neg h5] at h ⊢
  have hbn := be_in16 (b.drop 2)
  unfold in16 at hbn
  have u0 := (b.getD 0 0).toNat_lt
  have u1 := (b.getD 1 0).toNat_lt
  obtain ⟨f1, f2⟩ := flD_in ((b.getD 0 0).toNat : Int) ((b.getD 1 0).toNat : Int) (by omega) (by omega)
  cases hr : readD ((b.getD 0 0).toNat : Int) (flD ((b.getD 0 0).toNat : Int) ((b.getD 1 0).toNat : Int)) ((b.take (be ((b.drop 2).take 2))).drop 4) with
  | error c =>
    rw [hr] at h
    exact absurd h (readD_err hr)
  | ok d =>
    have hl : ((b.take (be ((b.drop 2).take 2))).drop 4).length ≤ 65531 := by
      rw [List.length_drop, List.length_take]
      omega
    obtain ⟨r1, r2, _⟩ := read_ok hr (by unfold inB; omega) f1 f2 hl
    exact ⟨r1, check_ok.2 r2⟩
theorem dec_none {b : List UInt8} (h : (decC b).2.2 ≠ 0) : decC b = (chk0 0 0, 0, (decC b).2.2) := by
  unfold decC at h ⊢
  by_cases h4 : b.length < 4
  · rw [if_pos h4]
  rw [if_neg h4] at h ⊢
  by_cases h5 : be ((b.drop 2).take 2) < 4 ∨ b.length < be ((b.drop 2).take 2)
  · rw [if_pos h5]
  rw [if_neg h5] at h ⊢
  cases hr : readD ((b.getD 0 0).toNat : Int) (flD ((b.getD 0 0).toNat : Int) ((b.getD 1 0).toNat : Int)) ((b.take (be ((b.drop 2).take 2))).drop 4) with
  | error c => rfl
  | ok d => rw [hr] at h; exact absurd rfl h
end Go.Proofs.Ytjmadnpicidbeaa.Ch
end
section
namespace Go.Proofs.Ytjmadnpicidbeaa.Ch
open Go.RowKit Go.Proofs.YtjmadnpicidbeaaW.PrintWords Go.Proofs.YtjmadnpicidbeaaW.PrintLast Go.Proofs.Ytjmadnpicidbeaa.Base Go.Proofs.Ytjmadnpicidbeaa.PCh Go.Proofs.Ytjmadnpicidbeaa.ParDec Go.Proofs.Ytjmadnpicidbeaa.ParEnc
set_option maxRecDepth 100000
set_option linter.unusedVariables false
set_option linter.unusedSimpArgs false
theorem CR.of_M3 {w : World} {base : Nat} {ok : Nat → Prop} {x : Chk} {cs : Array Value} (h : k30.M w base ok x cs.toList) : ∃ L, cs = CV x L ∧ CR w x L := by
  obtain ⟨L, hcs, hx⟩ := CR.of_M h
  exact ⟨L, Array.toList_inj.1 hcs, hx⟩
theorem fold15 (a0 a1 a2 a3 a4 a5 a6 a7 a8 a9 a10 a11 a12 a13 a14 : Value) : Array.foldl (fun (cs : Array Value) (x : Value × Nat) => cs.setIfInBounds x.snd x.fst) #[.int .u8 0, .int .u8 0, .int .u32 0, .int .u16 0, .int .u16 0, .int .u32 0, .int .u32 0, .int .u32 0, .int .u16 0, .int .u16 0, .slice none 0 0, .slice none 0 0, .slice none 0 0, .slice none 0 0, .slice none 0 0] (#[a0, a1, a2, a3, a4, a5, a6, a7, a8, a9, a10, a11, a12, a13, a14] : Array Value).zipIdx 0 15 = #[a0, a1, a2, a3, a4, a5, a6, a7, a8, a9, a10, a11, a12, a13, a14] := by
  simp [List.zipIdx]
theorem exec_one {o : Oper} {a : Act} {w : World} (y : Tmp) (x : Chk) (L : Lay) (ho : o.op = .buildSlice 41 1 #[(0, .tmp y)]) (hx : a.tmps[y]? = some (.agg (CV x L))) : (execOp a.eval o).run Try.prog w = .ok (.value (.slice (some ⟨w.heap.size, 0, none⟩) 1 1)) (w.alloc (.cells (CV x L) 30)) := by
  unfold execOp
  simp only [ho]
  go_simp
  rw [if_neg (by simp [CV, Value.cells])]
  go_simp
  exact congrArg (fun c => w.alloc (.cells c 30)) (fold15 _ _ _ _ _ _ _ _ _ _ _ _ _ _ _)
theorem wpList_one {ops : Array Oper} {rest : List Oper} {op : Oper} {a : Act} {w : World} {Q : Exit → Act → World → Prop} (hgd : op.guard = none) (y : Tmp) (ho : op.op = .buildSlice 41 1 #[(0, .tmp y)]) (CX : Array Value) (hx : a.tmps[y]? = some (.agg CX)) (x : Chk) (L : Lay) (hc : CV x L = CX)
    (h : wpList Try.prog ops Q rest (a.put op.dst (.slice (some ⟨w.heap.size, 0, none⟩) 1 1)) (w.alloc (.cells CX 30))) : wpList Try.prog ops Q (op :: rest) a w := by
  subst hc
  refine wpList_plain hgd fun _ hK => ?_
  have hK' := hK _ _ h
  unfold Oper.wp
  rw [exec_one y x L ho hx]
  exact hK'
theorem chk0_ok : OkB (chk0 0 0) := ⟨fun _ h => (by cases h), fun _ h => (by cases h)⟩
theorem enc_one {d : Chk} (hc : checkD d = 0) : encD [d] = if 65536 < (chunkL d).length then ([], 2) else (chunkL d, 0) := by
  unfold encD chkAll chkAll
  rw [if_pos hc, if_pos rfl]
  unfold runE runE
  rw [List.nil_append]
theorem dec_again {d : Chk} (ok : OkC d) (hc : checkD d = 0) : decC (bytesOf (chunkL d)) = (d, ((chunkL d).length : Int), 0) :=
  dec_back ok (check_ok.1 hc) (t := []) (by rw [List.append_nil]; exact ints_bytesOf _ (chunk_in ok))
set_option maxHeartbeats 8000000 in
theorem reads_row {w : World} (A : Option Addr) (c : Nat) (b : List UInt8) (hb : byte.C w A b.length b) (hc : b.length ≤ c) (hm : c ≤ 140737488351232) :
    Calls Try.prog 5 #[.slice A b.length c] w fun e w' => e = .returned (.bool true) ∧ Below w.heap.size w w' := by
  have H1 := Lib.hid (decC_calls w A b c hb hc (by omega))
  have hlen := @decC_len b
  have hmay := @dec_may b
  have hnone := @dec_none b
  unfold DecCP at H1
  generalize decC b = D at *
  obtain ⟨d, n, er⟩ := D
  dsimp only at H1 hlen hmay hnone
  have HLEN := Lib.hid hlen
  have HMAY := Lib.hid hmay
  have HNONE := Lib.hid hnone
  clear hlen hmay hnone hb
  have hbl : b.length ≤ 140737488351232 := by omega
  go_enter Try.func5, Try.ntmps5
  go_wp2_with fail
  refine H1.out.mono ?_
  rintro e w1 ⟨cs1, rfl, hM1, hB1⟩
  obtain ⟨L1, rfl, hx1⟩ := CR.of_M3 hM1
  have HX1 := Lib.hid (fun (W : World) (h : Below w1.heap.size w1 W) => hx1.below h)
  have HXS1 := Lib.hid (show (Try.prog.info? 30).map (·.size) = some (CV d L1).size by kernel_rfl)
  have HXZ1 := Lib.hid (show (#[.int .u8 0, .int .u8 0, .int .u32 0, .int .u16 0, .int .u16 0, .int .u32 0, .int .u32 0, .int .u32 0, .int .u16 0, .int .u16 0, .slice none 0 0, .slice none 0 0, .slice none 0 0, .slice none 0 0, .slice none 0 0] : Array Value).size = (CV d L1).size from rfl)
  have HXO1 := Lib.hid (CV_one d L1)
  obtain ⟨CX1, hCX1⟩ : ∃ CX1, CV d L1 = CX1 := ⟨_, rfl⟩
  rw [hCX1] at HXS1 HXZ1 HXO1 ⊢
  have HE1 := Lib.hid hCX1
  clear hM1 hx1 hCX1
  go_upto_region 2 with (with_reducible refine gate_dst (N := 3) rfl ?_; go_must (refine wpList_box rfl rfl 3 rfl rfl (.tmp 14) rfl CX1 rfl rfl HXZ1.out HXS1.out HXO1.out ?_))
  refine wp_gen (fun W => W.heap[w1.heap.size]? = some (.cells CX1 30 (0, 0)) ∧ Below w1.heap.size w1 W) ⟨blk_new _ _, below_alloc (Below.refl _ _) _⟩ ?_
  rintro W1 ⟨hk1, hb1⟩
  have HB1 := Lib.hid (below_then hB1 hB1.size hb1)
  have HK1 := Lib.hid hk1
  have HW1 := Lib.hid hb1
  clear hk1 hb1 hB1
  generalize hg1 : w1.heap.size = g1 at *
  go_wp2_with fail
  refine (awake_calls W1).mono ?_
  rintro e w2 ⟨rfl, hB2⟩
  replace HB1 := Lib.hid (below_then HB1.out HB1.out.size hB2)
  replace HK1 := Lib.hid (blk_below HK1.out hB2)
  replace HW1 := Lib.hid (HW1.out.trans (hB2.mono (by have := HW1.out.size; omega)))
  clear hB2 H1
  by_cases her : er = 0
  · subst her
    obtain ⟨n', hn, hn4, hnl⟩ := HLEN.out rfl
    subst hn
    obtain ⟨hok, hck⟩ := HMAY.out rfl
    have HOK := Lib.hid hok
    have HCK := Lib.hid hck
    have hk1 := HK1.out
    have HX := Lib.hid (show CR w2 d L1 from HX1.out w2 HW1.out)
    have HONE := Lib.hid (enc_one hck)
    have HAG := Lib.hid (dec_again hok hck)
    clear hok hck HLEN HMAY HNONE
    have HB2 := HB1
    go_wp2_with (first | (with_reducible refine gate_dst (N := 29) rfl ?_; go_must (refine wpList_load_row rfl 30 (.tmp 3) rfl _ rfl 30 CX1 (0, 0) _ hk1 Try.underlying30 rfl HXS1.out ?_)) | (with_reducible refine gate_dst (N := 30) rfl ?_; go_must (refine wpList_one rfl 29 rfl CX1 rfl d L1 HE1.out ?_)))
    have HBL := Lib.hid (blk_new w2 (.cells CX1 30))
    have HRW := Lib.hid (show Kd.C k30 (w2.alloc (.cells CX1 30)) (some ⟨w2.heap.size, 0, none⟩) 1 [d] from chk_row1 (by rw [HE1.out]; exact HBL.out) (HX.out.below (below_alloc (Below.refl _ _) _)))
    replace HB1 := Lib.hid (below_alloc HB1.out (.cells CX1 30))
    replace HK1 := Lib.hid (blk_alloc HK1.out (.cells CX1 30))
    replace HX := Lib.hid (HX.out.below (below_alloc (Below.refl _ _) (.cells CX1 30)))
    have HEN := Lib.hid (encode_any (w2.alloc (.cells CX1 30)) (some ⟨w2.heap.size, 0, none⟩) 1 [d] HRW.out (fun x hx => by rw [List.mem_singleton.1 hx]; exact Nat.le_trans HOK.out.l13 (by decide)))
    rw [HONE.out] at HEN
    clear HBL HRW HB2 HW1 HX1 hk1
    generalize w2.alloc (.cells CX1 30) = w3 at *
    by_cases hbig : 65536 < (chunkL d).length
    · rw [if_pos hbig] at HEN
      refine HEN.out.mono ?_
      rintro e w4 ⟨v4, rfl, hR4, hB4⟩
      obtain ⟨A4, c4, rfl, hle4, hC4⟩ := Kd.R_reads hR4
      replace HB1 := Lib.hid (below_then HB1.out HB1.out.size hB4)
      replace HK1 := Lib.hid (blk_below HK1.out hB4)
      replace HX := Lib.hid (HX.out.below hB4)
      have HD2 := Lib.hid (decC_calls w4 A4 [] c4 (byte_of_int hC4) hle4 (by decide))
      have hd0 : decC [] = (chk0 0 0, 0, 60) := rfl
      unfold DecCP at HD2
      rw [hd0] at HD2
      have HSZ := Lib.hid (show sizeD d = (chunkL d).length by unfold sizeD; rw [if_pos HCK.out])
      generalize (chunkL d).length = cl at *
      clear hR4 hB4 hC4 hle4 HEN HAG HONE
      dsimp only at HD2
      go_wp2_with fail
      refine HD2.out.mono ?_
      rintro e w5 ⟨cs5, rfl, hM5, hB5⟩
      obtain ⟨L5, rfl, hx5⟩ := CR.of_M3 hM5
      have HXS5 := Lib.hid (show (Try.prog.info? 30).map (·.size) = some (CV (chk0 0 0) L5).size by kernel_rfl)
      have HXZ5 := Lib.hid (show (#[.int .u8 0, .int .u8 0, .int .u32 0, .int .u16 0, .int .u16 0, .int .u32 0, .int .u32 0, .int .u32 0, .int .u16 0, .int .u16 0, .slice none 0 0, .slice none 0 0, .slice none 0 0, .slice none 0 0, .slice none 0 0] : Array Value).size = (CV (chk0 0 0) L5).size from rfl)
      have HXO5 := Lib.hid (CV_one (chk0 0 0) L5)
      generalize CV (chk0 0 0) L5 = CX5 at *
      replace HB1 := Lib.hid (below_then HB1.out HB1.out.size hB5)
      replace HK1 := Lib.hid (blk_below HK1.out hB5)
      replace HX := Lib.hid (HX.out.below hB5)
      clear hM5 hx5 hB5 HD2
      go_upto_region 8 with (with_reducible refine gate_dst (N := 8) rfl ?_; go_must (refine wpList_box rfl rfl 8 rfl rfl (.tmp 37) rfl CX5 rfl rfl HXZ5.out HXS5.out HXO5.out ?_))
      refine wp_gen (fun W => W.heap[g1]? = some (.cells CX1 30 (0, 0)) ∧ Below w5.heap.size w5 W) ⟨blk_alloc HK1.out _, below_alloc (Below.refl _ _) _⟩ ?_
      rintro W8 ⟨hk8, hb8⟩
      replace HB1 := Lib.hid (below_then HB1.out HB1.out.size hb8)
      have HX8 := Lib.hid (HX.out.below hb8)
      have HCKC := Lib.hid (check_any W8 d L1 HX8.out (Nat.le_trans HOK.out.l13 (by decide)))
      rw [HCK.out, HE1.out] at HCKC
      have q4 : decide ((4 : Int) ≤ (n' : Int)) = true := by simp; omega
      have qb : decide ((n' : Int) ≤ (b.length : Int)) = true := by simp; omega
      clear HXS5 HXZ5 HXO5 hb8 HX HK1
      go_wp2_with (with_reducible refine gate_dst (N := 40) rfl ?_; go_must (refine wpList_load_row rfl 30 (.tmp 3) rfl _ rfl 30 CX1 (0, 0) _ hk8 Try.underlying30 rfl HXS1.out ?_))
      refine HCKC.out.mono ?_
      rintro e w9 ⟨rfl, hB9⟩
      replace HB1 := Lib.hid (below_then HB1.out HB1.out.size hB9)
      replace HX8 := Lib.hid (HX8.out.below hB9)
      replace hk8 := blk_below hk8 hB9
      have HRS := Lib.hid (rsize_calls w9 d L1 HX8.out HOK.out)
      rw [HE1.out, HSZ.out] at HRS
      have qz : decide ((65536 : Int) < (cl : Int)) = true := by simp; omega
      clear hB9 HCKC HX8
      go_wp2_with (with_reducible refine gate_dst (N := 74) rfl ?_; go_must (refine step_on (wanted_on rfl rfl rfl rfl) (exec_load_row 30 (.tmp 3) rfl rfl hk8 Try.underlying30 rfl HXS1.out) ?_))
      refine HRS.out.mono ?_
      rintro e wa ⟨rfl, hBa⟩
      replace HB1 := Lib.hid (below_then HB1.out HB1.out.size hBa)
      clear hBa HRS
      go_wp2
      go_ret
      exact ⟨rfl, HB1.out⟩
    · rw [if_neg hbig] at HEN
      refine HEN.out.mono ?_
      rintro e w4 ⟨v4, rfl, hR4, hB4⟩
      obtain ⟨A4, c4, rfl, hle4, hC4⟩ := Kd.R_reads hR4
      replace HB1 := Lib.hid (below_then HB1.out HB1.out.size hB4)
      replace HK1 := Lib.hid (blk_below HK1.out hB4)
      replace HX := Lib.hid (HX.out.below hB4)
      have hbi : ints (bytesOf (chunkL d)) = chunkL d := ints_bytesOf _ (chunk_in HOK.out)
      have HLB := Lib.hid (bytesOf_length (chunkL d))
      rw [← hbi] at hC4
      have hC5 := byte_of_int hC4
      have HD2 := Lib.hid (decC_calls w4 A4 (bytesOf (chunkL d)) c4 hC5 (by rw [HLB.out]; exact hle4) (by rw [HLB.out]; omega))
      unfold DecCP at HD2
      rw [HAG.out, HLB.out] at HD2
      generalize (chunkL d).length = cl at *
      clear hR4 hB4 hC4 hC5 hle4 HEN HAG HONE hbi HLB
      dsimp only at HD2
      go_wp2_with fail
      refine HD2.out.mono ?_
      rintro e w5 ⟨cs5, rfl, hM5, hB5⟩
      obtain ⟨L5, rfl, hx5⟩ := CR.of_M3 hM5
      have HXS5 := Lib.hid (show (Try.prog.info? 30).map (·.size) = some (CV d L5).size by kernel_rfl)
      have HXZ5 := Lib.hid (show (#[.int .u8 0, .int .u8 0, .int .u32 0, .int .u16 0, .int .u16 0, .int .u32 0, .int .u32 0, .int .u32 0, .int .u16 0, .int .u16 0, .slice none 0 0, .slice none 0 0, .slice none 0 0, .slice none 0 0, .slice none 0 0] : Array Value).size = (CV d L5).size from rfl)
      have HXO5 := Lib.hid (CV_one d L5)
      obtain ⟨CX5, hCX5⟩ : ∃ CX5, CV d L5 = CX5 := ⟨_, rfl⟩
      rw [hCX5] at HXS5 HXZ5 HXO5 ⊢
      have HE5 := Lib.hid hCX5
      have HX5 := Lib.hid hx5
      replace HB1 := Lib.hid (below_then HB1.out HB1.out.size hB5)
      replace HK1 := Lib.hid (blk_below HK1.out hB5)
      replace HX := Lib.hid (HX.out.below hB5)
      clear hM5 hx5 hB5 HD2 hCX5
      go_upto_region 8 with (with_reducible refine gate_dst (N := 8) rfl ?_; go_must (refine wpList_box rfl rfl 8 rfl rfl (.tmp 37) rfl CX5 rfl rfl HXZ5.out HXS5.out HXO5.out ?_))
      refine wp_gen (fun W => W.heap[g1]? = some (.cells CX1 30 (0, 0)) ∧ W.heap[w5.heap.size]? = some (.cells CX5 30 (0, 0)) ∧ Below w5.heap.size w5 W) ⟨blk_alloc HK1.out _, blk_new _ _, below_alloc (Below.refl _ _) _⟩ ?_
      rintro W8 ⟨hk8, hj8, hb8⟩
      replace HB1 := Lib.hid (below_then HB1.out HB1.out.size hb8)
      have HX8 := Lib.hid (HX.out.below hb8)
      have HX9 := Lib.hid (HX5.out.below hb8)
      have HCKC := Lib.hid (check_any W8 d L1 HX8.out (Nat.le_trans HOK.out.l13 (by decide)))
      rw [HCK.out, HE1.out] at HCKC
      have q4 : decide ((4 : Int) ≤ (n' : Int)) = true := by simp; omega
      have qb : decide ((n' : Int) ≤ (b.length : Int)) = true := by simp; omega
      clear HXZ5 HXO5 hb8 HX HK1 HX5
      generalize w5.heap.size = g5 at *
      go_wp2_with (with_reducible refine gate_dst (N := 40) rfl ?_; go_must (refine wpList_load_row rfl 30 (.tmp 3) rfl _ rfl 30 CX1 (0, 0) _ hk8 Try.underlying30 rfl HXS1.out ?_))
      refine HCKC.out.mono ?_
      rintro e w9 ⟨rfl, hB9⟩
      replace HB1 := Lib.hid (below_then HB1.out HB1.out.size hB9)
      replace HX8 := Lib.hid (HX8.out.below hB9)
      replace HX9 := Lib.hid (HX9.out.below hB9)
      replace hk8 := blk_below hk8 hB9
      replace hj8 := blk_below hj8 hB9
      have HRS := Lib.hid (rsame_calls w9 d d L1 L5 HX8.out HX9.out HOK.out.okB HOK.out.okB)
      rw [HE1.out, HE5.out, decide_eq_true (rfl : d = d)] at HRS
      clear hB9 HCKC HX8 HX9
      go_wp2_with (first | (with_reducible refine gate_dst (N := 61) rfl ?_; go_must (refine step_on (wanted_on rfl rfl rfl rfl) (exec_load_row 30 (.tmp 3) rfl rfl hk8 Try.underlying30 rfl HXS1.out) ?_)) | (with_reducible refine gate_dst (N := 62) rfl ?_; go_must (refine step_on (wanted_on rfl rfl rfl rfl) (exec_load_row 30 (.tmp 8) rfl rfl hj8 Try.underlying30 rfl HXS5.out) ?_)))
      refine HRS.out.mono ?_
      rintro e wa ⟨rfl, hBa⟩
      replace HB1 := Lib.hid (below_then HB1.out HB1.out.size hBa)
      clear hBa HRS
      go_wp2
      go_ret
      exact ⟨rfl, HB1.out⟩
  · have hn := HNONE.out her
    injection hn with hd hn
    injection hn with hn _
    subst hd
    subst hn
    have q : (er != 0) = true := by simp [her]
    have hk1 := HK1.out
    have HX := Lib.hid (show CR w2 (chk0 0 0) L1 from HX1.out w2 HW1.out)
    have HZ := Lib.hid (show CR w2 (chk0 0 0) ⟨none, 0, none, 0, none, 0, none, 0, none, 0⟩ from ⟨Nat.le_refl _, Kd.C_nil _ _, Nat.le_refl _, Kd.C_nil _ _, Nat.le_refl _, Kd.C_nil _ _, Nat.le_refl _, Kd.C_nil _ _, Nat.le_refl _, Kd.C_nil _ _⟩)
    have HSM := Lib.hid (rsame_calls w2 (chk0 0 0) (chk0 0 0) L1 ⟨none, 0, none, 0, none, 0, none, 0, none, 0⟩ HX.out HZ.out chk0_ok chk0_ok)
    rw [decide_eq_true (rfl : chk0 0 0 = chk0 0 0), HE1.out] at HSM
    clear HLEN HMAY HNONE HX HZ HX1 HE1 her
    go_wp2_with (with_reducible refine gate_dst (N := 24) rfl ?_; go_must (refine step_on (wanted_on rfl rfl rfl rfl) (exec_load_row 30 (.tmp 3) rfl rfl hk1 Try.underlying30 rfl HXS1.out) ?_))
    refine HSM.out.mono ?_
    rintro e w3 ⟨rfl, hB3⟩
    have HB3 := Lib.hid (below_then HB1.out HB1.out.size hB3)
    clear hB3
    go_wp2
    go_ret
    exact ⟨rfl, HB3.out⟩
end Go.Proofs.Ytjmadnpicidbeaa.Ch
end
section
namespace Go.Proofs.Ytjmadnpicidbeaa.chunkReads
open Go.ChangeShapes Go.WideShapes Go.ChangeAt Go.RowKit Go.Proofs.Ytjmadnpicidbeaa.Base
open Go.ChangeMaps (open_string shut_string)
set_option linter.unusedVariables false
set_option maxRecDepth 100000 in
theorem contract (H : Type) (enc : TypeId × Value → H) (W : World) (base : Nat) (args : Array Value) (ds gs : List (DataW H)) (before : List MemPlace)
    (hval : ∀ (j : Nat) t v, Try.f5.params[j]? = some t → args[j]? = some v → Value.okWide Try.prog W .any base t v)
    (hW : DataW.Whole enc Try.prog Try.f5.params.toList Rows.chunkReadsSpec.vars false W args.toList ds gs before)
    (hsz0 : (DataW.weightsEach Try.prog (Try.f5.params.toList ++ (OpenSpec.ofChange Rows.chunkReadsSpec).bare.plain.varTypes Try.prog) (ds ++ gs)).all (· ≤ reachBytes) = true)
    (hL : laidMetH Try.prog Rows.chunkReadsRow.laid W) :
    Calls Try.prog 5 args W fun e W' => ∃ v, e = .returned v ∧ Rows.chunkReadsSpec.post enc Try.prog Try.f5 false true false false W args v W' := by
  have hW' := hW
  obtain ⟨p, q, hA0, hV, rfl, hfz, hnd⟩ := hW
  have hA : DataW.TrodAll enc Try.prog W 0 (fun _ => true) true Try.f5.params.toList args.toList ds p := hA0
  rw [Try.params5] at hA hval
  obtain ⟨v0, vs0, d0, ds0, p0, q0, hargs, rfl, rfl, h0, r0⟩ := trodAll_cons hA
  obtain ⟨rfl, rfl, rfl⟩ := trodAll_nil r0
  obtain rfl : args = #[v0] := by cases args; simp_all
  obtain ⟨rfl, rfl⟩ := trodVars_none hV
  have hsz := hsz0
  rw [Try.params5] at hsz
  obtain ⟨a0, len0, cap0, rfl⟩ := okWide_slice Try.underlying22 (hval 0 22 v0 rfl rfl)
  have k0 := h0
  have lt0 : ∀ x ∈ p0, x.block < W.heap.size := by obtain ⟨m, hm⟩ := k0; exact DataW.trod_lt m _ _ _ hm
  obtain ⟨l0, rfl, hc0, hb0, hd0⟩ := open_bytes h0
  have hm0 : cap0 ≤ 140737488351232 := reach_bytes hsz (j := 0) rfl rfl hd0
  clear hA0 hsz hsz0
  refine (Ch.reads_row a0 cap0 l0 hb0 hc0 hm0).mono fun e W' ⟨he, bel⟩ => ?_
  subst he
  exact ⟨_, rfl, _, _, _, [], _, [], hW', trodAll_mk1 (shut_bool Try.underlying4 _), (trodAll_cons_mk (Below.trod laidOut (by kernel_rfl) (of_decide_eq_true (by kernel_rfl)) k0 bel lt0) trodAll_mk0), rfl, bel.frame _, fun h => by cases h⟩
noncomputable def laidWorld (os : Os) : World := World.holding Try.prog os ⟨#[], #[], []⟩
theorem laid_met (os : Os) : laidMet Try.prog Rows.chunkReadsRow.laid ((laidWorld os).forCall (fun _ _ => 0) ⟨#[], #[.slice none 0 0], []⟩).memory :=
  laidMet_of_run' 8 (by kernel_rfl) (by kernel_rfl)
theorem reads (os : Os) {H : Type} (enc : TypeId × Value → H) : ∃ places, DataW.whole enc Try.prog ((laidWorld os).forCall (fun _ _ => 0) ⟨#[], #[.slice none 0 0], []⟩).memory Try.f5.params.toList Rows.chunkReadsSpec.vars false (#[.slice none 0 0] : Array Value).toList 8 = some ([.nil], [], places) :=
  ⟨[], by kernel_rfl⟩
set_option maxRecDepth 100000 in
theorem lifted (os : Os) (started : os.Started) (H : Type) (enc : TypeId × Value → H) (F : Stop.Interp) :
    ReturnsInHanded {} Try.checked os 5 .any ((OpenSpec.ofChange Rows.chunkReadsSpec).preRow enc Try.prog Try.f5 Rows.chunkReadsRow.domain false Rows.chunkReadsRow.laid) (((OpenSpec.ofChange Rows.chunkReadsSpec).at F).post enc Try.prog Try.f5 false true false false) := by
  obtain ⟨places, hx⟩ := reads os enc
  refine returnsInHanded_of_row (C := Try.checked) (s := (OpenSpec.ofChange Rows.chunkReadsSpec)) own started (by kernel_rfl) Try.func5
    (witness_row_at (enc := enc) (C := Try.checked) false (laidWorld os) #[.slice none 0 0] rfl (by kernel_rfl) (by kernel_rfl) (by kernel_rfl)
      (OpenSpec.preRow_of_cond 8 hx (by kernel_rfl) (fun k hk => by cases hk) (by kernel_rfl) (laid_met os))) ?_
  intro W base args ds gs before hval hW _ hcond hsz hL _ _
  exact contract H enc W base args ds gs before hval hW hsz hL
theorem said : Rows.ChunkReadsSaid :=
  OpenClaim.holds_of_cond 5 Try.f5 rfl rfl rfl rfl rfl rfl rfl ⟨rfl, rfl, rfl, rfl, rfl⟩ rfl rfl rfl rfl rfl (by kernel_rfl) Try.func5 (by kernel_rfl)
    (of_decide_eq_true (by kernel_rfl)) (by unfold Func.isWrapper; first | (rw [if_pos (by decide +kernel)]; kernel_rfl) | (rw [if_neg (by decide +kernel)]; exact ⟨rfl, rfl⟩))
    (fun os started H enc _ F => by rw [OpenClaim.pre_eq_preRow]; exact lifted os started H enc F)
theorem chunkReads_holds : Rows.ChunkReadsSaid := said
#print axioms chunkReads_holds
end Go.Proofs.Ytjmadnpicidbeaa.chunkReads
end
