/- The statement ChunkAlls of ropewalk/ropewalklaw06.ChunkAlls, where what it reads is of bulk at most 1048576. Proved from the walk Ch.alls_row. -/
import Derived.Test.YtjmadnpicidbeaaAa5
import Derived.Deep.WholeRow
import Derived.Lib.SlBytesConst
section
namespace Go.Proofs.Ytjmadnpicidbeaa.Ch
open Go.RowKit Go.Proofs.YtjmadnpicidbeaaW.PrintWords Go.Proofs.YtjmadnpicidbeaaW.PrintLast Go.Proofs.Ytjmadnpicidbeaa.Base Go.Proofs.Ytjmadnpicidbeaa.PCh Go.Proofs.Ytjmadnpicidbeaa.ParDec Go.Proofs.Ytjmadnpicidbeaa.ParEnc
set_option maxRecDepth 100000
set_option linter.unusedVariables false
set_option linter.unusedSimpArgs false
def valAT8 : Bool × List (List Nat × List Nat) := (true, [([], []), ([], []), ([1], [1]), ([2], [2]), ([3], [3]), ([], []), ([5], [5]), ([4, 6], [4, 6]), ([0, 0, 1, 2, 3, 4, 5, 6, 7], [0]), ([8, 0, 1, 2, 3, 4, 5, 6, 7], [8]), ([9, 7, 7, 0, 1, 2, 3, 4, 5, 6, 7], [7, 9])])
def valAB8 : List Nat := [0, 0, 2, 6, 14, 0, 32, 126, 255, 511, 1023]
theorem valAtab8 : Go.Proofs.YtjmadnpicidbeaaW.PrintLast.rtab .any (Go.Proofs.YtjmadnpicidbeaaW.PrintLast.opsOf Try.f36 8) = valAT8 := by kernel_rfl
theorem valAbits8 : Go.Proofs.YtjmadnpicidbeaaW.PrintLast.waitsOk valAT8.2 valAB8 = true := by kernel_rfl
def encP (ps : List PrmS) : List Int × Int := if ps.length > 256 then ([], 3) else runB [] ps
def gapL : List GapS → List Int
  | [] => []
  | g :: r => [g.f0, g.f1] ++ gapL r
def valData (x : Chk) : List Int := fourL [x.f2] ++ twoL [x.f3, x.f4] ++ fourL [x.f5] ++ x.f13
def valueD (x : Chk) : List Int :=
  if x.f0 = 0 then valData x
  else if x.f0 = 1 ∨ x.f0 = 2 then fourL [x.f6, x.f7] ++ twoL [x.f8, x.f9] ++ fourL [x.f2] ++ (encP x.f14).1
  else if x.f0 = 3 then fourL [x.f2, x.f7] ++ twoL [IntKind.u16.wrap (x.f10.length : Int), IntKind.u16.wrap (x.f12.length : Int)] ++ twoL (gapL x.f10) ++ fourL x.f12
  else if x.f0 = 16 then fourL [x.f2, x.f7] ++ twoL [IntKind.u16.wrap (x.f10.length : Int), IntKind.u16.wrap (x.f11.length : Int), IntKind.u16.wrap (x.f12.length : Int), 0] ++ twoL (gapL x.f10) ++ twoL (gapL x.f11) ++ fourL x.f12
  else if x.f0 = 4 ∨ x.f0 = 5 ∨ x.f0 = 6 ∨ x.f0 = 9 then (encP x.f14).1
  else if x.f0 = 7 then fourL [x.f2]
  else if x.f0 = 8 ∨ x.f0 = 11 ∨ x.f0 = 14 then []
  else x.f13
def ValP (xs : List Int) (w : World) (e : Ending) (w' : World) : Prop := ∃ A c, e = .returned (.slice A xs.length c) ∧ xs.length ≤ c ∧ (Kd.int .u8).C w' A xs.length xs ∧ Below w.heap.size w w'
def ValQ (b0 : Nat) (xs : List Int) (w : World) (e : Ending) (w' : World) : Prop :=
  ∃ A c, e = .returned (.slice A xs.length c) ∧ xs.length ≤ c ∧ (∀ W, Only (fun k => b0 ≤ k ∧ k < w.heap.size) w' W → (Kd.int .u8).C W A xs.length xs) ∧ Below w.heap.size w w'
theorem ValQ.P {b0 : Nat} {xs : List Int} {w w' : World} {e : Ending} (h : ValQ b0 xs w e w') : ValP xs w e w' := by
  obtain ⟨A, c, h1, h2, h3, h4⟩ := h
  exact ⟨A, c, h1, h2, h3 _ (Only.refl _ _), h4⟩
theorem ValQ.of_R {b0 base : Nat} {ok : Nat → Prop} {v : Value} {xs : List Int} {w w' : World} (hR : (Kd.int .u8).R 5 w' base ok v xs) (hb : w.heap.size ≤ base) (hB : Below w.heap.size w w') : ValQ b0 xs w (.returned v) w' := by
  obtain ⟨A, c, rfl, hle, hC⟩ := Kd.R_reads hR
  refine ⟨A, c, rfl, hle, fun W hO => ?_, hB⟩
  obtain ⟨A2, c2, he, _, hC2⟩ := Kd.R_reads (R_only hR hO (fun k hk _ h => by omega))
  injection he with e1 _ _
  rw [e1]
  exact hC2
theorem wfour_lit (w : World) (gw : Nat) (xs ns : List Int) (vs : List Value) (n : Nat) (hv : vs = ns.map (Value.int .u32)) (hn : ns.length = n) (hs : WS w gw xs) (hx : xs.length + 4 * ns.length ≤ 140737488355328) :
    Calls Try.prog 58 #[.pointer (some ⟨gw, 0, none⟩), .slice (some ⟨w.heap.size, 0, none⟩) n n] (w.alloc (.cells vs.toArray 24)) fun e w' => e = .returned (.tuple #[]) ∧ WS w' gw (xs ++ fourL ns) ∧ Fr gw w w' := by
  subst hn
  obtain ⟨u, hg, hR⟩ := hs
  have hlt := blk_lt hg
  have hC : (Kd.int .u32).C (w.alloc (.cells vs.toArray 24)) (some ⟨w.heap.size, 0, none⟩) ns.length ns := row_lit (Kd.int .u32) rfl w _ vs ns (by rw [hv, List.length_map]) (by omega) (fun j v p h1 h2 => by
    rw [hv, List.getElem?_map, h2] at h1
    injection h1 with h1
    subst h1
    rfl)
  refine (wfour_calls (w.alloc (.cells vs.toArray 24)) gw xs (some ⟨w.heap.size, 0, none⟩) ns.length ns ⟨u, blk_alloc hg _, Kd.R_alloc hR _⟩ (fun W hF => hF.C_lit (by decide) (by decide) (blk_new _ _) hC) hx).mono ?_
  rintro e w' ⟨h1, h2, h3⟩
  exact ⟨h1, h2, ((Fr.refl gw w).alloc (Nat.le_of_lt hlt) _).trans h3⟩
theorem wtwo_lit (w : World) (gw : Nat) (xs ns : List Int) (vs : List Value) (n : Nat) (hv : vs = ns.map (Value.int .u16)) (hn : ns.length = n) (hs : WS w gw xs) (hx : xs.length + 2 * ns.length ≤ 140737488355328) :
    Calls Try.prog 37 #[.pointer (some ⟨gw, 0, none⟩), .slice (some ⟨w.heap.size, 0, none⟩) n n] (w.alloc (.cells vs.toArray 25)) fun e w' => e = .returned (.tuple #[]) ∧ WS w' gw (xs ++ twoL ns) ∧ Fr gw w w' := by
  subst hn
  obtain ⟨u, hg, hR⟩ := hs
  have hlt := blk_lt hg
  have hC : (Kd.int .u16).C (w.alloc (.cells vs.toArray 25)) (some ⟨w.heap.size, 0, none⟩) ns.length ns := row_lit (Kd.int .u16) rfl w _ vs ns (by rw [hv, List.length_map]) (by omega) (fun j v p h1 h2 => by
    rw [hv, List.getElem?_map, h2] at h1
    injection h1 with h1
    subst h1
    rfl)
  refine (wtwo_calls (w.alloc (.cells vs.toArray 25)) gw xs (some ⟨w.heap.size, 0, none⟩) ns.length ns ⟨u, blk_alloc hg _, Kd.R_alloc hR _⟩ (fun W hF => hF.C_lit (by decide) (by decide) (blk_new _ _) hC) hx).mono ?_
  rintro e w' ⟨h1, h2, h3⟩
  exact ⟨h1, h2, ((Fr.refl gw w).alloc (Nat.le_of_lt hlt) _).trans h3⟩
end Go.Proofs.Ytjmadnpicidbeaa.Ch
end
section
namespace Go.Proofs.Ytjmadnpicidbeaa.Ch
open Go.RowKit Go.Proofs.YtjmadnpicidbeaaW.PrintWords Go.Proofs.YtjmadnpicidbeaaW.PrintLast Go.Proofs.Ytjmadnpicidbeaa.Base Go.Proofs.Ytjmadnpicidbeaa.PCh Go.Proofs.Ytjmadnpicidbeaa.ParDec Go.Proofs.Ytjmadnpicidbeaa.ParEnc
set_option maxRecDepth 100000
set_option linter.unusedVariables false
set_option linter.unusedSimpArgs false
theorem below_cell {B : Nat} {w W : World} {a : Addr} {v : Value} (h : Below B w W) (hlt : a.block < B) (hc : w.cell? a = some v) : W.cell? a = some v := by
  have := h.block a.block hlt
  simpa [World.cell?, this] using hc
theorem fr_cell {gw : Nat} {w W : World} {a : Addr} {v : Value} (h : Fr gw w W) (hlt : a.block < gw) (hc : w.cell? a = some v) : W.cell? a = some v := below_cell h.below hlt hc
set_option maxHeartbeats 4000000 in
theorem value_data (b0 : Nat) (w : World) (x : Chk) (L : Lay) (hx : CR w x L) (hk : x.f0 = 0) (hl : x.f13.length ≤ 140737488355232) :
    Calls Try.prog 36 #[.agg (CV x L)] w (ValQ b0 (valData x) w) := by
  unfold valData
  have HBD0 := Lib.hid hx.h13
  have y0 : (CV x L)[0]? = some (.int .u8 x.f0) := rfl
  have y1 : (CV x L)[1]? = some (.int .u8 x.f1) := rfl
  have y2 : (CV x L)[2]? = some (.int .u32 x.f2) := rfl
  have y3 : (CV x L)[3]? = some (.int .u16 x.f3) := rfl
  have y4 : (CV x L)[4]? = some (.int .u16 x.f4) := rfl
  have y5 : (CV x L)[5]? = some (.int .u32 x.f5) := rfl
  have y6 : (CV x L)[6]? = some (.int .u32 x.f6) := rfl
  have y7 : (CV x L)[7]? = some (.int .u32 x.f7) := rfl
  have y8 : (CV x L)[8]? = some (.int .u16 x.f8) := rfl
  have y9 : (CV x L)[9]? = some (.int .u16 x.f9) := rfl
  have y10 : (CV x L)[10]? = some (.slice L.A10 x.f10.length L.c10) := rfl
  have y11 : (CV x L)[11]? = some (.slice L.A11 x.f11.length L.c11) := rfl
  have y12 : (CV x L)[12]? = some (.slice L.A12 x.f12.length L.c12) := rfl
  have y13 : (CV x L)[13]? = some (.slice L.A13 x.f13.length L.c13) := rfl
  have y14 : (CV x L)[14]? = some (.slice L.A14 x.f14.length L.c14) := rfl
  clear hx
  generalize x.f0 = a0 at *
  generalize x.f1 = a1 at *
  generalize x.f2 = a2 at *
  generalize x.f3 = a3 at *
  generalize x.f4 = a4 at *
  generalize x.f5 = a5 at *
  generalize x.f6 = a6 at *
  generalize x.f7 = a7 at *
  generalize x.f8 = a8 at *
  generalize x.f9 = a9 at *
  generalize x.f10 = l10 at *
  generalize x.f11 = l11 at *
  generalize x.f12 = l12 at *
  generalize x.f13 = l13 at *
  generalize x.f14 = l14 at *
  subst hk
  generalize CV x L = CX at *
  have HB := Lib.hid (below_alloc (below_alloc (Below.refl w.heap.size w) (.cells CX 30)) (.cells #[.slice none 0 0] 66))
  have hb := (show ((w.alloc (.cells CX 30)).alloc (.cells #[.slice none 0 0] 66)).heap[w.heap.size]? = some (.cells CX 30 (0, 0)) from blk_alloc (blk_new _ _) _)
  have hw := (show ((w.alloc (.cells CX 30)).alloc (.cells #[.slice none 0 0] 66)).heap[w.heap.size + 1]? = some (.cells #[.slice none 0 0] 66 (0, 0)) by have h := blk_new (w.alloc (.cells CX 30)) (.cells #[.slice none 0 0] 66); rw [World.size_alloc] at h; exact h)
  have HSZ := Lib.hid (show ((w.alloc (.cells CX 30)).alloc (.cells #[.slice none 0 0] 66)).heap.size = w.heap.size + 2 by simp)
  have HS := Lib.hid (show WS ((w.alloc (.cells CX 30)).alloc (.cells #[.slice none 0 0] 66)) (w.heap.size + 1) [] from ⟨_, hw, Kd.R_nil _ _ _ _ _⟩)
  have U0 := Lib.hid ((blk_cell hb 0).trans y0)
  have U1 := Lib.hid ((blk_cell hb 1).trans y1)
  have U2 := Lib.hid ((blk_cell hb 2).trans y2)
  have U3 := Lib.hid ((blk_cell hb 3).trans y3)
  have U4 := Lib.hid ((blk_cell hb 4).trans y4)
  have U5 := Lib.hid ((blk_cell hb 5).trans y5)
  have U6 := Lib.hid ((blk_cell hb 6).trans y6)
  have U7 := Lib.hid ((blk_cell hb 7).trans y7)
  have U8 := Lib.hid ((blk_cell hb 8).trans y8)
  have U9 := Lib.hid ((blk_cell hb 9).trans y9)
  have U10 := Lib.hid ((blk_cell hb 10).trans y10)
  have U11 := Lib.hid ((blk_cell hb 11).trans y11)
  have U12 := Lib.hid ((blk_cell hb 12).trans y12)
  have U13 := Lib.hid ((blk_cell hb 13).trans y13)
  have U14 := Lib.hid ((blk_cell hb 14).trans y14)
  clear hb hw y0 y1 y2 y3 y4 y5 y6 y7 y8 y9 y10 y11 y12 y13 y14
  have k0 := U0.out
  go_enter Try.func36, Try.ntmps36
  go_upto_region 2 with (fail)
  clear k0
  generalize ((w.alloc (.cells CX 30)).alloc (.cells #[.slice none 0 0] 66)) = W at *
  generalize hgw : w.heap.size + 1 = gw at *
  generalize hgb : w.heap.size = gb at *
  have HGL := Lib.hid (show gb < gw ∧ gw = gb + 1 ∧ w.heap.size = gb from ⟨by omega, by omega, hgb⟩)
  have HFR := Lib.hid (Fr.refl gw W)
  clear hgw
  have k0 := U0.out
  have u2 := U2.out
  go_wp2_with fail
  refine (wfour_lit W gw ([]) [a2] [.int .u32 a2] 1 rfl rfl HS.out (by simp [twoL_length, fourL_length]; try omega)).mono ?_
  rintro e w1 ⟨rfl, hS, hF⟩
  clear u2
  replace HS := Lib.hid hS
  replace HFR := Lib.hid (HFR.out.trans hF)
  replace U0 := Lib.hid (fr_cell hF (by have := HGL.out; dsimp only; omega) U0.out)
  replace U1 := Lib.hid (fr_cell hF (by have := HGL.out; dsimp only; omega) U1.out)
  replace U2 := Lib.hid (fr_cell hF (by have := HGL.out; dsimp only; omega) U2.out)
  replace U3 := Lib.hid (fr_cell hF (by have := HGL.out; dsimp only; omega) U3.out)
  replace U4 := Lib.hid (fr_cell hF (by have := HGL.out; dsimp only; omega) U4.out)
  replace U5 := Lib.hid (fr_cell hF (by have := HGL.out; dsimp only; omega) U5.out)
  replace U6 := Lib.hid (fr_cell hF (by have := HGL.out; dsimp only; omega) U6.out)
  replace U7 := Lib.hid (fr_cell hF (by have := HGL.out; dsimp only; omega) U7.out)
  replace U8 := Lib.hid (fr_cell hF (by have := HGL.out; dsimp only; omega) U8.out)
  replace U9 := Lib.hid (fr_cell hF (by have := HGL.out; dsimp only; omega) U9.out)
  replace U10 := Lib.hid (fr_cell hF (by have := HGL.out; dsimp only; omega) U10.out)
  replace U11 := Lib.hid (fr_cell hF (by have := HGL.out; dsimp only; omega) U11.out)
  replace U12 := Lib.hid (fr_cell hF (by have := HGL.out; dsimp only; omega) U12.out)
  replace U13 := Lib.hid (fr_cell hF (by have := HGL.out; dsimp only; omega) U13.out)
  replace U14 := Lib.hid (fr_cell hF (by have := HGL.out; dsimp only; omega) U14.out)
  clear hS hF
  have u3 := U3.out
  have u4 := U4.out
  go_wp2_with fail
  refine (wtwo_lit w1 gw ([] ++ fourL [a2]) [a3, a4] [.int .u16 a3, .int .u16 a4] 2 rfl rfl HS.out (by simp [twoL_length, fourL_length]; try omega)).mono ?_
  rintro e w2 ⟨rfl, hS, hF⟩
  clear u3 u4
  replace HS := Lib.hid hS
  replace HFR := Lib.hid (HFR.out.trans hF)
  replace U0 := Lib.hid (fr_cell hF (by have := HGL.out; dsimp only; omega) U0.out)
  replace U1 := Lib.hid (fr_cell hF (by have := HGL.out; dsimp only; omega) U1.out)
  replace U2 := Lib.hid (fr_cell hF (by have := HGL.out; dsimp only; omega) U2.out)
  replace U3 := Lib.hid (fr_cell hF (by have := HGL.out; dsimp only; omega) U3.out)
  replace U4 := Lib.hid (fr_cell hF (by have := HGL.out; dsimp only; omega) U4.out)
  replace U5 := Lib.hid (fr_cell hF (by have := HGL.out; dsimp only; omega) U5.out)
  replace U6 := Lib.hid (fr_cell hF (by have := HGL.out; dsimp only; omega) U6.out)
  replace U7 := Lib.hid (fr_cell hF (by have := HGL.out; dsimp only; omega) U7.out)
  replace U8 := Lib.hid (fr_cell hF (by have := HGL.out; dsimp only; omega) U8.out)
  replace U9 := Lib.hid (fr_cell hF (by have := HGL.out; dsimp only; omega) U9.out)
  replace U10 := Lib.hid (fr_cell hF (by have := HGL.out; dsimp only; omega) U10.out)
  replace U11 := Lib.hid (fr_cell hF (by have := HGL.out; dsimp only; omega) U11.out)
  replace U12 := Lib.hid (fr_cell hF (by have := HGL.out; dsimp only; omega) U12.out)
  replace U13 := Lib.hid (fr_cell hF (by have := HGL.out; dsimp only; omega) U13.out)
  replace U14 := Lib.hid (fr_cell hF (by have := HGL.out; dsimp only; omega) U14.out)
  clear hS hF
  have u5 := U5.out
  go_wp2_with fail
  refine (wfour_lit w2 gw ([] ++ fourL [a2] ++ twoL [a3, a4]) [a5] [.int .u32 a5] 1 rfl rfl HS.out (by simp [twoL_length, fourL_length]; try omega)).mono ?_
  rintro e w3 ⟨rfl, hS, hF⟩
  clear u5
  replace HS := Lib.hid hS
  replace HFR := Lib.hid (HFR.out.trans hF)
  replace U0 := Lib.hid (fr_cell hF (by have := HGL.out; dsimp only; omega) U0.out)
  replace U1 := Lib.hid (fr_cell hF (by have := HGL.out; dsimp only; omega) U1.out)
  replace U2 := Lib.hid (fr_cell hF (by have := HGL.out; dsimp only; omega) U2.out)
  replace U3 := Lib.hid (fr_cell hF (by have := HGL.out; dsimp only; omega) U3.out)
  replace U4 := Lib.hid (fr_cell hF (by have := HGL.out; dsimp only; omega) U4.out)
  replace U5 := Lib.hid (fr_cell hF (by have := HGL.out; dsimp only; omega) U5.out)
  replace U6 := Lib.hid (fr_cell hF (by have := HGL.out; dsimp only; omega) U6.out)
  replace U7 := Lib.hid (fr_cell hF (by have := HGL.out; dsimp only; omega) U7.out)
  replace U8 := Lib.hid (fr_cell hF (by have := HGL.out; dsimp only; omega) U8.out)
  replace U9 := Lib.hid (fr_cell hF (by have := HGL.out; dsimp only; omega) U9.out)
  replace U10 := Lib.hid (fr_cell hF (by have := HGL.out; dsimp only; omega) U10.out)
  replace U11 := Lib.hid (fr_cell hF (by have := HGL.out; dsimp only; omega) U11.out)
  replace U12 := Lib.hid (fr_cell hF (by have := HGL.out; dsimp only; omega) U12.out)
  replace U13 := Lib.hid (fr_cell hF (by have := HGL.out; dsimp only; omega) U13.out)
  replace U14 := Lib.hid (fr_cell hF (by have := HGL.out; dsimp only; omega) U14.out)
  clear hS hF
  go_upto_region 8 with (fail)
  rw [List.nil_append] at HS
  have HXL := Lib.hid (show (fourL [a2] ++ twoL [a3, a4] ++ fourL [a5]).length + l13.length ≤ 140737488355328 by simp [twoL_length, fourL_length]; omega)
  obtain ⟨xs, hxs⟩ : ∃ xs, fourL [a2] ++ twoL [a3, a4] ++ fourL [a5] = xs := ⟨_, rfl⟩
  rw [hxs] at HS HXL
  have HXS := Lib.hid hxs
  clear hxs
  obtain ⟨u, hg, hR⟩ := HS.out
  obtain ⟨Au, cu, rfl⟩ := Kd.R_slice hR
  have HC := Lib.hid hg
  have HR := Lib.hid hR
  have HBW := Lib.hid (show Below gb w w3 from HB.out.trans (HFR.out.below.mono (by have := HGL.out; omega)))
  have HU := Lib.hid (fun (w' : World) (h : Below gw w3 w') => below_cell h (by have := HGL.out; dsimp only; omega) U13.out)
  have HBD := Lib.hid (fun (w' : World) (h : Below gw w3 w') => Kd.C_below HBD0.out (show Below w.heap.size w w' from by rw [hgb]; exact HBW.out.trans (h.mono (by have := HGL.out; omega))))
  clear hg hR HS HB HFR k0 U0 U1 U2 U3 U4 U5 U6 U7 U8 U9 U10 U11 U12 U13 U14
  generalize w3 = W at *
  have B := True.intro
  have C := True.intro
  have R := True.intro
  refine start_ (n := 11) (S := fun w' => True) (ds := []) #[false, false, false, false, false, false, false, false, false, false, false] (by kernel_rfl) rfl rfl trivial (fun hHeld => ?_)
  refine with_tabW valAtab8 valAbits8 (fun HT_ HW_ => ?_)
  refine pure_ (i := 0) (N := some 34) (v := ?_) (a' := ?_) #[true, false, false, false, false, false, false, false, false, false, false] rfl rfl (any_of HT_.out (by kernel_rfl)) (fun _ _ _ h => h) (Or.inl ⟨by rfl, ?_⟩) ?_ ?_
  rotate_left
  · intro w'
    go_simp
    with_reducible rfl
  rotate_left
  · simp only [Act.put, List.setIfInBounds_toArray, List.set_cons_zero, List.set_cons_succ, i64_w, i32_w]
    rfl
  refine pure_ (i := 1) (N := some 35) (v := ?_) (a' := ?_) #[true, true, false, false, false, false, false, false, false, false, false] rfl rfl (any_of HT_.out (by kernel_rfl)) (fun _ _ _ h => h) (Or.inl ⟨by rfl, ?_⟩) ?_ ?_
  rotate_left
  · intro w'
    go_simp
    with_reducible rfl
  rotate_left
  · simp only [Act.put, List.setIfInBounds_toArray, List.set_cons_zero, List.set_cons_succ, i64_w, i32_w]
    rfl
  refine inv_at [2, 3, 4, 5, 6, 7, 8, 9, 10] (fun a0_ b a w' => ∃ (v9 : Value), a = putSel a0_ b [(2, 36, .pointer (some ⟨gw, 0, none⟩)), (3, 37, .pointer (some ⟨gw, 0, none⟩)), (4, 38, .slice Au xs.length cu), (5, 39, .pointer (some ⟨gb, 13, none⟩)), (6, 40, .slice L.A13 l13.length L.c13), (7, 41, v9), (8, 42, .pointer (some ⟨gw, 0, none⟩)), (9, 43, .pointer (some ⟨gw, 0, none⟩))] ∧ (b 7 = false → Fr gw W w') ∧ (b 7 = false → w'.heap[gw]? = some (.cells #[.slice Au xs.length cu] 66 (0, 0))) ∧ (b 7 = false → (Kd.int .u8).R 5 w' (gw + 1) (fun k => k ≠ gw) (.slice Au xs.length cu) xs) ∧ (b 7 = true → b 10 = false → (Kd.int .u8).R 5 w' (gw + 1) (fun k => k ≠ gw) v9 (xs ++ l13) ∧ w'.heap[gw]? = some (.cells #[.slice Au xs.length cu] 66 (0, 0)) ∧ Fr gw W w') ∧ (b 10 = true → ∃ u, w'.heap[gw]? = some (.cells #[u] 66 (0, 0)) ∧ (Kd.int .u8).R 5 w' (gw + 1) (fun k => k ≠ gw) u (xs ++ l13) ∧ Fr gw W w')) HT_.out HW_.out (by kernel_rfl) (by kernel_rfl) ?_ ?_ ?_
  · exact ⟨.bool false, by simp only [putSel, Bool.false_eq_true, if_false], fun _ => (Fr.refl _ _).drewN 1, fun _ => HC.out, fun _ => HR.out, fun h_ => absurd h_ (by decide), fun h_ => absurd h_ (by decide)⟩
  · skip
    clear B C R
    refine steps_cons ?_ ?_
    · rintro b a w' ⟨v9, ha, Q_B, Q_C, Q_R, Q_S1, Q_S2⟩ hb_ hon hoff
      refine ⟨_, rfl, fun K hK => ?_⟩
      have e35 : a.tmps[35]? = some (.pointer (some ⟨gw, 0, none⟩)) := by rw [ha]; exact (putSel_off rfl).trans rfl
      replace ha := Aside0.mk ha
      have B := Aside0.mk (Q_B (hoff 7 (by kernel_rfl)))
      have C := Aside0.mk (Q_C (hoff 7 (by kernel_rfl)))
      have R := Aside0.mk (Q_R (hoff 7 (by kernel_rfl)))
      refine value_ (w1 := w') (v := .pointer (some ⟨gw, 0, none⟩)) (by rfl) rfl ?_ ?_
      · go_simp
        (try simp only [i64_w])
        try rfl
      refine hK.out _ _ ⟨v9, (by rw [ha.out]; exact putSel_upk 0 hb_ rfl rfl rfl), Q_B, Q_C, Q_R, fun h0_ _ => absurd ((hoff 7 (by kernel_rfl)).symm.trans h0_) (by decide), fun h0_ => absurd ((hoff 10 (by kernel_rfl)).symm.trans h0_) (by decide)⟩
    refine steps_cons ?_ ?_
    · rintro b a w' ⟨v9, ha, Q_B, Q_C, Q_R, Q_S1, Q_S2⟩ hb_ hon hoff
      refine ⟨_, rfl, fun K hK => ?_⟩
      have e36 : a.tmps[36]? = some (.pointer (some ⟨gw, 0, none⟩)) := by rw [ha]; exact putSel_on (e := (2, 36, .pointer (some ⟨gw, 0, none⟩))) 0 rfl rfl (hon 2 (by kernel_rfl)) rfl
      replace ha := Aside0.mk ha
      have B := Aside0.mk (Q_B (hoff 7 (by kernel_rfl)))
      have C := Aside0.mk (Q_C (hoff 7 (by kernel_rfl)))
      have R := Aside0.mk (Q_R (hoff 7 (by kernel_rfl)))
      refine value_ (w1 := w') (v := .pointer (some ⟨gw, 0, none⟩)) (by rfl) rfl ?_ ?_
      · go_simp
        (try simp only [i64_w])
        try rfl
      refine hK.out _ _ ⟨v9, (by rw [ha.out]; exact putSel_upk 1 hb_ rfl rfl rfl), Q_B, Q_C, Q_R, fun h0_ _ => absurd ((hoff 7 (by kernel_rfl)).symm.trans h0_) (by decide), fun h0_ => absurd ((hoff 10 (by kernel_rfl)).symm.trans h0_) (by decide)⟩
    refine steps_cons ?_ ?_
    · rintro b a w' ⟨v9, ha, Q_B, Q_C, Q_R, Q_S1, Q_S2⟩ hb_ hon hoff
      refine ⟨_, rfl, fun K hK => ?_⟩
      have e37 : a.tmps[37]? = some (.pointer (some ⟨gw, 0, none⟩)) := by rw [ha]; exact putSel_on (e := (3, 37, .pointer (some ⟨gw, 0, none⟩))) 1 rfl rfl (hon 3 (by kernel_rfl)) rfl
      replace ha := Aside0.mk ha
      have B := Aside0.mk (Q_B (hoff 7 (by kernel_rfl)))
      have C := Aside0.mk (Q_C (hoff 7 (by kernel_rfl)))
      have R := Aside0.mk (Q_R (hoff 7 (by kernel_rfl)))
      have hs := blk_cell C.out 0
      refine value_ (w1 := w') (v := .slice Au xs.length cu) (by rfl) rfl ?_ ?_
      · go_simp
        (try simp only [i64_w])
        try rfl
      refine hK.out _ _ ⟨v9, (by rw [ha.out]; exact putSel_upk 2 hb_ rfl rfl rfl), Q_B, Q_C, Q_R, fun h0_ _ => absurd ((hoff 7 (by kernel_rfl)).symm.trans h0_) (by decide), fun h0_ => absurd ((hoff 10 (by kernel_rfl)).symm.trans h0_) (by decide)⟩
    refine steps_cons ?_ ?_
    · rintro b a w' ⟨v9, ha, Q_B, Q_C, Q_R, Q_S1, Q_S2⟩ hb_ hon hoff
      refine ⟨_, rfl, fun K hK => ?_⟩
      have e1 : a.tmps[1]? = some (.pointer (some ⟨gb, 0, none⟩)) := by rw [ha]; exact (putSel_off rfl).trans rfl
      replace ha := Aside0.mk ha
      have B := Aside0.mk (Q_B (hoff 7 (by kernel_rfl)))
      have C := Aside0.mk (Q_C (hoff 7 (by kernel_rfl)))
      have R := Aside0.mk (Q_R (hoff 7 (by kernel_rfl)))
      refine value_ (w1 := w') (v := .pointer (some ⟨gb, 13, none⟩)) (by rfl) rfl ?_ ?_
      · go_simp
        (try simp only [i64_w])
        try rfl
      refine hK.out _ _ ⟨v9, (by rw [ha.out]; exact putSel_upk 3 hb_ rfl rfl rfl), Q_B, Q_C, Q_R, fun h0_ _ => absurd ((hoff 7 (by kernel_rfl)).symm.trans h0_) (by decide), fun h0_ => absurd ((hoff 10 (by kernel_rfl)).symm.trans h0_) (by decide)⟩
    refine steps_cons ?_ ?_
    · rintro b a w' ⟨v9, ha, Q_B, Q_C, Q_R, Q_S1, Q_S2⟩ hb_ hon hoff
      refine ⟨_, rfl, fun K hK => ?_⟩
      have e39 : a.tmps[39]? = some (.pointer (some ⟨gb, 13, none⟩)) := by rw [ha]; exact putSel_on (e := (5, 39, .pointer (some ⟨gb, 13, none⟩))) 3 rfl rfl (hon 5 (by kernel_rfl)) rfl
      replace ha := Aside0.mk ha
      have B := Aside0.mk (Q_B (hoff 7 (by kernel_rfl)))
      have C := Aside0.mk (Q_C (hoff 7 (by kernel_rfl)))
      have R := Aside0.mk (Q_R (hoff 7 (by kernel_rfl)))
      have hs : w'.cell? ⟨gb, 13, none⟩ = some (.slice L.A13 l13.length L.c13) := HU.out w' B.out.below
      refine value_ (w1 := w') (v := .slice L.A13 l13.length L.c13) (by rfl) rfl ?_ ?_
      · go_simp
        (try simp only [i64_w])
        try rfl
      refine hK.out _ _ ⟨v9, (by rw [ha.out]; exact putSel_upk 4 hb_ rfl rfl rfl), Q_B, Q_C, Q_R, fun h0_ _ => absurd ((hoff 7 (by kernel_rfl)).symm.trans h0_) (by decide), fun h0_ => absurd ((hoff 10 (by kernel_rfl)).symm.trans h0_) (by decide)⟩
    refine steps_cons ?_ ?_
    · rintro b a w' ⟨v9, ha, Q_B, Q_C, Q_R, Q_S1, Q_S2⟩ hb_ hon hoff
      refine ⟨_, rfl, fun K hK => ?_⟩
      have e38 : a.tmps[38]? = some (.slice Au xs.length cu) := by rw [ha]; exact putSel_on (e := (4, 38, .slice Au xs.length cu)) 2 rfl rfl (hon 4 (by kernel_rfl)) rfl
      have e40 : a.tmps[40]? = some (.slice L.A13 l13.length L.c13) := by rw [ha]; exact putSel_on (e := (6, 40, .slice L.A13 l13.length L.c13)) 4 rfl rfl (hon 6 (by kernel_rfl)) rfl
      replace ha := Aside0.mk ha
      have B := Aside0.mk (Q_B hb_)
      have C := Aside0.mk (Q_C hb_)
      have R := Aside0.mk (Q_R hb_)
      refine Kd.R_append_rows_step (Kd.int .u8) (Rr := (Kd.int .u8).K w') (w0 := w') (W := w') (gw + 1) (by rfl) _ _ 22 5 _ 1 rfl Try.underlying22 info_u8 rfl (by decide) (by decide) (.slice Au xs.length cu) xs l13 L.A13 l13.length L.c13 (fun k => k ≠ gw) (fun _ => False) (by simp [Act.eval, Array.getD_eq_getD_getElem?, e38]) (by simp [Act.eval, Array.getD_eq_getD_getElem?, e40]) R.out (HBD.out w' B.out.below) (fun _ _ h => h) (fun _ h => h.elim) (fun k hk => by have := blk_lt C.out; omega) (Below.refl _ _) (by have := blk_lt C.out; omega) (by have := HXL.out; omega) ?_
      intro v1 w1 hR1 hB1 hG1 _
      refine hK.out _ _ ⟨v1, (by rw [ha.out]; exact putSel_upk 5 hb_ rfl rfl rfl), fun h0_ => absurd ((up_self b 7).symm.trans h0_) (by decide), fun h0_ => absurd ((up_self b 7).symm.trans h0_) (by decide), fun h0_ => absurd ((up_self b 7).symm.trans h0_) (by decide), fun _ _ => ⟨hR1, blk_grown C.out hG1 (fun e => R.out.1 _ e.symm rfl), B.out.grown R.out (hB1.mono (Nat.le_succ _)) hG1⟩, fun h0_ => absurd ((hoff 10 (by kernel_rfl)).symm.trans h0_) (by decide)⟩
    refine steps_cons ?_ ?_
    · rintro b a w' ⟨v9, ha, Q_B, Q_C, Q_R, Q_S1, Q_S2⟩ hb_ hon hoff
      refine ⟨_, rfl, fun K hK => ?_⟩
      have e34 : a.tmps[34]? = some (.pointer (some ⟨gw, 0, none⟩)) := by rw [ha]; exact (putSel_off rfl).trans rfl
      replace ha := Aside0.mk ha
      have S1 := Aside0.mk (Q_S1 (hon 7 (by kernel_rfl)) (hoff 10 (by kernel_rfl)))
      refine value_ (w1 := w') (v := .pointer (some ⟨gw, 0, none⟩)) (by rfl) rfl ?_ ?_
      · go_simp
        (try simp only [i64_w])
        try rfl
      refine hK.out _ _ ⟨v9, (by rw [ha.out]; exact putSel_upk 6 hb_ rfl rfl rfl), fun h0_ => absurd ((hon 7 (by kernel_rfl)).symm.trans h0_) (by decide), fun h0_ => absurd ((hon 7 (by kernel_rfl)).symm.trans h0_) (by decide), fun h0_ => absurd ((hon 7 (by kernel_rfl)).symm.trans h0_) (by decide), Q_S1, fun h0_ => absurd ((hoff 10 (by kernel_rfl)).symm.trans h0_) (by decide)⟩
    refine steps_cons ?_ ?_
    · rintro b a w' ⟨v9, ha, Q_B, Q_C, Q_R, Q_S1, Q_S2⟩ hb_ hon hoff
      refine ⟨_, rfl, fun K hK => ?_⟩
      have e42 : a.tmps[42]? = some (.pointer (some ⟨gw, 0, none⟩)) := by rw [ha]; exact putSel_on (e := (8, 42, .pointer (some ⟨gw, 0, none⟩))) 6 rfl rfl (hon 8 (by kernel_rfl)) rfl
      replace ha := Aside0.mk ha
      have S1 := Aside0.mk (Q_S1 (hon 7 (by kernel_rfl)) (hoff 10 (by kernel_rfl)))
      refine value_ (w1 := w') (v := .pointer (some ⟨gw, 0, none⟩)) (by rfl) rfl ?_ ?_
      · go_simp
        (try simp only [i64_w])
        try rfl
      refine hK.out _ _ ⟨v9, (by rw [ha.out]; exact putSel_upk 7 hb_ rfl rfl rfl), fun h0_ => absurd ((hon 7 (by kernel_rfl)).symm.trans h0_) (by decide), fun h0_ => absurd ((hon 7 (by kernel_rfl)).symm.trans h0_) (by decide), fun h0_ => absurd ((hon 7 (by kernel_rfl)).symm.trans h0_) (by decide), Q_S1, fun h0_ => absurd ((hoff 10 (by kernel_rfl)).symm.trans h0_) (by decide)⟩
    refine steps_cons ?_ ?_
    · rintro b a w' ⟨v9, ha, Q_B, Q_C, Q_R, Q_S1, Q_S2⟩ hb_ hon hoff
      refine ⟨_, rfl, fun K hK => ?_⟩
      have e43 : a.tmps[43]? = some (.pointer (some ⟨gw, 0, none⟩)) := by rw [ha]; exact putSel_on (e := (9, 43, .pointer (some ⟨gw, 0, none⟩))) 7 rfl rfl (hon 9 (by kernel_rfl)) rfl
      have e41 : a.tmps[41]? = some (v9) := by rw [ha]; exact putSel_on (e := (7, 41, v9)) 5 rfl rfl (hon 7 (by kernel_rfl)) rfl
      replace ha := Aside0.mk ha
      have S1 := Aside0.mk (Q_S1 (hon 7 (by kernel_rfl)) hb_)
      obtain ⟨hR1, hC1, hF1⟩ := S1.out
      obtain ⟨A7, c7, hv9⟩ := Kd.R_slice hR1
      have hs := blk_cell hC1 0
      have hf := blk_frozen hC1 0
      refine skip_ (w1 := w'.setCell ⟨gw, 0, none⟩ v9) (by rfl) rfl (by generalize (xs ++ l13).length = zl at hv9; rw [hv9] at e41 ⊢; go_simp; try rfl) ?_
      refine hK.out _ _ ⟨v9, (by rw [ha.out]; exact putSel_none (v := undef) rfl), fun h0_ => absurd ((hon 7 (by kernel_rfl)).symm.trans h0_) (by decide), fun h0_ => absurd ((hon 7 (by kernel_rfl)).symm.trans h0_) (by decide), fun h0_ => absurd ((hon 7 (by kernel_rfl)).symm.trans h0_) (by decide), fun _ h1_ => absurd ((up_self b 10).symm.trans h1_) (by decide), fun _ => ⟨v9, blk_put hC1 0 v9 rfl, Kd.R_far hR1 (p := ⟨gw, 0, none⟩) (fun k hk => hk) v9, hF1.set hC1 0 v9⟩⟩
    exact steps_nil
  rintro b a w' hall ⟨v9, ha, Q_B, Q_C, Q_R, Q_S1, Q_S2⟩
  clear B C R
  have hb2_ := hall 2 (by kernel_rfl)
  have hb3_ := hall 3 (by kernel_rfl)
  have hb4_ := hall 4 (by kernel_rfl)
  have hb5_ := hall 5 (by kernel_rfl)
  have hb6_ := hall 6 (by kernel_rfl)
  have hb7_ := hall 7 (by kernel_rfl)
  have hb8_ := hall 8 (by kernel_rfl)
  have hb9_ := hall 9 (by kernel_rfl)
  have hb10_ := hall 10 (by kernel_rfl)
  subst ha
  simp only [putSel, hb2_, hb3_, hb4_, hb5_, hb6_, hb7_, hb8_, hb9_, hb10_, if_true, Act.put, List.setIfInBounds_toArray, List.set_cons_zero, List.set_cons_succ]
  clear Q_B
  clear Q_C
  clear Q_R
  clear Q_S1
  have S2 := Aside0.mk (Q_S2 hb10_)
  clear Q_S2
  clear hall hb2_ hb3_ hb4_ hb5_ hb6_ hb7_ hb8_ hb9_ hb10_
  obtain ⟨u, hg, hR, hF⟩ := S2.out
  obtain ⟨A7, c7, rfl⟩ := Kd.R_slice hR
  have HC7 := Lib.hid hg
  have k9 : w'.cell? ⟨gw, 0, none⟩ = some (.slice A7 (xs ++ l13).length c7) := blk_cell hg 0
  have HR7 := Lib.hid hR
  have HB7 := Lib.hid (HBW.out.trans (hF.below.mono (by have := HGL.out; omega)))
  clear hg hR hF S2
  generalize hn : (xs ++ l13).length = nl at *
  go_wp2
  go_ret
  rw [HXS.out]
  exact ValQ.of_R HR7.out (by have := HGL.out; omega) (by rw [HGL.out.2.2]; exact HB7.out)
end Go.Proofs.Ytjmadnpicidbeaa.Ch
end
section
namespace Go.Proofs.Ytjmadnpicidbeaa.Ch
open Go.RowKit Go.Proofs.YtjmadnpicidbeaaW.PrintWords Go.Proofs.YtjmadnpicidbeaaW.PrintLast Go.Proofs.Ytjmadnpicidbeaa.Base Go.Proofs.Ytjmadnpicidbeaa.PCh Go.Proofs.Ytjmadnpicidbeaa.ParDec Go.Proofs.Ytjmadnpicidbeaa.ParEnc
set_option maxRecDepth 100000
set_option linter.unusedVariables false
set_option linter.unusedSimpArgs false
def checkT1 : Bool × List (List Nat × List Nat) := (true, [([], []), ([], []), ([1], [1]), ([0, 2, 2], [0, 2]), ([3], [3]), ([4, 3], [4])])
def checkB1 : List Nat := [0, 0, 2, 7, 15, 31]
theorem checktab1 : Go.Proofs.YtjmadnpicidbeaaW.PrintLast.rtab .any (Go.Proofs.YtjmadnpicidbeaaW.PrintLast.opsOf Try.f16 1) = checkT1 := by kernel_rfl
theorem checkbits1 : Go.Proofs.YtjmadnpicidbeaaW.PrintLast.waitsOk checkT1.2 checkB1 = true := by kernel_rfl
noncomputable def checkD (x : Chk) : Int :=
  if decide (x = bareD x) = false then 63
  else if x.f0 = 0 ∧ x.f13.length = 0 then 62
  else if (x.f0 = 4 ∨ x.f0 = 5) ∧ beatB x.f14 = false then 61
  else if 4096 < x.f10.length ∨ 4096 < x.f11.length ∨ 4096 < x.f12.length then 3
  else if (encP x.f14).2 ≠ 0 then (encP x.f14).2
  else if 65531 < (valueD x).length then 2 else 0
theorem encP_calls (w : World) (A : Option Addr) (c : Nat) (ps : List PrmS) (h : Kd.C k75 w A ps.length ps) (hc : ps.length ≤ c) :
    Calls Try.prog 41 #[.slice A ps.length c] w fun e w' => ∃ v0 : Value, e = .returned (.tuple #[v0, .int .i64 (encP ps).2]) ∧ Kd.R (Kd.int .u8) 5 w' w.heap.size (fun _ => True) v0 (encP ps).1 ∧ Below w.heap.size w w' := by
  obtain ⟨k, hk⟩ := encode_run ps
  exact param_Encode.calls k A c ps _ _ w h hc hk
def ValOk (x : Chk) (L : Lay) : Prop := ∀ W, CR W x L → x = bareD x → x.f10.length ≤ 4096 → x.f11.length ≤ 4096 → x.f12.length ≤ 4096 → (encP x.f14).2 = 0 → Calls Try.prog 36 #[.agg (CV x L)] W (ValP (valueD x) W)
theorem isBeat_f (a : Int) : chunk_isBeat.f a = some (decide (a = 4 ∨ a = 5)) := by
  unfold chunk_isBeat.f
  by_cases h4 : a = 4
  · simp [h4]
  · by_cases h5 : a = 5
    · simp [h5]
    · simp [h4, h5]
theorem isBeat_calls (a : Int) (w : World) : Calls Try.prog 39 #[.int .u8 a] w fun e w' => e = .returned (.bool (decide (a = 4 ∨ a = 5))) ∧ Drawn0 w w' := chunk_isBeat.calls a _ w (isBeat_f a)
end Go.Proofs.Ytjmadnpicidbeaa.Ch
end
section
namespace Go.Proofs.Ytjmadnpicidbeaa.Ch
open Go.RowKit Go.Proofs.YtjmadnpicidbeaaW.PrintWords Go.Proofs.YtjmadnpicidbeaaW.PrintLast Go.Proofs.Ytjmadnpicidbeaa.Base Go.Proofs.Ytjmadnpicidbeaa.PCh Go.Proofs.Ytjmadnpicidbeaa.ParDec Go.Proofs.Ytjmadnpicidbeaa.ParEnc
set_option maxRecDepth 100000
set_option linter.unusedVariables false
set_option linter.unusedSimpArgs false
def padL (n : Nat) : List Int := List.replicate ((n + 3) / 4 * 4 - n) 0
noncomputable def chunkL (x : Chk) : List Int := [x.f0, x.f1] ++ twoL [IntKind.u16.wrap (4 + ((valueD x).length : Int))] ++ valueD x ++ padL (valueD x).length
noncomputable def runE : List Int → List Chk → List Int × Int
  | acc, [] => (acc, 0)
  | acc, x :: r => if 65536 < (acc ++ chunkL x).length then ([], 2) else runE (acc ++ chunkL x) r
noncomputable def chkAll : List Chk → Int
  | [] => 0
  | x :: r => if checkD x = 0 then chkAll r else checkD x
noncomputable def encD (xs : List Chk) : List Int × Int := if chkAll xs = 0 then runE [] xs else ([], chkAll xs)
theorem checkD_len {x : Chk} (h : checkD x = 0) : (valueD x).length ≤ 65531 := by
  unfold checkD at h
  split at h
  · cases h
  · split at h
    · cases h
    · split at h
      · cases h
      · split at h
        · cases h
        · split at h
          · contradiction
          · split at h
            · cases h
            · omega
theorem chkAll_mem {xs : List Chk} (h : chkAll xs = 0) {x : Chk} (hx : x ∈ xs) : checkD x = 0 := by
  induction xs with
  | nil => cases hx
  | cons y r ih =>
    unfold chkAll at h
    split at h
    · rcases List.mem_cons.1 hx with rfl | hx
      · assumption
      · exact ih h hx
    · contradiction
theorem _root_.Go.Proofs.Ytjmadnpicidbeaa.Base.Only.grown {S : Nat → Prop} {a b c : World} {own : Option Nat} (h : Only S a b) (hG : b.grownBy c own) (hS : ∀ k, k < a.heap.size → own = some k → S k) : Only S a c :=
  ⟨hG.os.trans h.os, hG.tape.trans h.tape, hG.output.trans h.output, Nat.le_trans h.size hG.size, fun k hk hn => (hG.block k (Nat.lt_of_lt_of_le hk h.size) (fun e => hn (hS k hk e.symm))).trans (h.block k hk hn)⟩
theorem chk_at {w : World} {A : Option Addr} {xs : List Chk} (h : Kd.C k30 w A xs.length xs) (i : Nat) (hi : i < xs.length) :
    ∃ ad x L, A = some ad ∧ xs.drop i = x :: xs.drop (i + 1) ∧ x ∈ xs ∧ (∀ j v, (CV x L).toList[j]? = some v → w.cell? ((ad.add (i * 15)).add j) = some v) ∧ CR w x L := by
  obtain ⟨ad, c, e, _, hK, hc0⟩ := Kd.C_get h xs[i] (i : Int) (by omega) (by omega)
  rw [Int.toNat_natCast] at hK hc0
  have e2 : xs.getD i xs[i] = xs[i] := getD_lt _ _ _ hi
  rw [e2] at hK
  obtain ⟨L, rfl, hx⟩ := CR.of_K hK
  refine ⟨ad, xs[i], L, e, List.drop_eq_getElem_cons hi, List.getElem_mem hi, fun j v hv => ?_, hx⟩
  rw [Addr.add_add]
  exact hc0 j v hv
theorem wpList_load_cells {P : Program} {ops : Array Oper} {rest : List Oper} {op : Oper} {a : Act} {w : World} {Q : Exit → Act → World → Prop} (hgd : op.guard = none) (ty : TypeId) (x : Operand) (ho : op.op = .load ty x)
    {ad : Addr} (hx : a.eval x = .pointer (some ad)) (cs : Array Value) (d : TypeDesc) (hc : ∀ j v, cs.toList[j]? = some v → w.cell? (ad.add j) = some v)
    (hu : P.underlying ty = some d) (hd : d.isRow = true) (hi : (P.info? ty).map (·.size) = some cs.size)
    (h : wpList P ops Q rest (a.put op.dst (.agg cs)) w) : wpList P ops Q (op :: rest) a w := by
  have hl : (loadCells ad cs.size).run P w = .ok cs w := run_loadCells_list (P := P) w ad cs.toList hc
  have hv : (loadVar ty ad).run P w = .ok (.agg cs) w := by
    cases hq : P.info? ty with
    | none => simp [hq] at hi
    | some i =>
      have hs : i.size = cs.size := by simpa [hq] using hi
      have hagg : (isAgg ty).run P w = .ok true w := by
        unfold isAgg
        rw [Sem.run_bind, run_underlying hu w]
        cases d <;> simp_all [TypeDesc.isRow]
      simp [loadVar, Sem.run_bind, hagg, sizeOf, typeInfo, hq, hs, hl]
  refine wpList_plain hgd fun _ hK => ?_
  have hK' := hK _ _ h
  unfold Oper.wp execOp
  simp only [ho, hx, Instr.loadAt, Instr.sureAddr, Sem.run_bind, Sem.run_pure, Result.andThen_ok, hv]
  exact hK'
theorem cells_of_blk {w : World} {g : Nat} {cs : Array Value} {t : TypeId} {fr : Nat × Nat} (h : w.heap[g]? = some (.cells cs t fr)) : ∀ (j : Nat) (v : Value), cs.toList[j]? = some v → w.cell? ((⟨g, 0, none⟩ : Addr).add j) = some v := fun j v hv => by
  rw [Addr.add_lit, Nat.zero_add]
  unfold World.cell?
  simp only [h]
  simpa using hv
theorem CV_one (x : Chk) (L : Lay) : (CV x L).all (·.oneCell') = true := by simp [CV, Value.oneCell']
theorem alloc_chunk {o : Oper} {a : Act} {w : World} (ho : o.op = .alloc 30) : (execOp a.eval o).run Try.prog w = .ok (.value (.pointer (some ⟨w.heap.size, 0, none⟩))) (w.alloc (.cells #[.int .u8 0, .int .u8 0, .int .u32 0, .int .u16 0, .int .u16 0, .int .u32 0, .int .u32 0, .int .u32 0, .int .u16 0, .int .u16 0, .slice none 0 0, .slice none 0 0, .slice none 0 0, .slice none 0 0, .slice none 0 0] 30)) := by
  unfold execOp
  simp only [ho]
  go_simp
theorem wpList_box {ops : Array Oper} {rest : List Oper} {o1 o2 : Oper} {a : Act} {w : World} {Q : Exit → Act → World → Prop} (h1 : o1.guard = none) (h2 : o2.guard = none) (n : Tmp) (hd : o1.dst = some n) (ho1 : o1.op = .alloc 30)
    (y : Operand) (ho2 : o2.op = .store 30 (.tmp n) y) (cs : Array Value) (hx : (a.put (some n) (.pointer (some ⟨w.heap.size, 0, none⟩))).eval (.tmp n) = .pointer (some ⟨w.heap.size, 0, none⟩))
    (hy : (a.put (some n) (.pointer (some ⟨w.heap.size, 0, none⟩))).eval y = .agg cs) (hsz : (#[.int .u8 0, .int .u8 0, .int .u32 0, .int .u16 0, .int .u16 0, .int .u32 0, .int .u32 0, .int .u32 0, .int .u16 0, .int .u16 0, .slice none 0 0, .slice none 0 0, .slice none 0 0, .slice none 0 0, .slice none 0 0] : Array Value).size = cs.size) (hi : (Try.prog.info? 30).map (·.size) = some cs.size) (hone : cs.all (·.oneCell') = true)
    (h : wpList Try.prog ops Q rest ((a.put (some n) (.pointer (some ⟨w.heap.size, 0, none⟩))).put o2.dst undef) (w.alloc (.cells cs 30))) : wpList Try.prog ops Q (o1 :: o2 :: rest) a w := by
  have h3 : wpList Try.prog ops Q (o2 :: rest) (a.put (some n) (.pointer (some ⟨w.heap.size, 0, none⟩))) (w.alloc (.cells #[.int .u8 0, .int .u8 0, .int .u32 0, .int .u16 0, .int .u16 0, .int .u32 0, .int .u32 0, .int .u32 0, .int .u16 0, .int .u16 0, .slice none 0 0, .slice none 0 0, .slice none 0 0, .slice none 0 0, .slice none 0 0] 30)) := by
    refine wpList_store_row h2 30 (.tmp n) y ho2 w.heap.size cs hx hy 30 #[.int .u8 0, .int .u8 0, .int .u32 0, .int .u16 0, .int .u16 0, .int .u32 0, .int .u32 0, .int .u32 0, .int .u16 0, .int .u16 0, .slice none 0 0, .slice none 0 0, .slice none 0 0, .slice none 0 0, .slice none 0 0] (blk_new _ _) hi hsz hone ?_
    rw [World.setRow_alloc_new]
    exact h
  refine wpList_plain h1 fun _ hK => ?_
  have hK' := hK _ _ h3
  rw [← hd] at hK'
  unfold Oper.wp
  rw [alloc_chunk ho1]
  exact hK'
def WSo (ok : Nat → Prop) (w : World) (gw : Nat) (xs : List Int) : Prop := ∃ u, w.heap[gw]? = some (.cells #[u] 66 (0, 0)) ∧ (Kd.int .u8).R 5 w (gw + 1) ok u xs
theorem C_blk {g n : Nat} {w W : World} {kk : IntKind} {ns : List Int} (hg : W.heap[g]? = w.heap[g]?) (hC : (Kd.int kk).C w (some ⟨g, 0, none⟩) n ns) : (Kd.int kk).C W (some ⟨g, 0, none⟩) n ns := by
  obtain ⟨e1, e2, e3⟩ := hC
  refine ⟨e1, e2, fun hn => ?_⟩
  obtain ⟨ad, e, hc⟩ := e3 hn
  injection e with e
  subst e
  refine ⟨_, rfl, fun j p hj => ?_⟩
  obtain ⟨cs, c1, c2, c3⟩ := hc j p hj
  refine ⟨cs, c1, c2, fun i u hu => ?_⟩
  have := c3 i u hu
  have hb : (Addr.add ⟨g, 0, none⟩ (j * (Kd.int kk).sz + i)).block = g := add_block _ _
  unfold World.cell? at this ⊢
  rw [hb, hg]
  rw [hb] at this
  exact this
set_option maxHeartbeats 2000000 in
theorem wtwo_o (w : World) (gw : Nat) (ok : Nat → Prop) (hok : ∀ k, w.heap.size ≤ k → ok k) (hgo : ¬ ok gw) (xs : List Int) (A : Option Addr) (c : Nat) (ns : List Int) (hs : WSo ok w gw xs) (hA : ∀ W, Only (fun k => k = gw ∨ ok k) w W → (Kd.int .u16).C W A ns.length ns) (hx : xs.length + 2 * ns.length ≤ 140737488355328) :
    Calls Try.prog 37 #[.pointer (some ⟨gw, 0, none⟩), .slice A ns.length c] w fun e w' => e = .returned (.tuple #[]) ∧ WSo ok w' gw (xs ++ twoL ns) ∧ Only (fun k => k = gw ∨ ok k) w w' := by
  have HS := Lib.hid hs
  have HA := Lib.hid hA
  have hm := (hA w (Only.refl _ _)).2.1
  have HOK := Lib.hid hok
  have HGO := Lib.hid hgo
  clear hs hA hok hgo
  go_enter Try.func37, Try.ntmps37
  go_wp2
  go_loopw [5, 8] (fun v5 v8 wr => ∃ (i : Nat) (ys : List Int), i ≤ ns.length ∧ v8 = .int .i64 (i : Int) ∧ Hid (ys.length = xs.length + 2 * i) ∧ Hid (ys ++ twoL (ns.drop i) = xs ++ twoL ns) ∧ Hid (WSo ok wr gw ys) ∧ Hid (Only (fun k => k = gw ∨ ok k) w wr)) (fun _ v8 _ => ns.length - (intOf v8).toNat)
  case atStart => exact ⟨0, xs, Nat.zero_le _, rfl, (by show _ = _; omega), rfl, HS.out, Only.refl _ _⟩
  case round =>
    clear HS
    obtain ⟨i, ys, hi, rfl, HYL, HE, HW, HF⟩ := hrel
    by_cases hlt : i < ns.length
    · obtain ⟨ad, rfl, x0⟩ := int_at (HA.out wr HF.out) i hlt
      obtain ⟨u, hg, hR⟩ := HW.out
      obtain ⟨Au, cu, rfl⟩ := Kd.R_slice hR
      have hE := HE.out
      have hd : ns.drop i = ns.getD i 0 :: ns.drop (i + 1) := by
        rw [List.drop_eq_getElem_cons hlt]
        congr 1
        simp [List.getD_eq_getElem?_getD, hlt]
      rw [hd, twoL] at hE
      generalize ns.getD i 0 = q at *
      have hE2 : (ys ++ [q / 256 % 256, q % 256]) ++ twoL (ns.drop (i + 1)) = xs ++ twoL ns := by rw [List.append_assoc]; exact hE
      have HE2 := Lib.hid hE2
      have HG := Lib.hid hg
      have HR := Lib.hid hR
      have k0 : wr.cell? ⟨gw, 0, none⟩ = some (.slice Au ys.length cu) := blk_cell hg 0
      have HLT := Lib.hid (blk_lt hg)
      clear hE hE2 hd HE HW hg hR
      go_wp2_with (at_builtin; go_must (refine Kd.R_append_row (Value.int .u8) (0 : Int) (w0 := wr.alloc (.cells #[.int .u8 (q / 256 % 256), .int .u8 (q % 256)] 5)) (W := wr.alloc (.cells #[.int .u8 (q / 256 % 256), .int .u8 (q % 256)] 5)) (gw + 1) rfl _ _ 22 5 _ 1 rfl Try.underlying22 info_u8 rfl (by decide) (.slice Au ys.length cu) ys [q / 256 % 256, q % 256] (some ⟨wr.heap.size, 0, none⟩) 2 2 ok rfl rfl (fun k hk => HOK.out k (by have := HF.out.size; simp at hk; omega)) (Kd.R_alloc HR.out _) (row_lit (Kd.int .u8) rfl wr 5 [.int .u8 (q / 256 % 256), .int .u8 (q % 256)] [q / 256 % 256, q % 256] rfl (by simp) (fun j v p hv hp => by rcases j with _ | _ | j <;> simp at hv hp <;> (subst hv; subst hp; rfl))) (Below.refl _ _) (by have := HLT.out; simp; omega) (by have := HYL.out; omega) ?_); (intro v1 w1 hR1 hB1 hG1 _; have HR1 := Lib.hid hR1; have HB1 := Lib.hid hB1; have HGR := Lib.hid hG1; clear hR1 hB1 hG1; refine RowKit.Hid.out ?_))
      refine Lib.hid ?_
      obtain ⟨A7, c7, hv1⟩ := Kd.R_slice HR1.out
      subst hv1
      have hown : (Value.slice Au ys.length cu).ownBlock ≠ some gw := fun e => HGO.out ((Kd.R_alloc HR.out (.cells #[.int .u8 (q / 256 % 256), .int .u8 (q % 256)] 5)).1 _ e)
      have hg1 := blk_grown (blk_alloc HG.out (.cells #[.int .u8 (q / 256 % 256), .int .u8 (q % 256)] 5)) HGR.out (fun e => hown e.symm)
      have hs := blk_cell hg1 0
      have hf := blk_frozen hg1 0
      have HG1 := Lib.hid hg1
      have HF1 := Lib.hid ((HF.out.alloc (.cells #[.int .u8 (q / 256 % 256), .int .u8 (q % 256)] 5)).grown HGR.out (fun k _ e => Or.inr ((Kd.R_alloc HR.out (.cells #[.int .u8 (q / 256 % 256), .int .u8 (q % 256)] 5)).1 _ e)))
      have HR2 := Lib.hid (Kd.R_far HR1.out (p := ⟨gw, 0, none⟩) (fun k hk (e : k = gw) => HGO.out (e ▸ hk)) (.slice A7 (ys ++ [q / 256 % 256, q % 256]).length c7))
      rw [show (ys ++ [q / 256 % 256, q % 256]).length = ys.length + 2 by simp] at HR2
      clear hg1 HGR HB1 HF HR HG k0
      go_wp2
      go_roundw
      case rel => exact ⟨i + 1, ys ++ [q / 256 % 256, q % 256], by omega, by go_num, (by have := HYL.out; show _ = _; simp only [List.length_append, List.length_cons, List.length_nil]; omega), HE2, ⟨_, blk_put HG1.out 0 _ rfl, HR2.out⟩, HF1.out.setCell (fun _ => Or.inl rfl) _⟩
      case measure => simp [intOf]; omega
    · obtain rfl : i = ns.length := by omega
      have hE := HE.out
      rw [List.drop_length, twoL, List.append_nil] at hE
      have HE2 := Lib.hid hE
      clear hE HE HA
      go_wp2
      go_end0
      exact ⟨rfl, by rw [← HE2.out]; exact HW.out, HF.out⟩
theorem WSo.only {ok : Nat → Prop} {S : Nat → Prop} {w w' : World} {gw : Nat} {xs : List Int} (h : WSo ok w gw xs) (o : Only S w w') (hs : ∀ k, gw ≤ k → k < w.heap.size → ¬ S k) : WSo ok w' gw xs := by
  obtain ⟨u, h1, h2⟩ := h
  exact ⟨u, o.blk h1 (hs gw (Nat.le_refl _) (blk_lt h1)), R_only h2 o (fun k hk => hs k (by omega))⟩
theorem wtwo_lit_o (w : World) (gw : Nat) (ok : Nat → Prop) (hok : ∀ k, w.heap.size ≤ k → ok k) (hgo : ¬ ok gw) (xs ns : List Int) (vs : List Value) (n : Nat) (hv : vs = ns.map (Value.int .u16)) (hn : ns.length = n) (hs : WSo ok w gw xs) (hx : xs.length + 2 * ns.length ≤ 140737488355328) :
    Calls Try.prog 37 #[.pointer (some ⟨gw, 0, none⟩), .slice (some ⟨w.heap.size, 0, none⟩) n n] (w.alloc (.cells vs.toArray 25)) fun e w' => e = .returned (.tuple #[]) ∧ WSo ok w' gw (xs ++ twoL ns) ∧ Only (fun k => k = gw ∨ ok k) w w' := by
  subst hn
  obtain ⟨u, hg, hR⟩ := hs
  have hlt := blk_lt hg
  have hC : (Kd.int .u16).C (w.alloc (.cells vs.toArray 25)) (some ⟨w.heap.size, 0, none⟩) ns.length ns := row_lit (Kd.int .u16) rfl w _ vs ns (by rw [hv, List.length_map]) (by omega) (fun j v p h1 h2 => by
    rw [hv, List.getElem?_map, h2] at h1
    injection h1 with h1
    subst h1
    rfl)
  have hR' : (Kd.int .u8).R 5 (w.alloc (.cells vs.toArray 25)) (gw + 1) (fun k => ok k ∧ k ≠ w.heap.size) u xs := Kd.R_alloc (Kd.R_mono (Kd.R_bound hR) (fun k hk => ⟨hk.1, by have := hk.2.2.1; omega⟩)) _
  have hsz : (w.alloc (.cells vs.toArray 25)).heap.size = w.heap.size + 1 := by simp
  refine (wtwo_o (w.alloc (.cells vs.toArray 25)) gw (fun k => ok k ∧ k ≠ w.heap.size) (fun k hk => ⟨hok k (by omega), by omega⟩) (fun h => hgo h.1) xs (some ⟨w.heap.size, 0, none⟩) ns.length ns ⟨u, blk_alloc hg _, hR'⟩ (fun W hO => ?_) hx).mono ?_
  · exact C_blk (hO.block _ (by omega) (fun h => h.elim (fun h => absurd h (by omega)) (fun h => h.2 rfl))) hC
  · rintro e w' ⟨h1, ⟨u', h2, h3⟩, h4⟩
    exact ⟨h1, ⟨u', h2, Kd.R_mono h3 (fun k hk => hk.1)⟩, ((Only.refl _ w).alloc _).trans h4 (fun k _ h => h.elim Or.inl (fun h => Or.inr h.1))⟩
end Go.Proofs.Ytjmadnpicidbeaa.Ch
end
section
namespace Go.Proofs.Ytjmadnpicidbeaa.Ch
open Go.RowKit Go.Proofs.YtjmadnpicidbeaaW.PrintWords Go.Proofs.YtjmadnpicidbeaaW.PrintLast Go.Proofs.Ytjmadnpicidbeaa.Base Go.Proofs.Ytjmadnpicidbeaa.PCh Go.Proofs.Ytjmadnpicidbeaa.ParDec
set_option maxRecDepth 100000
set_option linter.unusedVariables false
set_option linter.unusedSimpArgs false
set_option maxHeartbeats 4000000 in
theorem rall_calls (w : World) (A : Option Addr) (b : List UInt8) (c : Nat) (hb : byte.C w A b.length b) (hc : b.length ≤ c) (hv : b.length ≤ 1048576) :
    Calls Try.prog 22 #[.slice A b.length c] w fun e w' => ∃ v, e = .returned (.tuple #[v, .int .i64 (allL b).2.1, .int .i64 (allL b).2.2]) ∧ Kd.R k30 30 w' w.heap.size (fun _ => True) v (allL b).1 ∧ Below w.heap.size w w' := by
  have HBC := Lib.hid (fun (W : World) (h : Below w.heap.size w W) => Kd.C_below hb h)
  obtain ⟨E, hE⟩ : ∃ E, allL b = E := ⟨_, rfl⟩
  rw [hE]
  have HE := Lib.hid (show allD (b.length + 1) b 0 [] = E from hE)
  clear hE hb
  go_enter Try.func22, Try.ntmps22
  go_wp2
  go_loopw [5, 6] (fun v5 v6 wr => ∃ (at_ n : Nat) (xs : List Chk), at_ ≤ b.length ∧ v6 = .int .i64 (at_ : Int) ∧ Hid (b.length < n + at_ ∧ xs.length ≤ at_) ∧ Hid (allD n b at_ xs = E) ∧ Hid (Kd.R k30 30 wr w.heap.size (fun _ => True) v5 xs) ∧ Hid (Below w.heap.size w wr)) (fun _ v6 _ => b.length - (intOf v6).toNat)
  case atStart => exact ⟨0, b.length + 1, [], Nat.zero_le _, rfl, ⟨by omega, Nat.le_refl _⟩, HE.out, Kd.R_nil _ _ _ _ _, Below.refl _ _⟩
  case round =>
    obtain ⟨at_, n, xs, hat, rfl, HN, HA, HR, HB⟩ := hrel
    by_cases hlt : at_ < b.length
    · obtain ⟨n, rfl⟩ : ∃ m, n = m + 1 := ⟨n - 1, by have := HN.out.1; omega⟩
      have hA := HA.out
      rw [allD, if_pos hlt] at hA
      obtain ⟨A', hdr, hdC, hdl⟩ := drop_bytes (HBC.out _ HB.out) hc at_ (at_ : Int) rfl (Nat.le_of_lt hlt)
      have hzl : (b.drop at_).length ≤ 140737488355232 := by rw [List.length_drop]; omega
      have HD := Lib.hid (rdec_calls wr A' (b.drop at_) (c - at_) hdC hdl (by omega))
      have hdn : (decC (b.drop at_)).2.2 = 0 → ∃ k : Nat, (decC (b.drop at_)).2.1 = (k : Int) ∧ 4 ≤ k ∧ k ≤ b.length - at_ := fun h => by
        obtain ⟨k, h1, h2, h3⟩ := decC_len h
        exact ⟨k, h1, h2, by rw [List.length_drop] at h3; exact h3⟩
      unfold DecCP at HD
      have HDN := Lib.hid hdn
      have HA2 := Lib.hid hA
      clear hA hdC hdl hzl hdn HA
      generalize decC (b.drop at_) = D at *
      obtain ⟨d, k, er⟩ := D
      dsimp only at HD HDN HA2
      generalize (b.drop at_).length = zl at *
      go_wp2_with fail
      refine HD.out.mono ?_
      rintro e w1 ⟨cs, rfl, hM, hB⟩
      obtain ⟨cl, rfl⟩ : ∃ cl : List Value, cs = cl.toArray := ⟨cs.toList, by simp⟩
      rw [List.toList_toArray] at hM
      obtain ⟨v10, v11, v12, v13, v14, hcs, h10, h11, h12, h13, h14⟩ := k30_openM hM
      obtain ⟨A10, c10, rfl⟩ := Kd.R_slice h10
      obtain ⟨A11, c11, rfl⟩ := Kd.R_slice h11
      obtain ⟨A12, c12, rfl⟩ := Kd.R_slice h12
      obtain ⟨A13, c13, rfl⟩ := Kd.R_slice h13
      obtain ⟨A14, c14, rfl⟩ := Kd.R_slice h14
      have HB2 := Lib.hid (below_then HB.out HB.out.size hB)
      have HR2 := Lib.hid (R_only HR.out (Only.of_below (S := fun _ => False) hB) (fun _ _ _ h => h))
      have HS := Lib.hid hB.size
      subst hcs
      have HM := Lib.hid hM
      clear h10 h11 h12 h13 h14 hM hB HD
      have HBO := Lib.hid (fun k h => Kd.R_lt HR.out k h)
      by_cases her : er = 0
      · subst her
        obtain ⟨k', hk', hk4, hkl⟩ := HDN.out rfl
        subst hk'
        have hA := HA2.out
        rw [if_neg (by simp), Int.toNat_natCast] at hA
        have HA3 := Lib.hid hA
        clear hA HA2 HDN
        have hwr : wrap64 ((at_ : Int) + (k' : Int)) = ((at_ + k' : Nat) : Int) := by unfold wrap64; omega
        go_upto_region 7 with (fail)
        refine wp_gen (fun W' => W'.heap[w1.heap.size]? = some (.cells ([.int .u8 d.f0, .int .u8 d.f1, .int .u32 d.f2, .int .u16 d.f3, .int .u16 d.f4, .int .u32 d.f5, .int .u32 d.f6, .int .u32 d.f7, .int .u16 d.f8, .int .u16 d.f9, .slice A10 d.f10.length c10, .slice A11 d.f11.length c11, .slice A12 d.f12.length c12, .slice A13 d.f13.length c13, .slice A14 d.f14.length c14] : List Value).toArray 30 (0, 0)) ∧ Kd.R k30 30 W' w.heap.size (fun _ => True) u5 xs ∧ k30.M W' w.heap.size (fun k => wr.heap.size ≤ k) d ([.int .u8 d.f0, .int .u8 d.f1, .int .u32 d.f2, .int .u16 d.f3, .int .u16 d.f4, .int .u32 d.f5, .int .u32 d.f6, .int .u32 d.f7, .int .u16 d.f8, .int .u16 d.f9, .slice A10 d.f10.length c10, .slice A11 d.f11.length c11, .slice A12 d.f12.length c12, .slice A13 d.f13.length c13, .slice A14 d.f14.length c14]) ∧ Below w.heap.size w W') ⟨blk_new _ _, Kd.R_alloc HR2.out _, k30.M_mono (fun k hk => hk.2.1) (k30.M_bound (M_only HM.out (Only.of_below (S := fun _ => False) (below_alloc (Below.refl _ _) _)) (fun _ _ _ h => h))) |> k30.M_lower HB.out.size, below_alloc HB2.out _⟩ ?_
        clear HR2 HM HB2 HB HR
        rintro W2 ⟨hblk, hR2, hM2, hB2⟩
        have HM2 := Lib.hid hM2
        have HR3 := Lib.hid hR2
        have HB3 := Lib.hid hB2
        have HBL := Lib.hid hblk
        clear hR2 hM2 hB2 hblk
        go_wp2_with (first | (with_reducible refine gate_dst (N := 27) rfl ?_; go_must (refine wpList_load_row rfl 30 (.tmp 7) rfl _ rfl 30 _ (0, 0) _ HBL.out Try.underlying30 rfl (by kernel_rfl) ?_)) | (at_builtin; go_must (refine Kd.R_append k30 (w0 := w) (W := W2) w.heap.size rfl _ _ 41 30 (.agg zerV) 152 rfl Try.underlying41 info_chk rfl (by decide) (by decide) u5 xs d ([.int .u8 d.f0, .int .u8 d.f1, .int .u32 d.f2, .int .u16 d.f3, .int .u16 d.f4, .int .u32 d.f5, .int .u32 d.f6, .int .u32 d.f7, .int .u16 d.f8, .int .u16 d.f9, .slice A10 d.f10.length c10, .slice A11 d.f11.length c11, .slice A12 d.f12.length c12, .slice A13 d.f13.length c13, .slice A14 d.f14.length c14]) (fun _ => True) (fun k => wr.heap.size ≤ k) rfl rfl HM2.out (fun k hk => ⟨trivial, fun he => by have := HBO.out k he.symm; omega⟩) (fun _ _ => trivial) HR3.out HB3.out HB3.out.size (by have := HN.out.2; omega) ?_); (intro v1 w2 hR1 hB1 hG1 _; have HR1 := Lib.hid hR1; have HB1 := Lib.hid hB1; clear hR1 hB1 hG1)))
        go_roundw
        case rel => exact ⟨at_ + k', n, xs ++ [d], by omega, by rw [← hwr]; first | rfl | go_num, ⟨by have := HN.out.1; show _ < _; omega, by have := HN.out.2; show _ ≤ _; rw [List.length_append]; simp; omega⟩, HA3, HR1, HB1⟩
        case measure => simp [intOf]; omega
      · have hA := HA2.out
        rw [if_pos her] at hA
        subst hA
        have q : (er != 0) = true := by simp [her]
        clear HA2 HDN her
        go_wp2
        go_ret3
        exact ⟨_, rfl, Kd.R_nil _ _ _ _ _, below_alloc HB2.out _⟩
    · obtain rfl : at_ = b.length := by omega
      have hA := HA.out
      have hn : ∃ m, n = m + 1 := ⟨n - 1, by have := HN.out.1; omega⟩
      obtain ⟨n, rfl⟩ := hn
      rw [allD, if_neg (Nat.lt_irrefl _)] at hA
      subst hA
      clear HA HE
      go_wp2
      go_ret3
      exact ⟨_, rfl, HR.out, HB.out⟩
theorem inB_ints (l : List UInt8) : ∀ b ∈ intsL l, inB b := fun b hb => by
  unfold intsL at hb
  obtain ⟨x, _, rfl⟩ := List.mem_map.1 hb
  have := x.toNat_lt
  unfold inB
  omega
theorem prmsD_ok {v : List UInt8} {ps : List PrmS} (h : prmsD v = .ok ps) : ∀ p ∈ ps, ∀ b ∈ p.f1, inB b := by
  unfold prmsD at h
  by_cases e : (decD v).2.2 = 0
  · rw [if_pos e] at h
    injection h with h
    subst h
    exact fun p hp b hb => ((dec_ok v e).2.1 p hp).2.2.2 b hb
  · rw [if_neg e] at h
    cases h
theorem readD_okB {kd fl : Int} {v : List UInt8} {d : Chk} (h : readD kd fl v = .ok d) : OkB d := by
  have nb : ∀ b ∈ ([] : List Int), inB b := fun _ h => by cases h
  have np : ∀ p ∈ ([] : List PrmS), ∀ b ∈ p.f1, inB b := fun _ h => by cases h
  unfold readD readData readInit readLists readPrms readShut readNone readBody at h
  repeat' split at h
  all_goals first | (cases h; done) | (injection h with h; subst h; first | exact ⟨nb, np⟩ | exact ⟨inB_ints _, np⟩ | (rename_i e; exact ⟨nb, prmsD_ok e⟩) | (rename_i e _; exact ⟨nb, prmsD_ok e⟩))
theorem dec_okB (b : List UInt8) : OkB (decC b).1 := by
  have n0 : OkB (chk0 0 0) := ⟨fun _ h => (by cases h), fun _ h => (by cases h)⟩
  unfold decC
  split
  · exact n0
  · split
    · exact n0
    · split
      · exact n0
      · rename_i e
        exact readD_okB e
theorem all_okB (b : List UInt8) : ∀ (n at_ : Nat) (acc : List Chk), (∀ x ∈ acc, OkB x) → ∀ x ∈ (allD n b at_ acc).1, OkB x := by
  intro n
  induction n with
  | zero => intro at_ acc h; exact h
  | succ n ih =>
    intro at_ acc h
    unfold allD
    split
    · split
      · intro x hx; cases hx
      · refine ih _ _ ?_
        intro x hx
        rcases List.mem_append.1 hx with hx | hx
        · exact h x hx
        · rw [List.mem_singleton.1 hx]
          exact dec_okB _
    · exact h
theorem exec_load_cells {P : Program} {o : Oper} {a : Act} {w : World} (ty : TypeId) (x : Operand) (ho : o.op = .load ty x) {ad : Addr} (hx : a.eval x = .pointer (some ad)) (cs : Array Value) (d : TypeDesc) (hc : ∀ j v, cs.toList[j]? = some v → w.cell? (ad.add j) = some v)
    (hu : P.underlying ty = some d) (hd : d.isRow = true) (hi : (P.info? ty).map (·.size) = some cs.size) : (execOp a.eval o).run P w = .ok (.value (.agg cs)) w := by
  have hl : (loadCells ad cs.size).run P w = .ok cs w := run_loadCells_list (P := P) w ad cs.toList hc
  have hv : (loadVar ty ad).run P w = .ok (.agg cs) w := by
    cases hq : P.info? ty with
    | none => simp [hq] at hi
    | some i =>
      have hs : i.size = cs.size := by simpa [hq] using hi
      have hagg : (isAgg ty).run P w = .ok true w := by
        unfold isAgg
        rw [Sem.run_bind, run_underlying hu w]
        cases d <;> simp_all [TypeDesc.isRow]
      simp [loadVar, Sem.run_bind, hagg, sizeOf, typeInfo, hq, hs, hl]
  unfold execOp
  simp only [ho, hx, Instr.loadAt, Instr.sureAddr, Sem.run_bind, Sem.run_pure, Result.andThen_ok, hv]
def allsT6 : Bool × List (List Nat × List Nat) := (true, [([], []), ([], []), ([0, 1], [0, 1]), ([2], [2]), ([], []), ([], []), ([4, 5], [4, 5]), ([6], [6]), ([3, 7], [3, 7]), ([8], [8])])
def allsB6 : List Nat := [0, 0, 3, 7, 0, 0, 48, 112, 255, 511]
theorem allstab6 : Go.Proofs.YtjmadnpicidbeaaW.PrintLast.rtab .any (Go.Proofs.YtjmadnpicidbeaaW.PrintLast.opsOf Try.f23 6) = allsT6 := by kernel_rfl
theorem allsbits6 : Go.Proofs.YtjmadnpicidbeaaW.PrintLast.waitsOk allsT6.2 allsB6 = true := by kernel_rfl
set_option maxHeartbeats 4000000 in
theorem allsame_calls (w : World) (A B' : Option Addr) (c d : Nat) (xs ys : List Chk) (hx : Kd.C k30 w A xs.length xs) (hy : Kd.C k30 w B' ys.length ys) (ox : ∀ x ∈ xs, OkB x) (oy : ∀ y ∈ ys, OkB y) :
    Calls Try.prog 23 #[.slice A xs.length c, .slice B' ys.length d] w fun e w' => e = .returned (.bool (decide (xs = ys))) ∧ Below w.heap.size w w' := by
  have hmx := hx.2.1
  have hmy := hy.2.1
  have HX := Lib.hid (fun (W : World) (h : Below w.heap.size w W) => Kd.C_below hx h)
  have HY := Lib.hid (fun (W : World) (h : Below w.heap.size w W) => Kd.C_below hy h)
  have HOX := Lib.hid ox
  have HOY := Lib.hid oy
  clear hx hy ox oy
  by_cases hl : xs.length = ys.length
  · have q : ((xs.length : Int) != (ys.length : Int)) = false := by simp [hl]
    have HL := Lib.hid hl
    clear hl
    go_enter Try.func23, Try.ntmps23
    go_wp2
    go_loopw [5] (fun v5 wr => ∃ i : Nat, i ≤ xs.length ∧ v5 = .int .i64 (i : Int) ∧ Hid (decide (xs = ys) = decide (xs.drop i = ys.drop i)) ∧ Hid (Below w.heap.size w wr)) (fun v5 _ => xs.length - (intOf v5).toNat)
    case atStart => exact ⟨0, Nat.zero_le _, rfl, rfl, Below.refl _ _⟩
    case round =>
      obtain ⟨i, hi, rfl, HS, HB⟩ := hrel
      by_cases hlt : i < xs.length
      · have hlt' : i < ys.length := by have := HL.out; omega
        obtain ⟨ax, x, L, rfl, hdx, hxm, hcx, hxr⟩ := chk_at (HX.out _ HB.out) i hlt
        obtain ⟨ay, y, M, rfl, hdy, hym, hcy, hyr⟩ := chk_at (HY.out _ HB.out) i hlt'
        have hd := HS.out
        rw [hdx, hdy] at hd
        have HSM := Lib.hid (fun (W : World) (h : Below wr.heap.size wr W) => rsame_calls W x y L M (hxr.below h) (hyr.below h) (HOX.out x hxm) (HOY.out y hym))
        have HXS := Lib.hid (show (Try.prog.info? 30).map (·.size) = some (CV x L).size by kernel_rfl)
        have HYS := Lib.hid (show (Try.prog.info? 30).map (·.size) = some (CV y M).size by kernel_rfl)
        have HLX := Lib.hid hcx
        have HLY := Lib.hid hcy
        have s2 : (x :: xs.drop (i + 1) = y :: ys.drop (i + 1)) = (x = y ∧ xs.drop (i + 1) = ys.drop (i + 1)) := by simp
        have HD := Lib.hid hd
        have HS2 := Lib.hid s2
        clear hd s2 hcx hcy hxr hyr hdx hdy hxm hym
        by_cases hxy : x = y
        · have HDD := Lib.hid (show decide (xs = ys) = decide (xs.drop (i + 1) = ys.drop (i + 1)) by rw [HD.out]; exact decide_eq_decide.2 (by rw [HS2.out]; simp [hxy]))
          rw [decide_eq_true hxy] at HSM
          clear HD HS2 hxy HS
          generalize CV x L = CX at *
          generalize CV y M = CY at *
          obtain ⟨q, hq⟩ : ∃ q, q = true := ⟨_, rfl⟩
          rw [← hq] at HSM
          have HQ := Lib.hid hq
          clear hq
          have HN2 := HB
          go_upto_region 6 with (fail)
          generalize wr = W at *
          have B := True.intro
          refine start_ (n := 10) (S := fun w' => True) (ds := []) #[false, false, false, false, false, false, false, false, false, false] (by kernel_rfl) rfl rfl trivial (fun hHeld => ?_)
          refine with_tabW allstab6 allsbits6 (fun HT_ HW_ => ?_)
          refine pure_ (i := 0) (N := some 17) (v := ?_) (a' := ?_) #[true, false, false, false, false, false, false, false, false, false] rfl rfl (any_of HT_.out (by kernel_rfl)) (fun _ _ _ h => h) (Or.inl ⟨by rfl, ?_⟩) ?_ ?_
          rotate_left
          · intro w'
            go_simp
            with_reducible rfl
          rotate_left
          · simp only [Act.put, List.setIfInBounds_toArray, List.set_cons_zero, List.set_cons_succ, i64_w, i32_w]
            rfl
          refine pure_ (i := 1) (N := some 18) (v := ?_) (a' := ?_) #[true, true, false, false, false, false, false, false, false, false] rfl rfl (any_of HT_.out (by kernel_rfl)) (fun _ _ _ h => h) (Or.inl ⟨by rfl, ?_⟩) ?_ ?_
          rotate_left
          · intro w'
            go_simp
            with_reducible rfl
          rotate_left
          · simp only [Act.put, List.setIfInBounds_toArray, List.set_cons_zero, List.set_cons_succ, i64_w, i32_w]
            rfl
          refine pure_ (i := 4) (N := some 21) (v := ?_) (a' := ?_) #[true, true, false, false, true, false, false, false, false, false] rfl rfl (any_of HT_.out (by kernel_rfl)) (fun _ _ _ h => h) (Or.inl ⟨by rfl, ?_⟩) ?_ ?_
          rotate_left
          · intro w'
            go_simp
            with_reducible rfl
          rotate_left
          · simp only [Act.put, List.setIfInBounds_toArray, List.set_cons_zero, List.set_cons_succ, i64_w, i32_w]
            rfl
          refine pure_ (i := 5) (N := some 22) (v := ?_) (a' := ?_) #[true, true, false, false, true, true, false, false, false, false] rfl rfl (any_of HT_.out (by kernel_rfl)) (fun _ _ _ h => h) (Or.inl ⟨by rfl, ?_⟩) ?_ ?_
          rotate_left
          · intro w'
            go_simp
            with_reducible rfl
          rotate_left
          · simp only [Act.put, List.setIfInBounds_toArray, List.set_cons_zero, List.set_cons_succ, i64_w, i32_w]
            rfl
          refine inv_at [2, 3, 6, 7, 8, 9] (fun a0_ b a w' => a = putSel a0_ b [(2, 19, .pointer (some (ax.add (i * 15)))), (3, 20, .agg CX), (6, 23, .pointer (some (ay.add (i * 15)))), (7, 24, .agg CY), (8, 25, .bool q), (9, 26, .bool (!q))] ∧ (Below W.heap.size W w')) HT_.out HW_.out (by kernel_rfl) (by kernel_rfl) ?_ ?_ ?_
          · exact ⟨by simp only [putSel, Bool.false_eq_true, if_false], below_drew (Below.refl _ _)⟩
          · skip
            clear B
            refine steps_cons ?_ ?_
            · rintro b a w' ⟨ha, Q_B⟩ hb_ hon hoff
              refine ⟨_, rfl, fun K hK => ?_⟩
              have e17 : a.tmps[17]? = some (.slice (some ax) xs.length c) := by rw [ha]; exact (putSel_off rfl).trans rfl
              have e18 : a.tmps[18]? = some (.int .i64 (i : Int)) := by rw [ha]; exact (putSel_off rfl).trans rfl
              replace ha := Aside0.mk ha
              have B := Aside0.mk Q_B
              refine value_ (w1 := w') (v := .pointer (some (ax.add (i * 15)))) (by rfl) rfl ?_ ?_
              · go_simp
                (try simp only [i64_w])
                try rfl
              refine hK.out _ _ ⟨(by rw [ha.out]; exact putSel_upk 0 hb_ rfl rfl rfl), Q_B⟩
            refine steps_cons ?_ ?_
            · rintro b a w' ⟨ha, Q_B⟩ hb_ hon hoff
              refine ⟨_, rfl, fun K hK => ?_⟩
              have e19 : a.tmps[19]? = some (.pointer (some (ax.add (i * 15)))) := by rw [ha]; exact putSel_on (e := (2, 19, .pointer (some (ax.add (i * 15))))) 0 rfl rfl (hon 2 (by kernel_rfl)) rfl
              replace ha := Aside0.mk ha
              have B := Aside0.mk Q_B
              refine value_ (w1 := w') (v := .agg CX) (by rfl) rfl (exec_load_cells 30 (.tmp 19) rfl (eval_of e19) CX _ (fun j v hv => pw_cell_below B.out (HLX.out j v hv)) Try.underlying30 rfl HXS.out) ?_
              refine hK.out _ _ ⟨(by rw [ha.out]; exact putSel_upk 1 hb_ rfl rfl rfl), B.out⟩
            refine steps_cons ?_ ?_
            · rintro b a w' ⟨ha, Q_B⟩ hb_ hon hoff
              refine ⟨_, rfl, fun K hK => ?_⟩
              have e21 : a.tmps[21]? = some (.slice (some ay) ys.length d) := by rw [ha]; exact (putSel_off rfl).trans rfl
              have e22 : a.tmps[22]? = some (.int .i64 (i : Int)) := by rw [ha]; exact (putSel_off rfl).trans rfl
              replace ha := Aside0.mk ha
              have B := Aside0.mk Q_B
              refine value_ (w1 := w') (v := .pointer (some (ay.add (i * 15)))) (by rfl) rfl ?_ ?_
              · go_simp
                (try simp only [i64_w])
                try rfl
              refine hK.out _ _ ⟨(by rw [ha.out]; exact putSel_upk 2 hb_ rfl rfl rfl), Q_B⟩
            refine steps_cons ?_ ?_
            · rintro b a w' ⟨ha, Q_B⟩ hb_ hon hoff
              refine ⟨_, rfl, fun K hK => ?_⟩
              have e23 : a.tmps[23]? = some (.pointer (some (ay.add (i * 15)))) := by rw [ha]; exact putSel_on (e := (6, 23, .pointer (some (ay.add (i * 15))))) 2 rfl rfl (hon 6 (by kernel_rfl)) rfl
              replace ha := Aside0.mk ha
              have B := Aside0.mk Q_B
              refine value_ (w1 := w') (v := .agg CY) (by rfl) rfl (exec_load_cells 30 (.tmp 23) rfl (eval_of e23) CY _ (fun j v hv => pw_cell_below B.out (HLY.out j v hv)) Try.underlying30 rfl HYS.out) ?_
              refine hK.out _ _ ⟨(by rw [ha.out]; exact putSel_upk 3 hb_ rfl rfl rfl), B.out⟩
            refine steps_cons ?_ ?_
            · rintro b a w' ⟨ha, Q_B⟩ hb_ hon hoff
              refine ⟨_, rfl, fun K hK => ?_⟩
              have e20 : a.tmps[20]? = some (.agg CX) := by rw [ha]; exact putSel_on (e := (3, 20, .agg CX)) 1 rfl rfl (hon 3 (by kernel_rfl)) rfl
              have e24 : a.tmps[24]? = some (.agg CY) := by rw [ha]; exact putSel_on (e := (7, 24, .agg CY)) 3 rfl rfl (hon 7 (by kernel_rfl)) rfl
              replace ha := Aside0.mk ha
              have B := Aside0.mk Q_B
              refine goes_ Try.func12 (by kernel_rfl) rfl #[.agg CX, .agg CY] (by rfl) rfl rfl (by first | (simp only [List.map_toArray, List.map_cons, List.map_nil, Act.eval, Array.getD_eq_getD_getElem?, Option.getD_some, e20, e24]; done) | (simp only [List.map_toArray, List.map_cons, List.map_nil, Act.eval, Array.getD_eq_getD_getElem?, Option.getD_some, e20, e24]; rfl)) ?_
              refine (HSM.out w' B.out).mono ?_
              rintro e w1 ⟨rfl, hB1⟩
              refine ⟨_, rfl, ?_⟩
              refine hK.out _ _ ⟨(by rw [ha.out]; exact putSel_upk 4 hb_ rfl rfl rfl), below_then B.out B.out.size hB1⟩
            refine steps_cons ?_ ?_
            · rintro b a w' ⟨ha, Q_B⟩ hb_ hon hoff
              refine ⟨_, rfl, fun K hK => ?_⟩
              have e25 : a.tmps[25]? = some (.bool q) := by rw [ha]; exact putSel_on (e := (8, 25, .bool q)) 4 rfl rfl (hon 8 (by kernel_rfl)) rfl
              replace ha := Aside0.mk ha
              have B := Aside0.mk Q_B
              refine value_ (w1 := w') (v := .bool (!q)) (by rfl) rfl ?_ ?_
              · go_simp
                (try simp only [i64_w])
                try rfl
              refine hK.out _ _ ⟨(by rw [ha.out]; exact putSel_upk 5 hb_ rfl rfl rfl), Q_B⟩
            exact steps_nil
          rintro b a w' hall ⟨ha, Q_B⟩
          clear B
          have hb2_ := hall 2 (by kernel_rfl)
          have hb3_ := hall 3 (by kernel_rfl)
          have hb6_ := hall 6 (by kernel_rfl)
          have hb7_ := hall 7 (by kernel_rfl)
          have hb8_ := hall 8 (by kernel_rfl)
          have hb9_ := hall 9 (by kernel_rfl)
          subst ha
          simp only [putSel, hb2_, hb3_, hb6_, hb7_, hb8_, hb9_, if_true, Act.put, List.setIfInBounds_toArray, List.set_cons_zero, List.set_cons_succ]
          have B := Aside0.mk Q_B
          clear Q_B
          clear hall hb2_ hb3_ hb6_ hb7_ hb8_ hb9_
          have HB2 := Lib.hid (below_then HB.out HB.out.size B.out)
          rw [HQ.out]
          clear B HSM HLX HLY HQ HN2
          go_wp2
          go_roundw
          case rel => exact ⟨i + 1, by omega, by go_num, HDD, HB2⟩
          case measure => simp [intOf]; omega
        · have HDD := Lib.hid (show decide (xs = ys) = false by rw [HD.out]; exact decide_eq_false (fun e => hxy (HS2.out.mp e).1))
          rw [decide_eq_false hxy] at HSM
          clear HD HS2 hxy HS
          generalize CV x L = CX at *
          generalize CV y M = CY at *
          obtain ⟨q, hq⟩ : ∃ q, q = false := ⟨_, rfl⟩
          rw [← hq] at HSM
          have HQ := Lib.hid hq
          clear hq
          go_upto_region 6 with (fail)
          generalize wr = W at *
          have B := True.intro
          refine start_ (n := 10) (S := fun w' => True) (ds := []) #[false, false, false, false, false, false, false, false, false, false] (by kernel_rfl) rfl rfl trivial (fun hHeld => ?_)
          refine with_tabW allstab6 allsbits6 (fun HT_ HW_ => ?_)
          refine pure_ (i := 0) (N := some 17) (v := ?_) (a' := ?_) #[true, false, false, false, false, false, false, false, false, false] rfl rfl (any_of HT_.out (by kernel_rfl)) (fun _ _ _ h => h) (Or.inl ⟨by rfl, ?_⟩) ?_ ?_
          rotate_left
          · intro w'
            go_simp
            with_reducible rfl
          rotate_left
          · simp only [Act.put, List.setIfInBounds_toArray, List.set_cons_zero, List.set_cons_succ, i64_w, i32_w]
            rfl
          refine pure_ (i := 1) (N := some 18) (v := ?_) (a' := ?_) #[true, true, false, false, false, false, false, false, false, false] rfl rfl (any_of HT_.out (by kernel_rfl)) (fun _ _ _ h => h) (Or.inl ⟨by rfl, ?_⟩) ?_ ?_
          rotate_left
          · intro w'
            go_simp
            with_reducible rfl
          rotate_left
          · simp only [Act.put, List.setIfInBounds_toArray, List.set_cons_zero, List.set_cons_succ, i64_w, i32_w]
            rfl
          refine pure_ (i := 4) (N := some 21) (v := ?_) (a' := ?_) #[true, true, false, false, true, false, false, false, false, false] rfl rfl (any_of HT_.out (by kernel_rfl)) (fun _ _ _ h => h) (Or.inl ⟨by rfl, ?_⟩) ?_ ?_
          rotate_left
          · intro w'
            go_simp
            with_reducible rfl
          rotate_left
          · simp only [Act.put, List.setIfInBounds_toArray, List.set_cons_zero, List.set_cons_succ, i64_w, i32_w]
            rfl
          refine pure_ (i := 5) (N := some 22) (v := ?_) (a' := ?_) #[true, true, false, false, true, true, false, false, false, false] rfl rfl (any_of HT_.out (by kernel_rfl)) (fun _ _ _ h => h) (Or.inl ⟨by rfl, ?_⟩) ?_ ?_
          rotate_left
          · intro w'
            go_simp
            with_reducible rfl
          rotate_left
          · simp only [Act.put, List.setIfInBounds_toArray, List.set_cons_zero, List.set_cons_succ, i64_w, i32_w]
            rfl
          refine inv_at [2, 3, 6, 7, 8, 9] (fun a0_ b a w' => a = putSel a0_ b [(2, 19, .pointer (some (ax.add (i * 15)))), (3, 20, .agg CX), (6, 23, .pointer (some (ay.add (i * 15)))), (7, 24, .agg CY), (8, 25, .bool q), (9, 26, .bool (!q))] ∧ (Below W.heap.size W w')) HT_.out HW_.out (by kernel_rfl) (by kernel_rfl) ?_ ?_ ?_
          · exact ⟨by simp only [putSel, Bool.false_eq_true, if_false], below_drew (Below.refl _ _)⟩
          · skip
            clear B
            refine steps_cons ?_ ?_
            · rintro b a w' ⟨ha, Q_B⟩ hb_ hon hoff
              refine ⟨_, rfl, fun K hK => ?_⟩
              have e17 : a.tmps[17]? = some (.slice (some ax) xs.length c) := by rw [ha]; exact (putSel_off rfl).trans rfl
              have e18 : a.tmps[18]? = some (.int .i64 (i : Int)) := by rw [ha]; exact (putSel_off rfl).trans rfl
              replace ha := Aside0.mk ha
              have B := Aside0.mk Q_B
              refine value_ (w1 := w') (v := .pointer (some (ax.add (i * 15)))) (by rfl) rfl ?_ ?_
              · go_simp
                (try simp only [i64_w])
                try rfl
              refine hK.out _ _ ⟨(by rw [ha.out]; exact putSel_upk 0 hb_ rfl rfl rfl), Q_B⟩
            refine steps_cons ?_ ?_
            · rintro b a w' ⟨ha, Q_B⟩ hb_ hon hoff
              refine ⟨_, rfl, fun K hK => ?_⟩
              have e19 : a.tmps[19]? = some (.pointer (some (ax.add (i * 15)))) := by rw [ha]; exact putSel_on (e := (2, 19, .pointer (some (ax.add (i * 15))))) 0 rfl rfl (hon 2 (by kernel_rfl)) rfl
              replace ha := Aside0.mk ha
              have B := Aside0.mk Q_B
              refine value_ (w1 := w') (v := .agg CX) (by rfl) rfl (exec_load_cells 30 (.tmp 19) rfl (eval_of e19) CX _ (fun j v hv => pw_cell_below B.out (HLX.out j v hv)) Try.underlying30 rfl HXS.out) ?_
              refine hK.out _ _ ⟨(by rw [ha.out]; exact putSel_upk 1 hb_ rfl rfl rfl), B.out⟩
            refine steps_cons ?_ ?_
            · rintro b a w' ⟨ha, Q_B⟩ hb_ hon hoff
              refine ⟨_, rfl, fun K hK => ?_⟩
              have e21 : a.tmps[21]? = some (.slice (some ay) ys.length d) := by rw [ha]; exact (putSel_off rfl).trans rfl
              have e22 : a.tmps[22]? = some (.int .i64 (i : Int)) := by rw [ha]; exact (putSel_off rfl).trans rfl
              replace ha := Aside0.mk ha
              have B := Aside0.mk Q_B
              refine value_ (w1 := w') (v := .pointer (some (ay.add (i * 15)))) (by rfl) rfl ?_ ?_
              · go_simp
                (try simp only [i64_w])
                try rfl
              refine hK.out _ _ ⟨(by rw [ha.out]; exact putSel_upk 2 hb_ rfl rfl rfl), Q_B⟩
            refine steps_cons ?_ ?_
            · rintro b a w' ⟨ha, Q_B⟩ hb_ hon hoff
              refine ⟨_, rfl, fun K hK => ?_⟩
              have e23 : a.tmps[23]? = some (.pointer (some (ay.add (i * 15)))) := by rw [ha]; exact putSel_on (e := (6, 23, .pointer (some (ay.add (i * 15))))) 2 rfl rfl (hon 6 (by kernel_rfl)) rfl
              replace ha := Aside0.mk ha
              have B := Aside0.mk Q_B
              refine value_ (w1 := w') (v := .agg CY) (by rfl) rfl (exec_load_cells 30 (.tmp 23) rfl (eval_of e23) CY _ (fun j v hv => pw_cell_below B.out (HLY.out j v hv)) Try.underlying30 rfl HYS.out) ?_
              refine hK.out _ _ ⟨(by rw [ha.out]; exact putSel_upk 3 hb_ rfl rfl rfl), B.out⟩
            refine steps_cons ?_ ?_
            · rintro b a w' ⟨ha, Q_B⟩ hb_ hon hoff
              refine ⟨_, rfl, fun K hK => ?_⟩
              have e20 : a.tmps[20]? = some (.agg CX) := by rw [ha]; exact putSel_on (e := (3, 20, .agg CX)) 1 rfl rfl (hon 3 (by kernel_rfl)) rfl
              have e24 : a.tmps[24]? = some (.agg CY) := by rw [ha]; exact putSel_on (e := (7, 24, .agg CY)) 3 rfl rfl (hon 7 (by kernel_rfl)) rfl
              replace ha := Aside0.mk ha
              have B := Aside0.mk Q_B
              refine goes_ Try.func12 (by kernel_rfl) rfl #[.agg CX, .agg CY] (by rfl) rfl rfl (by first | (simp only [List.map_toArray, List.map_cons, List.map_nil, Act.eval, Array.getD_eq_getD_getElem?, Option.getD_some, e20, e24]; done) | (simp only [List.map_toArray, List.map_cons, List.map_nil, Act.eval, Array.getD_eq_getD_getElem?, Option.getD_some, e20, e24]; rfl)) ?_
              refine (HSM.out w' B.out).mono ?_
              rintro e w1 ⟨rfl, hB1⟩
              refine ⟨_, rfl, ?_⟩
              refine hK.out _ _ ⟨(by rw [ha.out]; exact putSel_upk 4 hb_ rfl rfl rfl), below_then B.out B.out.size hB1⟩
            refine steps_cons ?_ ?_
            · rintro b a w' ⟨ha, Q_B⟩ hb_ hon hoff
              refine ⟨_, rfl, fun K hK => ?_⟩
              have e25 : a.tmps[25]? = some (.bool q) := by rw [ha]; exact putSel_on (e := (8, 25, .bool q)) 4 rfl rfl (hon 8 (by kernel_rfl)) rfl
              replace ha := Aside0.mk ha
              have B := Aside0.mk Q_B
              refine value_ (w1 := w') (v := .bool (!q)) (by rfl) rfl ?_ ?_
              · go_simp
                (try simp only [i64_w])
                try rfl
              refine hK.out _ _ ⟨(by rw [ha.out]; exact putSel_upk 5 hb_ rfl rfl rfl), Q_B⟩
            exact steps_nil
          rintro b a w' hall ⟨ha, Q_B⟩
          clear B
          have hb2_ := hall 2 (by kernel_rfl)
          have hb3_ := hall 3 (by kernel_rfl)
          have hb6_ := hall 6 (by kernel_rfl)
          have hb7_ := hall 7 (by kernel_rfl)
          have hb8_ := hall 8 (by kernel_rfl)
          have hb9_ := hall 9 (by kernel_rfl)
          subst ha
          simp only [putSel, hb2_, hb3_, hb6_, hb7_, hb8_, hb9_, if_true, Act.put, List.setIfInBounds_toArray, List.set_cons_zero, List.set_cons_succ]
          have B := Aside0.mk Q_B
          clear Q_B
          clear hall hb2_ hb3_ hb6_ hb7_ hb8_ hb9_
          have HB2 := Lib.hid (below_then HB.out HB.out.size B.out)
          rw [HQ.out]
          clear B HSM HLX HLY HQ
          go_wp2
          go_ret
          exact ⟨by rw [HDD.out]; try rfl, HB2.out⟩
      · obtain rfl : i = xs.length := by omega
        have HD := Lib.hid (show decide (xs = ys) = true by rw [HS.out, List.drop_length, HL.out, List.drop_length]; rfl)
        go_wp2
        go_ret
        exact ⟨by rw [HD.out]; try rfl, HB.out⟩
  · have HD := Lib.hid (show decide (xs = ys) = false from decide_eq_false (fun e => hl (congrArg List.length e)))
    have hl2 : ¬ (xs.length : Int) = (ys.length : Int) := by omega
    go_enter Try.func23, Try.ntmps23
    go_wp2
    go_ret
    exact ⟨by rw [HD.out]; try rfl, Below.refl _ _⟩
end Go.Proofs.Ytjmadnpicidbeaa.Ch
end
section
namespace Go.Proofs.Ytjmadnpicidbeaa.Ch
open Go.RowKit Go.Proofs.YtjmadnpicidbeaaW.PrintWords Go.Proofs.YtjmadnpicidbeaaW.PrintLast Go.Proofs.Ytjmadnpicidbeaa.Base Go.Proofs.Ytjmadnpicidbeaa.PCh Go.Proofs.Ytjmadnpicidbeaa.ParDec Go.Proofs.Ytjmadnpicidbeaa.ParEnc
set_option maxRecDepth 100000
set_option linter.unusedVariables false
set_option linter.unusedSimpArgs false
def encAT13 : Bool × List (List Nat × List Nat) := (true, [([], []), ([], []), ([1], [1]), ([2], [2]), ([3], [3]), ([], []), ([5], [5]), ([], []), ([7], [7]), ([6, 8], [6, 8]), ([4, 9], [4, 9]), ([0, 0, 1, 2, 3, 4, 5, 6, 7, 8, 9, 10], [0]), ([11, 0, 1, 2, 3, 4, 5, 6, 7, 8, 9, 10], [11]), ([12, 10, 10, 0, 1, 2, 3, 4, 5, 6, 7, 8, 9, 10], [10, 12])])
def encAB13 : List Nat := [0, 0, 2, 6, 14, 0, 32, 0, 128, 480, 1022, 2047, 4095, 8191]
theorem encAtab13 : Go.Proofs.YtjmadnpicidbeaaW.PrintLast.rtab .any (Go.Proofs.YtjmadnpicidbeaaW.PrintLast.opsOf Try.f15 13) = encAT13 := by kernel_rfl
theorem encAbits13 : Go.Proofs.YtjmadnpicidbeaaW.PrintLast.waitsOk encAT13.2 encAB13 = true := by kernel_rfl
def encBT16 : Bool × List (List Nat × List Nat) := (true, [([], []), ([], []), ([1], [1]), ([2], [2]), ([3], [3]), ([], []), ([5], [5]), ([6], [6]), ([], []), ([8], [8]), ([7, 9], [7, 9]), ([4, 10, 7], [4, 10]), ([0, 0, 1, 2, 3, 4, 5, 6, 7, 8, 9, 10, 11], [0]), ([12, 0, 1, 2, 3, 4, 5, 6, 7, 8, 9, 10, 11], [12]), ([13, 11, 11, 0, 1, 2, 3, 4, 5, 6, 7, 8, 9, 10, 11], [11, 13])])
def encBB16 : List Nat := [0, 0, 2, 6, 14, 0, 32, 96, 0, 256, 992, 2046, 4095, 8191, 16383]
theorem encBtab16 : Go.Proofs.YtjmadnpicidbeaaW.PrintLast.rtab .any (Go.Proofs.YtjmadnpicidbeaaW.PrintLast.opsOf Try.f15 16) = encBT16 := by kernel_rfl
theorem encBbits16 : Go.Proofs.YtjmadnpicidbeaaW.PrintLast.waitsOk encBT16.2 encBB16 = true := by kernel_rfl
set_option maxHeartbeats 4000000 in
theorem encode_chunks (w : World) (A : Option Addr) (c : Nat) (l : List Chk) (hl : Kd.C k30 w A l.length l)
    (hck : ∀ x ∈ l, ∀ W L, CR W x L → Calls Try.prog 16 #[.agg (CV x L)] W fun e w' => e = .returned (.int .i64 (checkD x)) ∧ Below W.heap.size W w')
    (hval : ∀ x ∈ l, checkD x = 0 → ∀ W L, (∀ W', Below w.heap.size W W' → CR W' x L) → Calls Try.prog 36 #[.agg (CV x L)] W (ValQ w.heap.size (valueD x) W)) :
    Calls Try.prog 15 #[.slice A l.length c] w fun e w' => ∃ v, e = .returned (.tuple #[v, .int .i64 (encD l).2]) ∧ (Kd.int .u8).R 5 w' w.heap.size (fun _ => True) v (encD l).1 ∧ Below w.heap.size w w' := by
  have HLC := Lib.hid (fun (W : World) (h : Below w.heap.size w W) => Kd.C_below hl h)
  have HCK := Lib.hid hck
  have HVAL := Lib.hid hval
  have HMX := Lib.hid hl.2.1
  obtain ⟨E, hE⟩ : ∃ E, encD l = E := ⟨_, rfl⟩
  rw [hE]
  have HE := Lib.hid hE
  clear hl hck hval hE
  go_enter Try.func15, Try.ntmps15
  have hm := HMX.out
  go_wp2
  go_loopw [13] (fun v13 wr => ∃ (i : Nat), i ≤ l.length ∧ v13 = .int .i64 (i : Int) ∧ Hid (chkAll (l.drop i) = chkAll l) ∧ Hid (Below w.heap.size w wr)) (fun v13 _ => l.length - (intOf v13).toNat)
  case atStart => exact ⟨0, Nat.zero_le _, rfl, rfl, Below.refl _ _⟩
  case round =>
    obtain ⟨i, hi, rfl, HA, HB⟩ := hrel
    by_cases hlt : i < l.length
    · obtain ⟨ad, x, L, rfl, hd, hxm, hcell, hx⟩ := chk_at (HLC.out wr HB.out) i hlt
      have hA := HA.out
      rw [hd, chkAll] at hA
      have HCX := Lib.hid (HCK.out x hxm (wr.alloc (.cells (CV x L) 30)) L (hx.below (below_alloc (Below.refl _ _) _)))
      have HCL := Lib.hid hcell
      have HXS := Lib.hid (show (Try.prog.info? 30).map (·.size) = some (CV x L).size by kernel_rfl)
      have HXZ := Lib.hid (show (#[.int .u8 0, .int .u8 0, .int .u32 0, .int .u16 0, .int .u16 0, .int .u32 0, .int .u32 0, .int .u32 0, .int .u16 0, .int .u16 0, .slice none 0 0, .slice none 0 0, .slice none 0 0, .slice none 0 0, .slice none 0 0] : Array Value).size = (CV x L).size from rfl)
      have HXO := Lib.hid (CV_one x L)
      clear hcell hd hxm
      generalize checkD x = q at *
      generalize CV x L = CX at *
      clear hx HA
      have HA2 := Lib.hid hA
      clear hA
      go_wp2_with (first | (with_reducible refine gate_dst (N := 16) rfl ?_; go_must (refine wpList_load_cells rfl 30 (.tmp 15) rfl rfl CX _ (fun j v hv => HCL.out j v hv) Try.underlying30 rfl HXS.out ?_)) | (with_reducible refine gate_dst (N := 5) rfl ?_; go_must (refine wpList_box rfl rfl 5 rfl rfl (.tmp 16) rfl CX rfl rfl HXZ.out HXS.out HXO.out ?_)) | (with_reducible refine gate_dst (N := 17) rfl ?_; go_must (refine wpList_load_cells rfl 30 (.tmp 5) rfl rfl CX _ (cells_of_blk (blk_new wr (.cells CX 30))) Try.underlying30 rfl HXS.out ?_)))
      refine HCX.out.mono ?_
      rintro e w1 ⟨rfl, hB1⟩
      have HB2 := Lib.hid (below_then HB.out (by have := HB.out.size; exact this) (below_then (below_alloc (Below.refl wr.heap.size wr) (.cells CX 30)) (by simp) hB1))
      clear hB1 HB HCL
      by_cases hq : q = 0
      · subst hq
        have hA := HA2.out
        rw [if_pos rfl] at hA
        have HA := Lib.hid hA
        clear hA HA2
        go_wp2
        go_roundw
        case rel => exact ⟨i + 1, by omega, by go_num, HA, HB2⟩
        case measure => simp [intOf]; omega
      · have hA := HA2.out
        rw [if_neg hq] at hA
        have HA := Lib.hid hA
        clear hA HA2
        go_wp2
        go_ret2
        have hE : encD l = ([], q) := by unfold encD; rw [← HA.out, if_neg hq]
        rw [← HE.out, hE]
        exact ⟨_, rfl, Kd.R_nil _ _ _ _ _, HB2.out⟩
    · obtain rfl : i = l.length := by omega
      have hA := HA.out
      rw [List.drop_length, chkAll] at hA
      have HAL := Lib.hid hA.symm
      have HRE := Lib.hid (show runE [] l = E by have := HE.out; unfold encD at this; rw [if_pos hA.symm] at this; exact this)
      clear hA HA HCK HE
      go_wp2
      have HW0 := Lib.hid (show WS (wr.alloc (.cells #[.slice none 0 0] 66)) wr.heap.size [] from ⟨_, blk_new _ _, Kd.R_nil _ _ _ _ _⟩)
      have HBW := Lib.hid (below_alloc HB.out (.cells #[.slice none 0 0] 66))
      have HGW := Lib.hid (show w.heap.size ≤ wr.heap.size from HB.out.size)
      clear HB
      generalize wr.alloc (.cells #[.slice none 0 0] 66) = W0 at *
      generalize wr.heap.size = gw at *
      go_loopw [27] (fun v27 wr => ∃ (i : Nat) (acc : List Int), i ≤ l.length ∧ v27 = .int .i64 (i : Int) ∧ Hid (runE acc (l.drop i) = E) ∧ Hid (acc.length ≤ 65536) ∧ Hid (WS wr gw acc) ∧ Hid (Below w.heap.size w wr)) (fun v27 _ => l.length - (intOf v27).toNat)
      case atStart => exact ⟨0, [], Nat.zero_le _, rfl, HRE.out, (by show _ ≤ _; simp), HW0.out, HBW.out⟩
      case round =>
        obtain ⟨i, acc, hi, rfl, HA, HLA, HW, HB⟩ := hrel
        by_cases hlt : i < l.length
        · obtain ⟨ad, x, L, rfl, hd, hxm, hcell, hx⟩ := chk_at (HLC.out w (Below.refl _ _)) i hlt
          have hA := HA.out
          rw [hd, runE, chunkL] at hA
          have hc0 := chkAll_mem HAL.out hxm
          have hvl := checkD_len hc0
          have HCL := Lib.hid (fun j v hv => pw_cell_below HB.out (hcell j v hv))
          have HV := Lib.hid (HVAL.out x hxm hc0 (wr.alloc (.cells (CV x L) 30)) L (fun W' h => hx.below ((below_alloc HB.out _).trans h)))
          have HXS := Lib.hid (show (Try.prog.info? 30).map (·.size) = some (CV x L).size by kernel_rfl)
          have HXZ := Lib.hid (show (#[.int .u8 0, .int .u8 0, .int .u32 0, .int .u16 0, .int .u16 0, .int .u32 0, .int .u32 0, .int .u32 0, .int .u16 0, .int .u16 0, .slice none 0 0, .slice none 0 0, .slice none 0 0, .slice none 0 0, .slice none 0 0] : Array Value).size = (CV x L).size from rfl)
          have HXO := Lib.hid (CV_one x L)
          have HY0 := Lib.hid (show (CV x L)[0]? = some (.int .u8 x.f0) from rfl)
          have HY1 := Lib.hid (show (CV x L)[1]? = some (.int .u8 x.f1) from rfl)
          clear hcell hd hxm hx hc0 HA HAL HRE HW0 HBW HLC HVAL
          generalize CV x L = CX at *
          generalize valueD x = v at *
          generalize x.f0 = a0 at *
          generalize x.f1 = a1 at *
          obtain ⟨pad, hpad⟩ : ∃ m : Nat, (v.length + 3) / 4 * 4 - v.length = m := ⟨_, rfl⟩
          unfold padL at hA
          rw [hpad] at hA
          simp only [← List.append_assoc] at hA
          have HPL := Lib.hid (show pad ≤ 3 by omega)
          have HSUB := Lib.hid (show wrap64 ((((v.length + 3) / 4 * 4 : Nat) : Int) - (v.length : Int)) = ((pad : Nat) : Int) by unfold wrap64; omega)
          have HPD := Lib.hid (fun W : World => padded_calls v.length (by omega) W)
          have HVL := Lib.hid hvl
          have HA2 := Lib.hid hA
          clear hA hpad hvl
          obtain ⟨n, hn⟩ : ∃ n, v.length = n := ⟨_, rfl⟩
          rw [hn] at HSUB HPD HVL HA2
          have HNV := Lib.hid hn
          clear hn
          generalize hpn : (n + 3) / 4 * 4 = pn at *
          clear hpn
          go_wp2_with (first | (with_reducible refine gate_dst (N := 30) rfl ?_; go_must (refine wpList_load_cells rfl 30 (.tmp 29) rfl rfl CX _ (fun j v hv => HCL.out j v hv) Try.underlying30 rfl HXS.out ?_)) | (with_reducible refine gate_dst (N := 9) rfl ?_; go_must (refine wpList_box rfl rfl 9 rfl rfl (.tmp 30) rfl CX rfl rfl HXZ.out HXS.out HXO.out ?_)) | (with_reducible refine gate_dst (N := 31) rfl ?_; go_must (refine wpList_load_cells rfl 30 (.tmp 9) rfl rfl CX _ (cells_of_blk (blk_new wr (.cells CX 30))) Try.underlying30 rfl HXS.out ?_)))
          refine HV.out.mono ?_
          rintro e W ⟨Av, cv, rfl, hvc, hVC, hB1⟩
          obtain ⟨u, hg, hR⟩ := HW.out
          obtain ⟨Au, cu, rfl⟩ := Kd.R_slice hR
          have hgx := blk_lt hg
          have hsz : (wr.alloc (.cells CX 30)).heap.size = wr.heap.size + 1 := by simp
          have hWz := hB1.size
          rw [hsz] at hWz
          obtain ⟨okW, hokW⟩ : ∃ f : Nat → Prop, ∀ k, f k ↔ (gw < k ∧ (k < wr.heap.size ∨ W.heap.size ≤ k)) := ⟨fun k => gw < k ∧ (k < wr.heap.size ∨ W.heap.size ≤ k), fun k => Iff.rfl⟩
          have HC := Lib.hid (blk_below (blk_alloc hg (.cells CX 30)) hB1)
          have HR := Lib.hid (show (Kd.int .u8).R 5 W (gw + 1) okW (.slice Au acc.length cu) acc from R_only (Kd.R_alloc (Kd.R_mono (Kd.R_bound hR) (fun k hk => (hokW k).2 ⟨by have := hk.2.1; omega, Or.inl hk.2.2.1⟩)) _) (Only.of_below (S := fun _ => False) hB1) (fun _ _ _ h => h))
          have HXB := Lib.hid (blk_below (blk_new wr (.cells CX 30)) hB1)
          have HNX := Lib.hid (show ¬ (wr.heap.size = gw ∨ okW wr.heap.size) from fun h => h.elim (fun h => by omega) (fun h => by have := (hokW _).1 h; omega))
          have HOK := Lib.hid (show ∀ k, W.heap.size ≤ k → okW k from fun k hk => (hokW k).2 ⟨by omega, Or.inr hk⟩)
          have HGO := Lib.hid (show ¬ okW gw from fun h => by have := (hokW _).1 h; omega)
          have HVC := Lib.hid (show ∀ W', Only (fun k => k = gw ∨ okW k) W W' → (Kd.int .u8).C W' Av n v from fun W' hO => by
            rw [← HNV.out]
            exact hVC W' (hO.mono (fun k hk h => by
              rw [hsz]
              have := HGW.out
              rcases h with rfl | h
              · omega
              · have h2 := (hokW k).1 h
                omega)))
          have HBW := Lib.hid ((below_alloc HB.out (.cells CX 30)).trans (hB1.mono (by have := HB.out.size; omega)))
          have HBO := Lib.hid (show ∀ k, (k = gw ∨ okW k) → w.heap.size ≤ k from fun k h => by
            have := HGW.out
            rcases h with rfl | h
            · omega
            · have h2 := (hokW k).1 h
              omega)
          have HXL := Lib.hid (show acc.length ≤ 65536 from HLA.out)
          rw [HNV.out]
          clear hokW hVC hB1 hWz hsz hgx hg hR HW HB HV HCL HLA hvc HXS HXZ HXO
          generalize wr.heap.size = gx at *
          generalize acc = xs at *
          clear wr
          go_upto_region 13 with (fail)
          have B := True.intro
          have C := True.intro
          have R := True.intro
          have D := True.intro
          refine start_ (n := 14) (S := fun w' => True) (ds := []) #[false, false, false, false, false, false, false, false, false, false, false, false, false, false] (by kernel_rfl) rfl rfl trivial (fun hHeld => ?_)
          refine with_tabW encAtab13 encAbits13 (fun HT_ HW_ => ?_)
          refine pure_ (i := 0) (N := some 33) (v := ?_) (a' := ?_) #[true, false, false, false, false, false, false, false, false, false, false, false, false, false] rfl rfl (any_of HT_.out (by kernel_rfl)) (fun _ _ _ h => h) (Or.inl ⟨by rfl, ?_⟩) ?_ ?_
          rotate_left
          · intro w'
            go_simp
            with_reducible rfl
          rotate_left
          · simp only [Act.put, List.setIfInBounds_toArray, List.set_cons_zero, List.set_cons_succ, i64_w, i32_w]
            rfl
          refine pure_ (i := 1) (N := some 34) (v := ?_) (a' := ?_) #[true, true, false, false, false, false, false, false, false, false, false, false, false, false] rfl rfl (any_of HT_.out (by kernel_rfl)) (fun _ _ _ h => h) (Or.inl ⟨by rfl, ?_⟩) ?_ ?_
          rotate_left
          · intro w'
            go_simp
            with_reducible rfl
          rotate_left
          · simp only [Act.put, List.setIfInBounds_toArray, List.set_cons_zero, List.set_cons_succ, i64_w, i32_w]
            rfl
          refine inv_at [2, 3, 4, 5, 6, 7, 8, 9, 10, 11, 12, 13] (fun a0_ b a w' => ∃ (g9 : Nat) (v9 : Value) (m9_ : Value), a = putSel a0_ b [(2, 35, .pointer (some ⟨gw, 0, none⟩)), (3, 36, .pointer (some ⟨gw, 0, none⟩)), (4, 37, .slice Au xs.length cu), (5, 38, .pointer (some ⟨gx, 0, none⟩)), (6, 39, .int .u8 a0), (7, 40, .pointer (some ⟨gx, 1, none⟩)), (8, 41, .int .u8 a1), (9, 42, m9_), (10, 43, v9), (11, 44, .pointer (some ⟨gw, 0, none⟩)), (12, 45, .pointer (some ⟨gw, 0, none⟩))] ∧ (b 10 = false → Only (fun k => k = gw ∨ okW k) W w') ∧ (b 10 = false → w'.heap[gw]? = some (.cells #[.slice Au xs.length cu] 66 (0, 0))) ∧ (b 10 = false → (Kd.int .u8).R 5 w' (gw + 1) okW (.slice Au xs.length cu) (xs)) ∧ (b 9 = true → b 10 = false → (Kd.int .u8).C w' (some ⟨g9, 0, none⟩) 2 [a0, a1]) ∧ (b 10 = true → b 13 = false → (Kd.int .u8).R 5 w' (gw + 1) okW (v9) (xs ++ [a0, a1]) ∧ w'.heap[gw]? = some (.cells #[.slice Au xs.length cu] 66 (0, 0)) ∧ Only (fun k => k = gw ∨ okW k) W w') ∧ (b 13 = true → ∃ u, w'.heap[gw]? = some (.cells #[u] 66 (0, 0)) ∧ (Kd.int .u8).R 5 w' (gw + 1) okW (u) (xs ++ [a0, a1]) ∧ Only (fun k => k = gw ∨ okW k) W w') ∧ (b 9 = true → (m9_ : Value) = .slice (some ⟨g9, 0, none⟩) 2 2)) HT_.out HW_.out (by kernel_rfl) (by kernel_rfl) ?_ ?_ ?_
          · exact ⟨0, .bool false, .bool false, by simp only [putSel, Bool.false_eq_true, if_false], fun _ => (Only.refl _ _).drewN 1, fun _ => HC.out, fun _ => HR.out, fun h_ => absurd h_ (by decide), fun h_ => absurd h_ (by decide), fun h_ => absurd h_ (by decide), fun h_ => absurd h_ (by decide)⟩
          · skip
            clear B C R
            refine steps_cons ?_ ?_
            · rintro b a w' ⟨g9, v9, m9_, ha, Q_B, Q_C, Q_R, Q_D, Q_S1, Q_S2, Q_X9_⟩ hb_ hon hoff
              refine ⟨_, rfl, fun K hK => ?_⟩
              have e34 : a.tmps[34]? = some (.pointer (some ⟨gw, 0, none⟩)) := by rw [ha]; exact (putSel_off rfl).trans rfl
              replace ha := Aside0.mk ha
              have B := Aside0.mk (Q_B (hoff 10 (by kernel_rfl)))
              have C := Aside0.mk (Q_C (hoff 10 (by kernel_rfl)))
              have R := Aside0.mk (Q_R (hoff 10 (by kernel_rfl)))
              refine value_ (w1 := w') (v := .pointer (some ⟨gw, 0, none⟩)) (by rfl) rfl ?_ ?_
              · go_simp
                (try simp only [i64_w])
                try rfl
              refine hK.out _ _ ⟨g9, v9, m9_, (by rw [ha.out]; exact putSel_upk 0 hb_ rfl rfl rfl), Q_B, Q_C, Q_R, Q_D, fun h0_ _ => absurd ((hoff 10 (by kernel_rfl)).symm.trans h0_) (by decide), fun h0_ => absurd ((hoff 13 (by kernel_rfl)).symm.trans h0_) (by decide), Q_X9_⟩
            refine steps_cons ?_ ?_
            · rintro b a w' ⟨g9, v9, m9_, ha, Q_B, Q_C, Q_R, Q_D, Q_S1, Q_S2, Q_X9_⟩ hb_ hon hoff
              refine ⟨_, rfl, fun K hK => ?_⟩
              have e35 : a.tmps[35]? = some (.pointer (some ⟨gw, 0, none⟩)) := by rw [ha]; exact putSel_on (e := (2, 35, .pointer (some ⟨gw, 0, none⟩))) 0 rfl rfl (hon 2 (by kernel_rfl)) rfl
              replace ha := Aside0.mk ha
              have B := Aside0.mk (Q_B (hoff 10 (by kernel_rfl)))
              have C := Aside0.mk (Q_C (hoff 10 (by kernel_rfl)))
              have R := Aside0.mk (Q_R (hoff 10 (by kernel_rfl)))
              refine value_ (w1 := w') (v := .pointer (some ⟨gw, 0, none⟩)) (by rfl) rfl ?_ ?_
              · go_simp
                (try simp only [i64_w])
                try rfl
              refine hK.out _ _ ⟨g9, v9, m9_, (by rw [ha.out]; exact putSel_upk 1 hb_ rfl rfl rfl), Q_B, Q_C, Q_R, Q_D, fun h0_ _ => absurd ((hoff 10 (by kernel_rfl)).symm.trans h0_) (by decide), fun h0_ => absurd ((hoff 13 (by kernel_rfl)).symm.trans h0_) (by decide), Q_X9_⟩
            refine steps_cons ?_ ?_
            · rintro b a w' ⟨g9, v9, m9_, ha, Q_B, Q_C, Q_R, Q_D, Q_S1, Q_S2, Q_X9_⟩ hb_ hon hoff
              refine ⟨_, rfl, fun K hK => ?_⟩
              have e36 : a.tmps[36]? = some (.pointer (some ⟨gw, 0, none⟩)) := by rw [ha]; exact putSel_on (e := (3, 36, .pointer (some ⟨gw, 0, none⟩))) 1 rfl rfl (hon 3 (by kernel_rfl)) rfl
              replace ha := Aside0.mk ha
              have B := Aside0.mk (Q_B (hoff 10 (by kernel_rfl)))
              have C := Aside0.mk (Q_C (hoff 10 (by kernel_rfl)))
              have R := Aside0.mk (Q_R (hoff 10 (by kernel_rfl)))
              have hs := blk_cell C.out 0
              refine value_ (w1 := w') (v := .slice Au xs.length cu) (by rfl) rfl ?_ ?_
              · go_simp
                (try simp only [i64_w])
                try rfl
              refine hK.out _ _ ⟨g9, v9, m9_, (by rw [ha.out]; exact putSel_upk 2 hb_ rfl rfl rfl), Q_B, Q_C, Q_R, Q_D, fun h0_ _ => absurd ((hoff 10 (by kernel_rfl)).symm.trans h0_) (by decide), fun h0_ => absurd ((hoff 13 (by kernel_rfl)).symm.trans h0_) (by decide), Q_X9_⟩
            refine steps_cons ?_ ?_
            · rintro b a w' ⟨g9, v9, m9_, ha, Q_B, Q_C, Q_R, Q_D, Q_S1, Q_S2, Q_X9_⟩ hb_ hon hoff
              refine ⟨_, rfl, fun K hK => ?_⟩
              have e9 : a.tmps[9]? = some (.pointer (some ⟨gx, 0, none⟩)) := by rw [ha]; exact (putSel_off rfl).trans rfl
              replace ha := Aside0.mk ha
              have B := Aside0.mk (Q_B (hoff 10 (by kernel_rfl)))
              have C := Aside0.mk (Q_C (hoff 10 (by kernel_rfl)))
              have R := Aside0.mk (Q_R (hoff 10 (by kernel_rfl)))
              refine value_ (w1 := w') (v := .pointer (some ⟨gx, 0, none⟩)) (by rfl) rfl ?_ ?_
              · go_simp
                (try simp only [i64_w])
                try rfl
              refine hK.out _ _ ⟨g9, v9, m9_, (by rw [ha.out]; exact putSel_upk 3 hb_ rfl rfl rfl), Q_B, Q_C, Q_R, fun h0_ _ => absurd ((hoff 9 (by kernel_rfl)).symm.trans h0_) (by decide), fun h0_ _ => absurd ((hoff 10 (by kernel_rfl)).symm.trans h0_) (by decide), fun h0_ => absurd ((hoff 13 (by kernel_rfl)).symm.trans h0_) (by decide), fun h0_ => absurd ((hoff 9 (by kernel_rfl)).symm.trans h0_) (by decide)⟩
            refine steps_cons ?_ ?_
            · rintro b a w' ⟨g9, v9, m9_, ha, Q_B, Q_C, Q_R, Q_D, Q_S1, Q_S2, Q_X9_⟩ hb_ hon hoff
              refine ⟨_, rfl, fun K hK => ?_⟩
              have e38 : a.tmps[38]? = some (.pointer (some ⟨gx, 0, none⟩)) := by rw [ha]; exact putSel_on (e := (5, 38, .pointer (some ⟨gx, 0, none⟩))) 3 rfl rfl (hon 5 (by kernel_rfl)) rfl
              replace ha := Aside0.mk ha
              have B := Aside0.mk (Q_B (hoff 10 (by kernel_rfl)))
              have C := Aside0.mk (Q_C (hoff 10 (by kernel_rfl)))
              have R := Aside0.mk (Q_R (hoff 10 (by kernel_rfl)))
              have hs : w'.cell? ⟨gx, 0, none⟩ = some (.int .u8 a0) := (blk_cell (B.out.blk HXB.out HNX.out) 0).trans HY0.out
              refine value_ (w1 := w') (v := .int .u8 a0) (by rfl) rfl ?_ ?_
              · go_simp
                (try simp only [i64_w])
                try rfl
              refine hK.out _ _ ⟨g9, v9, m9_, (by rw [ha.out]; exact putSel_upk 4 hb_ rfl rfl rfl), Q_B, Q_C, Q_R, fun h0_ _ => absurd ((hoff 9 (by kernel_rfl)).symm.trans h0_) (by decide), fun h0_ _ => absurd ((hoff 10 (by kernel_rfl)).symm.trans h0_) (by decide), fun h0_ => absurd ((hoff 13 (by kernel_rfl)).symm.trans h0_) (by decide), fun h0_ => absurd ((hoff 9 (by kernel_rfl)).symm.trans h0_) (by decide)⟩
            refine steps_cons ?_ ?_
            · rintro b a w' ⟨g9, v9, m9_, ha, Q_B, Q_C, Q_R, Q_D, Q_S1, Q_S2, Q_X9_⟩ hb_ hon hoff
              refine ⟨_, rfl, fun K hK => ?_⟩
              have e9 : a.tmps[9]? = some (.pointer (some ⟨gx, 0, none⟩)) := by rw [ha]; exact (putSel_off rfl).trans rfl
              replace ha := Aside0.mk ha
              have B := Aside0.mk (Q_B (hoff 10 (by kernel_rfl)))
              have C := Aside0.mk (Q_C (hoff 10 (by kernel_rfl)))
              have R := Aside0.mk (Q_R (hoff 10 (by kernel_rfl)))
              refine value_ (w1 := w') (v := .pointer (some ⟨gx, 1, none⟩)) (by rfl) rfl ?_ ?_
              · go_simp
                (try simp only [i64_w])
                try rfl
              refine hK.out _ _ ⟨g9, v9, m9_, (by rw [ha.out]; exact putSel_upk 5 hb_ rfl rfl rfl), Q_B, Q_C, Q_R, fun h0_ _ => absurd ((hoff 9 (by kernel_rfl)).symm.trans h0_) (by decide), fun h0_ _ => absurd ((hoff 10 (by kernel_rfl)).symm.trans h0_) (by decide), fun h0_ => absurd ((hoff 13 (by kernel_rfl)).symm.trans h0_) (by decide), fun h0_ => absurd ((hoff 9 (by kernel_rfl)).symm.trans h0_) (by decide)⟩
            refine steps_cons ?_ ?_
            · rintro b a w' ⟨g9, v9, m9_, ha, Q_B, Q_C, Q_R, Q_D, Q_S1, Q_S2, Q_X9_⟩ hb_ hon hoff
              refine ⟨_, rfl, fun K hK => ?_⟩
              have e40 : a.tmps[40]? = some (.pointer (some ⟨gx, 1, none⟩)) := by rw [ha]; exact putSel_on (e := (7, 40, .pointer (some ⟨gx, 1, none⟩))) 5 rfl rfl (hon 7 (by kernel_rfl)) rfl
              replace ha := Aside0.mk ha
              have B := Aside0.mk (Q_B (hoff 10 (by kernel_rfl)))
              have C := Aside0.mk (Q_C (hoff 10 (by kernel_rfl)))
              have R := Aside0.mk (Q_R (hoff 10 (by kernel_rfl)))
              have hs : w'.cell? ⟨gx, 1, none⟩ = some (.int .u8 a1) := (blk_cell (B.out.blk HXB.out HNX.out) 1).trans HY1.out
              refine value_ (w1 := w') (v := .int .u8 a1) (by rfl) rfl ?_ ?_
              · go_simp
                (try simp only [i64_w])
                try rfl
              refine hK.out _ _ ⟨g9, v9, m9_, (by rw [ha.out]; exact putSel_upk 6 hb_ rfl rfl rfl), Q_B, Q_C, Q_R, fun h0_ _ => absurd ((hoff 9 (by kernel_rfl)).symm.trans h0_) (by decide), fun h0_ _ => absurd ((hoff 10 (by kernel_rfl)).symm.trans h0_) (by decide), fun h0_ => absurd ((hoff 13 (by kernel_rfl)).symm.trans h0_) (by decide), fun h0_ => absurd ((hoff 9 (by kernel_rfl)).symm.trans h0_) (by decide)⟩
            refine steps_cons ?_ ?_
            · rintro b a w' ⟨g9, v9, m9_, ha, Q_B, Q_C, Q_R, Q_D, Q_S1, Q_S2, Q_X9_⟩ hb_ hon hoff
              refine ⟨_, rfl, fun K hK => ?_⟩
              have e39 : a.tmps[39]? = some (.int .u8 a0) := by rw [ha]; exact putSel_on (e := (6, 39, .int .u8 a0)) 4 rfl rfl (hon 6 (by kernel_rfl)) rfl
              have e41 : a.tmps[41]? = some (.int .u8 a1) := by rw [ha]; exact putSel_on (e := (8, 41, .int .u8 a1)) 6 rfl rfl (hon 8 (by kernel_rfl)) rfl
              replace ha := Aside0.mk ha
              have B := Aside0.mk (Q_B (hoff 10 (by kernel_rfl)))
              have C := Aside0.mk (Q_C (hoff 10 (by kernel_rfl)))
              have R := Aside0.mk (Q_R (hoff 10 (by kernel_rfl)))
              refine value_ (w1 := w'.alloc (.cells #[.int .u8 a0, .int .u8 a1] 5)) (v := .slice (some ⟨w'.heap.size, 0, none⟩) 2 2) (by rfl) rfl (by go_simp; try rfl) ?_
              refine hK.out _ _ ⟨w'.heap.size, v9, (.slice (some ⟨w'.heap.size, 0, none⟩) 2 2), (by rw [ha.out]; exact putSel_upk 7 hb_ rfl rfl rfl), fun _ => B.out.alloc _, fun _ => blk_alloc C.out _, fun _ => Kd.R_alloc R.out _, fun _ _ => (by have := blk_lt C.out; exact row_lit (Kd.int .u8) rfl w' 5 [.int .u8 a0, .int .u8 a1] [a0, a1] rfl (by simp) (fun j v p hv hp => by rcases j with _ | _ | j <;> simp at hv hp <;> (subst hv; subst hp; rfl))), fun h0_ _ => absurd ((hoff 10 (by kernel_rfl)).symm.trans h0_) (by decide), fun h0_ => absurd ((hoff 13 (by kernel_rfl)).symm.trans h0_) (by decide), fun _ => rfl⟩
            refine steps_cons ?_ ?_
            · rintro b a w' ⟨g9, v9, m9_, ha, Q_B, Q_C, Q_R, Q_D, Q_S1, Q_S2, Q_X9_⟩ hb_ hon hoff
              refine ⟨_, rfl, fun K hK => ?_⟩
              have e37 : a.tmps[37]? = some (.slice Au xs.length cu) := by rw [ha]; exact putSel_on (e := (4, 37, .slice Au xs.length cu)) 2 rfl rfl (hon 4 (by kernel_rfl)) rfl
              have e42 : a.tmps[42]? = some (m9_) := by rw [ha]; exact putSel_on (e := (9, 42, m9_)) 7 rfl rfl (hon 9 (by kernel_rfl)) rfl
              rw [Q_X9_ (hon 9 (by kernel_rfl))] at e42
              replace ha := Aside0.mk ha
              have B := Aside0.mk (Q_B hb_)
              have C := Aside0.mk (Q_C hb_)
              have R := Aside0.mk (Q_R hb_)
              have D := Aside0.mk (Q_D (hon 9 (by kernel_rfl)) hb_)
              refine Kd.R_append_rows_step (Kd.int .u8) (Rr := (Kd.int .u8).K w') (w0 := w') (W := w') (gw + 1) (by rfl) _ _ 22 5 _ 1 rfl Try.underlying22 info_u8 rfl (by decide) (by decide) (.slice Au xs.length cu) xs [a0, a1] (some ⟨g9, 0, none⟩) 2 2 okW (fun _ => False) (by simp [Act.eval, Array.getD_eq_getD_getElem?, e37]) (by simp [Act.eval, Array.getD_eq_getD_getElem?, e42]) R.out (D.out) (fun _ _ h => h) (fun _ h => h.elim) (fun k hk => HOK.out k (by have := B.out.size; omega)) (Below.refl _ _) (by have := blk_lt C.out; omega) (by have := HXL.out; simp; omega) ?_
              intro v1 w1 hR1 hB1 hG1 _
              refine hK.out _ _ ⟨g9, v1, m9_, (by rw [ha.out]; exact putSel_upk 8 hb_ rfl rfl rfl), fun h0_ => absurd ((up_self b 10).symm.trans h0_) (by decide), fun h0_ => absurd ((up_self b 10).symm.trans h0_) (by decide), fun h0_ => absurd ((up_self b 10).symm.trans h0_) (by decide), fun _ h1_ => absurd ((up_self b 10).symm.trans h1_) (by decide), fun _ _ => ⟨hR1, blk_grown C.out hG1 (fun e => HGO.out (R.out.1 _ e.symm)), B.out.grown hG1 (fun k _ e => Or.inr (R.out.1 k e))⟩, fun h0_ => absurd ((hoff 13 (by kernel_rfl)).symm.trans h0_) (by decide), Q_X9_⟩
            refine steps_cons ?_ ?_
            · rintro b a w' ⟨g9, v9, m9_, ha, Q_B, Q_C, Q_R, Q_D, Q_S1, Q_S2, Q_X9_⟩ hb_ hon hoff
              refine ⟨_, rfl, fun K hK => ?_⟩
              have e33 : a.tmps[33]? = some (.pointer (some ⟨gw, 0, none⟩)) := by rw [ha]; exact (putSel_off rfl).trans rfl
              replace ha := Aside0.mk ha
              have S1 := Aside0.mk (Q_S1 (hon 10 (by kernel_rfl)) (hoff 13 (by kernel_rfl)))
              refine value_ (w1 := w') (v := .pointer (some ⟨gw, 0, none⟩)) (by rfl) rfl ?_ ?_
              · go_simp
                (try simp only [i64_w])
                try rfl
              refine hK.out _ _ ⟨g9, v9, m9_, (by rw [ha.out]; exact putSel_upk 9 hb_ rfl rfl rfl), fun h0_ => absurd ((hon 10 (by kernel_rfl)).symm.trans h0_) (by decide), fun h0_ => absurd ((hon 10 (by kernel_rfl)).symm.trans h0_) (by decide), fun h0_ => absurd ((hon 10 (by kernel_rfl)).symm.trans h0_) (by decide), fun _ h1_ => absurd ((hon 10 (by kernel_rfl)).symm.trans h1_) (by decide), Q_S1, fun h0_ => absurd ((hoff 13 (by kernel_rfl)).symm.trans h0_) (by decide), Q_X9_⟩
            refine steps_cons ?_ ?_
            · rintro b a w' ⟨g9, v9, m9_, ha, Q_B, Q_C, Q_R, Q_D, Q_S1, Q_S2, Q_X9_⟩ hb_ hon hoff
              refine ⟨_, rfl, fun K hK => ?_⟩
              have e44 : a.tmps[44]? = some (.pointer (some ⟨gw, 0, none⟩)) := by rw [ha]; exact putSel_on (e := (11, 44, .pointer (some ⟨gw, 0, none⟩))) 9 rfl rfl (hon 11 (by kernel_rfl)) rfl
              replace ha := Aside0.mk ha
              have S1 := Aside0.mk (Q_S1 (hon 10 (by kernel_rfl)) (hoff 13 (by kernel_rfl)))
              refine value_ (w1 := w') (v := .pointer (some ⟨gw, 0, none⟩)) (by rfl) rfl ?_ ?_
              · go_simp
                (try simp only [i64_w])
                try rfl
              refine hK.out _ _ ⟨g9, v9, m9_, (by rw [ha.out]; exact putSel_upk 10 hb_ rfl rfl rfl), fun h0_ => absurd ((hon 10 (by kernel_rfl)).symm.trans h0_) (by decide), fun h0_ => absurd ((hon 10 (by kernel_rfl)).symm.trans h0_) (by decide), fun h0_ => absurd ((hon 10 (by kernel_rfl)).symm.trans h0_) (by decide), fun _ h1_ => absurd ((hon 10 (by kernel_rfl)).symm.trans h1_) (by decide), Q_S1, fun h0_ => absurd ((hoff 13 (by kernel_rfl)).symm.trans h0_) (by decide), Q_X9_⟩
            refine steps_cons ?_ ?_
            · rintro b a w' ⟨g9, v9, m9_, ha, Q_B, Q_C, Q_R, Q_D, Q_S1, Q_S2, Q_X9_⟩ hb_ hon hoff
              refine ⟨_, rfl, fun K hK => ?_⟩
              have e45 : a.tmps[45]? = some (.pointer (some ⟨gw, 0, none⟩)) := by rw [ha]; exact putSel_on (e := (12, 45, .pointer (some ⟨gw, 0, none⟩))) 10 rfl rfl (hon 12 (by kernel_rfl)) rfl
              have e43 : a.tmps[43]? = some (v9) := by rw [ha]; exact putSel_on (e := (10, 43, v9)) 8 rfl rfl (hon 10 (by kernel_rfl)) rfl
              replace ha := Aside0.mk ha
              have S1 := Aside0.mk (Q_S1 (hon 10 (by kernel_rfl)) hb_)
              obtain ⟨hR1, hC1, hF1⟩ := S1.out
              obtain ⟨A8, c8, hv9⟩ := Kd.R_slice hR1
              have hs := blk_cell hC1 0
              have hf := blk_frozen hC1 0
              refine skip_ (w1 := w'.setCell ⟨gw, 0, none⟩ v9) (by rfl) rfl (by generalize (xs ++ [a0, a1]).length = zl at hv9; rw [hv9] at e43 ⊢; go_simp; try rfl) ?_
              refine hK.out _ _ ⟨g9, v9, m9_, (by rw [ha.out]; exact putSel_none (v := undef) rfl), fun h0_ => absurd ((hon 10 (by kernel_rfl)).symm.trans h0_) (by decide), fun h0_ => absurd ((hon 10 (by kernel_rfl)).symm.trans h0_) (by decide), fun h0_ => absurd ((hon 10 (by kernel_rfl)).symm.trans h0_) (by decide), fun _ h1_ => absurd ((hon 10 (by kernel_rfl)).symm.trans h1_) (by decide), fun _ h1_ => absurd ((up_self b 13).symm.trans h1_) (by decide), fun _ => ⟨v9, blk_put hC1 0 v9 rfl, Kd.R_far hR1 (p := ⟨gw, 0, none⟩) (fun k hk (e : k = gw) => HGO.out (e ▸ hk)) v9, hF1.setCell (fun _ => Or.inl rfl) v9⟩, Q_X9_⟩
            exact steps_nil
          rintro b a w' hall ⟨g9, v9, m9_, ha, Q_B, Q_C, Q_R, Q_D, Q_S1, Q_S2, Q_X9_⟩
          clear B C R
          have hb2_ := hall 2 (by kernel_rfl)
          have hb3_ := hall 3 (by kernel_rfl)
          have hb4_ := hall 4 (by kernel_rfl)
          have hb5_ := hall 5 (by kernel_rfl)
          have hb6_ := hall 6 (by kernel_rfl)
          have hb7_ := hall 7 (by kernel_rfl)
          have hb8_ := hall 8 (by kernel_rfl)
          have hb9_ := hall 9 (by kernel_rfl)
          have hb10_ := hall 10 (by kernel_rfl)
          have hb11_ := hall 11 (by kernel_rfl)
          have hb12_ := hall 12 (by kernel_rfl)
          have hb13_ := hall 13 (by kernel_rfl)
          subst ha
          obtain rfl := Q_X9_ hb9_
          simp only [putSel, hb2_, hb3_, hb4_, hb5_, hb6_, hb7_, hb8_, hb9_, hb10_, hb11_, hb12_, hb13_, if_true, Act.put, List.setIfInBounds_toArray, List.set_cons_zero, List.set_cons_succ]
          clear Q_B
          clear Q_C
          clear Q_R
          clear Q_D
          clear Q_S1
          have S2 := Aside0.mk (Q_S2 hb13_)
          clear Q_S2
          clear hall hb2_ hb3_ hb4_ hb5_ hb6_ hb7_ hb8_ hb9_ hb10_ hb11_ hb12_ hb13_
          obtain ⟨u, hg, hR, hF⟩ := S2.out
          clear S2 HC HR HY0 HY1 HXB HNX
          have HS := Lib.hid (show WSo okW w' gw (xs ++ [a0, a1]) from ⟨u, hg, hR⟩)
          have HF := Lib.hid hF
          clear hg hR hF
          clear u
          obtain ⟨q, hq⟩ : ∃ q, IntKind.u16.wrap (4 + (n : Int)) = q := ⟨_, rfl⟩
          have HQ := Lib.hid (show IntKind.u16.wrap (wrap64 (4 + (n : Int))) = q by rw [show wrap64 (4 + (n : Int)) = 4 + (n : Int) by unfold wrap64; have := HVL.out; omega, hq])
          rw [hq] at HA2
          clear hq
          have HXL3 := Lib.hid (show (xs ++ [a0, a1]).length + 2 * [q].length ≤ 140737488355328 by have := HXL.out; simp only [List.length_append, List.length_cons, List.length_nil]; omega)
          go_wp2_with fail
          rw [HQ.out]
          refine (wtwo_lit_o w' gw okW (fun k hk => HOK.out k (Nat.le_trans HF.out.size hk)) HGO.out (xs ++ [a0, a1]) [q] [.int .u16 q] 1 rfl rfl HS.out HXL3.out).mono ?_
          rintro e w4 ⟨rfl, hS4, hO4⟩
          have HF4 := Lib.hid (HF.out.trans hO4 (fun k _ h => h))
          have hxl : (xs ++ [a0, a1] ++ twoL [q]).length ≤ 65540 := by have := HXL.out; simp [twoL_length]; omega
          have HXL4 := Lib.hid hxl
          generalize xs ++ [a0, a1] ++ twoL [q] = ys at *
          obtain ⟨u, hg, hR⟩ := hS4
          obtain ⟨Au4, cu4, rfl⟩ := Kd.R_slice hR
          have k0 : w4.cell? ⟨gw, 0, none⟩ = some (.slice Au4 ys.length cu4) := blk_cell hg 0
          have HG4 := Lib.hid hg
          have HR4 := Lib.hid hR
          have HVC4 := Lib.hid (HVC.out w4 HF4.out)
          clear hO4 hxl hg hR HS HF HQ HVC HXL HXL3
          go_wp2_with (at_builtin; go_must (refine Kd.R_append_row (Value.int .u8) (0 : Int) (w0 := w4) (W := w4) (gw + 1) rfl _ _ 22 5 _ 1 rfl Try.underlying22 info_u8 rfl (by decide) (.slice Au4 ys.length cu4) ys v Av n cv okW rfl rfl (fun k hk => HOK.out k (Nat.le_trans HF4.out.size hk)) HR4.out HVC4.out (Below.refl _ _) (by have := blk_lt HG4.out; omega) (by have := HXL4.out; have := HVL.out; have := HNV.out; omega) ?_); (intro v1 w1 hR1 hB1 hG1 _; have HR1 := Lib.hid hR1; have HB1 := Lib.hid hB1; have HGR := Lib.hid hG1; clear hR1 hB1 hG1; refine RowKit.Hid.out ?_))
          refine Lib.hid ?_
          obtain ⟨A7, c7, hv1⟩ := Kd.R_slice HR1.out
          subst hv1
          have hg1 := blk_grown HG4.out HGR.out (fun e => HGO.out (HR4.out.1 _ e.symm))
          have hs := blk_cell hg1 0
          have hf := blk_frozen hg1 0
          have HF5 := Lib.hid ((HF4.out.grown HGR.out (fun k _ e => Or.inr (HR4.out.1 k e))).setCell (p := ⟨gw, 0, none⟩) (fun _ => Or.inl rfl) (.slice A7 (ys ++ v).length c7))
          have HR5 := Lib.hid (Kd.R_far HR1.out (p := ⟨gw, 0, none⟩) (fun k hk (e : k = gw) => HGO.out (e ▸ hk)) (.slice A7 (ys ++ v).length c7))
          have HC5 := Lib.hid (blk_put hg1 0 (.slice A7 (ys ++ v).length c7) rfl)
          have HXL5 := Lib.hid (show (ys ++ v).length ≤ 131071 by have := HXL4.out; have := HVL.out; have := HNV.out; rw [List.length_append]; omega)
          clear hg1 HR1 HB1 HGR HG4 HR4 HVC4 HF4 HXL4 k0 HNV
          generalize hzl : (ys ++ v).length = zl at *
          go_upto_region 16 with (fail)
          generalize w1.setCell ⟨gw, 0, none⟩ (.slice A7 zl c7) = W5 at *
          subst hzl
          generalize ys ++ v = xs at *
          have HC := HC5
          have HR := HR5
          have HXL := HXL5
          have HM := HPL
          have HOK5 := Lib.hid (show ∀ k, W5.heap.size ≤ k → okW k from fun k hk => HOK.out k (Nat.le_trans HF5.out.size hk))
          clear HC5 HR5 HXL5 HPL hs hf HOK
          have B := True.intro
          have C := True.intro
          have R := True.intro
          refine start_ (n := 15) (S := fun w' => True) (ds := []) #[false, false, false, false, false, false, false, false, false, false, false, false, false, false, false] (by kernel_rfl) rfl rfl trivial (fun hHeld => ?_)
          refine with_tabW encBtab16 encBbits16 (fun HT_ HW_ => ?_)
          refine pure_ (i := 0) (N := some 62) (v := ?_) (a' := ?_) #[true, false, false, false, false, false, false, false, false, false, false, false, false, false, false] rfl rfl (any_of HT_.out (by kernel_rfl)) (fun _ _ _ h => h) (Or.inl ⟨by rfl, ?_⟩) ?_ ?_
          rotate_left
          · intro w'
            go_simp
            with_reducible rfl
          rotate_left
          · simp only [Act.put, List.setIfInBounds_toArray, List.set_cons_zero, List.set_cons_succ, i64_w, i32_w]
            rfl
          refine pure_ (i := 1) (N := some 63) (v := ?_) (a' := ?_) #[true, true, false, false, false, false, false, false, false, false, false, false, false, false, false] rfl rfl (any_of HT_.out (by kernel_rfl)) (fun _ _ _ h => h) (Or.inl ⟨by rfl, ?_⟩) ?_ ?_
          rotate_left
          · intro w'
            go_simp
            with_reducible rfl
          rotate_left
          · simp only [Act.put, List.setIfInBounds_toArray, List.set_cons_zero, List.set_cons_succ, i64_w, i32_w]
            rfl
          refine pure_ (i := 5) (N := some 67) (v := ?_) (a' := ?_) #[true, true, false, false, false, true, false, false, false, false, false, false, false, false, false] rfl rfl (any_of HT_.out (by kernel_rfl)) (fun _ _ _ h => h) (Or.inl ⟨by rfl, ?_⟩) ?_ ?_
          rotate_left
          · intro w'
            go_simp
            with_reducible rfl
          rotate_left
          · simp only [Act.put, List.setIfInBounds_toArray, List.set_cons_zero, List.set_cons_succ, i64_w, i32_w]
            rfl
          refine pure_ (i := 8) (N := some 70) (v := ?_) (a' := ?_) #[true, true, false, false, false, true, false, false, true, false, false, false, false, false, false] rfl rfl (any_of HT_.out (by kernel_rfl)) (fun _ _ _ h => h) (Or.inl ⟨by rfl, ?_⟩) ?_ ?_
          rotate_left
          · intro w'
            go_simp
            with_reducible rfl
          rotate_left
          · simp only [Act.put, List.setIfInBounds_toArray, List.set_cons_zero, List.set_cons_succ, i64_w, i32_w]
            rfl
          refine inv_at [2, 3, 4, 6, 7, 9, 10, 11, 12, 13, 14] (fun a0_ b a w' => ∃ (v9 : Value), a = putSel a0_ b [(2, 64, .pointer (some ⟨gw, 0, none⟩)), (3, 65, .pointer (some ⟨gw, 0, none⟩)), (4, 66, .slice A7 xs.length c7), (6, 68, .int .i64 (n : Int)), (7, 69, .int .i64 (pn : Int)), (9, 71, .int .i64 (n : Int)), (10, 72, .int .i64 (pad : Int)), (11, 73, v9), (12, 74, .pointer (some ⟨gw, 0, none⟩)), (13, 75, .pointer (some ⟨gw, 0, none⟩))] ∧ (b 11 = false → Only (fun k => k = gw ∨ okW k) W5 w') ∧ (b 11 = false → w'.heap[gw]? = some (.cells #[.slice A7 xs.length c7] 66 (0, 0))) ∧ (b 11 = false → (Kd.int .u8).R 5 w' (gw + 1) okW (.slice A7 xs.length c7) (xs)) ∧ (b 11 = true → b 14 = false → (Kd.int .u8).R 5 w' (gw + 1) okW (v9) (xs ++ List.replicate pad 0) ∧ w'.heap[gw]? = some (.cells #[.slice A7 xs.length c7] 66 (0, 0)) ∧ Only (fun k => k = gw ∨ okW k) W5 w') ∧ (b 14 = true → ∃ u, w'.heap[gw]? = some (.cells #[u] 66 (0, 0)) ∧ (Kd.int .u8).R 5 w' (gw + 1) okW (u) (xs ++ List.replicate pad 0) ∧ Only (fun k => k = gw ∨ okW k) W5 w')) HT_.out HW_.out (by kernel_rfl) (by kernel_rfl) ?_ ?_ ?_
          · exact ⟨.bool false, by simp only [putSel, Bool.false_eq_true, if_false], fun _ => (Only.refl _ _).drewN 1, fun _ => HC.out, fun _ => HR.out, fun h_ => absurd h_ (by decide), fun h_ => absurd h_ (by decide)⟩
          · skip
            clear B C R
            refine steps_cons ?_ ?_
            · rintro b a w' ⟨v9, ha, Q_B, Q_C, Q_R, Q_S1, Q_S2⟩ hb_ hon hoff
              refine ⟨_, rfl, fun K hK => ?_⟩
              have e63 : a.tmps[63]? = some (.pointer (some ⟨gw, 0, none⟩)) := by rw [ha]; exact (putSel_off rfl).trans rfl
              replace ha := Aside0.mk ha
              have B := Aside0.mk (Q_B (hoff 11 (by kernel_rfl)))
              have C := Aside0.mk (Q_C (hoff 11 (by kernel_rfl)))
              have R := Aside0.mk (Q_R (hoff 11 (by kernel_rfl)))
              refine value_ (w1 := w') (v := .pointer (some ⟨gw, 0, none⟩)) (by rfl) rfl ?_ ?_
              · go_simp
                (try simp only [i64_w])
                try rfl
              refine hK.out _ _ ⟨v9, (by rw [ha.out]; exact putSel_upk 0 hb_ rfl rfl rfl), Q_B, Q_C, Q_R, fun h0_ _ => absurd ((hoff 11 (by kernel_rfl)).symm.trans h0_) (by decide), fun h0_ => absurd ((hoff 14 (by kernel_rfl)).symm.trans h0_) (by decide)⟩
            refine steps_cons ?_ ?_
            · rintro b a w' ⟨v9, ha, Q_B, Q_C, Q_R, Q_S1, Q_S2⟩ hb_ hon hoff
              refine ⟨_, rfl, fun K hK => ?_⟩
              have e64 : a.tmps[64]? = some (.pointer (some ⟨gw, 0, none⟩)) := by rw [ha]; exact putSel_on (e := (2, 64, .pointer (some ⟨gw, 0, none⟩))) 0 rfl rfl (hon 2 (by kernel_rfl)) rfl
              replace ha := Aside0.mk ha
              have B := Aside0.mk (Q_B (hoff 11 (by kernel_rfl)))
              have C := Aside0.mk (Q_C (hoff 11 (by kernel_rfl)))
              have R := Aside0.mk (Q_R (hoff 11 (by kernel_rfl)))
              refine value_ (w1 := w') (v := .pointer (some ⟨gw, 0, none⟩)) (by rfl) rfl ?_ ?_
              · go_simp
                (try simp only [i64_w])
                try rfl
              refine hK.out _ _ ⟨v9, (by rw [ha.out]; exact putSel_upk 1 hb_ rfl rfl rfl), Q_B, Q_C, Q_R, fun h0_ _ => absurd ((hoff 11 (by kernel_rfl)).symm.trans h0_) (by decide), fun h0_ => absurd ((hoff 14 (by kernel_rfl)).symm.trans h0_) (by decide)⟩
            refine steps_cons ?_ ?_
            · rintro b a w' ⟨v9, ha, Q_B, Q_C, Q_R, Q_S1, Q_S2⟩ hb_ hon hoff
              refine ⟨_, rfl, fun K hK => ?_⟩
              have e65 : a.tmps[65]? = some (.pointer (some ⟨gw, 0, none⟩)) := by rw [ha]; exact putSel_on (e := (3, 65, .pointer (some ⟨gw, 0, none⟩))) 1 rfl rfl (hon 3 (by kernel_rfl)) rfl
              replace ha := Aside0.mk ha
              have B := Aside0.mk (Q_B (hoff 11 (by kernel_rfl)))
              have C := Aside0.mk (Q_C (hoff 11 (by kernel_rfl)))
              have R := Aside0.mk (Q_R (hoff 11 (by kernel_rfl)))
              have hs := blk_cell C.out 0
              refine value_ (w1 := w') (v := .slice A7 xs.length c7) (by rfl) rfl ?_ ?_
              · go_simp
                (try simp only [i64_w])
                try rfl
              refine hK.out _ _ ⟨v9, (by rw [ha.out]; exact putSel_upk 2 hb_ rfl rfl rfl), Q_B, Q_C, Q_R, fun h0_ _ => absurd ((hoff 11 (by kernel_rfl)).symm.trans h0_) (by decide), fun h0_ => absurd ((hoff 14 (by kernel_rfl)).symm.trans h0_) (by decide)⟩
            refine steps_cons ?_ ?_
            · rintro b a w' ⟨v9, ha, Q_B, Q_C, Q_R, Q_S1, Q_S2⟩ hb_ hon hoff
              refine ⟨_, rfl, fun K hK => ?_⟩
              have e67 : a.tmps[67]? = some (.slice Av n cv) := by rw [ha]; exact (putSel_off rfl).trans rfl
              replace ha := Aside0.mk ha
              have B := Aside0.mk (Q_B (hoff 11 (by kernel_rfl)))
              have C := Aside0.mk (Q_C (hoff 11 (by kernel_rfl)))
              have R := Aside0.mk (Q_R (hoff 11 (by kernel_rfl)))
              refine value_ (w1 := w') (v := .int .i64 (n : Int)) (by rfl) rfl ?_ ?_
              · go_simp
                (try simp only [i64_w])
                try rfl
              refine hK.out _ _ ⟨v9, (by rw [ha.out]; exact putSel_upk 3 hb_ rfl rfl rfl), Q_B, Q_C, Q_R, fun h0_ _ => absurd ((hoff 11 (by kernel_rfl)).symm.trans h0_) (by decide), fun h0_ => absurd ((hoff 14 (by kernel_rfl)).symm.trans h0_) (by decide)⟩
            refine steps_cons ?_ ?_
            · rintro b a w' ⟨v9, ha, Q_B, Q_C, Q_R, Q_S1, Q_S2⟩ hb_ hon hoff
              refine ⟨_, rfl, fun K hK => ?_⟩
              have e68 : a.tmps[68]? = some (.int .i64 (n : Int)) := by rw [ha]; exact putSel_on (e := (6, 68, .int .i64 (n : Int))) 3 rfl rfl (hon 6 (by kernel_rfl)) rfl
              replace ha := Aside0.mk ha
              have B := Aside0.mk (Q_B (hoff 11 (by kernel_rfl)))
              have C := Aside0.mk (Q_C (hoff 11 (by kernel_rfl)))
              have R := Aside0.mk (Q_R (hoff 11 (by kernel_rfl)))
              refine goes_ Try.func27 (by kernel_rfl) rfl #[.int .i64 (n : Int)] (by rfl) rfl rfl (by first | (simp only [List.map_toArray, List.map_cons, List.map_nil, Act.eval, Array.getD_eq_getD_getElem?, Option.getD_some, e68]; done) | (simp only [List.map_toArray, List.map_cons, List.map_nil, Act.eval, Array.getD_eq_getD_getElem?, Option.getD_some, e68]; rfl)) ?_
              refine (HPD.out w').mono ?_
              rintro e w1 ⟨rfl, hD1⟩
              refine ⟨_, rfl, ?_⟩
              refine hK.out _ _ ⟨v9, (by rw [ha.out]; exact putSel_upk 4 hb_ rfl rfl rfl), fun _ => B.out.trans (Only.of_below (S := fun _ => False) (drawn_below hD1)) (fun k _ h => h.elim), fun _ => blk_below C.out (drawn_below hD1), fun _ => R_only R.out (Only.of_below (S := fun _ => False) (drawn_below hD1)) (fun _ _ _ h => h), fun h0_ _ => absurd ((hoff 11 (by kernel_rfl)).symm.trans h0_) (by decide), fun h0_ => absurd ((hoff 14 (by kernel_rfl)).symm.trans h0_) (by decide)⟩
            refine steps_cons ?_ ?_
            · rintro b a w' ⟨v9, ha, Q_B, Q_C, Q_R, Q_S1, Q_S2⟩ hb_ hon hoff
              refine ⟨_, rfl, fun K hK => ?_⟩
              have e70 : a.tmps[70]? = some (.slice Av n cv) := by rw [ha]; exact (putSel_off rfl).trans rfl
              replace ha := Aside0.mk ha
              have B := Aside0.mk (Q_B (hoff 11 (by kernel_rfl)))
              have C := Aside0.mk (Q_C (hoff 11 (by kernel_rfl)))
              have R := Aside0.mk (Q_R (hoff 11 (by kernel_rfl)))
              refine value_ (w1 := w') (v := .int .i64 (n : Int)) (by rfl) rfl ?_ ?_
              · go_simp
                (try simp only [i64_w])
                try rfl
              refine hK.out _ _ ⟨v9, (by rw [ha.out]; exact putSel_upk 5 hb_ rfl rfl rfl), Q_B, Q_C, Q_R, fun h0_ _ => absurd ((hoff 11 (by kernel_rfl)).symm.trans h0_) (by decide), fun h0_ => absurd ((hoff 14 (by kernel_rfl)).symm.trans h0_) (by decide)⟩
            refine steps_cons ?_ ?_
            · rintro b a w' ⟨v9, ha, Q_B, Q_C, Q_R, Q_S1, Q_S2⟩ hb_ hon hoff
              refine ⟨_, rfl, fun K hK => ?_⟩
              have e69 : a.tmps[69]? = some (.int .i64 (pn : Int)) := by rw [ha]; exact putSel_on (e := (7, 69, .int .i64 (pn : Int))) 4 rfl rfl (hon 7 (by kernel_rfl)) rfl
              have e71 : a.tmps[71]? = some (.int .i64 (n : Int)) := by rw [ha]; exact putSel_on (e := (9, 71, .int .i64 (n : Int))) 5 rfl rfl (hon 9 (by kernel_rfl)) rfl
              replace ha := Aside0.mk ha
              have B := Aside0.mk (Q_B (hoff 11 (by kernel_rfl)))
              have C := Aside0.mk (Q_C (hoff 11 (by kernel_rfl)))
              have R := Aside0.mk (Q_R (hoff 11 (by kernel_rfl)))
              have hs := HSUB.out
              refine value_ (w1 := w') (v := .int .i64 (pad : Int)) (by rfl) rfl (by go_simp; simp only [i64_w]; exact hs) ?_
              refine hK.out _ _ ⟨v9, (by rw [ha.out]; exact putSel_upk 6 hb_ rfl rfl rfl), fun _ => B.out, fun _ => C.out, fun _ => R.out, fun h0_ _ => absurd ((hoff 11 (by kernel_rfl)).symm.trans h0_) (by decide), fun h0_ => absurd ((hoff 14 (by kernel_rfl)).symm.trans h0_) (by decide)⟩
            refine steps_cons ?_ ?_
            · rintro b a w' ⟨v9, ha, Q_B, Q_C, Q_R, Q_S1, Q_S2⟩ hb_ hon hoff
              refine ⟨_, rfl, fun K hK => ?_⟩
              have e66 : a.tmps[66]? = some (.slice A7 xs.length c7) := by rw [ha]; exact putSel_on (e := (4, 66, .slice A7 xs.length c7)) 2 rfl rfl (hon 4 (by kernel_rfl)) rfl
              have e72 : a.tmps[72]? = some (.int .i64 (pad : Int)) := by rw [ha]; exact putSel_on (e := (10, 72, .int .i64 (pad : Int))) 6 rfl rfl (hon 10 (by kernel_rfl)) rfl
              replace ha := Aside0.mk ha
              have B := Aside0.mk (Q_B hb_)
              have C := Aside0.mk (Q_C hb_)
              have R := Aside0.mk (Q_R hb_)
              refine Kd.R_append_zeros_step (kx := .i64) (Kd.int .u8) (w0 := w') (W := w') (gw + 1) (by rfl) _ _ 22 3 5 (.int .u8 0) 1 rfl Try.underlying22 Try.underlying3 info_u8 rfl (by decide) (by decide) (.slice A7 xs.length c7) xs 0 (pad : Int) okW (by simp [Act.eval, Array.getD_eq_getD_getElem?, e66]) (by simp [Act.eval, Array.getD_eq_getD_getElem?, e72]) rfl (fun k hk => HOK5.out k (by have := B.out.size; omega)) R.out (by omega) (Below.refl _ _) (by have := blk_lt C.out; omega) (by have := HXL.out; have := HM.out; omega) ?_
              intro v1 w1 hR1 hB1 hG1 _
              rw [Int.toNat_natCast] at hR1
              refine hK.out _ _ ⟨v1, (by rw [ha.out]; exact putSel_upk 7 hb_ rfl rfl rfl), fun h0_ => absurd ((up_self b 11).symm.trans h0_) (by decide), fun h0_ => absurd ((up_self b 11).symm.trans h0_) (by decide), fun h0_ => absurd ((up_self b 11).symm.trans h0_) (by decide), fun _ _ => ⟨hR1, blk_grown C.out hG1 (fun e => HGO.out (R.out.1 _ e.symm)), B.out.grown hG1 (fun k _ e => Or.inr (R.out.1 k e))⟩, fun h0_ => absurd ((hoff 14 (by kernel_rfl)).symm.trans h0_) (by decide)⟩
            refine steps_cons ?_ ?_
            · rintro b a w' ⟨v9, ha, Q_B, Q_C, Q_R, Q_S1, Q_S2⟩ hb_ hon hoff
              refine ⟨_, rfl, fun K hK => ?_⟩
              have e62 : a.tmps[62]? = some (.pointer (some ⟨gw, 0, none⟩)) := by rw [ha]; exact (putSel_off rfl).trans rfl
              replace ha := Aside0.mk ha
              have S1 := Aside0.mk (Q_S1 (hon 11 (by kernel_rfl)) (hoff 14 (by kernel_rfl)))
              refine value_ (w1 := w') (v := .pointer (some ⟨gw, 0, none⟩)) (by rfl) rfl ?_ ?_
              · go_simp
                (try simp only [i64_w])
                try rfl
              refine hK.out _ _ ⟨v9, (by rw [ha.out]; exact putSel_upk 8 hb_ rfl rfl rfl), fun h0_ => absurd ((hon 11 (by kernel_rfl)).symm.trans h0_) (by decide), fun h0_ => absurd ((hon 11 (by kernel_rfl)).symm.trans h0_) (by decide), fun h0_ => absurd ((hon 11 (by kernel_rfl)).symm.trans h0_) (by decide), Q_S1, fun h0_ => absurd ((hoff 14 (by kernel_rfl)).symm.trans h0_) (by decide)⟩
            refine steps_cons ?_ ?_
            · rintro b a w' ⟨v9, ha, Q_B, Q_C, Q_R, Q_S1, Q_S2⟩ hb_ hon hoff
              refine ⟨_, rfl, fun K hK => ?_⟩
              have e74 : a.tmps[74]? = some (.pointer (some ⟨gw, 0, none⟩)) := by rw [ha]; exact putSel_on (e := (12, 74, .pointer (some ⟨gw, 0, none⟩))) 8 rfl rfl (hon 12 (by kernel_rfl)) rfl
              replace ha := Aside0.mk ha
              have S1 := Aside0.mk (Q_S1 (hon 11 (by kernel_rfl)) (hoff 14 (by kernel_rfl)))
              refine value_ (w1 := w') (v := .pointer (some ⟨gw, 0, none⟩)) (by rfl) rfl ?_ ?_
              · go_simp
                (try simp only [i64_w])
                try rfl
              refine hK.out _ _ ⟨v9, (by rw [ha.out]; exact putSel_upk 9 hb_ rfl rfl rfl), fun h0_ => absurd ((hon 11 (by kernel_rfl)).symm.trans h0_) (by decide), fun h0_ => absurd ((hon 11 (by kernel_rfl)).symm.trans h0_) (by decide), fun h0_ => absurd ((hon 11 (by kernel_rfl)).symm.trans h0_) (by decide), Q_S1, fun h0_ => absurd ((hoff 14 (by kernel_rfl)).symm.trans h0_) (by decide)⟩
            refine steps_cons ?_ ?_
            · rintro b a w' ⟨v9, ha, Q_B, Q_C, Q_R, Q_S1, Q_S2⟩ hb_ hon hoff
              refine ⟨_, rfl, fun K hK => ?_⟩
              have e75 : a.tmps[75]? = some (.pointer (some ⟨gw, 0, none⟩)) := by rw [ha]; exact putSel_on (e := (13, 75, .pointer (some ⟨gw, 0, none⟩))) 9 rfl rfl (hon 13 (by kernel_rfl)) rfl
              have e73 : a.tmps[73]? = some (v9) := by rw [ha]; exact putSel_on (e := (11, 73, v9)) 7 rfl rfl (hon 11 (by kernel_rfl)) rfl
              replace ha := Aside0.mk ha
              have S1 := Aside0.mk (Q_S1 (hon 11 (by kernel_rfl)) hb_)
              obtain ⟨hR1, hC1, hF1⟩ := S1.out
              obtain ⟨A8, c8, hv9⟩ := Kd.R_slice hR1
              have hs := blk_cell hC1 0
              have hf := blk_frozen hC1 0
              refine skip_ (w1 := w'.setCell ⟨gw, 0, none⟩ v9) (by rfl) rfl (by generalize (xs ++ List.replicate pad 0).length = zl at hv9; rw [hv9] at e73 ⊢; go_simp; try rfl) ?_
              refine hK.out _ _ ⟨v9, (by rw [ha.out]; exact putSel_none (v := undef) rfl), fun h0_ => absurd ((hon 11 (by kernel_rfl)).symm.trans h0_) (by decide), fun h0_ => absurd ((hon 11 (by kernel_rfl)).symm.trans h0_) (by decide), fun h0_ => absurd ((hon 11 (by kernel_rfl)).symm.trans h0_) (by decide), fun _ h1_ => absurd ((up_self b 14).symm.trans h1_) (by decide), fun _ => ⟨v9, blk_put hC1 0 v9 rfl, Kd.R_far hR1 (p := ⟨gw, 0, none⟩) (fun k hk (e : k = gw) => HGO.out (e ▸ hk)) v9, hF1.setCell (fun _ => Or.inl rfl) v9⟩⟩
            exact steps_nil
          rintro b a w' hall ⟨v9, ha, Q_B, Q_C, Q_R, Q_S1, Q_S2⟩
          clear B C R
          have hb2_ := hall 2 (by kernel_rfl)
          have hb3_ := hall 3 (by kernel_rfl)
          have hb4_ := hall 4 (by kernel_rfl)
          have hb6_ := hall 6 (by kernel_rfl)
          have hb7_ := hall 7 (by kernel_rfl)
          have hb9_ := hall 9 (by kernel_rfl)
          have hb10_ := hall 10 (by kernel_rfl)
          have hb11_ := hall 11 (by kernel_rfl)
          have hb12_ := hall 12 (by kernel_rfl)
          have hb13_ := hall 13 (by kernel_rfl)
          have hb14_ := hall 14 (by kernel_rfl)
          subst ha
          simp only [putSel, hb2_, hb3_, hb4_, hb6_, hb7_, hb9_, hb10_, hb11_, hb12_, hb13_, hb14_, if_true, Act.put, List.setIfInBounds_toArray, List.set_cons_zero, List.set_cons_succ]
          clear Q_B
          clear Q_C
          clear Q_R
          clear Q_S1
          have S2 := Aside0.mk (Q_S2 hb14_)
          clear Q_S2
          clear hall hb2_ hb3_ hb4_ hb6_ hb7_ hb9_ hb10_ hb11_ hb12_ hb13_ hb14_
          obtain ⟨u, hg, hR, hF⟩ := S2.out
          clear S2 HC HR HSUB HPD
          obtain ⟨A9, c9, rfl⟩ := Kd.R_slice hR
          have HB9 := Lib.hid (HBW.out.trans ((HF5.out.trans hF (fun k _ h => h)).below HBW.out.size HBO.out))
          have HR9 := Lib.hid (Kd.R_mono (ok' := fun k => k ≠ gw) hR (fun k hk (e : k = gw) => HGO.out (e ▸ hk)))
          have HC9 := Lib.hid hg
          have k0 : w'.cell? ⟨gw, 0, none⟩ = some (.slice A9 (xs ++ List.replicate pad 0).length c9) := blk_cell hg 0
          have hxl : (xs ++ List.replicate pad (0 : Int)).length ≤ 131074 := by have := HXL.out; have := HM.out; simp; omega
          clear hg hR hF HF5 HOK5 HXL HM HGO HBO HBW
          generalize hacc : xs ++ List.replicate pad (0 : Int) = acc2 at *
          obtain ⟨nl, hnl⟩ : ∃ nl, acc2.length = nl := ⟨_, rfl⟩
          rw [hnl] at k0 hxl
          have HNL := Lib.hid hnl
          have hA3 := HA2.out
          rw [hnl] at hA3
          by_cases hb : 65536 < nl
          · rw [if_pos hb] at hA3
            subst hA3
            clear HA2 HR9 HC9 hnl HNL hacc
            go_wp2
            go_ret2
            exact ⟨_, rfl, Kd.R_nil _ _ _ _ _, HB9.out⟩
          · rw [if_neg hb] at hA3
            have HA3 := Lib.hid hA3
            clear HA2 hA3 hacc hnl
            go_wp2
            go_roundw
            case rel => exact ⟨i + 1, acc2, by omega, by go_num, HA3, (by have := HNL.out; show _ ≤ _; omega), ⟨_, HC9.out, HR9.out⟩, HB9⟩
            case measure => simp [intOf]; omega
        · obtain rfl : i = l.length := by omega
          have hA := HA.out
          rw [List.drop_length, runE] at hA
          subst hA
          obtain ⟨u, hg, hR⟩ := HW.out
          obtain ⟨Au, cu, rfl⟩ := Kd.R_slice hR
          have k0 : wr.cell? ⟨gw, 0, none⟩ = some (.slice Au acc.length cu) := blk_cell hg 0
          have HR := Lib.hid (Kd.R_mono (ok' := fun _ => True) (Kd.R_lower hR (base' := w.heap.size) (by have := HGW.out; omega)) (fun _ _ => trivial))
          clear HRE HW0 HBW HVAL HLC HA hg hR HW HAL
          generalize hnl : acc.length = nl at *
          go_wp2
          go_ret2
          exact ⟨_, rfl, HR.out, HB.out⟩
end Go.Proofs.Ytjmadnpicidbeaa.Ch
end
section
namespace Go.Proofs.Ytjmadnpicidbeaa.Ch
open Go.RowKit Go.Proofs.YtjmadnpicidbeaaW.PrintWords Go.Proofs.YtjmadnpicidbeaaW.PrintLast Go.Proofs.Ytjmadnpicidbeaa.Base Go.Proofs.Ytjmadnpicidbeaa.PCh Go.Proofs.Ytjmadnpicidbeaa.ParDec Go.Proofs.Ytjmadnpicidbeaa.ParEnc
set_option maxRecDepth 100000
set_option linter.unusedVariables false
set_option linter.unusedSimpArgs false
structure B1 (w : World) (x : Chk) (L : Lay) (W : World) : Prop where
  x0 : W.heap[w.heap.size]? = some (.cells (CV x L) 30 (0, 0))
  x2 : Below w.heap.size w W
theorem B1.cell {w W : World} {x : Chk} {L : Lay} (h : B1 w x L W) (i : Nat) : W.cell? ⟨w.heap.size, i, none⟩ = (CV x L)[i]? := blk_cell h.x0 i
theorem B1.below {w W W' : World} {x : Chk} {L : Lay} (h : B1 w x L W) (hb : Below W.heap.size W W') : B1 w x L W' := ⟨blk_below h.x0 hb, below_then h.x2 h.x2.size hb⟩
theorem B1.drewN {w W : World} {x : Chk} {L : Lay} (h : B1 w x L W) (n : Nat) : B1 w x L (W.drewN n) := ⟨blk_drewN h.x0 n, pw_below_drewN h.x2 n⟩
theorem B1.new (w : World) (x : Chk) (L : Lay) : B1 w x L (w.alloc (.cells (CV x L) 30)) := ⟨blk_new _ _, below_alloc (Below.refl _ _) _⟩
set_option maxHeartbeats 4000000 in
theorem check_calls (w : World) (x : Chk) (L : Lay) (hx : CR w x L) (hv : ValOk x L) :
    Calls Try.prog 16 #[.agg (CV x L)] w fun e w' => e = .returned (.int .i64 (checkD x)) ∧ Below w.heap.size w w' := by
  have HBR := Lib.hid (fun (W : World) (h : Below w.heap.size w W) => bare_calls W x L (hx.below h))
  have HSM := Lib.hid (fun (W : World) (h : Below w.heap.size w W) => same_calls W x (bareD x) L (keepL (hasF x.f0) L) (hx.below h) (keep_CR (hx.below h) _ _))
  have HEN := Lib.hid (fun (W : World) (h : Below w.heap.size w W) => encP_calls W L.A14 L.c14 x.f14 (Kd.C_below hx.h14 h) hx.l14)
  have HXC := Lib.hid (fun (W : World) (h : Below w.heap.size w W) => hx.below h)
  have HXS := Lib.hid (show (Try.prog.info? 30).map (·.size) = some (CV x L).size by kernel_rfl)
  have HM13 := Lib.hid hx.h13.2.1
  obtain ⟨CD, hcd⟩ : ∃ CD, checkD x = CD := ⟨_, rfl⟩
  have HCD := Lib.hid hcd
  rw [hcd]
  have X := B1.new w x L
  clear hx hcd
  go_enter Try.func16, Try.ntmps16
  go_upto_region 1 with (fail)
  refine wp_gen (B1 w x L) X ?_
  clear X
  intro W X
  obtain ⟨q, hq⟩ : ∃ q, decide (x = bareD x) = q := ⟨_, rfl⟩
  rw [hq] at HSM
  have HQ := Lib.hid hq
  clear hq
  have HX0 := Lib.hid X
  have B := True.intro
  refine start_ (n := 6) (S := fun w' => True) (ds := []) #[false, false, false, false, false, false] (by kernel_rfl) rfl rfl trivial (fun hHeld => ?_)
  refine with_tabW checktab1 checkbits1 (fun HT_ HW_ => ?_)
  refine inv_at [0, 1, 2, 3, 4, 5] (fun a0_ b a w' => a = putSel a0_ b [(0, 6, .agg (CV x L)), (1, 7, .agg (CV x L)), (2, 8, .agg (CV (bareD x) (keepL (hasF x.f0) L))), (3, 9, .bool q), (4, 10, .bool (!q)), (5, 5, .bool (!q))] ∧ (Below W.heap.size W w')) HT_.out HW_.out (by kernel_rfl) (by kernel_rfl) ?_ ?_ ?_
  · exact ⟨by simp only [putSel, Bool.false_eq_true, if_false], below_drew (Below.refl _ _)⟩
  · skip
    clear B
    refine steps_cons ?_ ?_
    · rintro b a w' ⟨ha, Q_B⟩ hb_ hon hoff
      refine ⟨_, rfl, fun K hK => ?_⟩
      have e1 : a.tmps[1]? = some (.pointer (some ⟨w.heap.size, 0, none⟩)) := by rw [ha]; exact (putSel_off rfl).trans rfl
      replace ha := Aside0.mk ha
      have B := Aside0.mk Q_B
      refine value_ (w1 := w') (v := .agg (CV x L)) (by rfl) rfl (exec_load_row 30 (.tmp 1) rfl (eval_of e1) (blk_below HX0.out.x0 B.out) Try.underlying30 rfl HXS.out) ?_
      refine hK.out _ _ ⟨(by rw [ha.out]; exact putSel_upk 0 hb_ rfl rfl rfl), B.out⟩
    refine steps_cons ?_ ?_
    · rintro b a w' ⟨ha, Q_B⟩ hb_ hon hoff
      refine ⟨_, rfl, fun K hK => ?_⟩
      have e1 : a.tmps[1]? = some (.pointer (some ⟨w.heap.size, 0, none⟩)) := by rw [ha]; exact (putSel_off rfl).trans rfl
      replace ha := Aside0.mk ha
      have B := Aside0.mk Q_B
      refine value_ (w1 := w') (v := .agg (CV x L)) (by rfl) rfl (exec_load_row 30 (.tmp 1) rfl (eval_of e1) (blk_below HX0.out.x0 B.out) Try.underlying30 rfl HXS.out) ?_
      refine hK.out _ _ ⟨(by rw [ha.out]; exact putSel_upk 1 hb_ rfl rfl rfl), B.out⟩
    refine steps_cons ?_ ?_
    · rintro b a w' ⟨ha, Q_B⟩ hb_ hon hoff
      refine ⟨_, rfl, fun K hK => ?_⟩
      have e7 : a.tmps[7]? = some (.agg (CV x L)) := by rw [ha]; exact putSel_on (e := (1, 7, .agg (CV x L))) 1 rfl rfl (hon 1 (by kernel_rfl)) rfl
      replace ha := Aside0.mk ha
      have B := Aside0.mk Q_B
      refine goes_ Try.func38 (by kernel_rfl) rfl #[.agg (CV x L)] (by rfl) rfl rfl (by first | (simp only [List.map_toArray, List.map_cons, List.map_nil, Act.eval, Array.getD_eq_getD_getElem?, Option.getD_some, e7]; done) | (simp only [List.map_toArray, List.map_cons, List.map_nil, Act.eval, Array.getD_eq_getD_getElem?, Option.getD_some, e7]; rfl)) ?_
      refine (HBR.out w' (HX0.out.below B.out).x2).mono ?_
      rintro e w1 ⟨rfl, hB1⟩
      refine ⟨_, rfl, ?_⟩
      refine hK.out _ _ ⟨(by rw [ha.out]; exact putSel_upk 2 hb_ rfl rfl rfl), B.out.trans (hB1.mono B.out.size)⟩
    refine steps_cons ?_ ?_
    · rintro b a w' ⟨ha, Q_B⟩ hb_ hon hoff
      refine ⟨_, rfl, fun K hK => ?_⟩
      have e6 : a.tmps[6]? = some (.agg (CV x L)) := by rw [ha]; exact putSel_on (e := (0, 6, .agg (CV x L))) 0 rfl rfl (hon 0 (by kernel_rfl)) rfl
      have e8 : a.tmps[8]? = some (.agg (CV (bareD x) (keepL (hasF x.f0) L))) := by rw [ha]; exact putSel_on (e := (2, 8, .agg (CV (bareD x) (keepL (hasF x.f0) L)))) 2 rfl rfl (hon 2 (by kernel_rfl)) rfl
      replace ha := Aside0.mk ha
      have B := Aside0.mk Q_B
      refine goes_ Try.func14 (by kernel_rfl) rfl #[.agg (CV x L), .agg (CV (bareD x) (keepL (hasF x.f0) L))] (by rfl) rfl rfl (by first | (simp only [List.map_toArray, List.map_cons, List.map_nil, Act.eval, Array.getD_eq_getD_getElem?, Option.getD_some, e6, e8]; done) | (simp only [List.map_toArray, List.map_cons, List.map_nil, Act.eval, Array.getD_eq_getD_getElem?, Option.getD_some, e6, e8]; rfl)) ?_
      refine (HSM.out w' (HX0.out.below B.out).x2).mono ?_
      rintro e w1 ⟨rfl, hB1⟩
      refine ⟨_, rfl, ?_⟩
      refine hK.out _ _ ⟨(by rw [ha.out]; exact putSel_upk 3 hb_ rfl rfl rfl), B.out.trans (hB1.mono B.out.size)⟩
    refine steps_cons ?_ ?_
    · rintro b a w' ⟨ha, Q_B⟩ hb_ hon hoff
      refine ⟨_, rfl, fun K hK => ?_⟩
      have e9 : a.tmps[9]? = some (.bool q) := by rw [ha]; exact putSel_on (e := (3, 9, .bool q)) 3 rfl rfl (hon 3 (by kernel_rfl)) rfl
      replace ha := Aside0.mk ha
      have B := Aside0.mk Q_B
      refine value_ (w1 := w') (v := .bool (!q)) (by rfl) rfl ?_ ?_
      · go_simp
        (try simp only [i64_w])
        try rfl
      refine hK.out _ _ ⟨(by rw [ha.out]; exact putSel_upk 4 hb_ rfl rfl rfl), Q_B⟩
    refine steps_cons ?_ ?_
    · rintro b a w' ⟨ha, Q_B⟩ hb_ hon hoff
      refine ⟨_, rfl, fun K hK => ?_⟩
      have e10 : a.tmps[10]? = some (.bool (!q)) := by rw [ha]; exact putSel_on (e := (4, 10, .bool (!q))) 4 rfl rfl (hon 4 (by kernel_rfl)) rfl
      replace ha := Aside0.mk ha
      have B := Aside0.mk Q_B
      refine value_ (w1 := w') (v := .bool (!q)) (by rfl) rfl ?_ ?_
      · go_simp
        (try simp only [i64_w])
        try rfl
      refine hK.out _ _ ⟨(by rw [ha.out]; exact putSel_upk 5 hb_ rfl rfl rfl), Q_B⟩
    exact steps_nil
  rintro b a w' hall ⟨ha, Q_B⟩
  clear B
  have hb0_ := hall 0 (by kernel_rfl)
  have hb1_ := hall 1 (by kernel_rfl)
  have hb2_ := hall 2 (by kernel_rfl)
  have hb3_ := hall 3 (by kernel_rfl)
  have hb4_ := hall 4 (by kernel_rfl)
  have hb5_ := hall 5 (by kernel_rfl)
  subst ha
  simp only [putSel, hb0_, hb1_, hb2_, hb3_, hb4_, hb5_, if_true, Act.put, List.setIfInBounds_toArray, List.set_cons_zero, List.set_cons_succ]
  have B := Aside0.mk Q_B
  clear Q_B
  clear hall hb0_ hb1_ hb2_ hb3_ hb4_ hb5_
  replace X := X.below B.out
  clear B HBR HSM HX0
  generalize w' = W at *
  cases q with
  | false =>
    have hC : CD = 63 := by rw [← HCD.out]; unfold checkD; rw [if_pos HQ.out]
    subst hC
    go_wp2
    go_ret
    exact ⟨rfl, X.x2⟩
  | true =>
  have HXE := Lib.hid (show x = bareD x from of_decide_eq_true HQ.out)
  have n1 : ¬ decide (x = bareD x) = false := by rw [HQ.out]; decide
  have hcd := HCD.out
  unfold checkD at hcd
  rw [if_neg n1] at hcd
  clear n1 HCD
  have k0 : W.cell? ⟨w.heap.size, 0, none⟩ = some (.int .u8 x.f0) := X.cell 0
  have k10 : W.cell? ⟨w.heap.size, 10, none⟩ = some (.slice L.A10 x.f10.length L.c10) := X.cell 10
  have k11 : W.cell? ⟨w.heap.size, 11, none⟩ = some (.slice L.A11 x.f11.length L.c11) := X.cell 11
  have k12 : W.cell? ⟨w.heap.size, 12, none⟩ = some (.slice L.A12 x.f12.length L.c12) := X.cell 12
  have k13 : W.cell? ⟨w.heap.size, 13, none⟩ = some (.slice L.A13 x.f13.length L.c13) := X.cell 13
  have k14 : W.cell? ⟨w.heap.size, 14, none⟩ = some (.slice L.A14 x.f14.length L.c14) := X.cell 14
  by_cases h62 : x.f0 = 0 ∧ x.f13.length = 0
  · rw [if_pos h62] at hcd
    have q0 : (x.f0 == 0) = true := by simp [h62.1]
    have q13 : ((x.f13.length : Int) == 0) = true := by rw [h62.2]; rfl
    subst hcd
    clear h62
    go_wp2
    go_ret
    exact ⟨rfl, X.x2⟩
  rw [if_neg h62] at hcd
  have hbt : beatB x.f14 = true ∨ beatB x.f14 = false := by cases beatB x.f14 <;> simp
  by_cases h61 : (x.f0 = 4 ∨ x.f0 = 5) ∧ beatB x.f14 = false
  · rw [if_pos h61] at hcd
    have q0 : (x.f0 == 0) = false := by simp; omega
    have HBT := Lib.hid (fun (W' : World) (h : Below w.heap.size w W') => chunk_beat.calls x.f0 x.f1 x.f2 x.f3 x.f4 x.f5 x.f6 x.f7 x.f8 x.f9 L.A10 L.c10 x.f10 L.A11 L.c11 x.f11 L.A12 L.c12 x.f12 L.A13 L.c13 x.f13 L.A14 L.c14 x.f14 false W' (HXC.out W' h).h10 (HXC.out W' h).l10 (HXC.out W' h).h11 (HXC.out W' h).l11 (HXC.out W' h).h12 (HXC.out W' h).l12 (HXC.out W' h).h13 (HXC.out W' h).l13 (HXC.out W' h).h14 (HXC.out W' h).l14 (by rw [beat_f, h61.2]))
    have HIB := Lib.hid (fun W' => isBeat_calls x.f0 W')
    rw [decide_eq_true h61.1] at HIB
    subst hcd
    clear h61 h62 hbt
    go_wp2_with fail
    refine (HIB.out _).mono ?_
    rintro e w2 ⟨rfl, ⟨m2, rfl⟩⟩
    replace X := X.drewN m2
    go_wp2_with (with_reducible refine gate_dst (N := 26) rfl ?_; go_must (refine step_on (wanted_on rfl rfl rfl rfl) (exec_load_row 30 (.tmp 1) rfl rfl X.x0 Try.underlying30 rfl HXS.out) ?_))
    refine (HBT.out _ X.x2).mono ?_
    rintro e w2 ⟨rfl, hB2⟩
    replace X := X.below hB2
    go_wp2
    go_ret
    exact ⟨rfl, X.x2⟩
  rw [if_neg h61] at hcd
  have HCD := Lib.hid hcd
  clear hcd
  have hvar : (x.f0 = 0 ∧ ¬ x.f13.length = 0) ∨ (¬ x.f0 = 0 ∧ ¬ (x.f0 = 4 ∨ x.f0 = 5)) ∨ (¬ x.f0 = 0 ∧ (x.f0 = 4 ∨ x.f0 = 5) ∧ beatB x.f14 = true) := by
    by_cases a0 : x.f0 = 0
    · exact Or.inl ⟨a0, fun e => h62 ⟨a0, e⟩⟩
    · by_cases a4 : x.f0 = 4 ∨ x.f0 = 5
      · exact Or.inr (Or.inr ⟨a0, a4, hbt.elim id (fun e => absurd ⟨a4, e⟩ h61)⟩)
      · exact Or.inr (Or.inl ⟨a0, a4⟩)
  clear h61 h62 hbt
  rcases hvar with ⟨a0, a13⟩ | ⟨a0, a4⟩ | ⟨a0, a4, hbt⟩
  · have HIB := Lib.hid (fun W' => isBeat_calls x.f0 W')
    rw [decide_eq_false (by omega)] at HIB
    have q0 : (x.f0 == 0) = true := by simp [a0]
    have q13 : ((x.f13.length : Int) == 0) = false := by rw [beq_eq_false_iff_ne]; omega
    clear a0 a13
    go_wp2_with fail
    refine (HIB.out _).mono ?_
    rintro e w2 ⟨rfl, ⟨m2, rfl⟩⟩
    replace X := X.drewN m2
    go_upto_region 7 with (fail)
    refine wp_gen (B1 w x L) X ?_
    clear X k0 k10 k11 k12 k13 k14 q0 q13 HIB
    intro W X
    have k10 : W.cell? ⟨w.heap.size, 10, none⟩ = some (.slice L.A10 x.f10.length L.c10) := X.cell 10
    have k11 : W.cell? ⟨w.heap.size, 11, none⟩ = some (.slice L.A11 x.f11.length L.c11) := X.cell 11
    have k12 : W.cell? ⟨w.heap.size, 12, none⟩ = some (.slice L.A12 x.f12.length L.c12) := X.cell 12
    have k14 : W.cell? ⟨w.heap.size, 14, none⟩ = some (.slice L.A14 x.f14.length L.c14) := X.cell 14
    by_cases hm : 4096 < x.f10.length ∨ 4096 < x.f11.length ∨ 4096 < x.f12.length
    · have hc := HCD.out
      rw [if_pos hm] at hc
      subst hc
      go_wp2
      all_goals first | (exfalso; omega) | (go_ret; exact ⟨rfl, X.x2⟩)
    have b10 : decide ((4096 : Int) < (x.f10.length : Int)) = false := by simp; omega
    have b11 : decide ((4096 : Int) < (x.f11.length : Int)) = false := by simp; omega
    have b12 : decide ((4096 : Int) < (x.f12.length : Int)) = false := by simp; omega
    have HCE := Lib.hid HCD.out
    rw [if_neg hm] at HCE
    have l10 : x.f10.length ≤ 4096 := by omega
    have l11 : x.f11.length ≤ 4096 := by omega
    have l12 : x.f12.length ≤ 4096 := by omega
    have HEW := Lib.hid (HEN.out W X.x2)
    by_cases he : (encP x.f14).2 = 0
    · have HVL := Lib.hid (fun (W' : World) (h : Below w.heap.size w W') => hv W' (HXC.out W' h) HXE.out l10 l11 l12 he)
      rw [if_neg (fun e => e he)] at HCE
      rw [he] at HEW
      clear hm he
      unfold ValP at HVL
      go_wp2_with fail
      refine HEW.out.mono ?_
      rintro e w3 ⟨v0, rfl, hR, hB3⟩
      obtain ⟨A0, c0, rfl⟩ := Kd.R_slice hR
      replace X := X.below hB3
      clear hR hB3 k10 k11 k12 k14
      go_wp2_with (with_reducible refine gate_dst (N := 52) rfl ?_; refine wpList_load_row rfl 30 (.tmp 1) rfl _ rfl 30 _ (0, 0) _ X.x0 Try.underlying30 rfl HXS.out ?_)
      refine (HVL.out _ X.x2).mono ?_
      rintro e w5 ⟨A9, c9, rfl, hle9, hC9, hB5⟩
      replace X := X.below hB5
      clear hC9 hB5 hle9
      generalize (valueD x).length = vl at *
      by_cases h2 : 65531 < vl
      · have hc := HCE.out
        rw [if_pos h2] at hc
        subst hc
        go_wp2
        go_ret
        exact ⟨rfl, X.x2⟩
      · have hc := HCE.out
        rw [if_neg h2] at hc
        subst hc
        go_wp2
        go_ret
        exact ⟨rfl, X.x2⟩
    · have hc := HCE.out
      rw [if_pos he] at hc
      rw [hc] at HEW he
      have q : (CD != 0) = true := by simp [he]
      clear hm he hc
      go_wp2_with fail
      refine HEW.out.mono ?_
      rintro e w3 ⟨v0, rfl, hR, hB3⟩
      obtain ⟨A0, c0, rfl⟩ := Kd.R_slice hR
      replace X := X.below hB3
      clear hR hB3 k10 k11 k12 k14
      go_wp2
      go_ret
      exact ⟨rfl, X.x2⟩
  · have HIB := Lib.hid (fun W' => isBeat_calls x.f0 W')
    rw [decide_eq_false a4] at HIB
    have q0 : (x.f0 == 0) = false := by simp [a0]
    clear a0 a4
    go_wp2_with fail
    refine (HIB.out _).mono ?_
    rintro e w2 ⟨rfl, ⟨m2, rfl⟩⟩
    replace X := X.drewN m2
    go_upto_region 7 with (fail)
    refine wp_gen (B1 w x L) X ?_
    clear X k0 k10 k11 k12 k13 k14 q0 HIB
    intro W X
    have k10 : W.cell? ⟨w.heap.size, 10, none⟩ = some (.slice L.A10 x.f10.length L.c10) := X.cell 10
    have k11 : W.cell? ⟨w.heap.size, 11, none⟩ = some (.slice L.A11 x.f11.length L.c11) := X.cell 11
    have k12 : W.cell? ⟨w.heap.size, 12, none⟩ = some (.slice L.A12 x.f12.length L.c12) := X.cell 12
    have k14 : W.cell? ⟨w.heap.size, 14, none⟩ = some (.slice L.A14 x.f14.length L.c14) := X.cell 14
    by_cases hm : 4096 < x.f10.length ∨ 4096 < x.f11.length ∨ 4096 < x.f12.length
    · have hc := HCD.out
      rw [if_pos hm] at hc
      subst hc
      go_wp2
      all_goals first | (exfalso; omega) | (go_ret; exact ⟨rfl, X.x2⟩)
    have b10 : decide ((4096 : Int) < (x.f10.length : Int)) = false := by simp; omega
    have b11 : decide ((4096 : Int) < (x.f11.length : Int)) = false := by simp; omega
    have b12 : decide ((4096 : Int) < (x.f12.length : Int)) = false := by simp; omega
    have HCE := Lib.hid HCD.out
    rw [if_neg hm] at HCE
    have l10 : x.f10.length ≤ 4096 := by omega
    have l11 : x.f11.length ≤ 4096 := by omega
    have l12 : x.f12.length ≤ 4096 := by omega
    have HEW := Lib.hid (HEN.out W X.x2)
    by_cases he : (encP x.f14).2 = 0
    · have HVL := Lib.hid (fun (W' : World) (h : Below w.heap.size w W') => hv W' (HXC.out W' h) HXE.out l10 l11 l12 he)
      rw [if_neg (fun e => e he)] at HCE
      rw [he] at HEW
      clear hm he
      unfold ValP at HVL
      go_wp2_with fail
      refine HEW.out.mono ?_
      rintro e w3 ⟨v0, rfl, hR, hB3⟩
      obtain ⟨A0, c0, rfl⟩ := Kd.R_slice hR
      replace X := X.below hB3
      clear hR hB3 k10 k11 k12 k14
      go_wp2_with (with_reducible refine gate_dst (N := 52) rfl ?_; refine wpList_load_row rfl 30 (.tmp 1) rfl _ rfl 30 _ (0, 0) _ X.x0 Try.underlying30 rfl HXS.out ?_)
      refine (HVL.out _ X.x2).mono ?_
      rintro e w5 ⟨A9, c9, rfl, hle9, hC9, hB5⟩
      replace X := X.below hB5
      clear hC9 hB5 hle9
      generalize (valueD x).length = vl at *
      by_cases h2 : 65531 < vl
      · have hc := HCE.out
        rw [if_pos h2] at hc
        subst hc
        go_wp2
        go_ret
        exact ⟨rfl, X.x2⟩
      · have hc := HCE.out
        rw [if_neg h2] at hc
        subst hc
        go_wp2
        go_ret
        exact ⟨rfl, X.x2⟩
    · have hc := HCE.out
      rw [if_pos he] at hc
      rw [hc] at HEW he
      have q : (CD != 0) = true := by simp [he]
      clear hm he hc
      go_wp2_with fail
      refine HEW.out.mono ?_
      rintro e w3 ⟨v0, rfl, hR, hB3⟩
      obtain ⟨A0, c0, rfl⟩ := Kd.R_slice hR
      replace X := X.below hB3
      clear hR hB3 k10 k11 k12 k14
      go_wp2
      go_ret
      exact ⟨rfl, X.x2⟩
  · have HIB := Lib.hid (fun W' => isBeat_calls x.f0 W')
    rw [decide_eq_true a4] at HIB
    have HBT := Lib.hid (fun (W' : World) (h : Below w.heap.size w W') => chunk_beat.calls x.f0 x.f1 x.f2 x.f3 x.f4 x.f5 x.f6 x.f7 x.f8 x.f9 L.A10 L.c10 x.f10 L.A11 L.c11 x.f11 L.A12 L.c12 x.f12 L.A13 L.c13 x.f13 L.A14 L.c14 x.f14 true W' (HXC.out W' h).h10 (HXC.out W' h).l10 (HXC.out W' h).h11 (HXC.out W' h).l11 (HXC.out W' h).h12 (HXC.out W' h).l12 (HXC.out W' h).h13 (HXC.out W' h).l13 (HXC.out W' h).h14 (HXC.out W' h).l14 (by rw [beat_f, hbt]))
    have q0 : (x.f0 == 0) = false := by simp [a0]
    clear a0 a4 hbt
    go_wp2_with fail
    refine (HIB.out _).mono ?_
    rintro e w2 ⟨rfl, ⟨m2, rfl⟩⟩
    replace X := X.drewN m2
    go_wp2_with (with_reducible refine gate_dst (N := 26) rfl ?_; go_must (refine step_on (wanted_on rfl rfl rfl rfl) (exec_load_row 30 (.tmp 1) rfl rfl X.x0 Try.underlying30 rfl HXS.out) ?_))
    refine (HBT.out _ X.x2).mono ?_
    rintro e w2 ⟨rfl, hB2⟩
    replace X := X.below hB2
    clear hB2
    go_upto_region 7 with (fail)
    refine wp_gen (B1 w x L) X ?_
    clear X k0 k10 k11 k12 k13 k14 q0 HIB HBT
    intro W X
    have k10 : W.cell? ⟨w.heap.size, 10, none⟩ = some (.slice L.A10 x.f10.length L.c10) := X.cell 10
    have k11 : W.cell? ⟨w.heap.size, 11, none⟩ = some (.slice L.A11 x.f11.length L.c11) := X.cell 11
    have k12 : W.cell? ⟨w.heap.size, 12, none⟩ = some (.slice L.A12 x.f12.length L.c12) := X.cell 12
    have k14 : W.cell? ⟨w.heap.size, 14, none⟩ = some (.slice L.A14 x.f14.length L.c14) := X.cell 14
    by_cases hm : 4096 < x.f10.length ∨ 4096 < x.f11.length ∨ 4096 < x.f12.length
    · have hc := HCD.out
      rw [if_pos hm] at hc
      subst hc
      go_wp2
      all_goals first | (exfalso; omega) | (go_ret; exact ⟨rfl, X.x2⟩)
    have b10 : decide ((4096 : Int) < (x.f10.length : Int)) = false := by simp; omega
    have b11 : decide ((4096 : Int) < (x.f11.length : Int)) = false := by simp; omega
    have b12 : decide ((4096 : Int) < (x.f12.length : Int)) = false := by simp; omega
    have HCE := Lib.hid HCD.out
    rw [if_neg hm] at HCE
    have l10 : x.f10.length ≤ 4096 := by omega
    have l11 : x.f11.length ≤ 4096 := by omega
    have l12 : x.f12.length ≤ 4096 := by omega
    have HEW := Lib.hid (HEN.out W X.x2)
    by_cases he : (encP x.f14).2 = 0
    · have HVL := Lib.hid (fun (W' : World) (h : Below w.heap.size w W') => hv W' (HXC.out W' h) HXE.out l10 l11 l12 he)
      rw [if_neg (fun e => e he)] at HCE
      rw [he] at HEW
      clear hm he
      unfold ValP at HVL
      go_wp2_with fail
      refine HEW.out.mono ?_
      rintro e w3 ⟨v0, rfl, hR, hB3⟩
      obtain ⟨A0, c0, rfl⟩ := Kd.R_slice hR
      replace X := X.below hB3
      clear hR hB3 k10 k11 k12 k14
      go_wp2_with (with_reducible refine gate_dst (N := 52) rfl ?_; refine wpList_load_row rfl 30 (.tmp 1) rfl _ rfl 30 _ (0, 0) _ X.x0 Try.underlying30 rfl HXS.out ?_)
      refine (HVL.out _ X.x2).mono ?_
      rintro e w5 ⟨A9, c9, rfl, hle9, hC9, hB5⟩
      replace X := X.below hB5
      clear hC9 hB5 hle9
      generalize (valueD x).length = vl at *
      by_cases h2 : 65531 < vl
      · have hc := HCE.out
        rw [if_pos h2] at hc
        subst hc
        go_wp2
        go_ret
        exact ⟨rfl, X.x2⟩
      · have hc := HCE.out
        rw [if_neg h2] at hc
        subst hc
        go_wp2
        go_ret
        exact ⟨rfl, X.x2⟩
    · have hc := HCE.out
      rw [if_pos he] at hc
      rw [hc] at HEW he
      have q : (CD != 0) = true := by simp [he]
      clear hm he hc
      go_wp2_with fail
      refine HEW.out.mono ?_
      rintro e w3 ⟨v0, rfl, hR, hB3⟩
      obtain ⟨A0, c0, rfl⟩ := Kd.R_slice hR
      replace X := X.below hB3
      clear hR hB3 k10 k11 k12 k14
      go_wp2
      go_ret
      exact ⟨rfl, X.x2⟩
end Go.Proofs.Ytjmadnpicidbeaa.Ch
end
section
namespace Go.Proofs.Ytjmadnpicidbeaa.Ch
open Go.RowKit Go.Proofs.YtjmadnpicidbeaaW.PrintWords Go.Proofs.YtjmadnpicidbeaaW.PrintLast Go.Proofs.Ytjmadnpicidbeaa.Base Go.Proofs.Ytjmadnpicidbeaa.PCh Go.Proofs.Ytjmadnpicidbeaa.ParDec Go.Proofs.Ytjmadnpicidbeaa.ParEnc
set_option maxRecDepth 100000
set_option linter.unusedVariables false
set_option linter.unusedSimpArgs false
def awX : Chk := ⟨0, 3, 1, 2, 3, 0, 0, 0, 0, 0, [], [], [], [104, 105], []⟩
def awL : List UInt8 := [0, 3, 0, 18, 0, 0, 0, 1, 0, 2, 0, 3, 0, 0, 0, 0, 104, 105, 0, 0]
theorem aw_bare : bareD awX = awX := by
  unfold bareD
  rw [show flD awX.f0 awX.f1 = 3 from by rfl]
  rfl
theorem aw_value : valueD awX = [0, 0, 0, 1, 0, 2, 0, 3, 0, 0, 0, 0, 104, 105] := by
  unfold valueD
  rw [if_pos (show awX.f0 = 0 from rfl)]
  rfl
theorem aw_check : checkD awX = 0 := by
  unfold checkD
  rw [aw_bare, if_neg (by simp), if_neg (by simp [awX]), if_neg (by simp [awX]), if_neg (by simp [awX]), if_neg (by simp [awX, encP, runB]), aw_value, if_neg (by simp)]
theorem aw_enc : encD [awX] = (ints awL, 0) := by
  unfold encD chkAll
  rw [if_pos aw_check, chkAll, if_pos rfl, runE]
  have h : [] ++ chunkL awX = ints awL := by
    unfold chunkL
    rw [aw_value]
    rfl
  rw [h, if_neg (by decide), runE]
theorem aw_dec : decC awL = (awX, 20, 0) := by rfl
theorem aw_ok : OkB awX := ⟨fun b hb => by
  simp only [awX, List.mem_cons, List.not_mem_nil, or_false] at hb
  rcases hb with rfl | rfl <;> (unfold inB; omega), fun p hp => by cases hp⟩
theorem byte_of_int {w : World} {A : Option Addr} {l : List UInt8} (h : (Kd.int .u8).C w A (ints l).length (ints l)) : byte.C w A l.length l := by
  obtain ⟨h1, h2, h3⟩ := h
  rw [ints_length] at h2 h3
  refine ⟨rfl, h2, fun hn => ?_⟩
  obtain ⟨ad, e, hc⟩ := h3 hn
  refine ⟨ad, e, fun j p hj => ?_⟩
  exact hc j (p.toNat : Int) (by unfold ints; rw [List.getElem?_map, hj]; rfl)
theorem chk_row1 {w : World} {g : Nat} {x : Chk} {L : Lay} (hb : w.heap[g]? = some (.cells (CV x L) 30 (0, 0))) (hx : CR w x L) : Kd.C k30 w (some ⟨g, 0, none⟩) 1 [x] := by
  refine ⟨rfl, by simp, fun _ => ⟨_, rfl, fun j p hj => ?_⟩⟩
  rcases j with _ | j
  · simp only [List.getElem?_cons_zero, Option.some.injEq] at hj
    subst hj
    refine ⟨(CV x L).toList, rfl, hx.K, fun i u hu => ?_⟩
    rw [Nat.zero_mul, Nat.zero_add]
    exact cells_of_blk hb i u hu
  · simp at hj
theorem CR.of_M {w : World} {base : Nat} {ok : Nat → Prop} {x : Chk} {cs : List Value} (h : k30.M w base ok x cs) : ∃ L, cs = (CV x L).toList ∧ CR w x L := by
  obtain ⟨v10, v11, v12, v13, v14, rfl, h10, h11, h12, h13, h14⟩ := k30_openM h
  obtain ⟨A10, c10, rfl, l10, g10⟩ := Kd.R_reads h10
  obtain ⟨A11, c11, rfl, l11, g11⟩ := Kd.R_reads h11
  obtain ⟨A12, c12, rfl, l12, g12⟩ := Kd.R_reads h12
  obtain ⟨A13, c13, rfl, l13, g13⟩ := Kd.R_reads h13
  obtain ⟨A14, c14, rfl, l14, g14⟩ := Kd.R_reads h14
  exact ⟨⟨A10, c10, A11, c11, A12, c12, A13, c13, A14, c14⟩, rfl, ⟨l10, g10, l11, g11, l12, g12, l13, g13, l14, g14⟩⟩
theorem aw_check_calls (w : World) (L : Lay) (hx : CR w awX L) : Calls Try.prog 16 #[.agg (CV awX L)] w fun e w' => e = .returned (.int .i64 (checkD awX)) ∧ Below w.heap.size w w' :=
  check_calls w awX L hx (fun W hW _ _ _ _ _ => (value_data 0 W awX L hW rfl (by decide)).mono fun e w' h => by
    have := h.P
    unfold valueD
    rw [if_pos (show awX.f0 = 0 from rfl)]
    exact this)
theorem aw_encode (w : World) (g : Nat) (L : Lay) (hb : w.heap[g]? = some (.cells (CV awX L) 30 (0, 0))) (hx : CR w awX L) :
    Calls Try.prog 15 #[.slice (some ⟨g, 0, none⟩) 1 1] w fun e w' => ∃ A c, e = .returned (.tuple #[.slice A 20 c, .int .i64 0]) ∧ 20 ≤ c ∧ byte.C w' A awL.length awL ∧ Below w.heap.size w w' := by
  refine (encode_chunks w (some ⟨g, 0, none⟩) 1 [awX] (chk_row1 hb hx) (fun x hxm W L' hW => ?_) (fun x hxm hc W L' hW => ?_)).mono fun e w' h => ?_
  · obtain rfl : x = awX := by simpa using hxm
    exact aw_check_calls W L' hW
  · obtain rfl : x = awX := by simpa using hxm
    refine (value_data w.heap.size W awX L' (hW W (Below.refl _ _)) rfl (by decide)).mono fun e w' h => ?_
    unfold valueD
    rw [if_pos (show awX.f0 = 0 from rfl)]
    exact h
  · obtain ⟨v, rfl, hR, hB⟩ := h
    rw [aw_enc] at hR ⊢
    obtain ⟨A, c, rfl, hle, hC⟩ := Kd.R_reads hR
    exact ⟨A, c, rfl, hle, byte_of_int hC, hB⟩
theorem aw_decode (w : World) (A : Option Addr) (c : Nat) (hC : byte.C w A awL.length awL) (hc : 20 ≤ c) :
    Calls Try.prog 10 #[.slice A 20 c] w fun e w' => ∃ L, e = .returned (.tuple #[.agg (CV awX L), .int .i64 20, .int .i64 0]) ∧ CR w' awX L ∧ Below w.heap.size w w' := by
  refine (decC_calls w A awL c hC hc (by decide)).mono fun e w' h => ?_
  obtain ⟨cs, rfl, hM, hB⟩ := h
  rw [aw_dec] at hM ⊢
  obtain ⟨L, hcs, hx⟩ := CR.of_M hM
  obtain rfl : cs = CV awX L := Array.toList_inj.1 hcs
  exact ⟨L, rfl, hx, hB⟩
set_option maxHeartbeats 2000000 in
theorem awake_calls (w : World) : Calls Try.prog 13 #[] w fun e w' => e = .returned (.bool true) ∧ Below w.heap.size w w' := by
  have kc := fun (w : World) (C : Array Value) (n c : Nat) => Lib.run_convert_bytes_const (P := Try.prog) w 22 5 C n c Try.underlying22 Try.underlying5
  have HI := Lib.hid (show (Try.prog.info? 30).map (·.size) = some (#[.int .u8 0, .int .u8 3, .int .u32 1, .int .u16 2, .int .u16 3, .int .u32 0, .int .u32 0, .int .u32 0, .int .u16 0, .int .u16 0, .slice none 0 0, .slice none 0 0, .slice none 0 0, .slice (some ⟨w.heap.size, 0, none⟩) 2 2, .slice none 0 0] : Array Value).size by kernel_rfl)
  have HW1 := Lib.hid (show (w.alloc (.cells #[.int .u8 104, .int .u8 105] 5 (2, 3))).heap.size = w.heap.size + 1 by simp)
  have HB1 := Lib.hid (below_alloc (Below.refl w.heap.size w) (.cells #[.int .u8 104, .int .u8 105] 5 (2, 3)))
  have HX1 := Lib.hid (show CR (w.alloc (.cells #[.int .u8 104, .int .u8 105] 5 (2, 3))) awX ⟨none, 0, none, 0, none, 0, some ⟨w.heap.size, 0, none⟩, 2, none, 0⟩ from ⟨Nat.le_refl _, Kd.C_nil _ _, Nat.le_refl _, Kd.C_nil _ _, Nat.le_refl _, Kd.C_nil _ _, Nat.le_refl _, row_lit (Kd.int .u8) rfl w _ [.int .u8 104, .int .u8 105] [104, 105] rfl (by simp) (fun j v p hv hp => by rcases j with _ | _ | j <;> simp at hv hp <;> (subst hv; subst hp; rfl)) (fr := (2, 3)), Nat.le_refl _, Kd.C_nil _ _⟩)
  go_enter Try.func13, Try.ntmps13
  go_wp2_with (first | (with_reducible refine gate_dst (N := 1) rfl ?_; go_must (refine wpList_box rfl rfl 1 rfl rfl (.tmp 9) rfl #[.int .u8 0, .int .u8 3, .int .u32 1, .int .u16 2, .int .u16 3, .int .u32 0, .int .u32 0, .int .u32 0, .int .u16 0, .int .u16 0, .slice none 0 0, .slice none 0 0, .slice none 0 0, .slice (some ⟨w.heap.size, 0, none⟩) 2 2, .slice none 0 0] rfl rfl (by simp) HI.out (by simp [Value.oneCell']) ?_); refine RowKit.Hid.out ?_))
  refine Lib.hid ?_
  have HW2 := Lib.hid (blk_new (w.alloc (.cells #[.int .u8 104, .int .u8 105] 5 (2, 3))) (.cells #[.int .u8 0, .int .u8 3, .int .u32 1, .int .u16 2, .int .u16 3, .int .u32 0, .int .u32 0, .int .u32 0, .int .u16 0, .int .u16 0, .slice none 0 0, .slice none 0 0, .slice none 0 0, .slice (some ⟨w.heap.size, 0, none⟩) 2 2, .slice none 0 0] 30))
  replace HX1 := Lib.hid (CR.below HX1.out (below_alloc (Below.refl _ _) (.cells #[.int .u8 0, .int .u8 3, .int .u32 1, .int .u16 2, .int .u16 3, .int .u32 0, .int .u32 0, .int .u32 0, .int .u16 0, .int .u16 0, .slice none 0 0, .slice none 0 0, .slice none 0 0, .slice (some ⟨w.heap.size, 0, none⟩) 2 2, .slice none 0 0] 30)))
  replace HB1 := Lib.hid (below_alloc HB1.out (.cells #[.int .u8 0, .int .u8 3, .int .u32 1, .int .u16 2, .int .u16 3, .int .u32 0, .int .u32 0, .int .u32 0, .int .u16 0, .int .u16 0, .slice none 0 0, .slice none 0 0, .slice none 0 0, .slice (some ⟨w.heap.size, 0, none⟩) 2 2, .slice none 0 0] 30))
  rw [HW1.out] at HW2
  have HW3 := Lib.hid (show ((w.alloc (.cells #[.int .u8 104, .int .u8 105] 5 (2, 3))).alloc (.cells #[.int .u8 0, .int .u8 3, .int .u32 1, .int .u16 2, .int .u16 3, .int .u32 0, .int .u32 0, .int .u32 0, .int .u16 0, .int .u16 0, .slice none 0 0, .slice none 0 0, .slice none 0 0, .slice (some ⟨w.heap.size, 0, none⟩) 2 2, .slice none 0 0] 30)).heap.size = w.heap.size + 2 by simp)
  clear HW1 kc
  generalize ((w.alloc (.cells #[.int .u8 104, .int .u8 105] 5 (2, 3))).alloc (.cells #[.int .u8 0, .int .u8 3, .int .u32 1, .int .u16 2, .int .u16 3, .int .u32 0, .int .u32 0, .int .u32 0, .int .u16 0, .int .u16 0, .slice none 0 0, .slice none 0 0, .slice none 0 0, .slice (some ⟨w.heap.size, 0, none⟩) 2 2, .slice none 0 0] 30)) = W at *
  go_wp2_with (first | (with_reducible refine gate_dst (N := 11) rfl ?_; go_must (refine wpList_load_cells rfl 30 (.tmp 1) rfl rfl #[.int .u8 0, .int .u8 3, .int .u32 1, .int .u16 2, .int .u16 3, .int .u32 0, .int .u32 0, .int .u32 0, .int .u16 0, .int .u16 0, .slice none 0 0, .slice none 0 0, .slice none 0 0, .slice (some ⟨w.heap.size, 0, none⟩) 2 2, .slice none 0 0] _ (cells_of_blk HW2.out) Try.underlying30 rfl HI.out ?_)))
  refine (aw_encode (W.alloc (.cells #[.int .u8 0, .int .u8 3, .int .u32 1, .int .u16 2, .int .u16 3, .int .u32 0, .int .u32 0, .int .u32 0, .int .u16 0, .int .u16 0, .slice none 0 0, .slice none 0 0, .slice none 0 0, .slice (some ⟨w.heap.size, 0, none⟩) 2 2, .slice none 0 0] 30)) W.heap.size ⟨none, 0, none, 0, none, 0, some ⟨w.heap.size, 0, none⟩, 2, none, 0⟩ (blk_new _ _) (CR.below HX1.out (below_alloc (Below.refl _ _) _))).mono ?_
  rintro e w1 ⟨A, c, rfl, hc, hC, hB⟩
  replace HW2 := Lib.hid (blk_below (blk_alloc HW2.out (.cells #[.int .u8 0, .int .u8 3, .int .u32 1, .int .u16 2, .int .u16 3, .int .u32 0, .int .u32 0, .int .u32 0, .int .u16 0, .int .u16 0, .slice none 0 0, .slice none 0 0, .slice none 0 0, .slice (some ⟨w.heap.size, 0, none⟩) 2 2, .slice none 0 0] 30)) hB)
  replace HX1 := Lib.hid ((HX1.out.below (below_alloc (Below.refl _ _) (.cells #[.int .u8 0, .int .u8 3, .int .u32 1, .int .u16 2, .int .u16 3, .int .u32 0, .int .u32 0, .int .u32 0, .int .u16 0, .int .u16 0, .slice none 0 0, .slice none 0 0, .slice none 0 0, .slice (some ⟨w.heap.size, 0, none⟩) 2 2, .slice none 0 0] 30))).below hB)
  replace HB1 := Lib.hid (below_then (below_alloc HB1.out (.cells #[.int .u8 0, .int .u8 3, .int .u32 1, .int .u16 2, .int .u16 3, .int .u32 0, .int .u32 0, .int .u32 0, .int .u16 0, .int .u16 0, .slice none 0 0, .slice none 0 0, .slice none 0 0, .slice (some ⟨w.heap.size, 0, none⟩) 2 2, .slice none 0 0] 30)) (below_alloc HB1.out (.cells #[.int .u8 0, .int .u8 3, .int .u32 1, .int .u16 2, .int .u16 3, .int .u32 0, .int .u32 0, .int .u32 0, .int .u16 0, .int .u16 0, .slice none 0 0, .slice none 0 0, .slice none 0 0, .slice (some ⟨w.heap.size, 0, none⟩) 2 2, .slice none 0 0] 30)).size hB)
  have HC := Lib.hid hC
  have HCL := Lib.hid hc
  clear hB hC hc HW3
  go_wp2_with fail
  refine (aw_decode w1 A c HC.out HCL.out).mono ?_
  rintro e w2 ⟨L, rfl, hx, hB⟩
  have HZ := Lib.hid (show (#[.int .u8 0, .int .u8 0, .int .u32 0, .int .u16 0, .int .u16 0, .int .u32 0, .int .u32 0, .int .u32 0, .int .u16 0, .int .u16 0, .slice none 0 0, .slice none 0 0, .slice none 0 0, .slice none 0 0, .slice none 0 0] : Array Value).size = (CV awX L).size from rfl)
  have HO := Lib.hid (CV_one awX L)
  have HI2 := Lib.hid (show (Try.prog.info? 30).map (·.size) = some (CV awX L).size by kernel_rfl)
  go_wp2_with (first | (with_reducible refine gate_dst (N := 4) rfl ?_; go_must (refine wpList_box rfl rfl 4 rfl rfl (.tmp 19) rfl (CV awX L) rfl rfl HZ.out HI2.out HO.out ?_); refine RowKit.Hid.out ?_))
  refine Lib.hid ?_
  have HW4 := Lib.hid (blk_new w2 (.cells (CV awX L) 30))
  replace HW2 := Lib.hid (blk_alloc (blk_below HW2.out hB) (.cells (CV awX L) 30))
  replace HX1 := Lib.hid ((HX1.out.below hB).below (below_alloc (Below.refl _ _) (.cells (CV awX L) 30)))
  have HX2 := Lib.hid (hx.below (below_alloc (Below.refl _ _) (.cells (CV awX L) 30)))
  replace HB1 := Lib.hid (below_alloc (below_then HB1.out HB1.out.size hB) (.cells (CV awX L) 30))
  replace HC := Lib.hid (Kd.C_below (Kd.C_below HC.out hB) (below_alloc (Below.refl _ _) (.cells (CV awX L) 30)))
  clear hB hx HZ HO HI2 HI
  generalize w2.alloc (.cells (CV awX L) 30) = w3 at *
  generalize w2.heap.size = g4 at *
  have u0 := (blk_cell (blk_alloc HW2.out (.cells #[.int .u8 0, .int .u8 3, .int .u8 0, .int .u8 18, .int .u8 0, .int .u8 0, .int .u8 0, .int .u8 1, .int .u8 0, .int .u8 2, .int .u8 0, .int .u8 3, .int .u8 0, .int .u8 0, .int .u8 0, .int .u8 0, .int .u8 104, .int .u8 105, .int .u8 0, .int .u8 0] 5)) 0).trans (show (#[.int .u8 0, .int .u8 3, .int .u32 1, .int .u16 2, .int .u16 3, .int .u32 0, .int .u32 0, .int .u32 0, .int .u16 0, .int .u16 0, .slice none 0 0, .slice none 0 0, .slice none 0 0, .slice (some ⟨w.heap.size, 0, none⟩) 2 2, .slice none 0 0] : Array Value)[0]? = some (.int .u8 0) from rfl)
  have u1 := (blk_cell (blk_alloc HW2.out (.cells #[.int .u8 0, .int .u8 3, .int .u8 0, .int .u8 18, .int .u8 0, .int .u8 0, .int .u8 0, .int .u8 1, .int .u8 0, .int .u8 2, .int .u8 0, .int .u8 3, .int .u8 0, .int .u8 0, .int .u8 0, .int .u8 0, .int .u8 104, .int .u8 105, .int .u8 0, .int .u8 0] 5)) 1).trans (show (#[.int .u8 0, .int .u8 3, .int .u32 1, .int .u16 2, .int .u16 3, .int .u32 0, .int .u32 0, .int .u32 0, .int .u16 0, .int .u16 0, .slice none 0 0, .slice none 0 0, .slice none 0 0, .slice (some ⟨w.heap.size, 0, none⟩) 2 2, .slice none 0 0] : Array Value)[1]? = some (.int .u8 3) from rfl)
  have u2 := (blk_cell (blk_alloc HW2.out (.cells #[.int .u8 0, .int .u8 3, .int .u8 0, .int .u8 18, .int .u8 0, .int .u8 0, .int .u8 0, .int .u8 1, .int .u8 0, .int .u8 2, .int .u8 0, .int .u8 3, .int .u8 0, .int .u8 0, .int .u8 0, .int .u8 0, .int .u8 104, .int .u8 105, .int .u8 0, .int .u8 0] 5)) 2).trans (show (#[.int .u8 0, .int .u8 3, .int .u32 1, .int .u16 2, .int .u16 3, .int .u32 0, .int .u32 0, .int .u32 0, .int .u16 0, .int .u16 0, .slice none 0 0, .slice none 0 0, .slice none 0 0, .slice (some ⟨w.heap.size, 0, none⟩) 2 2, .slice none 0 0] : Array Value)[2]? = some (.int .u32 1) from rfl)
  have u3 := (blk_cell (blk_alloc HW2.out (.cells #[.int .u8 0, .int .u8 3, .int .u8 0, .int .u8 18, .int .u8 0, .int .u8 0, .int .u8 0, .int .u8 1, .int .u8 0, .int .u8 2, .int .u8 0, .int .u8 3, .int .u8 0, .int .u8 0, .int .u8 0, .int .u8 0, .int .u8 104, .int .u8 105, .int .u8 0, .int .u8 0] 5)) 3).trans (show (#[.int .u8 0, .int .u8 3, .int .u32 1, .int .u16 2, .int .u16 3, .int .u32 0, .int .u32 0, .int .u32 0, .int .u16 0, .int .u16 0, .slice none 0 0, .slice none 0 0, .slice none 0 0, .slice (some ⟨w.heap.size, 0, none⟩) 2 2, .slice none 0 0] : Array Value)[3]? = some (.int .u16 2) from rfl)
  have u4 := (blk_cell (blk_alloc HW2.out (.cells #[.int .u8 0, .int .u8 3, .int .u8 0, .int .u8 18, .int .u8 0, .int .u8 0, .int .u8 0, .int .u8 1, .int .u8 0, .int .u8 2, .int .u8 0, .int .u8 3, .int .u8 0, .int .u8 0, .int .u8 0, .int .u8 0, .int .u8 104, .int .u8 105, .int .u8 0, .int .u8 0] 5)) 4).trans (show (#[.int .u8 0, .int .u8 3, .int .u32 1, .int .u16 2, .int .u16 3, .int .u32 0, .int .u32 0, .int .u32 0, .int .u16 0, .int .u16 0, .slice none 0 0, .slice none 0 0, .slice none 0 0, .slice (some ⟨w.heap.size, 0, none⟩) 2 2, .slice none 0 0] : Array Value)[4]? = some (.int .u16 3) from rfl)
  have u5 := (blk_cell (blk_alloc HW2.out (.cells #[.int .u8 0, .int .u8 3, .int .u8 0, .int .u8 18, .int .u8 0, .int .u8 0, .int .u8 0, .int .u8 1, .int .u8 0, .int .u8 2, .int .u8 0, .int .u8 3, .int .u8 0, .int .u8 0, .int .u8 0, .int .u8 0, .int .u8 104, .int .u8 105, .int .u8 0, .int .u8 0] 5)) 5).trans (show (#[.int .u8 0, .int .u8 3, .int .u32 1, .int .u16 2, .int .u16 3, .int .u32 0, .int .u32 0, .int .u32 0, .int .u16 0, .int .u16 0, .slice none 0 0, .slice none 0 0, .slice none 0 0, .slice (some ⟨w.heap.size, 0, none⟩) 2 2, .slice none 0 0] : Array Value)[5]? = some (.int .u32 0) from rfl)
  have u6 := (blk_cell (blk_alloc HW2.out (.cells #[.int .u8 0, .int .u8 3, .int .u8 0, .int .u8 18, .int .u8 0, .int .u8 0, .int .u8 0, .int .u8 1, .int .u8 0, .int .u8 2, .int .u8 0, .int .u8 3, .int .u8 0, .int .u8 0, .int .u8 0, .int .u8 0, .int .u8 104, .int .u8 105, .int .u8 0, .int .u8 0] 5)) 6).trans (show (#[.int .u8 0, .int .u8 3, .int .u32 1, .int .u16 2, .int .u16 3, .int .u32 0, .int .u32 0, .int .u32 0, .int .u16 0, .int .u16 0, .slice none 0 0, .slice none 0 0, .slice none 0 0, .slice (some ⟨w.heap.size, 0, none⟩) 2 2, .slice none 0 0] : Array Value)[6]? = some (.int .u32 0) from rfl)
  have u7 := (blk_cell (blk_alloc HW2.out (.cells #[.int .u8 0, .int .u8 3, .int .u8 0, .int .u8 18, .int .u8 0, .int .u8 0, .int .u8 0, .int .u8 1, .int .u8 0, .int .u8 2, .int .u8 0, .int .u8 3, .int .u8 0, .int .u8 0, .int .u8 0, .int .u8 0, .int .u8 104, .int .u8 105, .int .u8 0, .int .u8 0] 5)) 7).trans (show (#[.int .u8 0, .int .u8 3, .int .u32 1, .int .u16 2, .int .u16 3, .int .u32 0, .int .u32 0, .int .u32 0, .int .u16 0, .int .u16 0, .slice none 0 0, .slice none 0 0, .slice none 0 0, .slice (some ⟨w.heap.size, 0, none⟩) 2 2, .slice none 0 0] : Array Value)[7]? = some (.int .u32 0) from rfl)
  have u8 := (blk_cell (blk_alloc HW2.out (.cells #[.int .u8 0, .int .u8 3, .int .u8 0, .int .u8 18, .int .u8 0, .int .u8 0, .int .u8 0, .int .u8 1, .int .u8 0, .int .u8 2, .int .u8 0, .int .u8 3, .int .u8 0, .int .u8 0, .int .u8 0, .int .u8 0, .int .u8 104, .int .u8 105, .int .u8 0, .int .u8 0] 5)) 8).trans (show (#[.int .u8 0, .int .u8 3, .int .u32 1, .int .u16 2, .int .u16 3, .int .u32 0, .int .u32 0, .int .u32 0, .int .u16 0, .int .u16 0, .slice none 0 0, .slice none 0 0, .slice none 0 0, .slice (some ⟨w.heap.size, 0, none⟩) 2 2, .slice none 0 0] : Array Value)[8]? = some (.int .u16 0) from rfl)
  have u9 := (blk_cell (blk_alloc HW2.out (.cells #[.int .u8 0, .int .u8 3, .int .u8 0, .int .u8 18, .int .u8 0, .int .u8 0, .int .u8 0, .int .u8 1, .int .u8 0, .int .u8 2, .int .u8 0, .int .u8 3, .int .u8 0, .int .u8 0, .int .u8 0, .int .u8 0, .int .u8 104, .int .u8 105, .int .u8 0, .int .u8 0] 5)) 9).trans (show (#[.int .u8 0, .int .u8 3, .int .u32 1, .int .u16 2, .int .u16 3, .int .u32 0, .int .u32 0, .int .u32 0, .int .u16 0, .int .u16 0, .slice none 0 0, .slice none 0 0, .slice none 0 0, .slice (some ⟨w.heap.size, 0, none⟩) 2 2, .slice none 0 0] : Array Value)[9]? = some (.int .u16 0) from rfl)
  have u10 := (blk_cell (blk_alloc HW2.out (.cells #[.int .u8 0, .int .u8 3, .int .u8 0, .int .u8 18, .int .u8 0, .int .u8 0, .int .u8 0, .int .u8 1, .int .u8 0, .int .u8 2, .int .u8 0, .int .u8 3, .int .u8 0, .int .u8 0, .int .u8 0, .int .u8 0, .int .u8 104, .int .u8 105, .int .u8 0, .int .u8 0] 5)) 10).trans (show (#[.int .u8 0, .int .u8 3, .int .u32 1, .int .u16 2, .int .u16 3, .int .u32 0, .int .u32 0, .int .u32 0, .int .u16 0, .int .u16 0, .slice none 0 0, .slice none 0 0, .slice none 0 0, .slice (some ⟨w.heap.size, 0, none⟩) 2 2, .slice none 0 0] : Array Value)[10]? = some (.slice none 0 0) from rfl)
  have u11 := (blk_cell (blk_alloc HW2.out (.cells #[.int .u8 0, .int .u8 3, .int .u8 0, .int .u8 18, .int .u8 0, .int .u8 0, .int .u8 0, .int .u8 1, .int .u8 0, .int .u8 2, .int .u8 0, .int .u8 3, .int .u8 0, .int .u8 0, .int .u8 0, .int .u8 0, .int .u8 104, .int .u8 105, .int .u8 0, .int .u8 0] 5)) 11).trans (show (#[.int .u8 0, .int .u8 3, .int .u32 1, .int .u16 2, .int .u16 3, .int .u32 0, .int .u32 0, .int .u32 0, .int .u16 0, .int .u16 0, .slice none 0 0, .slice none 0 0, .slice none 0 0, .slice (some ⟨w.heap.size, 0, none⟩) 2 2, .slice none 0 0] : Array Value)[11]? = some (.slice none 0 0) from rfl)
  have u12 := (blk_cell (blk_alloc HW2.out (.cells #[.int .u8 0, .int .u8 3, .int .u8 0, .int .u8 18, .int .u8 0, .int .u8 0, .int .u8 0, .int .u8 1, .int .u8 0, .int .u8 2, .int .u8 0, .int .u8 3, .int .u8 0, .int .u8 0, .int .u8 0, .int .u8 0, .int .u8 104, .int .u8 105, .int .u8 0, .int .u8 0] 5)) 12).trans (show (#[.int .u8 0, .int .u8 3, .int .u32 1, .int .u16 2, .int .u16 3, .int .u32 0, .int .u32 0, .int .u32 0, .int .u16 0, .int .u16 0, .slice none 0 0, .slice none 0 0, .slice none 0 0, .slice (some ⟨w.heap.size, 0, none⟩) 2 2, .slice none 0 0] : Array Value)[12]? = some (.slice none 0 0) from rfl)
  have u13 := (blk_cell (blk_alloc HW2.out (.cells #[.int .u8 0, .int .u8 3, .int .u8 0, .int .u8 18, .int .u8 0, .int .u8 0, .int .u8 0, .int .u8 1, .int .u8 0, .int .u8 2, .int .u8 0, .int .u8 3, .int .u8 0, .int .u8 0, .int .u8 0, .int .u8 0, .int .u8 104, .int .u8 105, .int .u8 0, .int .u8 0] 5)) 13).trans (show (#[.int .u8 0, .int .u8 3, .int .u32 1, .int .u16 2, .int .u16 3, .int .u32 0, .int .u32 0, .int .u32 0, .int .u16 0, .int .u16 0, .slice none 0 0, .slice none 0 0, .slice none 0 0, .slice (some ⟨w.heap.size, 0, none⟩) 2 2, .slice none 0 0] : Array Value)[13]? = some (.slice (some ⟨w.heap.size, 0, none⟩) 2 2) from rfl)
  have u14 := (blk_cell (blk_alloc HW2.out (.cells #[.int .u8 0, .int .u8 3, .int .u8 0, .int .u8 18, .int .u8 0, .int .u8 0, .int .u8 0, .int .u8 1, .int .u8 0, .int .u8 2, .int .u8 0, .int .u8 3, .int .u8 0, .int .u8 0, .int .u8 0, .int .u8 0, .int .u8 104, .int .u8 105, .int .u8 0, .int .u8 0] 5)) 14).trans (show (#[.int .u8 0, .int .u8 3, .int .u32 1, .int .u16 2, .int .u16 3, .int .u32 0, .int .u32 0, .int .u32 0, .int .u16 0, .int .u16 0, .slice none 0 0, .slice none 0 0, .slice none 0 0, .slice (some ⟨w.heap.size, 0, none⟩) 2 2, .slice none 0 0] : Array Value)[14]? = some (.slice none 0 0) from rfl)
  have v0 := (blk_cell (blk_alloc HW4.out (.cells #[.int .u8 0, .int .u8 3, .int .u8 0, .int .u8 18, .int .u8 0, .int .u8 0, .int .u8 0, .int .u8 1, .int .u8 0, .int .u8 2, .int .u8 0, .int .u8 3, .int .u8 0, .int .u8 0, .int .u8 0, .int .u8 0, .int .u8 104, .int .u8 105, .int .u8 0, .int .u8 0] 5)) 0).trans (show (CV awX L)[0]? = some (.int .u8 0) from rfl)
  have v1 := (blk_cell (blk_alloc HW4.out (.cells #[.int .u8 0, .int .u8 3, .int .u8 0, .int .u8 18, .int .u8 0, .int .u8 0, .int .u8 0, .int .u8 1, .int .u8 0, .int .u8 2, .int .u8 0, .int .u8 3, .int .u8 0, .int .u8 0, .int .u8 0, .int .u8 0, .int .u8 104, .int .u8 105, .int .u8 0, .int .u8 0] 5)) 1).trans (show (CV awX L)[1]? = some (.int .u8 3) from rfl)
  have v2 := (blk_cell (blk_alloc HW4.out (.cells #[.int .u8 0, .int .u8 3, .int .u8 0, .int .u8 18, .int .u8 0, .int .u8 0, .int .u8 0, .int .u8 1, .int .u8 0, .int .u8 2, .int .u8 0, .int .u8 3, .int .u8 0, .int .u8 0, .int .u8 0, .int .u8 0, .int .u8 104, .int .u8 105, .int .u8 0, .int .u8 0] 5)) 2).trans (show (CV awX L)[2]? = some (.int .u32 1) from rfl)
  have v3 := (blk_cell (blk_alloc HW4.out (.cells #[.int .u8 0, .int .u8 3, .int .u8 0, .int .u8 18, .int .u8 0, .int .u8 0, .int .u8 0, .int .u8 1, .int .u8 0, .int .u8 2, .int .u8 0, .int .u8 3, .int .u8 0, .int .u8 0, .int .u8 0, .int .u8 0, .int .u8 104, .int .u8 105, .int .u8 0, .int .u8 0] 5)) 3).trans (show (CV awX L)[3]? = some (.int .u16 2) from rfl)
  have v4 := (blk_cell (blk_alloc HW4.out (.cells #[.int .u8 0, .int .u8 3, .int .u8 0, .int .u8 18, .int .u8 0, .int .u8 0, .int .u8 0, .int .u8 1, .int .u8 0, .int .u8 2, .int .u8 0, .int .u8 3, .int .u8 0, .int .u8 0, .int .u8 0, .int .u8 0, .int .u8 104, .int .u8 105, .int .u8 0, .int .u8 0] 5)) 4).trans (show (CV awX L)[4]? = some (.int .u16 3) from rfl)
  have v5 := (blk_cell (blk_alloc HW4.out (.cells #[.int .u8 0, .int .u8 3, .int .u8 0, .int .u8 18, .int .u8 0, .int .u8 0, .int .u8 0, .int .u8 1, .int .u8 0, .int .u8 2, .int .u8 0, .int .u8 3, .int .u8 0, .int .u8 0, .int .u8 0, .int .u8 0, .int .u8 104, .int .u8 105, .int .u8 0, .int .u8 0] 5)) 5).trans (show (CV awX L)[5]? = some (.int .u32 0) from rfl)
  have v6 := (blk_cell (blk_alloc HW4.out (.cells #[.int .u8 0, .int .u8 3, .int .u8 0, .int .u8 18, .int .u8 0, .int .u8 0, .int .u8 0, .int .u8 1, .int .u8 0, .int .u8 2, .int .u8 0, .int .u8 3, .int .u8 0, .int .u8 0, .int .u8 0, .int .u8 0, .int .u8 104, .int .u8 105, .int .u8 0, .int .u8 0] 5)) 6).trans (show (CV awX L)[6]? = some (.int .u32 0) from rfl)
  have v7 := (blk_cell (blk_alloc HW4.out (.cells #[.int .u8 0, .int .u8 3, .int .u8 0, .int .u8 18, .int .u8 0, .int .u8 0, .int .u8 0, .int .u8 1, .int .u8 0, .int .u8 2, .int .u8 0, .int .u8 3, .int .u8 0, .int .u8 0, .int .u8 0, .int .u8 0, .int .u8 104, .int .u8 105, .int .u8 0, .int .u8 0] 5)) 7).trans (show (CV awX L)[7]? = some (.int .u32 0) from rfl)
  have v8 := (blk_cell (blk_alloc HW4.out (.cells #[.int .u8 0, .int .u8 3, .int .u8 0, .int .u8 18, .int .u8 0, .int .u8 0, .int .u8 0, .int .u8 1, .int .u8 0, .int .u8 2, .int .u8 0, .int .u8 3, .int .u8 0, .int .u8 0, .int .u8 0, .int .u8 0, .int .u8 104, .int .u8 105, .int .u8 0, .int .u8 0] 5)) 8).trans (show (CV awX L)[8]? = some (.int .u16 0) from rfl)
  have v9 := (blk_cell (blk_alloc HW4.out (.cells #[.int .u8 0, .int .u8 3, .int .u8 0, .int .u8 18, .int .u8 0, .int .u8 0, .int .u8 0, .int .u8 1, .int .u8 0, .int .u8 2, .int .u8 0, .int .u8 3, .int .u8 0, .int .u8 0, .int .u8 0, .int .u8 0, .int .u8 104, .int .u8 105, .int .u8 0, .int .u8 0] 5)) 9).trans (show (CV awX L)[9]? = some (.int .u16 0) from rfl)
  have v10 := (blk_cell (blk_alloc HW4.out (.cells #[.int .u8 0, .int .u8 3, .int .u8 0, .int .u8 18, .int .u8 0, .int .u8 0, .int .u8 0, .int .u8 1, .int .u8 0, .int .u8 2, .int .u8 0, .int .u8 3, .int .u8 0, .int .u8 0, .int .u8 0, .int .u8 0, .int .u8 104, .int .u8 105, .int .u8 0, .int .u8 0] 5)) 10).trans (show (CV awX L)[10]? = some (.slice L.A10 0 L.c10) from rfl)
  have v11 := (blk_cell (blk_alloc HW4.out (.cells #[.int .u8 0, .int .u8 3, .int .u8 0, .int .u8 18, .int .u8 0, .int .u8 0, .int .u8 0, .int .u8 1, .int .u8 0, .int .u8 2, .int .u8 0, .int .u8 3, .int .u8 0, .int .u8 0, .int .u8 0, .int .u8 0, .int .u8 104, .int .u8 105, .int .u8 0, .int .u8 0] 5)) 11).trans (show (CV awX L)[11]? = some (.slice L.A11 0 L.c11) from rfl)
  have v12 := (blk_cell (blk_alloc HW4.out (.cells #[.int .u8 0, .int .u8 3, .int .u8 0, .int .u8 18, .int .u8 0, .int .u8 0, .int .u8 0, .int .u8 1, .int .u8 0, .int .u8 2, .int .u8 0, .int .u8 3, .int .u8 0, .int .u8 0, .int .u8 0, .int .u8 0, .int .u8 104, .int .u8 105, .int .u8 0, .int .u8 0] 5)) 12).trans (show (CV awX L)[12]? = some (.slice L.A12 0 L.c12) from rfl)
  have v13 := (blk_cell (blk_alloc HW4.out (.cells #[.int .u8 0, .int .u8 3, .int .u8 0, .int .u8 18, .int .u8 0, .int .u8 0, .int .u8 0, .int .u8 1, .int .u8 0, .int .u8 2, .int .u8 0, .int .u8 3, .int .u8 0, .int .u8 0, .int .u8 0, .int .u8 0, .int .u8 104, .int .u8 105, .int .u8 0, .int .u8 0] 5)) 13).trans (show (CV awX L)[13]? = some (.slice L.A13 2 L.c13) from rfl)
  have v14 := (blk_cell (blk_alloc HW4.out (.cells #[.int .u8 0, .int .u8 3, .int .u8 0, .int .u8 18, .int .u8 0, .int .u8 0, .int .u8 0, .int .u8 1, .int .u8 0, .int .u8 2, .int .u8 0, .int .u8 3, .int .u8 0, .int .u8 0, .int .u8 0, .int .u8 0, .int .u8 104, .int .u8 105, .int .u8 0, .int .u8 0] 5)) 14).trans (show (CV awX L)[14]? = some (.slice L.A14 0 L.c14) from rfl)
  have r1 : (convert 22 9 (.slice A 20 c)).run Try.prog w3 = .ok (.string (bstr awL)) w3 := run_bstr HC.out
  have r2 : (convert 22 9 (.slice (some ⟨w3.heap.size, 0, none⟩) 20 20)).run Try.prog (w3.alloc (.cells #[.int .u8 0, .int .u8 3, .int .u8 0, .int .u8 18, .int .u8 0, .int .u8 0, .int .u8 0, .int .u8 1, .int .u8 0, .int .u8 2, .int .u8 0, .int .u8 3, .int .u8 0, .int .u8 0, .int .u8 0, .int .u8 0, .int .u8 104, .int .u8 105, .int .u8 0, .int .u8 0] 5)) = .ok (.string (bstr awL)) (w3.alloc (.cells #[.int .u8 0, .int .u8 3, .int .u8 0, .int .u8 18, .int .u8 0, .int .u8 0, .int .u8 0, .int .u8 1, .int .u8 0, .int .u8 2, .int .u8 0, .int .u8 3, .int .u8 0, .int .u8 0, .int .u8 0, .int .u8 0, .int .u8 104, .int .u8 105, .int .u8 0, .int .u8 0] 5)) := run_bstr (n := 20) (row_lit byte rfl w3 5 (#[.int .u8 0, .int .u8 3, .int .u8 0, .int .u8 18, .int .u8 0, .int .u8 0, .int .u8 0, .int .u8 1, .int .u8 0, .int .u8 2, .int .u8 0, .int .u8 3, .int .u8 0, .int .u8 0, .int .u8 0, .int .u8 0, .int .u8 104, .int .u8 105, .int .u8 0, .int .u8 0]).toList awL rfl (by decide) (lit_byte w3 awL rfl))
  have HR := Lib.hid (fun (W : World) (h : Below w3.heap.size w3 W) => rsame_calls W awX awX ⟨none, 0, none, 0, none, 0, some ⟨w.heap.size, 0, none⟩, 2, none, 0⟩ L (HX1.out.below h) (HX2.out.below h) aw_ok aw_ok)
  generalize bstr awL = sb at *
  clear HW2 HW4 HX1 HX2 HC HCL
  have hbb := below_alloc (Below.refl w3.heap.size w3) (.cells #[.int .u8 0, .int .u8 3, .int .u8 0, .int .u8 18, .int .u8 0, .int .u8 0, .int .u8 0, .int .u8 1, .int .u8 0, .int .u8 2, .int .u8 0, .int .u8 3, .int .u8 0, .int .u8 0, .int .u8 0, .int .u8 0, .int .u8 104, .int .u8 105, .int .u8 0, .int .u8 0] 5)
  have HBB := Lib.hid hbb
  replace HB1 := Lib.hid (below_alloc HB1.out (.cells #[.int .u8 0, .int .u8 3, .int .u8 0, .int .u8 18, .int .u8 0, .int .u8 0, .int .u8 0, .int .u8 1, .int .u8 0, .int .u8 2, .int .u8 0, .int .u8 3, .int .u8 0, .int .u8 0, .int .u8 0, .int .u8 0, .int .u8 104, .int .u8 105, .int .u8 0, .int .u8 0] 5))
  clear hbb
  go_wp2_with fail
  refine (HR.out _ HBB.out).mono ?_
  rintro e w5 ⟨rfl, hB⟩
  rw [show decide True = true from rfl]
  replace HB1 := Lib.hid (below_then HB1.out HB1.out.size hB)
  clear HR r1 r2
  go_wp2
  go_ret
  exact ⟨rfl, HB1.out⟩
end Go.Proofs.Ytjmadnpicidbeaa.Ch
end
section
namespace Go.Proofs.Ytjmadnpicidbeaa.Base
open Go.ChangeShapes Go.WideShapes Go.ChangeAt Go.RowKit Go.Proofs.YtjmadnpicidbeaaW.PrintWords
set_option maxRecDepth 100000
set_option linter.unusedVariables false
set_option linter.unusedSimpArgs false
theorem bulk_one {H : Type} (d : DataW H) : 1 ≤ Rows.uptoBulk d := by
  cases d with
  | lit l => cases l <;> simp [Rows.uptoBulk]
  | nil => simp [Rows.uptoBulk]
  | ptr d => simp [Rows.uptoBulk]
  | slice elems spare => simp [Rows.uptoBulk]
  | agg parts => simp [Rows.uptoBulk]
  | iface t d => simp [Rows.uptoBulk]
  | map entries => simp [Rows.uptoBulk]
  | held h => simp [Rows.uptoBulk]
theorem bulk_sum {H : Type} {α : Type} (l : List (DataW H)) (xs : List α) (wt : α → Nat) (hl : xs.length = l.length) (h : ∀ (i : Nat) (x : α) (d : DataW H), xs[i]? = some x → l[i]? = some d → wt x ≤ Rows.uptoBulk d) : (xs.map wt).sum ≤ Rows.uptoBulkAll l := by
  induction l generalizing xs with
  | nil =>
    cases xs with
    | nil => simp
    | cons x xs => simp at hl
  | cons d l ih =>
    cases xs with
    | nil => simp at hl
    | cons x xs =>
      have h1 := h 0 x d rfl rfl
      have h2 := ih xs (by simpa using hl) (fun i x d hx hd => h (i + 1) x d (by simpa using hx) (by simpa using hd))
      simp only [List.map_cons, List.sum_cons, Rows.uptoBulkAll]
      omega
def Opens {α : Type} (t : TypeId) (d : Kd α) (wt : α → Nat) : Prop :=
  ∀ {H : Type} (enc : TypeId × Value → H) (W : World) (fuel : Nat) (cs : List Value) (D : DataW H) (p : List MemPlace), DataW.trod enc Try.prog W 0 (fun _ => true) true fuel t cs = some (D, p) → ∃ x, d.K W x cs ∧ wt x ≤ Rows.uptoBulk D
theorem Opens.int {α : Type} {t : TypeId} {k : IntKind} {enc : α → Value} {h1 : ∀ x : α, (enc x).oneCell' = true} (dec : Int → α) (ht : Try.prog.underlying t = some (.int k)) (hd : ∀ n, (Lit.int k n).wf = true → enc (dec n) = .int k n) : Opens t (Kd.scalar enc h1) (fun _ => 1) := by
  intro H enc W fuel cs D p h
  obtain ⟨n, rfl, hx, hw⟩ := DataW.trod_int ht h
  exact ⟨dec n, by show _ = _; rw [hd n hw], bulk_one D⟩
theorem Opens.bool {t : TypeId} (ht : Try.prog.underlying t = some .bool) : Opens t Kd.bool (fun _ => 1) := by
  intro H enc W fuel cs D p h
  obtain ⟨b, rfl, hx⟩ := DataW.trod_bool ht h
  exact ⟨b, rfl, bulk_one D⟩
theorem Opens.byte : Opens 5 Base.byte (fun _ => 1) := Opens.int (fun n => UInt8.ofNat n.toNat) Try.underlying5 (fun n hw => by rw [u8_of_wf hw])
theorem Opens.slice {α : Type} {t e : TypeId} {d : Kd α} {wt : α → Nat} (ho : Opens e d wt) (ht : Try.prog.underlying t = some (.slice e)) (hc : Try.prog.cellsOf e = d.sz) : Opens t (Kd.slice e d) (fun xs => (xs.map wt).sum + 1) := by
  intro H enc W fuel cs D p h
  rcases Go.Deep.open_slice ht h with ⟨rfl, hx⟩ | ⟨a, len, cap, m, n, Ds, Pl, rfl, hb, hl, hm, hmm, hxx, hel⟩
  · exact ⟨[], ⟨none, 0, rfl, Nat.le_refl _, Kd.C_nil d W⟩, bulk_one D⟩
  · have hmc : m = cap := by simpa using hmm
    subst hmc
    simp only [Prod.mk.injEq] at hxx
    obtain ⟨rfl, rfl⟩ := hxx
    have hone : ∀ i, i < len → ∃ x cs', W.cells? 0 (a.add (i * d.sz)) d.sz = some cs' ∧ d.K W x cs' ∧ wt x ≤ Rows.uptoBulk (Ds i) := by
      intro i hi
      obtain ⟨cs', h1, h2⟩ := hel i (by omega)
      obtain ⟨x, hk, hw⟩ := ho enc W n cs' (Ds i) (Pl i) h2
      rw [hc] at h1
      exact ⟨x, cs', h1, hk, hw⟩
    cases hlen : len with
    | zero =>
      refine ⟨[], ⟨some a, m, rfl, Nat.zero_le _, ⟨rfl, by simp, fun h0 => by simp at h0⟩⟩, ?_⟩
      exact bulk_one _
    | succ len' =>
      obtain ⟨x0, _⟩ := hone 0 (by omega)
      have hx : ∀ i, ∃ x, i < len → ∃ cs', W.cells? 0 (a.add (i * d.sz)) d.sz = some cs' ∧ d.K W x cs' ∧ wt x ≤ Rows.uptoBulk (Ds i) := by
        intro i
        by_cases hi : i < len
        · obtain ⟨x, hx⟩ := hone i hi
          exact ⟨x, fun _ => hx⟩
        · exact ⟨x0, fun h0 => absurd h0 hi⟩
      rw [← hlen]
      have hll : ((List.range len).map fun i => (hx i).choose).length = len := by simp
      have hget : ∀ j x, ((List.range len).map fun i => (hx i).choose)[j]? = some x → j < len ∧ x = (hx j).choose := by
        intro j x hj
        have hjl : j < len := by have := (List.getElem?_eq_some_iff.1 hj).1; simpa using this
        rw [List.getElem?_map, List.getElem?_range hjl] at hj
        exact ⟨hjl, (Option.some.inj hj).symm⟩
      refine ⟨(List.range len).map fun i => (hx i).choose, ⟨some a, m, by rw [hll], by rw [hll]; exact hl, ⟨rfl, by rw [hll]; simp only [maxLen] at hm; omega, fun _ => ⟨a, rfl, fun j x hj => ?_⟩⟩⟩, ?_⟩
      · obtain ⟨hjl, rfl⟩ := hget j x hj
        obtain ⟨cs', h1, h2, _⟩ := (hx j).choose_spec hjl
        obtain ⟨_, hlen2, hcell⟩ := World.cells?_some h1
        refine ⟨cs', hlen2, h2, fun i u hu => ?_⟩
        have hi : i < d.sz := by have := (List.getElem?_eq_some_iff.1 hu).1; omega
        have := hcell i hi
        rw [hu] at this
        rw [← this, Go.Deep.add_add]
      · have hs := bulk_sum ((List.range len).map Ds) ((List.range len).map fun i => (hx i).choose) wt (by simp) (fun i x D hxi hD => by
          obtain ⟨hjl, rfl⟩ := hget i x hxi
          rw [List.getElem?_map, List.getElem?_range hjl] at hD
          obtain rfl := Option.some.inj hD
          obtain ⟨_, _, _, h3⟩ := (hx i).choose_spec hjl
          exact h3)
        simp only [Rows.uptoBulk]
        omega
theorem Opens.arg {α : Type} {t e : TypeId} {d : Kd α} {wt : List α → Nat} (ho : Opens t (Kd.slice e d) wt) {H : Type} {enc : TypeId × Value → H} {W : World} {a : Option Addr} {len cap : Nat} {D : DataW H} {p : List MemPlace} (h : DataW.Trod enc Try.prog W 0 (fun _ => true) true t (.slice a len cap) D p) :
    ∃ xs : List α, len = xs.length ∧ xs.length ≤ cap ∧ d.C W a xs.length xs ∧ wt xs ≤ Rows.uptoBulk D := by
  obtain ⟨fuel, hf⟩ := h
  obtain ⟨xs, ⟨A, c, he, hl, hC⟩, hw⟩ := ho enc W fuel _ D p hf
  simp [Value.cells] at he
  obtain ⟨rfl, rfl, rfl⟩ := he
  exact ⟨xs, rfl, hl, hC, hw⟩
theorem Opens.bytes : Opens 22 (Kd.slice 5 Base.byte) (fun xs => (xs.map (fun _ => 1)).sum + 1) := Opens.slice Opens.byte Try.underlying22 cells_u8
theorem sum_ones {α : Type} (l : List α) : (l.map (fun _ => 1)).sum = l.length := by
  induction l with
  | nil => rfl
  | cons x l ih => simp only [List.map_cons, List.sum_cons, List.length_cons, ih]; omega
theorem bulk_part {H : Type} {l gs : List (DataW H)} (hk : Rows.uptoSmall H (l ++ gs) = true) {j : Nat} {d : DataW H} (hj : l[j]? = some d) : Rows.uptoBulk d ≤ 1048576 := by
  have h1 : Rows.uptoBulkAll (l ++ gs) ≤ 1048576 := by simpa [Rows.uptoSmall] using hk
  have h2 : ∀ (m : List (DataW H)), d ∈ m → Rows.uptoBulk d ≤ Rows.uptoBulkAll m := by
    intro m
    induction m with
    | nil => intro h; cases h
    | cons x r ih =>
      intro h
      simp only [Rows.uptoBulkAll]
      rcases List.mem_cons.1 h with rfl | h
      · omega
      · have := ih h
        omega
  have := h2 (l ++ gs) (List.mem_append_left _ (List.mem_of_getElem? hj))
  omega
theorem Opens.iso {α β : Type} {t : TypeId} {d : Kd α} {wt : α → Nat} (o : Opens t d wt) (f : β → α) (g : α → β) (hfg : ∀ x, f (g x) = x) : Opens t (Kd.iso d f) (fun x => wt (f x)) := by
  intro H enc W fuel cs D p h
  obtain ⟨x, hk, hw⟩ := o enc W fuel cs D p h
  exact ⟨g x, by show d.K W (f (g x)) cs; rw [hfg]; exact hk, by show wt (f (g x)) ≤ _; rw [hfg]; exact hw⟩
end Go.Proofs.Ytjmadnpicidbeaa.Base
end
section
namespace Go.Proofs.Ytjmadnpicidbeaa.Ch
open Go.RowKit Go.Proofs.YtjmadnpicidbeaaW.PrintWords Go.Proofs.YtjmadnpicidbeaaW.PrintLast Go.Proofs.Ytjmadnpicidbeaa.Base Go.Proofs.Ytjmadnpicidbeaa.PCh Go.Proofs.Ytjmadnpicidbeaa.ParDec
set_option maxRecDepth 100000
set_option linter.unusedVariables false
set_option linter.unusedSimpArgs false
set_option maxHeartbeats 4000000 in
theorem alls_row {w : World} (A : Option Addr) (c : Nat) (b : List UInt8) (hb : byte.C w A b.length b) (hc : b.length ≤ c) (hu0 : (b.map fun _ => 1).sum + 1 ≤ 1048576) :
    Calls Try.prog 7 #[.slice A b.length c] w fun e w' => e = .returned (.bool true) ∧ Below w.heap.size w w' := by
  have hu : b.length ≤ 1048576 := by rw [sum_ones] at hu0; omega
  clear hu0
  have H1 := Lib.hid (all_calls2 w A b c hb hc hu)
  have H2 := Lib.hid (fun (W : World) (h : Below w.heap.size w W) => rall_calls W A b c (Kd.C_below hb h) hc hu)
  have ho := all_okB b (b.length + 1) 0 [] (fun _ h => by cases h)
  rw [show (allD (b.length + 1) b 0 []) = allL b from rfl] at ho
  generalize allL b = D at *
  obtain ⟨xs, n, er⟩ := D
  dsimp only at H1 H2 ho
  have HO := Lib.hid ho
  clear ho hb
  go_enter Try.func7, Try.ntmps7
  go_wp2_with fail
  refine H1.out.mono ?_
  rintro e w1 ⟨v1, rfl, hR1, hB1⟩
  obtain ⟨A1, c1, rfl, hl1, hC1⟩ := Kd.R_reads hR1
  have HC1 := Lib.hid (fun (W : World) (h : Below w1.heap.size w1 W) => Kd.C_below hC1 h)
  have HB1 := Lib.hid hB1
  clear hR1 hC1 hB1
  go_wp2_with fail
  refine (H2.out w1 HB1.out).mono ?_
  rintro e w2 ⟨v2, rfl, hR2, hB2⟩
  obtain ⟨A2, c2, rfl, hl2, hC2⟩ := Kd.R_reads hR2
  have HS := Lib.hid (allsame_calls w2 A1 A2 c1 c2 xs xs (HC1.out _ hB2) hC2 HO.out HO.out)
  rw [show decide (xs = xs) = true from decide_eq_true rfl] at HS
  have HB2 := Lib.hid (below_then HB1.out HB1.out.size hB2)
  clear hR2 hC2 hB2 HC1
  generalize xs.length = xl at *
  go_wp2_with fail
  refine HS.out.mono ?_
  rintro e w3 ⟨rfl, hB3⟩
  have HB3 := Lib.hid (below_then HB2.out HB2.out.size hB3)
  clear hB3
  go_wp2_with fail
  refine (awake_calls w3).mono ?_
  rintro e w4 ⟨rfl, hB4⟩
  have HB4 := Lib.hid (below_then HB3.out HB3.out.size hB4)
  clear hB4
  go_wp2
  go_ret
  exact ⟨rfl, HB4.out⟩
end Go.Proofs.Ytjmadnpicidbeaa.Ch
end
section
namespace Go.Proofs.Ytjmadnpicidbeaa.chunkAlls
open Go.ChangeShapes Go.WideShapes Go.ChangeAt Go.RowKit Go.Proofs.Ytjmadnpicidbeaa.Base
open Go.ChangeMaps (open_string shut_string)
set_option linter.unusedVariables false
set_option maxRecDepth 100000 in
theorem contract (H : Type) (enc : TypeId × Value → H) (W : World) (base : Nat) (args : Array Value) (ds gs : List (DataW H)) (before : List MemPlace)
    (hval : ∀ (j : Nat) t v, Try.f7.params[j]? = some t → args[j]? = some v → Value.okWide Try.prog W .any base t v)
    (hW : DataW.Whole enc Try.prog Try.f7.params.toList Rows.chunkAllsSpec.vars false W args.toList ds gs before)
    (hsz0 : (DataW.weightsEach Try.prog (Try.f7.params.toList ++ (Rows.OpenSpec.upto Rows.chunkAllsSpec).bare.plain.varTypes Try.prog) (ds ++ gs)).all (· ≤ reachBytes) = true)
    (hL : laidMetH Try.prog Rows.chunkAllsUptoRow.laid W) (hk : Rows.uptoSmall H (ds ++ gs) = true) :
    Calls Try.prog 7 args W fun e W' => ∃ v, e = .returned v ∧ Rows.chunkAllsSpec.post enc Try.prog Try.f7 false true false false W args v W' := by
  have hW' := hW
  obtain ⟨p, q, hA0, hV, rfl, hfz, hnd⟩ := hW
  have hA : DataW.TrodAll enc Try.prog W 0 (fun _ => true) true Try.f7.params.toList args.toList ds p := hA0
  rw [Try.params7] at hA hval
  obtain ⟨v0, vs0, d0, ds0, p0, q0, hargs, rfl, rfl, h0, r0⟩ := trodAll_cons hA
  obtain ⟨rfl, rfl, rfl⟩ := trodAll_nil r0
  obtain rfl : args = #[v0] := by cases args; simp_all
  obtain ⟨rfl, rfl⟩ := trodVars_none hV
  have hsz := hsz0
  rw [Try.params7] at hsz
  obtain ⟨a0, len0, cap0, rfl⟩ := okWide_slice Try.underlying22 (hval 0 22 v0 rfl rfl)
  have k0 := h0
  have lt0 : ∀ x ∈ p0, x.block < W.heap.size := by obtain ⟨m, hm⟩ := k0; exact DataW.trod_lt m _ _ _ hm
  obtain ⟨l0, rfl, hc0, hb0, hw0⟩ := Opens.arg Opens.bytes h0
  clear hA0 hsz hsz0
  refine (Ch.alls_row a0 cap0 l0 hb0 hc0 (Nat.le_trans hw0 (bulk_part hk (j := 0) rfl))).mono fun e W' ⟨he, bel⟩ => ?_
  subst he
  exact ⟨_, rfl, _, _, _, [], _, [], hW', trodAll_mk1 (shut_bool Try.underlying4 _), (trodAll_cons_mk (Below.trod laidOut (by kernel_rfl) (of_decide_eq_true (by kernel_rfl)) k0 bel lt0) trodAll_mk0), rfl, bel.frame _, fun h => by cases h⟩
noncomputable def laidWorld (os : Os) : World := World.holding Try.prog os ⟨#[], #[], []⟩
theorem laid_met (os : Os) : laidMet Try.prog Rows.chunkAllsUptoRow.laid ((laidWorld os).forCall (fun _ _ => 0) ⟨#[], #[.slice none 0 0], []⟩).memory :=
  laidMet_of_run' 8 (by kernel_rfl) (by kernel_rfl)
theorem reads (os : Os) {H : Type} (enc : TypeId × Value → H) : ∃ places, DataW.whole enc Try.prog ((laidWorld os).forCall (fun _ _ => 0) ⟨#[], #[.slice none 0 0], []⟩).memory Try.f7.params.toList Rows.chunkAllsSpec.vars false (#[.slice none 0 0] : Array Value).toList 8 = some ([.nil], [], places) :=
  ⟨[], by kernel_rfl⟩
set_option maxRecDepth 100000 in
theorem lifted (os : Os) (started : os.Started) (H : Type) (enc : TypeId × Value → H) (F : Stop.Interp) :
    ReturnsInHanded {} Try.checked os 7 .any ((Rows.OpenSpec.upto Rows.chunkAllsSpec).preRow enc Try.prog Try.f7 Rows.chunkAllsUptoRow.domain false Rows.chunkAllsUptoRow.laid) (((Rows.OpenSpec.upto Rows.chunkAllsSpec).at F).post enc Try.prog Try.f7 false true false false) := by
  obtain ⟨places, hx⟩ := reads os enc
  refine returnsInHanded_of_row (C := Try.checked) (s := (Rows.OpenSpec.upto Rows.chunkAllsSpec)) own started (by kernel_rfl) Try.func7
    (witness_row_at (enc := enc) (C := Try.checked) false (laidWorld os) #[.slice none 0 0] rfl (by kernel_rfl) (by kernel_rfl) (by kernel_rfl)
      (OpenSpec.preRow_of_cond 8 hx (by kernel_rfl) (fun k hk => by cases hk; kernel_rfl) (by kernel_rfl) (laid_met os))) ?_
  intro W base args ds gs before hval hW _ hcond hsz hL _ _
  exact contract H enc W base args ds gs before hval hW hsz hL (hcond _ rfl)
theorem said : Rows.ChunkAllsUptoSaid :=
  OpenClaim.holds_of_cond 7 Try.f7 rfl rfl rfl rfl rfl rfl rfl ⟨rfl, rfl, rfl, rfl, rfl⟩ rfl rfl rfl rfl rfl (by kernel_rfl) Try.func7 (by kernel_rfl)
    (of_decide_eq_true (by kernel_rfl)) (by unfold Func.isWrapper; first | (rw [if_pos (by decide +kernel)]; kernel_rfl) | (rw [if_neg (by decide +kernel)]; exact ⟨rfl, rfl⟩))
    (fun os started H enc _ F => by rw [OpenClaim.pre_eq_preRow]; exact lifted os started H enc F)
theorem chunkAlls_holds : Rows.ChunkAllsUptoSaid := said
#print axioms chunkAlls_holds
end Go.Proofs.Ytjmadnpicidbeaa.chunkAlls
end
