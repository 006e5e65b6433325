/- The texts of one proof, merged: part 5. -/
import Derived.Test.YthiaakjbapgibaaGreatSa4
import Derived.Laws.Tables
import Derived.Laws.CopyOwn
import Derived.BigQuiet
import Derived.MapKept
import Derived.Carry
import Derived.Deep.CutRange
import Derived.Laws.Rows
import Derived.StillTailTactics
import Derived.WalkSpells
import Derived.Deep.RegionWith
set_option maxRecDepth 100000
set_option linter.unusedVariables false
set_option linter.unusedSimpArgs false
section
namespace Go.Proofs.YthiaakjbapgibaaGreat.As
open Go.RowKit YthiaakjbapgibaaGreatW.PrintWords YthiaakjbapgibaaGreatW.PrintLast Base PCh
def rstT7 : Bool × List (List Nat × List Nat) := (true, [([], []), ([], []), ([], []), ([2], [2]), ([], []), ([4], [4]), ([0, 0, 2, 3], [0]), ([6, 0, 2, 3], [6]), ([7, 0, 2, 3], [7]), ([8, 3, 0, 2, 3], [3, 8]), ([1, 0, 1, 2, 3, 4, 5, 6, 7, 8, 9], [1]), ([10, 0, 1, 2, 3, 4, 5, 6, 7, 8, 9], [10]), ([11, 0, 1, 2, 3, 4, 5, 6, 7, 8, 9], [11]), ([12, 5, 9, 0, 1, 2, 3, 4, 5, 6, 7, 8, 9], [5, 12])])
def rstB7 : List Nat := [0, 0, 0, 4, 0, 16, 13, 77, 205, 461, 1023, 2047, 4095, 8191]
theorem rsttab7 : Go.Proofs.YthiaakjbapgibaaGreatW.PrintLast.rtab .any (Go.Proofs.YthiaakjbapgibaaGreatW.PrintLast.opsOf Tryz.f118 7) = rstT7 := by kernel_rfl
theorem rstbits7 : Go.Proofs.YthiaakjbapgibaaGreatW.PrintLast.waitsOk rstT7.2 rstB7 = true := by kernel_rfl
def offP (X : Nat → Nat) : Pr := ⟨(X 5 : Nat), (X 7 : Nat), (X 8 : Nat), (X 9 : Nat), (X 10 : Nat)⟩
def PV (p : Pr) : Array Value := #[.int .u32 p.f0, .int .u32 p.f1, .int .u32 p.f2, .int .u16 p.f3, .int .u16 p.f4]
theorem offered_results (tmps : Array Value) (w : World) (a : Nat) (cs : Array Value) (t0 : tmps.getD 2 undef = .pointer (some ⟨a, 0, none⟩)) (h0 : w.heap[a]? = some (.cells cs 71 (0, 0))) (hcs : cs.size = 5) : (results Tryz.f116 tmps).run Tryz.prog w = .ok (.agg cs) w := by
 have hi : (Tryz.prog.info? 71).map (·.size) = some cs.size := by rw [hcs]; kernel_rfl
 have hl := run_loadVar_row w a 71 71 cs (0, 0) _ h0 Tryz.underlying71 rfl hi
 rw [Array.getD_eq_getD_getElem?] at t0
 simp [results, Tryz.results116, asAddr, t0, hl]
theorem offered_calls (w : World) (X : Nat → Nat) : Calls Tryz.prog 116 #[.agg (Go.Proofs.YthiaakjbapgibaaGreat.Ck.offV X)] w fun e w' => e = .returned (.agg (PV (offP X))) ∧ Below w.heap.size w w' := by
 obtain ⟨h1, h2, _, h4⟩ := boxes3 w (.cells (Go.Proofs.YthiaakjbapgibaaGreat.Ck.offV X) 106) (.cells #[.int .u32 0, .int .u32 0, .int .u32 0, .int .u16 0, .int .u16 0] 71) (.cells #[] 0)
 have hb1 : ((w.alloc (.cells (Go.Proofs.YthiaakjbapgibaaGreat.Ck.offV X) 106)).alloc (.cells #[.int .u32 0, .int .u32 0, .int .u32 0, .int .u16 0, .int .u16 0] 71)).heap[w.heap.size]? = some (.cells (Go.Proofs.YthiaakjbapgibaaGreat.Ck.offV X) 106 (0, 0)) := blk_alloc (blk_new _ _) _
 have hb2 : ((w.alloc (.cells (Go.Proofs.YthiaakjbapgibaaGreat.Ck.offV X) 106)).alloc (.cells #[.int .u32 0, .int .u32 0, .int .u32 0, .int .u16 0, .int .u16 0] 71)).heap[w.heap.size + 1]? = some (.cells #[.int .u32 0, .int .u32 0, .int .u32 0, .int .u16 0, .int .u16 0] 71 (0, 0)) := by
  have h := blk_new (w.alloc (.cells (Go.Proofs.YthiaakjbapgibaaGreat.Ck.offV X) 106)) (.cells #[.int .u32 0, .int .u32 0, .int .u32 0, .int .u16 0, .int .u16 0] 71)
  rw [World.size_alloc] at h
  exact h
 have HB := Lh (below_alloc (below_alloc (Below.refl w.heap.size w) (.cells (Go.Proofs.YthiaakjbapgibaaGreat.Ck.offV X) 106)) (.cells #[.int .u32 0, .int .u32 0, .int .u32 0, .int .u16 0, .int .u16 0] 71))
 have HB1 := Lh hb1
 have HB2 := Lh hb2
 clear h1 h2 h4 hb1 hb2
 have HI := Lh (show (Tryz.prog.info? 106).map (·.size) = some (Go.Proofs.YthiaakjbapgibaaGreat.Ck.offV X).size by kernel_rfl)
 unfold Go.Proofs.YthiaakjbapgibaaGreat.Ck.offV at *
 go_enter Tryz.func116, Tryz.ntmps116
 go_upto_region 1 with (fail)
 generalize ((w.alloc (.cells #[.int .u16 (X 2 : Nat), .int .u16 (X 3 : Nat), .int .u32 (X 4 : Nat), .int .u32 (X 5 : Nat), .int .u32 (X 6 : Nat), .int .u32 (X 7 : Nat), .int .u32 (X 8 : Nat), .int .u16 (X 9 : Nat), .int .u16 (X 10 : Nat), .int .u32 (X 11 : Nat), .int .u32 (X 12 : Nat)] 106)).alloc (.cells #[.int .u32 0, .int .u32 0, .int .u32 0, .int .u16 0, .int .u16 0] 71)) = W1 at *
 have c3 : W1.cell? ⟨w.heap.size, 3, none⟩ = some (.int .u32 (X 5 : Nat)) := blk_cell HB1.out 3
 have c5 : W1.cell? ⟨w.heap.size, 5, none⟩ = some (.int .u32 (X 7 : Nat)) := blk_cell HB1.out 5
 have c6 : W1.cell? ⟨w.heap.size, 6, none⟩ = some (.int .u32 (X 8 : Nat)) := blk_cell HB1.out 6
 have c7 : W1.cell? ⟨w.heap.size, 7, none⟩ = some (.int .u16 (X 9 : Nat)) := blk_cell HB1.out 7
 have c8 : W1.cell? ⟨w.heap.size, 8, none⟩ = some (.int .u16 (X 10 : Nat)) := blk_cell HB1.out 8
 go_wp2_with (refine wpList_store_row rfl 71 _ _ rfl (w.heap.size + 1) #[.int .u32 (X 5 : Nat), .int .u32 (X 7 : Nat), .int .u32 (X 8 : Nat), .int .u16 (X 9 : Nat), .int .u16 (X 10 : Nat)] rfl rfl 71 _ HB2.out (by kernel_rfl) rfl (by simp [Value.oneCell']) ?_)
 go_wp2
 exact bodyPost_ret (offered_results _ _ (w.heap.size + 1) _ rfl (setRow_heap _ _ _ _ _ _ HB2.out) rfl) rfl ⟨rfl, below_setRow HB.out (Nat.le_succ _) _⟩
section
variable {B : Nat} {W0 W : World} {g gt : Nat} {K : Cfg} {m : Mst} {xs : List Act'} {tag : Int} {x : Chk} {L : Lay} {now : Int}
set_option maxHeartbeats 1000000 in
theorem established_ms (h : MS B W0 g K m xs W) (hl : xs.length ≤ 100) (X : Nat → Nat) : Calls Tryz.prog 117 #[.pointer (some ⟨g, 0, none⟩), .agg (Go.Proofs.YthiaakjbapgibaaGreat.Ck.offV X)] W (Rt B W0 g K { m with pr := offP X, s := 3 } (xs ++ [actTimer 3 1] ++ [actPeer 4 (offP X)] ++ [actSend (mkC 11 0 0 0 0 0 0) (X 5 : Nat)]) W) := by
 have HBX := Lh (blk_new W (.cells (Go.Proofs.YthiaakjbapgibaaGreat.Ck.offV X) 106))
 have HIX := Lh (show (Tryz.prog.info? 106).map (·.size) = some (Go.Proofs.YthiaakjbapgibaaGreat.Ck.offV X).size by kernel_rfl)
 have HM := Lh h
 have HL := Lh hl
 have HOF := Lh (fun w => offered_calls w X)
 obtain ⟨p, hp⟩ : ∃ p, offP X = p := ⟨_, rfl⟩
 have HPF := Lh (show p.f0 = ((X 5 : Nat) : Int) by rw [← hp]; rfl)
 rw [hp] at HOF ⊢
 clear h hl hp
 unfold Go.Proofs.YthiaakjbapgibaaGreat.Ck.offV at *
 go_enter Tryz.func117, Tryz.ntmps117
 go_wp2_with (refine wpList_load_row rfl 106 (.tmp 3) rfl _ rfl 106 _ (0, 0) _ HBX.out Tryz.underlying106 rfl HIX.out ?_)
 refine (HOF.out _).mono ?_
 rintro e w1 ⟨rfl, hB1⟩
 have HB1 := Lh (below_then (below_alloc (Below.refl W.heap.size W) (.cells #[.int .u16 (X 2 : Nat), .int .u16 (X 3 : Nat), .int .u32 (X 4 : Nat), .int .u32 (X 5 : Nat), .int .u32 (X 6 : Nat), .int .u32 (X 7 : Nat), .int .u32 (X 8 : Nat), .int .u16 (X 9 : Nat), .int .u16 (X 10 : Nat), .int .u32 (X 11 : Nat), .int .u32 (X 12 : Nat)] 106)) (by simp) hB1)
 clear hB1
 have HM1 := Lh (HM.out.below HB1.out)
 have HTH := Lh (HM1.out.there 3 5 (by decide))
 unfold PV
 go_upto_region 2 with (refine wpList_store_mid rfl 71 _ _ rfl g 3 #[.int .u32 p.f0, .int .u32 p.f1, .int .u32 p.f2, .int .u16 p.f3, .int .u16 p.f4] rfl rfl HTH.out (by kernel_rfl) (by simp [Value.oneCell']) ?_)
 have HM2 := Lh (HM1.out.setp p)
 have HK2 := Lh ((Kq.of_below HB1.out).trans (HM1.out.ksetp (B := B) p))
 clear HTH HM1 HB1
 generalize w1.setCells g 3 [.int .u32 p.f0, .int .u32 p.f1, .int .u32 p.f2, .int .u16 p.f3, .int .u16 p.f4] = W2 at *
 have k0 := HM2.out.k0
 have f0 := HM2.out.fz 0
 have HM3 := Lh (HM2.out.set0 3)
 have HK3 := Lh (HK2.out.trans (HM2.out.kset 0 (.int .i64 3)))
 go_upto_region 3 with (fail)
 clear k0 f0 HM2 HK2
 generalize W2.setCell ⟨g, 0, none⟩ (.int .i64 3) = W3 at *
 go_wp2_with fail
 refine (stop_ms HM3.out (by have := HL.out; omega) 1).mono ?_
 rintro e w4 ⟨rfl, hM4, hQ4⟩
 have HM4 := Lh hM4
 have HP4 := Lh hM4.pr
 have HK4 := Lh (HK3.out.trans hQ4)
 clear hM4 hQ4
 go_wp2_with (refine wpList_load_mid rfl 71 _ rfl g 3 rfl _ _ HP4.out Tryz.underlying71 rfl (by kernel_rfl) ?_)
 refine (ask_ms HM4.out (by have := HL.out; simp; omega) (actPeer 4 p) _ (act_bare B w4 4 0 p 0)).mono ?_
 rintro e w5 ⟨rfl, hM5, hQ5⟩
 have HM5 := Lh hM5
 have HK5 := Lh (HK4.out.trans hQ5)
 clear hM5 hQ5
 go_wp2_with fail
 refine (sendPeer_ms HM5.out (Below.refl _ _) (by have := HL.out; simp; omega) (mkC 11 0 0 0 0 0 0) _ (mkC_K _ _ _ _ _ _ _)).mono ?_
 rintro e w6 ⟨rfl, hM6, hQ6⟩
 go_wp2
 go_end0
 rw [← HPF.out]
 exact ⟨rfl, hM6, HK5.out.trans hQ6⟩
def restartP (m : Mst) (X : Nat → Nat) : Out :=
 if m.s = 2 then .error 222
 else if m.s = 7 then .ok (m, [actSend (mkC 8 0 0 0 0 0 0) m.pr.f0])
 else .ok ({ m with tag := (X 4 : Nat), tsn := (X 6 : Nat), pr := offP X, s := 3, tr := 0 }, [actTimer 3 2, actTimer 3 3, actPeer 5 (offP X), actSend (mkC 11 0 0 0 0 0 0) (X 5 : Nat)])
set_option maxHeartbeats 4000000 in
theorem restart_t (hM : MS B W0 g K m [] W) (hT : TC B W0 g gt tag x L now) (X : Nat → Nat) : Calls Tryz.prog 118 #[.pointer (some ⟨gt, 0, none⟩), .agg (Go.Proofs.YthiaakjbapgibaaGreat.Ck.offV X)] W (ClP B W0 g K (restartP m X)) := by
 obtain ⟨r, hr⟩ : ∃ r, restartP m X = r := ⟨_, rfl⟩
 rw [hr]
 have HR := Lh hr
 have HBX0 := Lh (blk_new W (.cells (Go.Proofs.YthiaakjbapgibaaGreat.Ck.offV X) 106))
 have HIX := Lh (show (Tryz.prog.info? 106).map (·.size) = some (Go.Proofs.YthiaakjbapgibaaGreat.Ck.offV X).size by kernel_rfl)
 have HNE := Lh (show W.heap.size ≠ g by have := hM.lt; have := hM.only.size; omega)
 have HOF := Lh (fun w => offered_calls w X)
 have HM1 := Lh (hM.below (below_alloc (Below.refl W.heap.size W) (.cells (Go.Proofs.YthiaakjbapgibaaGreat.Ck.offV X) 106)))
 have HT := Lh hT
 obtain ⟨p, hp⟩ : ∃ p, offP X = p := ⟨_, rfl⟩
 have HPF := Lh (show p.f0 = ((X 5 : Nat) : Int) by rw [← hp]; rfl)
 unfold restartP at HR
 rw [hp] at HOF HR
 clear hM hT hr hp
 have k0 := HM1.out.k0
 have t0 : (W.alloc (.cells (Go.Proofs.YthiaakjbapgibaaGreat.Ck.offV X) 106)).cell? ⟨gt, 0, none⟩ = some (.pointer (some ⟨g, 0, none⟩)) := HT.out.cell HM1.out.only 0
 have HBX := HBX0
 clear HBX0
 unfold Go.Proofs.YthiaakjbapgibaaGreat.Ck.offV at *
 obtain ⟨go, hgo⟩ : ∃ go, W.heap.size = go := ⟨_, rfl⟩
 rw [hgo] at HBX HNE
 go_enter Tryz.func118, Tryz.ntmps118
 by_cases h2 : m.s = 2
 ·rw [if_pos h2] at HR
  rw [h2] at k0
  go_wp2_with fail
  refine (drop_calls _).mono ?_
  rintro e w2 ⟨rfl, rfl⟩
  exact ⟨rfl, by rw [← HR.out]; exact ⟨rfl, m, [], HM1.out⟩⟩
 rw [if_neg h2] at HR
 have h2a : decide (m.s = 2) = false := decide_eq_false h2
 have h2b : (m.s == 2) = false := by simpa using h2
 have h2c : (m.s != 2) = true := by simpa using h2
 by_cases h7 : m.s = 7
 ·rw [if_pos h7] at HR
  rw [h7] at k0
  go_wp2_with fail
  refine (sendPeer_ms HM1.out (Below.refl _ _) (by simp) (mkC 8 0 0 0 0 0 0) _ (mkC_K _ _ _ _ _ _ _)).mono ?_
  rintro e w2 ⟨rfl, hM2, hQ2⟩
  go_wp2
  refine bodyPost_ret (results_none rfl _ _ _) rfl ?_
  rw [← HR.out]
  exact ⟨rfl, hM2⟩
 rw [if_neg h7] at HR
 have h7a : decide (m.s = 7) = false := decide_eq_false h7
 have h7b : (m.s == 7) = false := by simpa using h7
 have h7c : (m.s != 7) = true := by simpa using h7
 go_upto_region 7 with (fail)
 generalize hw0 : W.alloc (.cells #[.int .u16 (X 2 : Nat), .int .u16 (X 3 : Nat), .int .u32 (X 4 : Nat), .int .u32 (X 5 : Nat), .int .u32 (X 6 : Nat), .int .u32 (X 7 : Nat), .int .u32 (X 8 : Nat), .int .u16 (X 9 : Nat), .int .u16 (X 10 : Nat), .int .u32 (X 11 : Nat), .int .u32 (X 12 : Nat)] 106) = Wb at *
 have HQB := Lh (show Kq B W Wb by rw [← hw0]; exact Kq.of_below (below_alloc (Below.refl _ _) _))
 clear k0 t0 hw0
 refine grow_known (B := rstB7) [0, 1, 2, 3, 4, 5, 6, 7, 8, 9, 10, 11, 12, 13] [9, 13] (fun s W1 => match s with | 0 => MS B W0 g K m [] W1 ∧ Kq B W W1 ∧ W1.heap[go]? = some (.cells (Go.Proofs.YthiaakjbapgibaaGreat.Ck.offV X) 106 (0, 0)) | 1 => MS B W0 g K { m with tag := (X 4 : Nat) } [] W1 ∧ Kq B W W1 ∧ W1.heap[go]? = some (.cells (Go.Proofs.YthiaakjbapgibaaGreat.Ck.offV X) 106 (0, 0)) | 2 => MS B W0 g K { { m with tag := (X 4 : Nat) } with tsn := (X 6 : Nat) } [] W1 ∧ Kq B W W1 ∧ W1.heap[go]? = some (.cells (Go.Proofs.YthiaakjbapgibaaGreat.Ck.offV X) 106 (0, 0)) | _ => False) [(0, 22, .pointer (some ⟨g, 0, none⟩)), (1, 23, .pointer (some ⟨g, 0, none⟩)), (2, 24, .pointer (some ⟨go, 2, none⟩)), (3, 25, .int .u32 (X 4 : Nat)), (4, 26, .pointer (some ⟨go, 4, none⟩)), (5, 27, .int .u32 (X 6 : Nat)), (6, 28, .pointer (some ⟨g, 0, none⟩)), (7, 29, .pointer (some ⟨g, 0, none⟩)), (8, 30, .pointer (some ⟨g, 1, none⟩)), (10, 31, .pointer (some ⟨g, 0, none⟩)), (11, 32, .pointer (some ⟨g, 0, none⟩)), (12, 33, .pointer (some ⟨g, 2, none⟩))] (by kernel_rfl) rfl (l := #[false, false, false, false, false, false, false, false, false, false, false, false, false, false]) rfl rsttab7 rstbits7 (by kernel_rfl) (by kernel_rfl) rfl rfl ?_ ?_ ?_
 ·exact ⟨HM1.out.drewN 1, HQB.out.trans (Kq.of_below (pw_below_drewN (Below.refl _ _) 1)), blk_drewN HBX.out 1⟩
 ·exact steps_cons (gk_op (p := 4) (fun W1 => W1.heap[go]? = some (.cells (Go.Proofs.YthiaakjbapgibaaGreat.Ck.offV X) 106 (0, 0))) 0 0 rfl rfl rfl rfl rfl rfl (u := .pointer (some ⟨g, 0, none⟩)) (rd_off (p := 4) (fun _ => rfl) rfl) (fun s W1 h => by match s, h with | 0, h => exact h.2.2 | 1, h => exact h.2.2 | 2, h => exact h.2.2) (fun a w hJ e => by go_simp)) (steps_cons (gk_op (p := 4) (fun W1 => W1.heap[go]? = some (.cells (Go.Proofs.YthiaakjbapgibaaGreat.Ck.offV X) 106 (0, 0))) 1 1 rfl rfl rfl rfl rfl rfl (u := .pointer (some ⟨g, 0, none⟩)) (rd_off (p := 4) (fun _ => rfl) rfl) (fun s W1 h => by match s, h with | 0, h => exact h.2.2 | 1, h => exact h.2.2 | 2, h => exact h.2.2) (fun a w hJ e => by go_simp)) (steps_cons (gk_op (p := 3) (fun W1 => W1.heap[go]? = some (.cells (Go.Proofs.YthiaakjbapgibaaGreat.Ck.offV X) 106 (0, 0))) 2 2 rfl rfl rfl rfl rfl rfl (u := .pointer (some ⟨go, 0, none⟩)) (rd_off (p := 3) (fun _ => rfl) rfl) (fun s W1 h => by match s, h with | 0, h => exact h.2.2 | 1, h => exact h.2.2 | 2, h => exact h.2.2) (fun a w hJ e => by go_simp)) (steps_cons (gk_op (p := 24) (fun W1 => W1.heap[go]? = some (.cells (Go.Proofs.YthiaakjbapgibaaGreat.Ck.offV X) 106 (0, 0))) 3 3 rfl rfl rfl rfl rfl rfl (u := .pointer (some ⟨go, 2, none⟩)) (rd_on (p := 24) 2 2 (fun _ => rfl) (fun _ => rfl) (by kernel_rfl) rfl) (fun s W1 h => by match s, h with | 0, h => exact h.2.2 | 1, h => exact h.2.2 | 2, h => exact h.2.2) (fun a w hJ e => by have hs : w.cell? ⟨go, 2, none⟩ = some (.int .u32 (X 4 : Nat)) := blk_cell hJ 2; go_simp; first | done | rfl)) (steps_cons (gk_op (p := 3) (fun W1 => W1.heap[go]? = some (.cells (Go.Proofs.YthiaakjbapgibaaGreat.Ck.offV X) 106 (0, 0))) 4 4 rfl rfl rfl rfl rfl rfl (u := .pointer (some ⟨go, 0, none⟩)) (rd_off (p := 3) (fun _ => rfl) rfl) (fun s W1 h => by match s, h with | 0, h => exact h.2.2 | 1, h => exact h.2.2 | 2, h => exact h.2.2) (fun a w hJ e => by go_simp)) (steps_cons (gk_op (p := 26) (fun W1 => W1.heap[go]? = some (.cells (Go.Proofs.YthiaakjbapgibaaGreat.Ck.offV X) 106 (0, 0))) 5 5 rfl rfl rfl rfl rfl rfl (u := .pointer (some ⟨go, 4, none⟩)) (rd_on (p := 26) 4 4 (fun _ => rfl) (fun _ => rfl) (by kernel_rfl) rfl) (fun s W1 h => by match s, h with | 0, h => exact h.2.2 | 1, h => exact h.2.2 | 2, h => exact h.2.2) (fun a w hJ e => by have hs : w.cell? ⟨go, 4, none⟩ = some (.int .u32 (X 6 : Nat)) := blk_cell hJ 4; go_simp; first | done | rfl)) (steps_cons (gk_op (p := 22) (fun W1 => W1.heap[go]? = some (.cells (Go.Proofs.YthiaakjbapgibaaGreat.Ck.offV X) 106 (0, 0))) 6 6 rfl rfl rfl rfl rfl rfl (u := .pointer (some ⟨g, 0, none⟩)) (rd_on (p := 22) 0 0 (fun _ => rfl) (fun _ => rfl) (by kernel_rfl) rfl) (fun s W1 h => by match s, h with | 0, h => exact h.2.2 | 1, h => exact h.2.2 | 2, h => exact h.2.2) (fun a w hJ e => by go_simp)) (steps_cons (gk_op (p := 28) (fun W1 => W1.heap[go]? = some (.cells (Go.Proofs.YthiaakjbapgibaaGreat.Ck.offV X) 106 (0, 0))) 7 7 rfl rfl rfl rfl rfl rfl (u := .pointer (some ⟨g, 0, none⟩)) (rd_on (p := 28) 6 6 (fun _ => rfl) (fun _ => rfl) (by kernel_rfl) rfl) (fun s W1 h => by match s, h with | 0, h => exact h.2.2 | 1, h => exact h.2.2 | 2, h => exact h.2.2) (fun a w hJ e => by go_simp)) (steps_cons (gk_op (p := 29) (fun W1 => W1.heap[go]? = some (.cells (Go.Proofs.YthiaakjbapgibaaGreat.Ck.offV X) 106 (0, 0))) 8 8 rfl rfl rfl rfl rfl rfl (u := .pointer (some ⟨g, 0, none⟩)) (rd_on (p := 29) 7 7 (fun _ => rfl) (fun _ => rfl) (by kernel_rfl) rfl) (fun s W1 h => by match s, h with | 0, h => exact h.2.2 | 1, h => exact h.2.2 | 2, h => exact h.2.2) (fun a w hJ e => by go_simp)) (steps_cons (gk_store (p := 30) (s := 25) (u := .pointer (some ⟨g, 1, none⟩)) (v := .int .u32 (X 4 : Nat)) (f := fun W => W.setCell ⟨g, 1, none⟩ (.int .u32 (X 4 : Nat))) 9 0 rfl rfl rfl rfl rfl rfl (by kernel_rfl) (rd_on (p := 30) 8 8 (fun _ => rfl) (fun _ => rfl) (by kernel_rfl) rfl) (rd_on (p := 25) 3 3 (fun _ => rfl) (fun _ => rfl) (by kernel_rfl) rfl) (fun a w h e1 e2 => by have hs := h.1.k1; have hf := h.1.fz 1; go_simp) (fun w h => ⟨h.1.set1 _, h.2.1.trans (h.1.kset 1 _), blk_far h.2.2 HNE.out _⟩)) (steps_cons (gk_op (p := 23) (fun W1 => W1.heap[go]? = some (.cells (Go.Proofs.YthiaakjbapgibaaGreat.Ck.offV X) 106 (0, 0))) 10 9 rfl rfl rfl rfl rfl rfl (u := .pointer (some ⟨g, 0, none⟩)) (rd_on (p := 23) 1 1 (fun _ => rfl) (fun _ => rfl) (by kernel_rfl) rfl) (fun s W1 h => by match s, h with | 0, h => exact h.2.2 | 1, h => exact h.2.2 | 2, h => exact h.2.2) (fun a w hJ e => by go_simp)) (steps_cons (gk_op (p := 31) (fun W1 => W1.heap[go]? = some (.cells (Go.Proofs.YthiaakjbapgibaaGreat.Ck.offV X) 106 (0, 0))) 11 10 rfl rfl rfl rfl rfl rfl (u := .pointer (some ⟨g, 0, none⟩)) (rd_on (p := 31) 9 10 (fun _ => rfl) (fun _ => rfl) (by kernel_rfl) rfl) (fun s W1 h => by match s, h with | 0, h => exact h.2.2 | 1, h => exact h.2.2 | 2, h => exact h.2.2) (fun a w hJ e => by go_simp)) (steps_cons (gk_op (p := 32) (fun W1 => W1.heap[go]? = some (.cells (Go.Proofs.YthiaakjbapgibaaGreat.Ck.offV X) 106 (0, 0))) 12 11 rfl rfl rfl rfl rfl rfl (u := .pointer (some ⟨g, 0, none⟩)) (rd_on (p := 32) 10 11 (fun _ => rfl) (fun _ => rfl) (by kernel_rfl) rfl) (fun s W1 h => by match s, h with | 0, h => exact h.2.2 | 1, h => exact h.2.2 | 2, h => exact h.2.2) (fun a w hJ e => by go_simp)) (steps_cons (gk_store (p := 33) (s := 27) (u := .pointer (some ⟨g, 2, none⟩)) (v := .int .u32 (X 6 : Nat)) (f := fun W => W.setCell ⟨g, 2, none⟩ (.int .u32 (X 6 : Nat))) 13 1 rfl rfl rfl rfl rfl rfl (by kernel_rfl) (rd_on (p := 33) 11 12 (fun _ => rfl) (fun _ => rfl) (by kernel_rfl) rfl) (rd_on (p := 27) 5 5 (fun _ => rfl) (fun _ => rfl) (by kernel_rfl) rfl) (fun a w h e1 e2 => by have hs := h.1.k2; have hf := h.1.fz 2; go_simp) (fun w h => ⟨h.1.set2 _, h.2.1.trans (h.1.kset 2 _), blk_far h.2.2 HNE.out _⟩)) steps_nil)))))))))))))
 intro W4 hI
 obtain ⟨hM4, hQ4, hbx⟩ := hI
 have HM4 := Lh hM4
 have HBX4 := Lh hbx
 clear hM4 hbx HM1
 simp only [putSel, if_true, Act.put, List.setIfInBounds_toArray, List.set_cons_zero, List.set_cons_succ]
 go_wp2_with (refine wpList_load_row rfl 106 (.tmp 3) rfl _ rfl 106 _ (0, 0) _ HBX4.out Tryz.underlying106 rfl HIX.out ?_)
 refine (HOF.out _).mono ?_
 rintro e w1 ⟨rfl, hB1⟩
 have HB1 := Lh hB1
 clear hB1
 have HM1 := Lh (HM4.out.below HB1.out)
 have HTH := Lh (HM1.out.there 3 5 (by decide))
 unfold PV
 go_upto_region 9 with (refine wpList_store_mid rfl 71 _ _ rfl g 3 #[.int .u32 p.f0, .int .u32 p.f1, .int .u32 p.f2, .int .u16 p.f3, .int .u16 p.f4] rfl rfl HTH.out (by kernel_rfl) (by simp [Value.oneCell']) ?_)
 have HM2 := Lh (HM1.out.setp p)
 clear HTH HM1 HB1
 generalize w1.setCells g 3 [.int .u32 p.f0, .int .u32 p.f1, .int .u32 p.f2, .int .u16 p.f3, .int .u16 p.f4] = W2 at *
 have k0 := HM2.out.k0
 have f0 := HM2.out.fz 0
 have k9 := (HM2.out.set0 3).k9
 have f9 := (HM2.out.set0 3).fz 9
 have HM3 := Lh ((HM2.out.set0 3).set9 0)
 go_upto_region 10 with (fail)
 clear k0 f0 k9 f9 HM2
 generalize (W2.setCell ⟨g, 0, none⟩ (.int .i64 3)).setCell ⟨g, 9, none⟩ (.int .i64 0) = W3 at *
 go_wp2_with fail
 refine (stop_ms HM3.out (by simp) 2).mono ?_
 rintro e w5 ⟨rfl, hM5, hQ5⟩
 have HM5 := Lh hM5
 clear hM5 hQ5
 go_wp2_with fail
 refine (stop_ms HM5.out (by simp) 3).mono ?_
 rintro e w6 ⟨rfl, hM6, hQ6⟩
 have HM6 := Lh hM6
 have HP6 := Lh hM6.pr
 clear hM6 hQ6
 go_wp2_with (refine wpList_load_mid rfl 71 _ rfl g 3 rfl _ _ HP6.out Tryz.underlying71 rfl (by kernel_rfl) ?_)
 refine (ask_ms HM6.out (by simp) (actPeer 5 p) _ (act_bare B w6 5 0 p 0)).mono ?_
 rintro e w7 ⟨rfl, hM7, hQ7⟩
 have HM7 := Lh hM7
 clear hM7 hQ7
 go_wp2_with fail
 refine (sendPeer_ms HM7.out (Below.refl _ _) (by simp) (mkC 11 0 0 0 0 0 0) _ (mkC_K _ _ _ _ _ _ _)).mono ?_
 rintro e w8 ⟨rfl, hM8, hQ8⟩
 go_wp2
 go_end0
 rw [← HR.out, ← HPF.out]
 exact ⟨rfl, hM8⟩
end
end Go.Proofs.YthiaakjbapgibaaGreat.As
end
section
namespace Go.Proofs.YthiaakjbapgibaaGreat.Ck
open Go.RowKit YthiaakjbapgibaaGreatW.PrintWords YthiaakjbapgibaaGreatW.PrintLast Base Mac
def lookT6 : Bool × List (List Nat × List Nat) := (true, [([], []), ([0], [0]), ([1], [1]), ([2], [2]), ([], []), ([4], [4]), ([5], [5]), ([6], [6]), ([], []), ([8], [8]), ([9], [9]), ([10], [10]), ([3, 0, 1, 2, 3], [3]), ([7, 12, 0, 1, 2, 3, 4, 5, 6, 7, 12], [7]), ([11, 13, 0, 1, 2, 3, 4, 5, 6, 7, 8, 9, 10, 11, 12, 13], [11]), ([14, 0, 1, 2, 3, 4, 5, 6, 7, 8, 9, 10, 11, 12, 13, 14], [])])
def lookB6 : List Nat := [0, 1, 3, 7, 0, 16, 48, 112, 0, 256, 768, 1792, 15, 4351, 16383, 32767]
theorem looktab6 : Go.Proofs.YthiaakjbapgibaaGreatW.PrintLast.rtab .any (Go.Proofs.YthiaakjbapgibaaGreatW.PrintLast.opsOf Tryz.f114 6) = lookT6 := by kernel_rfl
theorem lookbits6 : Go.Proofs.YthiaakjbapgibaaGreatW.PrintLast.waitsOk lookT6.2 lookB6 = true := by kernel_rfl
theorem exec_store_row {P : Program} {o : Oper} {a : Act} {w : World} (ty : TypeId) (x y : Operand) (ho : o.op = .store ty x y) {g : Nat} {cells : Array Value} (hx : a.eval x = .pointer (some ⟨g, 0, none⟩)) (hy : a.eval y = .agg cells) {t : TypeId} {old : Array Value} (hg : w.heap[g]? = some (.cells old t (0, 0))) (hi : (P.info? ty).map (·.size) = some cells.size)
  (hold : old.size = cells.size) (h1 : cells.all (·.oneCell') = true) : (execOp a.eval o).run P w = .ok .skip (w.setRow g cells) := by
 unfold execOp
 simp only [ho, hx, hy, Instr.storeAt, Instr.sureAddr, Sem.run_bind, Sem.run_pure, Result.andThen_ok, run_storeVar_row w g t ty old cells hg hi hold h1]
theorem results_cttt {P : Program} {fn : Func} {p u v z : Tmp} {ty : TypeId} (h : fn.results = #[.cell p ty, .tmp u, .tmp v, .tmp z]) (tmps : Array Value) (w : World) (g : Nat) (t : TypeId) (cs : Array Value) (fr : Nat × Nat) (d : TypeDesc)
  (hp : tmps.getD p undef = .pointer (some ⟨g, 0, none⟩)) (hg : w.heap[g]? = some (.cells cs t fr))
  (hu : P.underlying ty = some d) (hd : (match d with | .struct _ | .array _ _ => true | _ => false) = true) (hi : (P.info? ty).map (·.size) = some cs.size) :
  (results fn tmps).run P w = .ok (.tuple #[.agg cs, tmps.getD u undef, tmps.getD v undef, tmps.getD z undef]) w := by
 have hp' : tmps[p]?.getD undef = .pointer (some ⟨g, 0, none⟩) := by simpa using hp
 simp [results, h, hp', asAddr, run_loadVar_row w g t ty cs fr d hg hu hd hi]
def lookB (l : List UInt8) : Bool := decide (l.length = 56 ∧ valF l 0 ≤ 1099511627776 ∧ 1 ≤ valF l 1 ∧ valF l 1 ≤ 2147483648)
def zF : Nat → Nat := fun _ => 0
set_option maxHeartbeats 2000000 in
theorem look_good (w : World) (A : Option Addr) (c : Nat) (l : List UInt8) (hb : byte.C w A l.length l) (hc : l.length ≤ c) (h : lookB l = true) :
  Calls Tryz.prog 114 #[.slice A l.length c] w fun e w' => e = .returned (.tuple #[.agg (offV (valF l)), .int .i64 (valF l 0 : Nat), .int .i64 (valF l 1 : Nat), .int .i64 0]) ∧ Below w.heap.size w w' := by
 obtain ⟨hl, h0, h1, h2⟩ := of_decide_eq_true h
 have HGB := Lh (blk_new w (.cells (offV zF) 106))
 have HB := Lh (below_alloc (Below.refl w.heap.size w) (.cells (offV zF) 106))
 have HC := Lh (fun (W : World) (hW : Below w.heap.size w W) => Kd.C_below hb hW)
 have HRD := Lh (fun (W : World) (ad : Addr) (hW : Below w.heap.size w W) (hf : ∀ i, i < 13 → FldAt W ad i) => read_calls W A c ad l (Kd.C_below hb hW) hc hl hf)
 have HL := Lh (fun W => isLife_calls (valF l 1 : Nat) W)
 rw [show lifeB (valF l 1 : Nat) = true by unfold lifeB; simp; omega] at HL
 have hst : stV (rdN l 13) = stV (valF l) := rfl
 rw [hst] at HRD
 have hn0 : ¬ valF l 0 > 1099511627776 := by omega
 clear hb h hst
 generalize valF l = x at *
 have hne : ((l.length : Int) != 56) = false := by simp [hl]
 generalize hN : l.length = N at *
 clear hN hl
 go_enter Tryz.func114, Tryz.ntmps114
 go_wp2_with fail
 have HFC := fields_calls (w.alloc (.cells (offV zF) 106))
 refine HFC.mono ?_
 rintro e w1 ⟨ad, rfl, hF, hB1⟩
 replace HGB := Lh (blk_below HGB.out hB1)
 replace HB := Lh (below_then HB.out HB.out.size hB1)
 have HF := Lh hF
 clear hF hB1 HFC
 go_wp2_with fail
 refine (HRD.out w1 ad HB.out HF.out).mono ?_
 rintro e w2 ⟨hor, hB2⟩
 replace HGB := Lh (blk_below HGB.out hB2)
 replace HB := Lh (below_then HB.out HB.out.size hB2)
 rcases hor with ⟨hx0, -⟩ | ⟨_, s, rfl, hs⟩
 ·exact absurd hx0 hn0
 have HS := Lh hs
 have q12 : w2.cell? ⟨s, 12, none⟩ = some (.int .i64 (x 1 : Nat)) := blk_cell hs 12
 clear hB2 hs HF
 go_upto_region 6 with (go_at_call 152; refine (HL.out _).mono ?_; rintro e w' ⟨rfl, rfl⟩)
 clear q12 HL HRD HC
 generalize hg2 : w.heap.size = g2 at HGB HB ⊢
 generalize w2 = W at *
 have HSG := Lh (blk_ne HS.out HGB.out (by decide))
 have B := True.intro
 have S := True.intro
 have G := True.intro
 refine start_ (n := 16) (S := fun w' => True) (ds := []) #[false, false, false, false, false, false, false, false, false, false, false, false, false, false, false, false] (by kernel_rfl) rfl rfl trivial (fun hHeld => ?_)
 refine with_tabW looktab6 lookbits6 (fun HT_ HW_ => ?_)
 refine pu 0 29 ?_ rfl rfl (any_of HT_.out (by kernel_rfl)) (fun _ _ _ h => h) (by rfl) ?_ ?_ ?_ ?_
 rotate_left
 ·intro w'
  go_simp
  with_reducible rfl
 rotate_left
 ·simp only [sL]
  rfl
 refine pu 4 33 ?_ rfl rfl (any_of HT_.out (by kernel_rfl)) (fun _ _ _ h => h) (by rfl) ?_ ?_ ?_ ?_
 rotate_left
 ·intro w'
  go_simp
  with_reducible rfl
 rotate_left
 ·simp only [sL]
  rfl
 refine pu 8 37 ?_ rfl rfl (any_of HT_.out (by kernel_rfl)) (fun _ _ _ h => h) (by rfl) ?_ ?_ ?_ ?_
 rotate_left
 ·intro w'
  go_simp
  with_reducible rfl
 rotate_left
 ·simp only [sL]
  rfl
 refine inv_at [1, 2, 3, 5, 6, 7, 9, 10, 11, 12, 13, 14, 15] (fun a0_ b a w' => a = putSel a0_ b [(1, 30, .pointer (some ⟨s, 0, none⟩)), (2, 31, .pointer (some ⟨s, 0, none⟩)), (3, 32, .agg #[.int .u16 (x 2 : Nat), .int .u16 (x 3 : Nat), .int .u32 (x 4 : Nat), .int .u32 (x 5 : Nat), .int .u32 (x 6 : Nat), .int .u32 (x 7 : Nat), .int .u32 (x 8 : Nat), .int .u16 (x 9 : Nat), .int .u16 (x 10 : Nat), .int .u32 (x 11 : Nat), .int .u32 (x 12 : Nat)]), (5, 34, .pointer (some ⟨s, 0, none⟩)), (6, 35, .pointer (some ⟨s, 11, none⟩)), (7, 36, .int .i64 (x 0 : Nat)), (9, 38, .pointer (some ⟨s, 0, none⟩)), (10, 39, .pointer (some ⟨s, 12, none⟩)), (11, 40, .int .i64 (x 1 : Nat)), (13, 3, .int .i64 (x 0 : Nat)), (14, 4, .int .i64 (x 1 : Nat)), (15, 5, .int .i64 0)] ∧ (Below g2 w w') ∧ (w'.heap[s]? = some (.cells (stV x) STT (0, 0))) ∧ (b 12 = false → w'.heap[g2]? = some (.cells (offV zF) 106 (0, 0))) ∧ (b 12 = true → w'.heap[g2]? = some (.cells #[.int .u16 (x 2 : Nat), .int .u16 (x 3 : Nat), .int .u32 (x 4 : Nat), .int .u32 (x 5 : Nat), .int .u32 (x 6 : Nat), .int .u32 (x 7 : Nat), .int .u32 (x 8 : Nat), .int .u16 (x 9 : Nat), .int .u16 (x 10 : Nat), .int .u32 (x 11 : Nat), .int .u32 (x 12 : Nat)] 106 (0, 0)))) HT_.out HW_.out (by kernel_rfl) (by kernel_rfl) ?_ ?_ ?_
 ·exact ⟨by simp only [putSel, Bool.false_eq_true, if_false], HB.out.drew, HS.out, fun _ => HGB.out, fun h_ => absurd h_ (by decide)⟩
 ·skip
  clear B G S
  refine sc rfl ?_ ?_
  ·rintro b a w' ⟨ha, Q_B, Q_S, Q_G, Q_T⟩ hb_ hon hoff K hK
   have e29 : a.tmps[29]? = some (.pointer (some ⟨s, 0, none⟩)) := by rw [ha]; exact (putSel_off rfl).trans rfl
   replace ha := Am ha
   refine value_ (w1 := w') (v := .pointer (some ⟨s, 0, none⟩)) (by rfl) rfl ?_ ?_
   ·go_simp
    (try simp only [i64_w])
    try rfl
   refine hK.out _ _ ⟨(puk ha 0 hb_ rfl rfl rfl), Q_B, Q_S, Q_G, fun h0_ => hof (hoff 12 (by kernel_rfl)) h0_⟩
  refine sc rfl ?_ ?_
  ·rintro b a w' ⟨ha, Q_B, Q_S, Q_G, Q_T⟩ hb_ hon hoff K hK
   have e30 := psn ha 0 rfl rfl (hon 1 (by kernel_rfl)) rfl
   replace ha := Am ha
   refine value_ (w1 := w') (v := .pointer (some ⟨s, 0, none⟩)) (by rfl) rfl ?_ ?_
   ·go_simp
    (try simp only [i64_w])
    try rfl
   refine hK.out _ _ ⟨(puk ha 1 hb_ rfl rfl rfl), Q_B, Q_S, Q_G, fun h0_ => hof (hoff 12 (by kernel_rfl)) h0_⟩
  refine sc rfl ?_ ?_
  ·rintro b a w' ⟨ha, Q_B, Q_S, Q_G, Q_T⟩ hb_ hon hoff K hK
   have e31 := psn ha 1 rfl rfl (hon 2 (by kernel_rfl)) rfl
   replace ha := Am ha
   have B := Am Q_B
   have S := Am Q_S
   have G := Am (Q_G (hoff 12 (by kernel_rfl)))
   have c0 : w'.cell? ⟨s, 0, none⟩ = some (.int .u16 (x 2 : Nat)) := blk_cell S.out 0
   have c1 : w'.cell? ⟨s, 1, none⟩ = some (.int .u16 (x 3 : Nat)) := blk_cell S.out 1
   have c2 : w'.cell? ⟨s, 2, none⟩ = some (.int .u32 (x 4 : Nat)) := blk_cell S.out 2
   have c3 : w'.cell? ⟨s, 3, none⟩ = some (.int .u32 (x 5 : Nat)) := blk_cell S.out 3
   have c4 : w'.cell? ⟨s, 4, none⟩ = some (.int .u32 (x 6 : Nat)) := blk_cell S.out 4
   have c5 : w'.cell? ⟨s, 5, none⟩ = some (.int .u32 (x 7 : Nat)) := blk_cell S.out 5
   have c6 : w'.cell? ⟨s, 6, none⟩ = some (.int .u32 (x 8 : Nat)) := blk_cell S.out 6
   have c7 : w'.cell? ⟨s, 7, none⟩ = some (.int .u16 (x 9 : Nat)) := blk_cell S.out 7
   have c8 : w'.cell? ⟨s, 8, none⟩ = some (.int .u16 (x 10 : Nat)) := blk_cell S.out 8
   have c9 : w'.cell? ⟨s, 9, none⟩ = some (.int .u32 (x 11 : Nat)) := blk_cell S.out 9
   have c10 : w'.cell? ⟨s, 10, none⟩ = some (.int .u32 (x 12 : Nat)) := blk_cell S.out 10
   refine value_ (w1 := w') (v := .agg #[.int .u16 (x 2 : Nat), .int .u16 (x 3 : Nat), .int .u32 (x 4 : Nat), .int .u32 (x 5 : Nat), .int .u32 (x 6 : Nat), .int .u32 (x 7 : Nat), .int .u32 (x 8 : Nat), .int .u16 (x 9 : Nat), .int .u16 (x 10 : Nat), .int .u32 (x 11 : Nat), .int .u32 (x 12 : Nat)]) (by rfl) rfl (by go_simp; try rfl) ?_
   refine hK.out _ _ ⟨(puk ha 2 hb_ rfl rfl rfl), B.out, S.out, fun _ => G.out, fun h0_ => hof (hoff 12 (by kernel_rfl)) h0_⟩
  refine sc rfl ?_ ?_
  ·rintro b a w' ⟨ha, Q_B, Q_S, Q_G, Q_T⟩ hb_ hon hoff K hK
   have e33 : a.tmps[33]? = some (.pointer (some ⟨s, 0, none⟩)) := by rw [ha]; exact (putSel_off rfl).trans rfl
   replace ha := Am ha
   refine value_ (w1 := w') (v := .pointer (some ⟨s, 0, none⟩)) (by rfl) rfl ?_ ?_
   ·go_simp
    (try simp only [i64_w])
    try rfl
   refine hK.out _ _ ⟨(puk ha 3 hb_ rfl rfl rfl), Q_B, Q_S, Q_G, Q_T⟩
  refine sc rfl ?_ ?_
  ·rintro b a w' ⟨ha, Q_B, Q_S, Q_G, Q_T⟩ hb_ hon hoff K hK
   have e34 := psn ha 3 rfl rfl (hon 5 (by kernel_rfl)) rfl
   replace ha := Am ha
   refine value_ (w1 := w') (v := .pointer (some ⟨s, 11, none⟩)) (by rfl) rfl ?_ ?_
   ·go_simp
    (try simp only [i64_w])
    try rfl
   refine hK.out _ _ ⟨(puk ha 4 hb_ rfl rfl rfl), Q_B, Q_S, Q_G, Q_T⟩
  refine sc rfl ?_ ?_
  ·rintro b a w' ⟨ha, Q_B, Q_S, Q_G, Q_T⟩ hb_ hon hoff K hK
   have e35 := psn ha 4 rfl rfl (hon 6 (by kernel_rfl)) rfl
   replace ha := Am ha
   have S := Am Q_S
   have c11 : w'.cell? ⟨s, 11, none⟩ = some (.int .i64 (x 0 : Nat)) := blk_cell S.out 11
   refine value_ (w1 := w') (v := .int .i64 (x 0 : Nat)) (by rfl) rfl ?_ ?_
   ·go_simp
    (try simp only [i64_w])
    try rfl
   refine hK.out _ _ ⟨(puk ha 5 hb_ rfl rfl rfl), Q_B, Q_S, Q_G, Q_T⟩
  refine sc rfl ?_ ?_
  ·rintro b a w' ⟨ha, Q_B, Q_S, Q_G, Q_T⟩ hb_ hon hoff K hK
   have e37 : a.tmps[37]? = some (.pointer (some ⟨s, 0, none⟩)) := by rw [ha]; exact (putSel_off rfl).trans rfl
   replace ha := Am ha
   refine value_ (w1 := w') (v := .pointer (some ⟨s, 0, none⟩)) (by rfl) rfl ?_ ?_
   ·go_simp
    (try simp only [i64_w])
    try rfl
   refine hK.out _ _ ⟨(puk ha 6 hb_ rfl rfl rfl), Q_B, Q_S, Q_G, Q_T⟩
  refine sc rfl ?_ ?_
  ·rintro b a w' ⟨ha, Q_B, Q_S, Q_G, Q_T⟩ hb_ hon hoff K hK
   have e38 := psn ha 6 rfl rfl (hon 9 (by kernel_rfl)) rfl
   replace ha := Am ha
   refine value_ (w1 := w') (v := .pointer (some ⟨s, 12, none⟩)) (by rfl) rfl ?_ ?_
   ·go_simp
    (try simp only [i64_w])
    try rfl
   refine hK.out _ _ ⟨(puk ha 7 hb_ rfl rfl rfl), Q_B, Q_S, Q_G, Q_T⟩
  refine sc rfl ?_ ?_
  ·rintro b a w' ⟨ha, Q_B, Q_S, Q_G, Q_T⟩ hb_ hon hoff K hK
   have e39 := psn ha 7 rfl rfl (hon 10 (by kernel_rfl)) rfl
   replace ha := Am ha
   have S := Am Q_S
   have c12 : w'.cell? ⟨s, 12, none⟩ = some (.int .i64 (x 1 : Nat)) := blk_cell S.out 12
   refine value_ (w1 := w') (v := .int .i64 (x 1 : Nat)) (by rfl) rfl ?_ ?_
   ·go_simp
    (try simp only [i64_w])
    try rfl
   refine hK.out _ _ ⟨(puk ha 8 hb_ rfl rfl rfl), Q_B, Q_S, Q_G, Q_T⟩
  refine sc rfl ?_ ?_
  ·rintro b a w' ⟨ha, Q_B, Q_S, Q_G, Q_T⟩ hb_ hon hoff K hK
   have e2 : a.tmps[2]? = some (.pointer (some ⟨g2, 0, none⟩)) := by rw [ha]; exact (putSel_off rfl).trans rfl
   have e32 := psn ha 2 rfl rfl (hon 3 (by kernel_rfl)) rfl
   replace ha := Am ha
   have B := Am Q_B
   have S := Am Q_S
   have G := Am (Q_G hb_)
   refine skip_ (w1 := w'.setRow g2 #[.int .u16 (x 2 : Nat), .int .u16 (x 3 : Nat), .int .u32 (x 4 : Nat), .int .u32 (x 5 : Nat), .int .u32 (x 6 : Nat), .int .u32 (x 7 : Nat), .int .u32 (x 8 : Nat), .int .u16 (x 9 : Nat), .int .u16 (x 10 : Nat), .int .u32 (x 11 : Nat), .int .u32 (x 12 : Nat)]) (by rfl) rfl (exec_store_row 106 (.tmp 2) (.tmp 32) rfl (eval_of e2) (eval_of e32) G.out (by kernel_rfl) rfl (by simp [Value.oneCell'])) ?_
   refine hK.out _ _ ⟨(by rw [ha.out]; exact putSel_none (v := undef) rfl), below_setRow B.out (Nat.le_refl _) _, (setRow_other w' g2 s _ HSG.out).trans S.out, fun h0_ => absurd ((up_self b 12).symm.trans h0_) (by decide), fun _ => setRow_heap w' g2 _ _ _ _ G.out⟩
  refine sc rfl ?_ ?_
  ·rintro b a w' ⟨ha, Q_B, Q_S, Q_G, Q_T⟩ hb_ hon hoff K hK
   have e36 := psn ha 5 rfl rfl (hon 7 (by kernel_rfl)) rfl
   replace ha := Am ha
   refine value_ (w1 := w') (v := .int .i64 (x 0 : Nat)) (by rfl) rfl ?_ ?_
   ·go_simp
    (try simp only [i64_w])
    try rfl
   refine hK.out _ _ ⟨(puk ha 9 hb_ rfl rfl rfl), Q_B, Q_S, fun h0_ => absurd ((hon 12 (by kernel_rfl)).symm.trans h0_) (by decide), Q_T⟩
  refine sc rfl ?_ ?_
  ·rintro b a w' ⟨ha, Q_B, Q_S, Q_G, Q_T⟩ hb_ hon hoff K hK
   have e40 := psn ha 8 rfl rfl (hon 11 (by kernel_rfl)) rfl
   replace ha := Am ha
   refine value_ (w1 := w') (v := .int .i64 (x 1 : Nat)) (by rfl) rfl ?_ ?_
   ·go_simp
    (try simp only [i64_w])
    try rfl
   refine hK.out _ _ ⟨(puk ha 10 hb_ rfl rfl rfl), Q_B, Q_S, fun h0_ => absurd ((hon 12 (by kernel_rfl)).symm.trans h0_) (by decide), Q_T⟩
  refine sc rfl ?_ ?_
  ·rintro b a w' ⟨ha, Q_B, Q_S, Q_G, Q_T⟩ hb_ hon hoff K hK
   replace ha := Am ha
   refine value_ (w1 := w') (v := .int .i64 0) (by rfl) rfl ?_ ?_
   ·go_simp
    (try simp only [i64_w])
    try rfl
   refine hK.out _ _ ⟨(puk ha 11 hb_ rfl rfl rfl), Q_B, Q_S, fun h0_ => absurd ((hon 12 (by kernel_rfl)).symm.trans h0_) (by decide), Q_T⟩
  exact steps_nil
 rintro b a w' hall ⟨ha, Q_B, Q_S, Q_G, Q_T⟩
 clear B G S
 have hb1_ := hall 1 (by kernel_rfl)
 have hb2_ := hall 2 (by kernel_rfl)
 have hb3_ := hall 3 (by kernel_rfl)
 have hb5_ := hall 5 (by kernel_rfl)
 have hb6_ := hall 6 (by kernel_rfl)
 have hb7_ := hall 7 (by kernel_rfl)
 have hb9_ := hall 9 (by kernel_rfl)
 have hb10_ := hall 10 (by kernel_rfl)
 have hb11_ := hall 11 (by kernel_rfl)
 have hb12_ := hall 12 (by kernel_rfl)
 have hb13_ := hall 13 (by kernel_rfl)
 have hb14_ := hall 14 (by kernel_rfl)
 have hb15_ := hall 15 (by kernel_rfl)
 subst ha
 simp only [putSel, hb1_, hb2_, hb3_, hb5_, hb6_, hb7_, hb9_, hb10_, hb11_, hb12_, hb13_, hb14_, hb15_, if_true, Act.put, List.setIfInBounds_toArray, List.set_cons_zero, List.set_cons_succ]
 have B := Am Q_B
 clear Q_B
 have S := Am Q_S
 clear Q_S
 clear Q_G
 have T := Am (Q_T hb12_)
 clear Q_T
 clear hall hb1_ hb2_ hb3_ hb5_ hb6_ hb7_ hb9_ hb10_ hb11_ hb12_ hb13_ hb14_ hb15_
 have HT1 := Lh T.out
 have HT2 := Lh B.out
 clear T B S
 go_wp2
 refine bodyPost_ret (results_cttt rfl _ _ g2 106 _ (0, 0) _ rfl HT1.out Tryz.underlying106 rfl (by kernel_rfl)) rfl ?_
 exact ⟨rfl, by rw [hg2]; exact HT2.out⟩
end Go.Proofs.YthiaakjbapgibaaGreat.Ck
end
section
namespace Go.Proofs.YthiaakjbapgibaaGreat.Ck
open Go.RowKit YthiaakjbapgibaaGreatW.PrintWords YthiaakjbapgibaaGreatW.PrintLast Base Mac
def NoLook (w : World) (e : Ending) (w' : World) : Prop := e = .returned (.tuple #[.agg (offV zF), .int .i64 0, .int .i64 0, .int .i64 210]) ∧ Below w.heap.size w w'
set_option maxHeartbeats 1000000 in
theorem look_bad (w : World) (A : Option Addr) (c : Nat) (l : List UInt8) (hb : byte.C w A l.length l) (hc : l.length ≤ c) (h : lookB l = false) :
  Calls Tryz.prog 114 #[.slice A l.length c] w (NoLook w) := by
 have hnot := of_decide_eq_false h
 have HGB := Lh (blk_new w (.cells (offV zF) 106))
 have HB := Lh (below_alloc (Below.refl w.heap.size w) (.cells (offV zF) 106))
 by_cases hl : l.length = 56
 ·have HRD := Lh (fun (W : World) (ad : Addr) (hW : Below w.heap.size w W) (hf : ∀ i, i < 13 → FldAt W ad i) => read_calls W A c ad l (Kd.C_below hb hW) hc hl hf)
  have hst : stV (rdN l 13) = stV (valF l) := rfl
  rw [hst] at HRD
  have hx : valF l 0 ≤ 1099511627776 → lifeB (valF l 1 : Nat) = false := by
   intro h0
   unfold lifeB
   by_cases h1 : 1 ≤ valF l 1
   ·have h2 : ¬ valF l 1 ≤ 2147483648 := fun h2 => hnot ⟨hl, h0, h1, h2⟩
    rw [decide_eq_false (show ¬ ((valF l 1 : Nat) : Int) ≤ 2147483648 by omega), Bool.and_false]
   ·rw [decide_eq_false (show ¬ (1 : Int) ≤ ((valF l 1 : Nat) : Int) by omega), Bool.false_and]
  have HL := Lh (fun W => isLife_calls (valF l 1 : Nat) W)
  have hne : ((l.length : Int) != 56) = false := by simp [hl]
  clear hb h hst hnot
  generalize valF l = x at *
  have HX := Lh hx
  clear hx
  generalize hN : l.length = N at *
  clear hN hl
  go_enter Tryz.func114, Tryz.ntmps114
  go_wp2_with fail
  have HFC := fields_calls (w.alloc (.cells (offV zF) 106))
  refine HFC.mono ?_
  rintro e w1 ⟨ad, rfl, hF, hB1⟩
  replace HGB := Lh (blk_below HGB.out hB1)
  replace HB := Lh (below_then HB.out HB.out.size hB1)
  have HF := Lh hF
  clear hF hB1 HFC
  go_wp2_with fail
  refine (HRD.out w1 ad HB.out HF.out).mono ?_
  rintro e w2 ⟨hor, hB2⟩
  replace HGB := Lh (blk_below HGB.out hB2)
  replace HB := Lh (below_then HB.out HB.out.size hB2)
  have HP := Lh (below_setRow HB.out (Nat.le_refl w.heap.size) (offV zF))
  have HQ := Lh (setRow_heap w2 w.heap.size _ (offV zF) _ _ HGB.out)
  clear hB2 HF HRD
  rcases hor with ⟨_, rfl⟩ | ⟨hx0, s, rfl, hs⟩
  ·go_wp2_with (refine wpList_store_row rfl 106 _ _ rfl w.heap.size (offV zF) rfl rfl 106 (offV zF) HGB.out (by kernel_rfl) rfl (by simp [offV, Value.oneCell']) ?_)
   refine bodyPost_ret (results_cttt rfl _ _ w.heap.size 106 _ (0, 0) _ rfl HQ.out Tryz.underlying106 rfl (by kernel_rfl)) rfl ?_
   exact ⟨rfl, HP.out⟩
  ·have q12 : w2.cell? ⟨s, 12, none⟩ = some (.int .i64 (x 1 : Nat)) := blk_cell hs 12
   rw [HX.out hx0] at HL
   clear hs hx0 HX
   go_wp2_with (first | (go_at_call 152; refine (HL.out _).mono ?_; rintro e w' ⟨rfl, rfl⟩) | (refine wpList_store_row rfl 106 _ _ rfl w.heap.size (offV zF) rfl rfl 106 (offV zF) HGB.out (by kernel_rfl) rfl (by simp [offV, Value.oneCell']) ?_))
   refine bodyPost_ret (results_cttt rfl _ _ w.heap.size 106 _ (0, 0) _ rfl HQ.out Tryz.underlying106 rfl (by kernel_rfl)) rfl ?_
   exact ⟨rfl, HP.out⟩
 ·have hne : ((l.length : Int) != 56) = true := by simp; omega
  have HP := Lh (below_setRow HB.out (Nat.le_refl w.heap.size) (offV zF))
  have HQ := Lh (setRow_heap _ w.heap.size _ (offV zF) _ _ HGB.out)
  clear hb h hnot hl hc
  generalize l.length = N at *
  go_enter Tryz.func114, Tryz.ntmps114
  go_wp2_with (refine wpList_store_row rfl 106 _ _ rfl w.heap.size (offV zF) rfl rfl 106 (offV zF) HGB.out (by kernel_rfl) rfl (by simp [offV, Value.oneCell']) ?_)
  refine bodyPost_ret (results_cttt rfl _ _ w.heap.size 106 _ (0, 0) _ rfl HQ.out Tryz.underlying106 rfl (by kernel_rfl)) rfl ?_
  exact ⟨rfl, HP.out⟩
end Go.Proofs.YthiaakjbapgibaaGreat.Ck
end
section
namespace Go.Proofs.YthiaakjbapgibaaGreat.Ck
open Go.RowKit YthiaakjbapgibaaGreatW.PrintWords YthiaakjbapgibaaGreatW.PrintLast Base Mac
def checkT6 : Bool × List (List Nat × List Nat) := (true, [([], []), ([0], [0]), ([], []), ([], []), ([3], [3]), ([4], [4]), ([2, 5], [2, 5]), ([1, 6, 6], [1, 6]), ([7], [7]), ([8, 7], [8])])
def checkB6 : List Nat := [0, 1, 0, 0, 8, 24, 60, 127, 255, 511]
theorem checktab6 : Go.Proofs.YthiaakjbapgibaaGreatW.PrintLast.rtab .any (Go.Proofs.YthiaakjbapgibaaGreatW.PrintLast.opsOf Tryz.f113 6) = checkT6 := by kernel_rfl
theorem checkbits6 : Go.Proofs.YthiaakjbapgibaaGreatW.PrintLast.waitsOk checkT6.2 checkB6 = true := by kernel_rfl
def sealOk (k l : List UInt8) : Bool := decide (l.drop 48 = textL (sumS k [l.take 48]))
def chkS (b : Bool) (now : Int) (x : Nat → Nat) : (Nat → Nat) × Int × Int := if b = false then (zF, 0, 210) else if now > (x 0 : Nat) + (x 1 : Nat) then (zF, now - (x 0 : Nat) - (x 1 : Nat), 211) else (x, 0, 0)
def ChkP (s : (Nat → Nat) × Int × Int) (w : World) (e : Ending) (w' : World) : Prop := e = .returned (.tuple #[.agg (offV s.1), .int .i64 s.2.1, .int .i64 s.2.2]) ∧ Below w.heap.size w w'
set_option maxRecDepth 100000 in
set_option maxHeartbeats 1000000 in
theorem check_main (w : World) (k : List UInt8) (hk : k.length = 16) (A : Option Addr) (c : Nat) (l : List UInt8) (hb : byte.C w A l.length l) (hc : l.length ≤ c) (now : Int) (ht : timeB now = true) (h : lookB l = true) :
  Calls Tryz.prog 113 #[.agg (keyV k), .int .i64 now, .slice A l.length c] w (ChkP (chkS (sealOk k l) now (valF l)) w) := by
 obtain ⟨hl, h0, h1, h2⟩ := of_decide_eq_true h
 have hT := fun W => isTime_calls now W
 rw [ht] at hT
 have HT := Lh hT
 have htt : 0 ≤ now ∧ now ≤ 1099511627776 := by
  unfold timeB at ht
  rw [Bool.and_eq_true] at ht
  exact ⟨of_decide_eq_true ht.1, of_decide_eq_true ht.2⟩
 have HK := Lh (show ((w.alloc (.cells (keyV k) 49)).alloc (.cells (offV zF) 106)).heap[w.heap.size]? = some (.cells (keyV k) 49 (0, 0)) from blk_alloc (blk_new _ _) _)
 have HO := Lh (show ((w.alloc (.cells (keyV k) 49)).alloc (.cells (offV zF) 106)).heap[w.heap.size + 1]? = some (.cells (offV zF) 106 (0, 0)) by have h := blk_new (w.alloc (.cells (keyV k) 49)) (.cells (offV zF) 106); rw [World.size_alloc] at h; exact h)
 have HB := Lh (below_alloc (below_alloc (Below.refl w.heap.size w) (.cells (keyV k) 49)) (.cells (offV zF) 106))
 have HKS := Lh (key_size hk)
 have HLK := Lh (fun (W : World) (hW : Below w.heap.size w W) => look_good W A c l (Kd.C_below hb hW) hc h)
 obtain ⟨ht1, ht2, ht3⟩ := take_bytes hb hc 48 48 rfl (by omega)
 obtain ⟨A4, hd1, hd2, hd3⟩ := drop_bytes hb hc 48 48 rfl (by omega)
 have HSM := Lh (fun (W : World) (A : Option Addr) (c : Nat) (h : bytesK.C W A [l.take 48].length [l.take 48]) => sum_calls W k hk A c [l.take 48] h (Nat.le_trans (row_len _ (by rw [List.length_take, hl]; rfl)) (by decide)))
 have HSA := Lh (fun (W : World) (h : byte.C W A4 (l.drop 48).length (l.drop 48)) => same_calls W A4 (c - 48) (l.drop 48) (sumS k [l.take 48]) h)
 have hso : decide (l.drop 48 = textL (sumS k [l.take 48])) = sealOk k l := rfl
 rw [hso] at HSA
 have HT2 := Lh ht2
 have HD2 := Lh hd2
 have HLE := Lh ht3
 have HC := Lh hb
 clear hb ht2 hd2 hd3 ht3 ht hT h hso
 generalize sealOk k l = bb at *
 generalize ((sumS k [l.take 48]).toNat : Int) = sm at *
 generalize l.take 48 = lt at *
 generalize l.drop 48 = ld at *
 generalize valF l = x at *
 unfold offV at HLK
 generalize hN : l.length = N at *
 clear hN hl
 generalize keyV k = KV at *
 go_enter Tryz.func113, Tryz.ntmps113
 go_wp2_with (go_at_call 147; refine (HT.out _).mono ?_; rintro e w' ⟨rfl, rfl⟩)
 refine (HLK.out _ HB.out).mono ?_
 rintro e w1 ⟨rfl, hB1⟩
 have HK1 := Lh (blk_below HK.out hB1)
 have HO1 := Lh (blk_below HO.out hB1)
 have HB1 := Lh (below_then HB.out HB.out.size hB1)
 have HN1 := Lh (blk_new w1 (.cells #[.int .u16 (x 2 : Nat), .int .u16 (x 3 : Nat), .int .u32 (x 4 : Nat), .int .u32 (x 5 : Nat), .int .u32 (x 6 : Nat), .int .u32 (x 7 : Nat), .int .u32 (x 8 : Nat), .int .u16 (x 9 : Nat), .int .u16 (x 10 : Nat), .int .u32 (x 11 : Nat), .int .u32 (x 12 : Nat)] 106))
 clear hB1 HLK HT
 go_upto_region 6 with (fail)
 have HBA := Lh (HB1.out.alloc HB1.out.size (.cells #[.int .u16 (x 2 : Nat), .int .u16 (x 3 : Nat), .int .u32 (x 4 : Nat), .int .u32 (x 5 : Nat), .int .u32 (x 6 : Nat), .int .u32 (x 7 : Nat), .int .u32 (x 8 : Nat), .int .u16 (x 9 : Nat), .int .u16 (x 10 : Nat), .int .u32 (x 11 : Nat), .int .u32 (x 12 : Nat)] 106))
 have HLT := Lh (Kd.C_below HT2.out HBA.out)
 have HLD := Lh (Kd.C_below HD2.out HBA.out)
 replace HK := Lh (blk_alloc HK1.out (.cells #[.int .u16 (x 2 : Nat), .int .u16 (x 3 : Nat), .int .u32 (x 4 : Nat), .int .u32 (x 5 : Nat), .int .u32 (x 6 : Nat), .int .u32 (x 7 : Nat), .int .u32 (x 8 : Nat), .int .u16 (x 9 : Nat), .int .u16 (x 10 : Nat), .int .u32 (x 11 : Nat), .int .u32 (x 12 : Nat)] 106))
 have HO2 := Lh (blk_alloc HO1.out (.cells #[.int .u16 (x 2 : Nat), .int .u16 (x 3 : Nat), .int .u32 (x 4 : Nat), .int .u32 (x 5 : Nat), .int .u32 (x 6 : Nat), .int .u32 (x 7 : Nat), .int .u32 (x 8 : Nat), .int .u16 (x 9 : Nat), .int .u16 (x 10 : Nat), .int .u32 (x 11 : Nat), .int .u32 (x 12 : Nat)] 106))
 clear HK1 HO1 HB1 HB HO HT2 HD2
 generalize hg9 : w1.heap.size = gx at *
 have hWW : w1.alloc (.cells #[.int .u16 (x 2 : Nat), .int .u16 (x 3 : Nat), .int .u32 (x 4 : Nat), .int .u32 (x 5 : Nat), .int .u32 (x 6 : Nat), .int .u32 (x 7 : Nat), .int .u32 (x 8 : Nat), .int .u16 (x 9 : Nat), .int .u16 (x 10 : Nat), .int .u32 (x 11 : Nat), .int .u32 (x 12 : Nat)] 106) = w1.alloc (.cells #[.int .u16 (x 2 : Nat), .int .u16 (x 3 : Nat), .int .u32 (x 4 : Nat), .int .u32 (x 5 : Nat), .int .u32 (x 6 : Nat), .int .u32 (x 7 : Nat), .int .u32 (x 8 : Nat), .int .u16 (x 9 : Nat), .int .u16 (x 10 : Nat), .int .u32 (x 11 : Nat), .int .u32 (x 12 : Nat)] 106) := rfl
 revert HBA HLT HLD HK HO2 HN1
 generalize w1.alloc (.cells #[.int .u16 (x 2 : Nat), .int .u16 (x 3 : Nat), .int .u32 (x 4 : Nat), .int .u32 (x 5 : Nat), .int .u32 (x 6 : Nat), .int .u32 (x 7 : Nat), .int .u32 (x 8 : Nat), .int .u16 (x 9 : Nat), .int .u16 (x 10 : Nat), .int .u32 (x 11 : Nat), .int .u32 (x 12 : Nat)] 106) = W
 intro HBA HLT HLD HK HO2 HN1
 have B := True.intro
 refine start_ (n := 10) (S := fun w' => True) (ds := []) #[false, false, false, false, false, false, false, false, false, false] (by kernel_rfl) rfl rfl trivial (fun hHeld => ?_)
 refine with_tabW checktab6 checkbits6 (fun HT_ HW_ => ?_)
 refine pu 0 30 ?_ rfl rfl (any_of HT_.out (by kernel_rfl)) (fun _ _ _ h => h) (by rfl) ?_ ?_ ?_ ?_
 rotate_left
 ·intro w'
  go_simp
  with_reducible rfl
 rotate_left
 ·simp only [sL]
  rfl
 refine pu 3 33 ?_ rfl rfl (any_of HT_.out (by kernel_rfl)) (fun _ _ _ h => h) (by rfl) ?_ ?_ ?_ ?_
 rotate_left
 ·intro w'
  go_simp
  with_reducible rfl
 rotate_left
 ·simp only [sL]
  rfl
 refine inv_at [1, 2, 4, 5, 6, 7, 8, 9] (fun a0_ b a w' => ∃ (g9 : Nat) (m5_ : Value), a = putSel a0_ b [(1, 31, .slice A4 ld.length (c - 48)), (2, 32, .agg KV), (4, 34, .slice A lt.length c), (5, 35, m5_), (6, 36, .int .u64 sm), (7, 37, .bool bb), (8, 38, .bool (!bb)), (9, 29, .bool (!bb))] ∧ (Below W.heap.size W w') ∧ (b 5 = true → bytesK.C w' (some ⟨g9, 0, none⟩) [lt].length [lt]) ∧ (b 5 = true → (m5_ : Value) = .slice (some ⟨g9, 0, none⟩) 1 1)) HT_.out HW_.out (by kernel_rfl) (by kernel_rfl) ?_ ?_ ?_
 ·exact ⟨0, .bool false, by simp only [putSel, Bool.false_eq_true, if_false], below_drew (Below.refl _ _), fun h_ => absurd h_ (by decide), fun h_ => absurd h_ (by decide)⟩
 ·skip
  clear B
  refine sc rfl ?_ ?_
  ·rintro b a w' ⟨g9, m5_, ha, Q_B, Q_C, Q_X5_⟩ hb_ hon hoff K hK
   have e30 : a.tmps[30]? = some (.slice A N c) := by rw [ha]; exact (putSel_off rfl).trans rfl
   replace ha := Am ha
   refine value_ (w1 := w') (v := .slice A4 ld.length (c - 48)) (by rfl) rfl ?_ ?_
   ·go_simp
    (try simp only [i64_w])
    try rfl
   refine hK.out _ _ ⟨g9, m5_, (puk ha 0 hb_ rfl rfl rfl), Q_B, Q_C, Q_X5_⟩
  refine sc rfl ?_ ?_
  ·rintro b a w' ⟨g9, m5_, ha, Q_B, Q_C, Q_X5_⟩ hb_ hon hoff K hK
   have e3 : a.tmps[3]? = some (.pointer (some ⟨w.heap.size, 0, none⟩)) := by rw [ha]; exact (putSel_off rfl).trans rfl
   replace ha := Am ha
   have B := Am Q_B
   refine value_ (w1 := w') (v := .agg KV) (by rfl) rfl (exec_load_row 49 (.tmp 3) rfl (eval_of e3) (blk_below HK.out B.out) Tryz.underlying49 rfl HKS.out) ?_
   refine hK.out _ _ ⟨g9, m5_, (puk ha 1 hb_ rfl rfl rfl), B.out, fun h0_ => (Q_C h0_), Q_X5_⟩
  refine sc rfl ?_ ?_
  ·rintro b a w' ⟨g9, m5_, ha, Q_B, Q_C, Q_X5_⟩ hb_ hon hoff K hK
   have e33 : a.tmps[33]? = some (.slice A N c) := by rw [ha]; exact (putSel_off rfl).trans rfl
   replace ha := Am ha
   refine value_ (w1 := w') (v := .slice A lt.length c) (by rfl) rfl ?_ ?_
   ·go_simp
    (try simp only [i64_w])
    try rfl
   refine hK.out _ _ ⟨g9, m5_, (puk ha 2 hb_ rfl rfl rfl), Q_B, fun h0_ => hof (hoff 5 (by kernel_rfl)) h0_, fun h0_ => hof (hoff 5 (by kernel_rfl)) h0_⟩
  refine sc rfl ?_ ?_
  ·rintro b a w' ⟨g9, m5_, ha, Q_B, Q_C, Q_X5_⟩ hb_ hon hoff K hK
   have e34 := psn ha 2 rfl rfl (hon 4 (by kernel_rfl)) rfl
   replace ha := Am ha
   have B := Am Q_B
   refine value_ (w1 := w'.alloc (.cells #[.slice A lt.length c] 62)) (v := .slice (some ⟨w'.heap.size, 0, none⟩) 1 1) (by rfl) rfl (by go_simp; try rfl) ?_
   refine hK.out _ _ ⟨w'.heap.size, (.slice (some ⟨w'.heap.size, 0, none⟩) 1 1), (puk ha 3 hb_ rfl rfl rfl), B.out.alloc B.out.size _, fun _ => one_C (Kd.C_below HLT.out B.out) HLE.out, fun _ => rfl⟩
  refine sc rfl ?_ ?_
  ·rintro b a w' ⟨g9, m5_, ha, Q_B, Q_C, Q_X5_⟩ hb_ hon hoff K hK
   have e32 := psn ha 1 rfl rfl (hon 2 (by kernel_rfl)) rfl
   have e35 := psn ha 3 rfl rfl (hon 5 (by kernel_rfl)) rfl
   rw [Q_X5_ (hon 5 (by kernel_rfl))] at e35
   replace ha := Am ha
   have B := Am Q_B
   have C := Am (Q_C (hon 5 (by kernel_rfl)))
   refine goes_ Tryz.func149 (by kernel_rfl) rfl #[.agg KV, .slice (some ⟨g9, 0, none⟩) 1 1] (by rfl) rfl rfl (by first | (simp only [List.map_toArray, List.map_cons, List.map_nil, Act.eval, Array.getD_eq_getD_getElem?, Option.getD_some, e32, e35]; done) | (simp only [List.map_toArray, List.map_cons, List.map_nil, Act.eval, Array.getD_eq_getD_getElem?, Option.getD_some, e32, e35]; rfl)) ?_
   refine (HSM.out w' (some ⟨g9, 0, none⟩) 1 C.out).mono ?_
   rintro e w1 ⟨rfl, hB1⟩
   refine ⟨_, rfl, ?_⟩
   refine hK.out _ _ ⟨g9, m5_, (puk ha 4 hb_ rfl rfl rfl), B.out.trans (hB1.mono B.out.size), fun _ => Kd.C_below C.out hB1, Q_X5_⟩
  refine sc rfl ?_ ?_
  ·rintro b a w' ⟨g9, m5_, ha, Q_B, Q_C, Q_X5_⟩ hb_ hon hoff K hK
   have e31 := psn ha 0 rfl rfl (hon 1 (by kernel_rfl)) rfl
   have e36 := psn ha 4 rfl rfl (hon 6 (by kernel_rfl)) rfl
   replace ha := Am ha
   have B := Am Q_B
   have C := Am (Q_C (hon 5 (by kernel_rfl)))
   refine goes_ Tryz.func148 (by kernel_rfl) rfl #[.slice A4 ld.length (c - 48), .int .u64 sm] (by rfl) rfl rfl (by first | (simp only [List.map_toArray, List.map_cons, List.map_nil, Act.eval, Array.getD_eq_getD_getElem?, Option.getD_some, e31, e36]; done) | (simp only [List.map_toArray, List.map_cons, List.map_nil, Act.eval, Array.getD_eq_getD_getElem?, Option.getD_some, e31, e36]; rfl)) ?_
   refine (HSA.out w' (Kd.C_below HLD.out B.out)).mono ?_
   rintro e w1 ⟨rfl, hB1⟩
   refine ⟨_, rfl, ?_⟩
   refine hK.out _ _ ⟨g9, m5_, (puk ha 5 hb_ rfl rfl rfl), B.out.trans (hB1.mono B.out.size), fun _ => Kd.C_below C.out hB1, Q_X5_⟩
  refine sc rfl ?_ ?_
  ·rintro b a w' ⟨g9, m5_, ha, Q_B, Q_C, Q_X5_⟩ hb_ hon hoff K hK
   have e37 := psn ha 5 rfl rfl (hon 7 (by kernel_rfl)) rfl
   replace ha := Am ha
   refine value_ (w1 := w') (v := .bool (!bb)) (by rfl) rfl ?_ ?_
   ·go_simp
    (try simp only [i64_w])
    try rfl
   refine hK.out _ _ ⟨g9, m5_, (puk ha 6 hb_ rfl rfl rfl), Q_B, Q_C, Q_X5_⟩
  refine sc rfl ?_ ?_
  ·rintro b a w' ⟨g9, m5_, ha, Q_B, Q_C, Q_X5_⟩ hb_ hon hoff K hK
   have e38 := psn ha 6 rfl rfl (hon 8 (by kernel_rfl)) rfl
   replace ha := Am ha
   refine value_ (w1 := w') (v := .bool (!bb)) (by rfl) rfl ?_ ?_
   ·go_simp
    (try simp only [i64_w])
    try rfl
   refine hK.out _ _ ⟨g9, m5_, (puk ha 7 hb_ rfl rfl rfl), Q_B, Q_C, Q_X5_⟩
  exact steps_nil
 rintro b a w' hall ⟨g9, m5_, ha, Q_B, Q_C, Q_X5_⟩
 clear B
 have hb1_ := hall 1 (by kernel_rfl)
 have hb2_ := hall 2 (by kernel_rfl)
 have hb4_ := hall 4 (by kernel_rfl)
 have hb5_ := hall 5 (by kernel_rfl)
 have hb6_ := hall 6 (by kernel_rfl)
 have hb7_ := hall 7 (by kernel_rfl)
 have hb8_ := hall 8 (by kernel_rfl)
 have hb9_ := hall 9 (by kernel_rfl)
 subst ha
 obtain rfl := Q_X5_ hb5_
 simp only [putSel, hb1_, hb2_, hb4_, hb5_, hb6_, hb7_, hb8_, hb9_, if_true, Act.put, List.setIfInBounds_toArray, List.set_cons_zero, List.set_cons_succ]
 have B := Am Q_B
 clear Q_B
 have C := Am (Q_C hb5_)
 clear Q_C
 clear hall hb1_ hb2_ hb4_ hb5_ hb6_ hb7_ hb8_ hb9_
 have HO3 := Lh (blk_below HO2.out B.out)
 have HN3 := Lh (blk_below HN1.out B.out)
 have HB3 := Lh (HBA.out.trans (B.out.mono HBA.out.size))
 clear B C HO2 HN1 HBA HLT HLD HK HSM HSA
 have z0 : ((x 0 : Nat) : Int) ≤ 1099511627776 := by omega
 have z1 : ((x 1 : Nat) : Int) ≤ 2147483648 := by omega
 have hn0 := htt.1
 have hn1 := htt.2
 cases bb with
 | false =>
  have hS : chkS false now x = (zF, 0, 210) := rfl
  rw [hS]
  go_wp2_with (refine wpList_store_row rfl 106 _ _ rfl (w.heap.size + 1) (offV zF) rfl rfl 106 (offV zF) HO3.out (by kernel_rfl) rfl (by simp [offV, Value.oneCell']) ?_)
  refine bodyPost_ret (results_ctt rfl _ _ (w.heap.size + 1) 106 _ (0, 0) _ rfl (setRow_heap _ _ _ (offV zF) _ _ HO3.out) Tryz.underlying106 rfl (by kernel_rfl)) rfl ?_
  refine ⟨?_, below_setRow HB3.out (by omega) _⟩
  rfl
 | true =>
  by_cases hgt : now > ((x 0 : Nat) : Int) + ((x 1 : Nat) : Int)
  ·have hgt2 : ((x 0 : Nat) : Int) + ((x 1 : Nat) : Int) < now := hgt
   have hS : chkS true now x = (zF, now - (x 0 : Nat) - (x 1 : Nat), 211) := by unfold chkS; rw [if_neg (by decide), if_pos hgt]
   rw [hS]
   go_wp2_with (refine wpList_store_row rfl 106 _ _ rfl (w.heap.size + 1) (offV zF) rfl rfl 106 (offV zF) HO3.out (by kernel_rfl) rfl (by simp [offV, Value.oneCell']) ?_)
   refine bodyPost_ret (results_ctt rfl _ _ (w.heap.size + 1) 106 _ (0, 0) _ rfl (setRow_heap _ _ _ (offV zF) _ _ HO3.out) Tryz.underlying106 rfl (by kernel_rfl)) rfl ?_
   refine ⟨?_, below_setRow HB3.out (by omega) _⟩
   rfl
  ·have hS : chkS true now x = (x, 0, 0) := by unfold chkS; rw [if_neg (by decide), if_neg hgt]
   rw [hS]
   go_wp2_with (first | (refine wpList_load_row rfl 106 _ rfl gx rfl 106 #[.int .u16 (x 2 : Nat), .int .u16 (x 3 : Nat), .int .u32 (x 4 : Nat), .int .u32 (x 5 : Nat), .int .u32 (x 6 : Nat), .int .u32 (x 7 : Nat), .int .u32 (x 8 : Nat), .int .u16 (x 9 : Nat), .int .u16 (x 10 : Nat), .int .u32 (x 11 : Nat), .int .u32 (x 12 : Nat)] (0, 0) _ HN3.out Tryz.underlying106 rfl (by kernel_rfl) ?_) | (refine wpList_store_row rfl 106 _ _ rfl (w.heap.size + 1) #[.int .u16 (x 2 : Nat), .int .u16 (x 3 : Nat), .int .u32 (x 4 : Nat), .int .u32 (x 5 : Nat), .int .u32 (x 6 : Nat), .int .u32 (x 7 : Nat), .int .u32 (x 8 : Nat), .int .u16 (x 9 : Nat), .int .u16 (x 10 : Nat), .int .u32 (x 11 : Nat), .int .u32 (x 12 : Nat)] rfl rfl 106 (offV zF) HO3.out (by kernel_rfl) rfl (by simp [Value.oneCell']) ?_))
   refine bodyPost_ret (results_ctt rfl _ _ (w.heap.size + 1) 106 _ (0, 0) _ rfl (setRow_heap _ _ _ #[.int .u16 (x 2 : Nat), .int .u16 (x 3 : Nat), .int .u32 (x 4 : Nat), .int .u32 (x 5 : Nat), .int .u32 (x 6 : Nat), .int .u32 (x 7 : Nat), .int .u32 (x 8 : Nat), .int .u16 (x 9 : Nat), .int .u16 (x 10 : Nat), .int .u32 (x 11 : Nat), .int .u32 (x 12 : Nat)] _ _ HO3.out) Tryz.underlying106 rfl (by kernel_rfl)) rfl ?_
   refine ⟨?_, below_setRow HB3.out (by omega) _⟩
   rfl
end Go.Proofs.YthiaakjbapgibaaGreat.Ck
end
section
namespace Go.Proofs.YthiaakjbapgibaaGreat.Ck
open Go.RowKit YthiaakjbapgibaaGreatW.PrintWords YthiaakjbapgibaaGreatW.PrintLast Base Mac
set_option maxRecDepth 100000 in
theorem check_time (w : World) (k : List UInt8) (A : Option Addr) (n c : Nat) (now : Int) (ht : timeB now = false) :
  Calls Tryz.prog 113 #[.agg (keyV k), .int .i64 now, .slice A n c] w (ChkP (zF, 0, 1) w) := by
 have hT := fun W => isTime_calls now W
 rw [ht] at hT
 have HT := Lh hT
 have HO := Lh (show ((w.alloc (.cells (keyV k) 49)).alloc (.cells (offV zF) 106)).heap[w.heap.size + 1]? = some (.cells (offV zF) 106 (0, 0)) by have h := blk_new (w.alloc (.cells (keyV k) 49)) (.cells (offV zF) 106); rw [World.size_alloc] at h; exact h)
 have HB := Lh (below_alloc (below_alloc (Below.refl w.heap.size w) (.cells (keyV k) 49)) (.cells (offV zF) 106))
 clear ht hT
 generalize keyV k = KV at *
 go_enter Tryz.func113, Tryz.ntmps113
 go_wp2_with (first | (go_at_call 147; refine (HT.out _).mono ?_; rintro e w' ⟨rfl, rfl⟩) | (refine wpList_store_row rfl 106 _ _ rfl (w.heap.size + 1) (offV zF) rfl rfl 106 (offV zF) HO.out (by kernel_rfl) rfl (by simp [offV, Value.oneCell']) ?_))
 refine bodyPost_ret (results_ctt rfl _ _ (w.heap.size + 1) 106 _ (0, 0) _ rfl (setRow_heap _ _ _ (offV zF) _ _ HO.out) Tryz.underlying106 rfl (by kernel_rfl)) rfl ?_
 exact ⟨rfl, below_setRow HB.out (by omega) _⟩
set_option maxRecDepth 100000 in
theorem check_look (w : World) (k : List UInt8) (A : Option Addr) (c : Nat) (l : List UInt8) (hb : byte.C w A l.length l) (hc : l.length ≤ c) (now : Int) (ht : timeB now = true) (h : lookB l = false) :
  Calls Tryz.prog 113 #[.agg (keyV k), .int .i64 now, .slice A l.length c] w (ChkP (zF, 0, 210) w) := by
 have hT := fun W => isTime_calls now W
 rw [ht] at hT
 have HT := Lh hT
 have HO := Lh (show ((w.alloc (.cells (keyV k) 49)).alloc (.cells (offV zF) 106)).heap[w.heap.size + 1]? = some (.cells (offV zF) 106 (0, 0)) by have h := blk_new (w.alloc (.cells (keyV k) 49)) (.cells (offV zF) 106); rw [World.size_alloc] at h; exact h)
 have HB := Lh (below_alloc (below_alloc (Below.refl w.heap.size w) (.cells (keyV k) 49)) (.cells (offV zF) 106))
 have HLK := Lh (fun (W : World) (hW : Below w.heap.size w W) => look_bad W A c l (Kd.C_below hb hW) hc h)
 unfold NoLook at HLK
 have hov : offV zF = #[.int .u16 0, .int .u16 0, .int .u32 0, .int .u32 0, .int .u32 0, .int .u32 0, .int .u32 0, .int .u16 0, .int .u16 0, .int .u32 0, .int .u32 0] := rfl
 rw [hov] at HLK
 clear hb ht hT h hov
 generalize l.length = N at *
 generalize keyV k = KV at *
 go_enter Tryz.func113, Tryz.ntmps113
 go_wp2_with (go_at_call 147; refine (HT.out _).mono ?_; rintro e w' ⟨rfl, rfl⟩)
 refine (HLK.out _ HB.out).mono ?_
 rintro e w1 ⟨rfl, hB1⟩
 have HO1 := Lh (blk_alloc (blk_below HO.out hB1) (.cells #[.int .u16 0, .int .u16 0, .int .u32 0, .int .u32 0, .int .u32 0, .int .u32 0, .int .u32 0, .int .u16 0, .int .u16 0, .int .u32 0, .int .u32 0] 106))
 have HB1 := Lh ((below_then HB.out HB.out.size hB1).alloc (below_then HB.out HB.out.size hB1).size (.cells #[.int .u16 0, .int .u16 0, .int .u32 0, .int .u32 0, .int .u32 0, .int .u32 0, .int .u32 0, .int .u16 0, .int .u16 0, .int .u32 0, .int .u32 0] 106))
 clear hB1 HLK HT
 go_wp2_with (refine wpList_store_row rfl 106 _ _ rfl (w.heap.size + 1) (offV zF) rfl rfl 106 (offV zF) HO1.out (by kernel_rfl) rfl (by simp [offV, Value.oneCell']) ?_)
 refine bodyPost_ret (results_ctt rfl _ _ (w.heap.size + 1) 106 _ (0, 0) _ rfl (setRow_heap _ _ _ (offV zF) _ _ HO1.out) Tryz.underlying106 rfl (by kernel_rfl)) rfl ?_
 exact ⟨rfl, below_setRow HB1.out (by omega) _⟩
def chkA (k l : List UInt8) (now : Int) : (Nat → Nat) × Int × Int := if timeB now = false then (zF, 0, 1) else if lookB l = false then (zF, 0, 210) else chkS (sealOk k l) now (valF l)
theorem check_calls (w : World) (k : List UInt8) (hk : k.length = 16) (A : Option Addr) (c : Nat) (l : List UInt8) (hb : byte.C w A l.length l) (hc : l.length ≤ c) (now : Int) :
  Calls Tryz.prog 113 #[.agg (keyV k), .int .i64 now, .slice A l.length c] w (ChkP (chkA k l now) w) := by
 unfold chkA
 cases ht : timeB now with
 | false => rw [if_pos rfl]; exact check_time w k A l.length c now ht
 | true =>
  rw [if_neg (by decide)]
  cases h : lookB l with
  | false => rw [if_pos rfl]; exact check_look w k A c l hb hc now ht h
  | true => rw [if_neg (by decide)]; exact check_main w k hk A c l hb hc now ht h
end Go.Proofs.YthiaakjbapgibaaGreat.Ck
end
section
namespace Go.Proofs.YthiaakjbapgibaaGreat.As
open Go.RowKit YthiaakjbapgibaaGreatW.PrintWords YthiaakjbapgibaaGreatW.PrintLast Base PCh
def ech1T1 : Bool × List (List Nat × List Nat) := (true, [([], []), ([0], [0]), ([1], [1]), ([2], [2]), ([3], [3]), ([], []), ([5], [5]), ([6], [6]), ([7], [7]), ([], []), ([9], [9]), ([10], [10]), ([11], [11]), ([12], [12]), ([4, 8, 13], [4, 8, 13]), ([14], [14]), ([15], [15]), ([15], [15]), ([15], [15]), ([], []), ([19, 16, 14, 0, 1, 2, 3, 4, 5, 6, 7, 8, 9, 10, 11, 12, 13, 14, 15, 16, 19], [16, 19]), ([17, 20, 0, 1, 2, 3, 4, 5, 6, 7, 8, 9, 10, 11, 12, 13, 14, 15, 16, 17, 19, 20], [17]), ([18, 21, 0, 1, 2, 3, 4, 5, 6, 7, 8, 9, 10, 11, 12, 13, 14, 15, 16, 17, 18, 19, 20, 21], [18])])
def ech1B1 : List Nat := [0, 1, 3, 7, 15, 0, 32, 96, 224, 0, 512, 1536, 3584, 7680, 16383, 32767, 65535, 65535, 65535, 0, 655359, 1835007, 4194303]
theorem ech1tab1 : Go.Proofs.YthiaakjbapgibaaGreatW.PrintLast.rtab .any (Go.Proofs.YthiaakjbapgibaaGreatW.PrintLast.opsOf Tryz.f63 1) = ech1T1 := by kernel_rfl
theorem ech1bits1 : Go.Proofs.YthiaakjbapgibaaGreatW.PrintLast.waitsOk ech1T1.2 ech1B1 = true := by kernel_rfl
def ecsT14 : Bool × List (List Nat × List Nat) := (true, [([], []), ([], []), ([1], [1]), ([2], [2]), ([3], [3]), ([4], [4]), ([5], [5]), ([6], [6]), ([], []), ([8], [8]), ([0, 7, 9, 5], [0, 7, 9])])
def ecsB14 : List Nat := [0, 0, 2, 6, 14, 30, 62, 126, 0, 256, 1023]
theorem ecstab14 : Go.Proofs.YthiaakjbapgibaaGreatW.PrintLast.rtab .any (Go.Proofs.YthiaakjbapgibaaGreatW.PrintLast.opsOf Tryz.f63 14) = ecsT14 := by kernel_rfl
theorem ecsbits14 : Go.Proofs.YthiaakjbapgibaaGreatW.PrintLast.waitsOk ecsT14.2 ecsB14 = true := by kernel_rfl
def ecrT17 : Bool × List (List Nat × List Nat) := (true, [([], []), ([], []), ([], []), ([2], [2]), ([], []), ([4], [4]), ([0, 0, 2, 3], [0]), ([6, 0, 2, 3], [6]), ([7, 0, 2, 3], [7]), ([8, 3, 0, 2, 3], [3, 8]), ([1, 0, 1, 2, 3, 4, 5, 6, 7, 8, 9], [1]), ([10, 0, 1, 2, 3, 4, 5, 6, 7, 8, 9], [10]), ([11, 0, 1, 2, 3, 4, 5, 6, 7, 8, 9], [11]), ([12, 5, 9, 0, 1, 2, 3, 4, 5, 6, 7, 8, 9], [5, 12])])
def ecrB17 : List Nat := [0, 0, 0, 4, 0, 16, 13, 77, 205, 461, 1023, 2047, 4095, 8191]
theorem ecrtab17 : Go.Proofs.YthiaakjbapgibaaGreatW.PrintLast.rtab .any (Go.Proofs.YthiaakjbapgibaaGreatW.PrintLast.opsOf Tryz.f63 17) = ecrT17 := by kernel_rfl
theorem ecrbits17 : Go.Proofs.YthiaakjbapgibaaGreatW.PrintLast.waitsOk ecrT17.2 ecrB17 = true := by kernel_rfl
abbrev valF := Go.Proofs.YthiaakjbapgibaaGreat.Ck.valF
def chkX (K : Cfg) (x : Chk) (now : Int) : (Nat → Nat) × Int × Int := Go.Proofs.YthiaakjbapgibaaGreat.Ck.chkA K.key (u8s x.f13) now
theorem chk_look {K : Cfg} {x : Chk} {now : Int} (hn : 0 ≤ now ∧ now ≤ 1099511627776) (h : (chkX K x now).2.2 = 0 ∨ (chkX K x now).2.2 = 211) : Go.Proofs.YthiaakjbapgibaaGreat.Ck.lookB (u8s x.f13) = true := by
 unfold chkX Go.Proofs.YthiaakjbapgibaaGreat.Ck.chkA at h
 rw [if_neg (show ¬ Go.Proofs.YthiaakjbapgibaaGreat.Ck.timeB now = false by unfold Go.Proofs.YthiaakjbapgibaaGreat.Ck.timeB; simp; omega)] at h
 by_cases hl : Go.Proofs.YthiaakjbapgibaaGreat.Ck.lookB (u8s x.f13) = true
 ·exact hl
 ·rw [if_pos (show Go.Proofs.YthiaakjbapgibaaGreat.Ck.lookB (u8s x.f13) = false by simpa using hl)] at h
  rcases h with h | h <;> exact absurd h (by decide)
theorem u16w (n : Int) : IntKind.u16.wrap n = n % 65536 := by simp [IntKind.wrap, IntKind.bits, IntKind.signed]
def fourI (n : Int) : List Int := [(n / 16777216) % 256, (n / 65536) % 256, (n / 256) % 256, n % 256]
theorem four_f (n : Int) (h0 : 0 ≤ n) (h1 : n ≤ 4294967295) : param_four.f n = some (fourI n) := by
 unfold param_four.f param_two.f
 simp only [Option.bind_some, u16w]
 rw [if_pos (by simp), Option.bind_some, if_pos (by simp), Option.bind_some]
 unfold fourI
 have e1 : n / 65536 % 65536 / 256 % 256 = n / 16777216 % 256 := by omega
 have e2 : n / 65536 % 65536 % 256 = n / 65536 % 256 := by omega
 have e3 : n % 65536 / 256 % 256 = n / 256 % 256 := by omega
 have e4 : n % 65536 % 256 = n % 256 := by omega
 simp [e1, e2, e3, e4]
theorem stale_f (n : Int) (h0 : 0 ≤ n) (h1 : n ≤ 4294967295) : param_Stale.f n = some (3, fourI n) := by unfold param_Stale.f; rw [four_f n h0 h1]; rfl
def badV (K : Cfg) (V : Nat → Nat) : Prop := ¬ ((V 2 : Nat) : Int) = K.port ∨ ¬ ((V 3 : Nat) : Int) = K.peer ∨ ((V 9 : Nat) : Int) = 0 ∨ K.out < ((V 9 : Nat) : Int) ∨ ((V 10 : Nat) : Int) = 0 ∨ K.inn < ((V 10 : Nat) : Int)
instance (K : Cfg) (V : Nat → Nat) : Decidable (badV K V) := by unfold badV; infer_instance
def mineB (m : Mst) (V : Nat → Nat) : Bool := decide (m.s ≠ 0) && decide (((V 4 : Nat) : Int) = m.tag)
def yoursB (m : Mst) (V : Nat → Nat) : Bool := decide (2 ≤ m.s) && decide (((V 5 : Nat) : Int) = m.pr.f0)
def tiedB (m : Mst) (V : Nat → Nat) : Bool := decide (2 ≤ m.s) && decide (((V 11 : Nat) : Int) = m.tag) && decide (((V 12 : Nat) : Int) = m.pr.f0)
def staleN (late : Int) : Int := if 4294967295 < IntKind.i64.wrap (1000 * late) then 4294967295 else IntKind.i64.wrap (1000 * late)
def staleC (late : Int) : Chk := ⟨9, 0, 0, 0, 0, 0, 0, 0, 0, 0, [], [], [], [], [⟨3, fourI (staleN late)⟩]⟩
def estP (m : Mst) (V : Nat → Nat) : Out := .ok ({ m with pr := offP V, s := 3 }, [actTimer 3 1, actPeer 4 (offP V), actSend (mkC 11 0 0 0 0 0 0) (V 5 : Nat)])
def echoQ (K : Cfg) (m : Mst) (tag late er : Int) (V : Nat → Nat) : Out :=
 if er ≠ 0 ∧ er ≠ 211 then .error 222
 else if badV K V then .error 222
 else if ¬ ((V 4 : Nat) : Int) = tag then .error 221
 else if er = 211 ∧ (mineB m V && yoursB m V) = false then .ok (m, [actSend (staleC late) (V 5 : Nat)])
 else if m.s = 0 then .ok ({ m with tag := (V 4 : Nat), tsn := (V 6 : Nat), pr := offP V, s := 3 }, [actPeer 4 (offP V), actSend (mkC 11 0 0 0 0 0 0) (V 5 : Nat)])
 else if (mineB m V && (yoursB m V || decide (m.s = 1))) = true then (if m.s ≤ 2 then estP m V else .ok (m, [actSend (mkC 11 0 0 0 0 0 0) m.pr.f0]))
 else if mineB m V = true then (if m.s = 2 then estP m V else .error 222)
 else if (!yoursB m V && tiedB m V) = true then restartP m V
 else .error 222
def echoP (K : Cfg) (m : Mst) (tag : Int) (x : Chk) (now : Int) : Out := echoQ K m tag (chkX K x now).2.1 (chkX K x now).2.2 (valF (u8s x.f13))
def StI (B : Nat) (W3 : World) (l : List Int) (R : Ending → World → Prop) (s : Nat) (vs : Nat → Value) (w : World) : Prop :=
 match s with
 | 0 => Below W3.heap.size W3 w
 | 1 => ∃ A c, vs 1 = .agg #[.int .u16 3, .slice A l.length c] ∧ l.length ≤ c ∧ (Stb B w fun W' => (Kd.int .u8).C W' A l.length l) ∧ Below W3.heap.size W3 w
 | 2 => ∃ A c gs, vs 2 = .slice (some ⟨gs, 0, none⟩) 1 1 ∧ w.heap[gs]? = some (.cells #[.int .u16 3, .slice A l.length c] 123 (0, 0)) ∧ l.length ≤ c ∧ (Stb B w fun W' => (Kd.int .u8).C W' A l.length l) ∧ Below W3.heap.size W3 w
 | 3 => ∃ A c gs, vs 3 = .agg #[.int .u8 9, .int .u8 0, .int .u32 0, .int .u16 0, .int .u16 0, .int .u32 0, .int .u32 0, .int .u32 0, .int .u16 0, .int .u16 0, .slice none 0 0, .slice none 0 0, .slice none 0 0, .slice none 0 0, .slice (some ⟨gs, 0, none⟩) 1 1] ∧ w.heap[gs]? = some (.cells #[.int .u16 3, .slice A l.length c] 123 (0, 0)) ∧ l.length ≤ c ∧ (Stb B w fun W' => (Kd.int .u8).C W' A l.length l) ∧ Below W3.heap.size W3 w
 | _ => R (.returned (.tuple #[])) w
theorem st_below {B : Nat} {W3 w : World} {l : List Int} {R : Ending → World → Prop} {s : Nat} {vs : Nat → Value} (h : StI B W3 l R s vs w) (hs : s ≤ 3) : Below W3.heap.size W3 w := by
 match s, h, hs with
 | 0, h, _ => exact h
 | 1, ⟨_, _, _, _, _, h⟩, _ => exact h
 | 2, ⟨_, _, _, _, _, _, _, h⟩, _ => exact h
 | 3, ⟨_, _, _, _, _, _, _, h⟩, _ => exact h
theorem st_one {B : Nat} {W3 w w' : World} {l : List Int} {R : Ending → World → Prop} {vs : Nat → Value} {v : Value} (h : StI B W3 l R 0 vs w) (hR : (Kd.int .u8).R 5 w' w.heap.size (fun _ => True) v l) (hB : Below w.heap.size w w') : StI B W3 l R 1 (updV vs 1 (.agg #[.int .u16 3, v])) w' := by
 obtain ⟨A, c, rfl, hl, hS⟩ := R_stable (Kd.int .u8) (B := B) (by decide) hR
 have h0 : Below W3.heap.size W3 w := h
 exact ⟨A, c, rfl, hl, hS, h0.trans (hB.mono h0.size)⟩
theorem stale_K {B : Nat} {W : World} {late : Int} {l : List Int} {A : Option Addr} {c gs : Nat} (hf : fourI (staleN late) = l) (hl : l.length ≤ c) (hS : Stb B W fun W' => (Kd.int .u8).C W' A l.length l) (hg : W.heap[gs]? = some (.cells #[.int .u16 3, .slice A l.length c] 123 (0, 0))) :
  Stb B W fun W' => Kd.K k65 W' (staleC late) (#[.int .u8 9, .int .u8 0, .int .u32 0, .int .u16 0, .int .u16 0, .int .u32 0, .int .u32 0, .int .u32 0, .int .u16 0, .int .u16 0, .slice none 0 0, .slice none 0 0, .slice none 0 0, .slice none 0 0, .slice (some ⟨gs, 0, none⟩) 1 1] : Array Value).toList := by
 have hp : Stb B W fun W' => Kd.K k123 W' ⟨3, l⟩ (#[.int .u16 3, .slice A l.length c] : Array Value).toList := fun W' hk => k123_mk W' (⟨3, l⟩ : S123) (A1 := A) (c1 := c) hl (hS W' hk)
 have hr := one_C k123 hg rfl hp
 unfold staleC
 rw [hf]
 exact fun W' hk => k65_mk W' (⟨9, 0, 0, 0, 0, 0, 0, 0, 0, 0, [], [], [], [], [⟨3, l⟩]⟩ : Chk) (Nat.le_refl _) (Kd.C_nil _ _) (Nat.le_refl _) (Kd.C_nil _ _) (Nat.le_refl _) (Kd.C_nil _ _) (Nat.le_refl _) (Kd.C_nil _ _) (Nat.le_refl _) (hr W' hk)
theorem chk_late {K : Cfg} {x : Chk} {now : Int} (hn : 0 ≤ now ∧ now ≤ 1099511627776) : 0 ≤ (chkX K x now).2.1 ∧ (chkX K x now).2.1 ≤ 1099511627776 := by
 unfold chkX Go.Proofs.YthiaakjbapgibaaGreat.Ck.chkA
 split
 ·exact ⟨by show (0 : Int) ≤ 0; decide, by show (0 : Int) ≤ 1099511627776; decide⟩
 split
 ·exact ⟨by show (0 : Int) ≤ 0; decide, by show (0 : Int) ≤ 1099511627776; decide⟩
 unfold Go.Proofs.YthiaakjbapgibaaGreat.Ck.chkS
 split
 ·exact ⟨by show (0 : Int) ≤ 0; decide, by show (0 : Int) ≤ 1099511627776; decide⟩
 split
 ·refine ⟨?_, ?_⟩ <;> dsimp only <;> omega
 ·exact ⟨by show (0 : Int) ≤ 0; decide, by show (0 : Int) ≤ 1099511627776; decide⟩
theorem stale_bd {late : Int} (h : 0 ≤ late ∧ late ≤ 1099511627776) : 0 ≤ staleN late ∧ staleN late ≤ 4294967295 := by
 have e : IntKind.i64.wrap (1000 * late) = 1000 * late := IntWalk.i64_in _ (by omega)
 unfold staleN
 rw [e]
 split <;> omega
theorem u8s_length (l : List Int) : (u8s l).length = l.length := List.length_map ..
section
variable {B : Nat} {W0 W : World} {g gt : Nat} {K : Cfg} {m : Mst} {xs : List Act'} {tag : Int} {x : Chk} {L : Lay} {now : Int}
theorem check_x (hk : K.key.length = 16) (hX : XW x) {w : World} (h : Go.Proofs.YthiaakjbapgibaaGreat.Ch.CR w x L) : Calls Tryz.prog 113 #[.agg (keyV K.key), .int .i64 now, .slice L.A13 x.f13.length L.c13] w fun e w' => e = .returned (.tuple #[.agg (Go.Proofs.YthiaakjbapgibaaGreat.Ck.offV (chkX K x now).1), .int .i64 (chkX K x now).2.1, .int .i64 (chkX K x now).2.2]) ∧ Below w.heap.size w w' := by
 have h1 := Go.Proofs.YthiaakjbapgibaaGreat.Ck.check_calls w K.key hk L.A13 L.c13 (u8s x.f13) (u8s_C hX.f13 h.h13) (by rw [u8s_length]; exact h.l13) now
 rw [u8s_length] at h1
 exact h1
theorem look_x (hX : XW x) {w : World} (h : Go.Proofs.YthiaakjbapgibaaGreat.Ch.CR w x L) (hl : Go.Proofs.YthiaakjbapgibaaGreat.Ck.lookB (u8s x.f13) = true) : Calls Tryz.prog 114 #[.slice L.A13 x.f13.length L.c13] w fun e w' => e = .returned (.tuple #[.agg (Go.Proofs.YthiaakjbapgibaaGreat.Ck.offV (valF (u8s x.f13))), .int .i64 (valF (u8s x.f13) 0 : Nat), .int .i64 (valF (u8s x.f13) 1 : Nat), .int .i64 0]) ∧ Below w.heap.size w w' := by
 have h1 := Go.Proofs.YthiaakjbapgibaaGreat.Ck.look_good w L.A13 L.c13 (u8s x.f13) (u8s_C hX.f13 h.h13) (by rw [u8s_length]; exact h.l13) hl
 rw [u8s_length] at h1
 exact h1
set_option maxHeartbeats 8000000 in
theorem echo_t (hM : MS B W0 g K m [] W) (hT : TC B W0 g gt tag x L now) (hQ : Kq B W0 W) (hX : XW x) (hn : 0 ≤ now ∧ now ≤ 1099511627776) : Calls Tryz.prog 63 #[.pointer (some ⟨gt, 0, none⟩)] W (ClP B W0 g K (echoP K m tag x now)) := by
 obtain ⟨r, hr⟩ : ∃ r, echoP K m tag x now = r := ⟨_, rfl⟩
 rw [hr]
 have HR := Lh hr
 clear hr
 have HCR := Lh (hT.cr.mono hQ)
 have HCK0 := fun (w' : World) (hb : Below W.heap.size W w') => check_x (K := K) (now := now) hM.hk hX (HCR.out w' (Kq.of_below hb))
 have HRT := Lh (hM.only.blk hT.row hT.ne)
 have HXW := Lh hX
 have HM := Lh hM
 have HT := Lh hT
 have HCL := Lh (chk_look (K := K) (x := x) hn)
 have HCT := Lh (chk_late (K := K) (x := x) hn)
 obtain ⟨c, hc⟩ : ∃ c, chkX K x now = c := ⟨_, rfl⟩
 unfold echoP at HR
 rw [hc] at HCK0 HCL HCT HR
 obtain ⟨X1, late, er⟩ := c
 dsimp only at HCK0 HCL HCT HR
 unfold echoQ at HR
 obtain ⟨kk, hkk⟩ : ∃ kk, keyV K.key = kk := ⟨_, rfl⟩
 have HKA := Lh (fun (w' : World) (hb : Below W.heap.size W w') (j : Nat) (v : Value) (hv : kk.toList[j]? = some v) => (show w'.cell? ((⟨g, 10, none⟩ : Addr).add j) = some v by
  rw [← hkk] at hv
  rw [Addr.add_lit]
  exact (HM.out.below hb).keyAt j v hv))
 have HKS := Lh (show (Tryz.prog.info? 49).map (·.size) = some kk.size by rw [← hkk, show (keyV K.key).size = 16 by simp [keyV, HM.out.hk]]; kernel_rfl)
 rw [hkk] at HCK0
 clear hkk
 have HCK := Lh HCK0
 clear hM hT hQ hX hn HCK0 hc
 go_enter Tryz.func63, Tryz.ntmps63
 have t0 : W.cell? ⟨gt, 0, none⟩ = some (.pointer (some ⟨g, 0, none⟩)) := HT.out.cell HM.out.only 0
 go_upto_region 1 with (fail)
 clear t0
 have Q := True.intro
 have G0 := True.intro
 have G1 := True.intro
 refine start_ (n := 23) (S := fun w' => True) (ds := []) #[false, false, false, false, false, false, false, false, false, false, false, false, false, false, false, false, false, false, false, false, false, false, false] (by kernel_rfl) rfl rfl trivial (fun hHeld => ?_)
 refine with_tabW ech1tab1 ech1bits1 (fun HT_ HW_ => ?_)
 refine pu 0 19 ?_ rfl rfl (any_of HT_.out (by kernel_rfl)) (fun _ _ _ h => h) (by rfl) ?_ ?_ ?_ ?_
 rotate_left
 ·intro w'
  go_simp
  with_reducible rfl
 rotate_left
 ·simp only [sL]
  rfl
 refine pu 5 24 ?_ rfl rfl (any_of HT_.out (by kernel_rfl)) (fun _ _ _ h => h) (by rfl) ?_ ?_ ?_ ?_
 rotate_left
 ·intro w'
  go_simp
  with_reducible rfl
 rotate_left
 ·simp only [sL]
  rfl
 refine pu 9 28 ?_ rfl rfl (any_of HT_.out (by kernel_rfl)) (fun _ _ _ h => h) (by rfl) ?_ ?_ ?_ ?_
 rotate_left
 ·intro w'
  go_simp
  with_reducible rfl
 rotate_left
 ·simp only [sL]
  rfl
 refine inv_at [1, 2, 3, 4, 6, 7, 8, 10, 11, 12, 13, 14, 15, 16, 17, 18, 19, 20, 21, 22] (fun a0_ b a w' => ∃ (go1 : Nat) (m19_ : Value), a = putSel a0_ b [(1, 20, .pointer (some ⟨g, 0, none⟩)), (2, 21, .pointer (some ⟨g, 10, none⟩)), (3, 22, .pointer (some ⟨g, 10, none⟩)), (4, 23, .agg kk), (6, 25, .pointer (some ⟨gt, 0, none⟩)), (7, 26, .pointer (some ⟨gt, 17, none⟩)), (8, 27, .int .i64 now), (10, 29, .pointer (some ⟨gt, 0, none⟩)), (11, 30, .pointer (some ⟨gt, 2, none⟩)), (12, 31, .pointer (some ⟨gt, 15, none⟩)), (13, 32, .slice L.A13 x.f13.length L.c13), (14, 33, .tuple #[.agg (Go.Proofs.YthiaakjbapgibaaGreat.Ck.offV X1), .int .i64 late, .int .i64 er]), (15, 18, .tuple #[.agg (Go.Proofs.YthiaakjbapgibaaGreat.Ck.offV X1), .int .i64 late, .int .i64 er]), (16, 34, .agg (Go.Proofs.YthiaakjbapgibaaGreat.Ck.offV X1)), (17, 35, .int .i64 late), (18, 36, .int .i64 er), (19, 3, m19_), (21, 4, .int .i64 late), (22, 5, .int .i64 er)] ∧ (Below W.heap.size W w') ∧ (b 19 = true → b 20 = false → w'.heap[go1]? = some (.cells #[.int .u16 0, .int .u16 0, .int .u32 0, .int .u32 0, .int .u32 0, .int .u32 0, .int .u32 0, .int .u16 0, .int .u16 0, .int .u32 0, .int .u32 0] 106 (0, 0)) ∧ W.heap.size ≤ go1) ∧ (b 20 = true → w'.heap[go1]? = some (.cells (Go.Proofs.YthiaakjbapgibaaGreat.Ck.offV X1) 106 (0, 0)) ∧ W.heap.size ≤ go1) ∧ (b 19 = true → (m19_ : Value) = .pointer (some ⟨go1, 0, none⟩))) HT_.out HW_.out (by kernel_rfl) (by kernel_rfl) ?_ ?_ ?_
 ·exact ⟨0, .bool false, by simp only [putSel, Bool.false_eq_true, if_false], below_drew (Below.refl _ _), fun h_ => absurd h_ (by decide), fun h_ => absurd h_ (by decide), fun h_ => absurd h_ (by decide)⟩
 ·skip
  clear Q
  refine sc rfl ?_ ?_
  ·rintro b a w' ⟨go1, m19_, ha, Q_Q, Q_G0, Q_G1, Q_X19_⟩ hb_ hon hoff K hK
   have e19 : a.tmps[19]? = some (.pointer (some ⟨g, 0, none⟩)) := by rw [ha]; exact (putSel_off rfl).trans rfl
   replace ha := Am ha
   refine value_ (w1 := w') (v := .pointer (some ⟨g, 0, none⟩)) (by rfl) rfl ?_ ?_
   ·go_simp
    (try simp only [i64_w])
    try rfl
   refine hK.out _ _ ⟨go1, m19_, (puk ha 0 hb_ rfl rfl rfl), Q_Q, Q_G0, fun h0_ => hof (hoff 20 (by kernel_rfl)) h0_, Q_X19_⟩
  refine sc rfl ?_ ?_
  ·rintro b a w' ⟨go1, m19_, ha, Q_Q, Q_G0, Q_G1, Q_X19_⟩ hb_ hon hoff K hK
   have e20 := psn ha 0 rfl rfl (hon 1 (by kernel_rfl)) rfl
   replace ha := Am ha
   refine value_ (w1 := w') (v := .pointer (some ⟨g, 10, none⟩)) (by rfl) rfl ?_ ?_
   ·go_simp
    (try simp only [i64_w])
    try rfl
   refine hK.out _ _ ⟨go1, m19_, (puk ha 1 hb_ rfl rfl rfl), Q_Q, Q_G0, fun h0_ => hof (hoff 20 (by kernel_rfl)) h0_, Q_X19_⟩
  refine sc rfl ?_ ?_
  ·rintro b a w' ⟨go1, m19_, ha, Q_Q, Q_G0, Q_G1, Q_X19_⟩ hb_ hon hoff K hK
   have e21 := psn ha 1 rfl rfl (hon 2 (by kernel_rfl)) rfl
   replace ha := Am ha
   refine value_ (w1 := w') (v := .pointer (some ⟨g, 10, none⟩)) (by rfl) rfl ?_ ?_
   ·go_simp
    (try simp only [i64_w])
    try rfl
   refine hK.out _ _ ⟨go1, m19_, (puk ha 2 hb_ rfl rfl rfl), Q_Q, Q_G0, fun h0_ => hof (hoff 20 (by kernel_rfl)) h0_, Q_X19_⟩
  refine sc rfl ?_ ?_
  ·rintro b a w' ⟨go1, m19_, ha, Q_Q, Q_G0, Q_G1, Q_X19_⟩ hb_ hon hoff K hK
   have e22 := psn ha 2 rfl rfl (hon 3 (by kernel_rfl)) rfl
   replace ha := Am ha
   have Q := Am Q_Q
   refine value_ (w1 := w') (v := .agg kk) (by rfl) rfl (exec_load_cells 49 (.tmp 22) rfl (eval_of e22) kk _ (HKA.out w' Q.out) Tryz.underlying49 rfl HKS.out) ?_
   refine hK.out _ _ ⟨go1, m19_, (puk ha 3 hb_ rfl rfl rfl), Q.out, fun h0_ h1_ => (Q_G0 h0_ h1_), fun h0_ => hof (hoff 20 (by kernel_rfl)) h0_, Q_X19_⟩
  refine sc rfl ?_ ?_
  ·rintro b a w' ⟨go1, m19_, ha, Q_Q, Q_G0, Q_G1, Q_X19_⟩ hb_ hon hoff K hK
   have e24 : a.tmps[24]? = some (.pointer (some ⟨gt, 0, none⟩)) := by rw [ha]; exact (putSel_off rfl).trans rfl
   replace ha := Am ha
   refine value_ (w1 := w') (v := .pointer (some ⟨gt, 0, none⟩)) (by rfl) rfl ?_ ?_
   ·go_simp
    (try simp only [i64_w])
    try rfl
   refine hK.out _ _ ⟨go1, m19_, (puk ha 4 hb_ rfl rfl rfl), Q_Q, Q_G0, fun h0_ => hof (hoff 20 (by kernel_rfl)) h0_, Q_X19_⟩
  refine sc rfl ?_ ?_
  ·rintro b a w' ⟨go1, m19_, ha, Q_Q, Q_G0, Q_G1, Q_X19_⟩ hb_ hon hoff K hK
   have e25 := psn ha 4 rfl rfl (hon 6 (by kernel_rfl)) rfl
   replace ha := Am ha
   refine value_ (w1 := w') (v := .pointer (some ⟨gt, 17, none⟩)) (by rfl) rfl ?_ ?_
   ·go_simp
    (try simp only [i64_w])
    try rfl
   refine hK.out _ _ ⟨go1, m19_, (puk ha 5 hb_ rfl rfl rfl), Q_Q, Q_G0, fun h0_ => hof (hoff 20 (by kernel_rfl)) h0_, Q_X19_⟩
  refine sc rfl ?_ ?_
  ·rintro b a w' ⟨go1, m19_, ha, Q_Q, Q_G0, Q_G1, Q_X19_⟩ hb_ hon hoff K hK
   have e26 := psn ha 5 rfl rfl (hon 7 (by kernel_rfl)) rfl
   replace ha := Am ha
   have Q := Am Q_Q
   have hs : w'.cell? ⟨gt, 17, none⟩ = some (.int .i64 now) := blk_cell (blk_below HRT.out Q.out) 17
   refine value_ (w1 := w') (v := .int .i64 now) (by rfl) rfl ?_ ?_
   ·go_simp
    (try simp only [i64_w])
    try rfl
   refine hK.out _ _ ⟨go1, m19_, (puk ha 6 hb_ rfl rfl rfl), Q_Q, Q_G0, fun h0_ => hof (hoff 20 (by kernel_rfl)) h0_, Q_X19_⟩
  refine sc rfl ?_ ?_
  ·rintro b a w' ⟨go1, m19_, ha, Q_Q, Q_G0, Q_G1, Q_X19_⟩ hb_ hon hoff K hK
   have e28 : a.tmps[28]? = some (.pointer (some ⟨gt, 0, none⟩)) := by rw [ha]; exact (putSel_off rfl).trans rfl
   replace ha := Am ha
   refine value_ (w1 := w') (v := .pointer (some ⟨gt, 0, none⟩)) (by rfl) rfl ?_ ?_
   ·go_simp
    (try simp only [i64_w])
    try rfl
   refine hK.out _ _ ⟨go1, m19_, (puk ha 7 hb_ rfl rfl rfl), Q_Q, Q_G0, fun h0_ => hof (hoff 20 (by kernel_rfl)) h0_, Q_X19_⟩
  refine sc rfl ?_ ?_
  ·rintro b a w' ⟨go1, m19_, ha, Q_Q, Q_G0, Q_G1, Q_X19_⟩ hb_ hon hoff K hK
   have e29 := psn ha 7 rfl rfl (hon 10 (by kernel_rfl)) rfl
   replace ha := Am ha
   refine value_ (w1 := w') (v := .pointer (some ⟨gt, 2, none⟩)) (by rfl) rfl ?_ ?_
   ·go_simp
    (try simp only [i64_w])
    try rfl
   refine hK.out _ _ ⟨go1, m19_, (puk ha 8 hb_ rfl rfl rfl), Q_Q, Q_G0, fun h0_ => hof (hoff 20 (by kernel_rfl)) h0_, Q_X19_⟩
  refine sc rfl ?_ ?_
  ·rintro b a w' ⟨go1, m19_, ha, Q_Q, Q_G0, Q_G1, Q_X19_⟩ hb_ hon hoff K hK
   have e30 := psn ha 8 rfl rfl (hon 11 (by kernel_rfl)) rfl
   replace ha := Am ha
   refine value_ (w1 := w') (v := .pointer (some ⟨gt, 15, none⟩)) (by rfl) rfl ?_ ?_
   ·go_simp
    (try simp only [i64_w])
    try rfl
   refine hK.out _ _ ⟨go1, m19_, (puk ha 9 hb_ rfl rfl rfl), Q_Q, Q_G0, fun h0_ => hof (hoff 20 (by kernel_rfl)) h0_, Q_X19_⟩
  refine sc rfl ?_ ?_
  ·rintro b a w' ⟨go1, m19_, ha, Q_Q, Q_G0, Q_G1, Q_X19_⟩ hb_ hon hoff K hK
   have e31 := psn ha 9 rfl rfl (hon 12 (by kernel_rfl)) rfl
   replace ha := Am ha
   have Q := Am Q_Q
   have hs : w'.cell? ⟨gt, 15, none⟩ = some (.slice L.A13 x.f13.length L.c13) := blk_cell (blk_below HRT.out Q.out) 15
   refine value_ (w1 := w') (v := .slice L.A13 x.f13.length L.c13) (by rfl) rfl ?_ ?_
   ·go_simp
    (try simp only [i64_w])
    try rfl
   refine hK.out _ _ ⟨go1, m19_, (puk ha 10 hb_ rfl rfl rfl), Q_Q, Q_G0, fun h0_ => hof (hoff 20 (by kernel_rfl)) h0_, Q_X19_⟩
  refine sc rfl ?_ ?_
  ·rintro b a w' ⟨go1, m19_, ha, Q_Q, Q_G0, Q_G1, Q_X19_⟩ hb_ hon hoff K hK
   have e23 := psn ha 3 rfl rfl (hon 4 (by kernel_rfl)) rfl
   have e27 := psn ha 6 rfl rfl (hon 8 (by kernel_rfl)) rfl
   have e32 := psn ha 10 rfl rfl (hon 13 (by kernel_rfl)) rfl
   replace ha := Am ha
   have Q := Am Q_Q
   refine goes_ Tryz.func113 (by kernel_rfl) rfl #[.agg kk, .int .i64 now, .slice L.A13 x.f13.length L.c13] (by rfl) rfl rfl (by first | (simp only [List.map_toArray, List.map_cons, List.map_nil, Act.eval, Array.getD_eq_getD_getElem?, Option.getD_some, e23, e27, e32]; done) | (simp only [List.map_toArray, List.map_cons, List.map_nil, Act.eval, Array.getD_eq_getD_getElem?, Option.getD_some, e23, e27, e32]; rfl)) ?_
   refine (HCK.out w' Q.out).mono ?_
   rintro e w1 ⟨rfl, hB1⟩
   refine ⟨_, rfl, ?_⟩
   refine hK.out _ _ ⟨go1, m19_, (puk ha 11 hb_ rfl rfl rfl), below_then Q.out Q.out.size hB1, fun h0_ h1_ => ⟨blk_below (Q_G0 h0_ h1_).1 hB1, (Q_G0 h0_ h1_).2⟩, fun h0_ => hof (hoff 20 (by kernel_rfl)) h0_, Q_X19_⟩
  refine sc rfl ?_ ?_
  ·rintro b a w' ⟨go1, m19_, ha, Q_Q, Q_G0, Q_G1, Q_X19_⟩ hb_ hon hoff K hK
   have e33 := psn ha 11 rfl rfl (hon 14 (by kernel_rfl)) rfl
   replace ha := Am ha
   refine value_ (w1 := w') (v := .tuple #[.agg (Go.Proofs.YthiaakjbapgibaaGreat.Ck.offV X1), .int .i64 late, .int .i64 er]) (by rfl) rfl ?_ ?_
   ·go_simp
    (try simp only [i64_w])
    try rfl
   refine hK.out _ _ ⟨go1, m19_, (puk ha 12 hb_ rfl rfl rfl), Q_Q, Q_G0, fun h0_ => hof (hoff 20 (by kernel_rfl)) h0_, Q_X19_⟩
  refine sc rfl ?_ ?_
  ·rintro b a w' ⟨go1, m19_, ha, Q_Q, Q_G0, Q_G1, Q_X19_⟩ hb_ hon hoff K hK
   have e18 := psn ha 12 rfl rfl (hon 15 (by kernel_rfl)) rfl
   replace ha := Am ha
   refine value_ (w1 := w') (v := .agg (Go.Proofs.YthiaakjbapgibaaGreat.Ck.offV X1)) (by rfl) rfl ?_ ?_
   ·go_simp
    (try simp only [i64_w])
    try rfl
   refine hK.out _ _ ⟨go1, m19_, (puk ha 13 hb_ rfl rfl rfl), Q_Q, Q_G0, fun h0_ => hof (hoff 20 (by kernel_rfl)) h0_, Q_X19_⟩
  refine sc rfl ?_ ?_
  ·rintro b a w' ⟨go1, m19_, ha, Q_Q, Q_G0, Q_G1, Q_X19_⟩ hb_ hon hoff K hK
   have e18 := psn ha 12 rfl rfl (hon 15 (by kernel_rfl)) rfl
   replace ha := Am ha
   refine value_ (w1 := w') (v := .int .i64 late) (by rfl) rfl ?_ ?_
   ·go_simp
    (try simp only [i64_w])
    try rfl
   refine hK.out _ _ ⟨go1, m19_, (puk ha 14 hb_ rfl rfl rfl), Q_Q, Q_G0, Q_G1, Q_X19_⟩
  refine sc rfl ?_ ?_
  ·rintro b a w' ⟨go1, m19_, ha, Q_Q, Q_G0, Q_G1, Q_X19_⟩ hb_ hon hoff K hK
   have e18 := psn ha 12 rfl rfl (hon 15 (by kernel_rfl)) rfl
   replace ha := Am ha
   refine value_ (w1 := w') (v := .int .i64 er) (by rfl) rfl ?_ ?_
   ·go_simp
    (try simp only [i64_w])
    try rfl
   refine hK.out _ _ ⟨go1, m19_, (puk ha 15 hb_ rfl rfl rfl), Q_Q, Q_G0, Q_G1, Q_X19_⟩
  refine sc rfl ?_ ?_
  ·rintro b a w' ⟨go1, m19_, ha, Q_Q, Q_G0, Q_G1, Q_X19_⟩ hb_ hon hoff K hK
   replace ha := Am ha
   have Q := Am Q_Q
   refine value_ (w1 := w'.alloc (.cells #[.int .u16 0, .int .u16 0, .int .u32 0, .int .u32 0, .int .u32 0, .int .u32 0, .int .u32 0, .int .u16 0, .int .u16 0, .int .u32 0, .int .u32 0] 106)) (v := .pointer (some ⟨w'.heap.size, 0, none⟩)) (by rfl) rfl (by go_simp; try rfl) ?_
   refine hK.out _ _ ⟨w'.heap.size, (.pointer (some ⟨w'.heap.size, 0, none⟩)), (puk ha 16 hb_ rfl rfl rfl), Q.out.alloc Q.out.size _, fun _ _ => ⟨blk_new _ _, Q.out.size⟩, fun h0_ => hof (hoff 20 (by kernel_rfl)) h0_, fun _ => rfl⟩
  refine sc rfl ?_ ?_
  ·rintro b a w' ⟨go1, m19_, ha, Q_Q, Q_G0, Q_G1, Q_X19_⟩ hb_ hon hoff K hK
   have e3 := psn ha 16 rfl rfl (hon 19 (by kernel_rfl)) rfl
   rw [Q_X19_ (hon 19 (by kernel_rfl))] at e3
   have e34 := psn ha 13 rfl rfl (hon 16 (by kernel_rfl)) rfl
   replace ha := Am ha
   have Q := Am Q_Q
   have G0 := Am (Q_G0 (hon 19 (by kernel_rfl)) hb_)
   refine skip_ (w1 := w'.setRow go1 (Go.Proofs.YthiaakjbapgibaaGreat.Ck.offV X1)) (by rfl) rfl (exec_store_row 106 (.tmp 3) (.tmp 34) rfl (eval_of e3) (eval_of e34) G0.out.1 (by kernel_rfl) rfl (by simp [Go.Proofs.YthiaakjbapgibaaGreat.Ck.offV, Value.oneCell'])) ?_
   refine hK.out _ _ ⟨go1, m19_, (by rw [ha.out]; exact putSel_none (v := undef) rfl), below_setRow Q.out G0.out.2 _, fun _ h1_ => absurd ((up_self b 20).symm.trans h1_) (by decide), fun _ => ⟨setRow_heap _ _ _ _ _ _ G0.out.1, G0.out.2⟩, Q_X19_⟩
  refine sc rfl ?_ ?_
  ·rintro b a w' ⟨go1, m19_, ha, Q_Q, Q_G0, Q_G1, Q_X19_⟩ hb_ hon hoff K hK
   have e35 := psn ha 14 rfl rfl (hon 17 (by kernel_rfl)) rfl
   replace ha := Am ha
   refine value_ (w1 := w') (v := .int .i64 late) (by rfl) rfl ?_ ?_
   ·go_simp
    (try simp only [i64_w])
    try rfl
   refine hK.out _ _ ⟨go1, m19_, (puk ha 17 hb_ rfl rfl rfl), Q_Q, fun _ h1_ => absurd ((hon 20 (by kernel_rfl)).symm.trans h1_) (by decide), Q_G1, Q_X19_⟩
  refine sc rfl ?_ ?_
  ·rintro b a w' ⟨go1, m19_, ha, Q_Q, Q_G0, Q_G1, Q_X19_⟩ hb_ hon hoff K hK
   have e36 := psn ha 15 rfl rfl (hon 18 (by kernel_rfl)) rfl
   replace ha := Am ha
   refine value_ (w1 := w') (v := .int .i64 er) (by rfl) rfl ?_ ?_
   ·go_simp
    (try simp only [i64_w])
    try rfl
   refine hK.out _ _ ⟨go1, m19_, (puk ha 18 hb_ rfl rfl rfl), Q_Q, fun _ h1_ => absurd ((hon 20 (by kernel_rfl)).symm.trans h1_) (by decide), Q_G1, Q_X19_⟩
  exact steps_nil
 rintro b a w' hall ⟨go1, m19_, ha, Q_Q, Q_G0, Q_G1, Q_X19_⟩
 clear Q
 have hb1_ := hall 1 (by kernel_rfl)
 have hb2_ := hall 2 (by kernel_rfl)
 have hb3_ := hall 3 (by kernel_rfl)
 have hb4_ := hall 4 (by kernel_rfl)
 have hb6_ := hall 6 (by kernel_rfl)
 have hb7_ := hall 7 (by kernel_rfl)
 have hb8_ := hall 8 (by kernel_rfl)
 have hb10_ := hall 10 (by kernel_rfl)
 have hb11_ := hall 11 (by kernel_rfl)
 have hb12_ := hall 12 (by kernel_rfl)
 have hb13_ := hall 13 (by kernel_rfl)
 have hb14_ := hall 14 (by kernel_rfl)
 have hb15_ := hall 15 (by kernel_rfl)
 have hb16_ := hall 16 (by kernel_rfl)
 have hb17_ := hall 17 (by kernel_rfl)
 have hb18_ := hall 18 (by kernel_rfl)
 have hb19_ := hall 19 (by kernel_rfl)
 have hb20_ := hall 20 (by kernel_rfl)
 have hb21_ := hall 21 (by kernel_rfl)
 have hb22_ := hall 22 (by kernel_rfl)
 subst ha
 obtain rfl := Q_X19_ hb19_
 simp only [putSel, hb1_, hb2_, hb3_, hb4_, hb6_, hb7_, hb8_, hb10_, hb11_, hb12_, hb13_, hb14_, hb15_, hb16_, hb17_, hb18_, hb19_, hb20_, hb21_, hb22_, if_true, Act.put, List.setIfInBounds_toArray, List.set_cons_zero, List.set_cons_succ]
 have Q := Am Q_Q
 clear Q_Q
 clear Q_G0
 have G1 := Am (Q_G1 hb20_)
 clear Q_G1
 clear hall hb1_ hb2_ hb3_ hb4_ hb6_ hb7_ hb8_ hb10_ hb11_ hb12_ hb13_ hb14_ hb15_ hb16_ hb17_ hb18_ hb19_ hb20_ hb21_ hb22_
 have HB1 := Lh Q.out
 have HM1 := Lh (HM.out.below Q.out)
 have HRT1 := Lh (blk_below HRT.out Q.out)
 have HCR1 := Lh (HCR.out.mono (Kq.of_below Q.out))
 clear Q G0 G1 HM HRT HCK HKA HKS
 generalize w' = W1 at *
 go_step
 go_step
 go_step
 go_cut [5] from 37 to 43 (fun s5 wx => s5 = .int .i64 er ∧ W1 = wx ∧ (er = 0 ∨ er = 211))
 case first =>
  by_cases he : er = 0 ∨ er = 211
  rotate_left
  ·have e0 : ¬ er = 0 := fun h => he (Or.inl h)
   have e2 : ¬ er = 211 := fun h => he (Or.inr h)
   rw [if_pos ⟨e0, e2⟩] at HR
   have HMq := HM1
   have e0a : decide (er = 0) = false := decide_eq_false e0
   have e0b : (er == 0) = false := by simpa using e0
   have e0c : (er != 0) = true := by simpa using e0
   have e2a : decide (er = 211) = false := decide_eq_false e2
   have e2b : (er == 211) = false := by simpa using e2
   have e2c : (er != 211) = true := by simpa using e2
   go_wp2_with fail
   refine (drop_calls _).mono ?_
   rintro e w9 ⟨rfl, rfl⟩
   exact ⟨rfl, by rw [← HR.out]; exact ⟨rfl, m, [], HMq.out⟩⟩
  rcases he with rfl | rfl
  ·go_wp2_with fail
   go_meet
   case rel => exact ⟨rfl, rfl, by simp⟩
  ·go_wp2_with fail
   go_meet
   case rel => exact ⟨rfl, rfl, by simp⟩
 case rest =>
  obtain ⟨hs5, hwc, he⟩ := hcut
  subst hs5
  subst hwc
  rw [if_neg (show ¬ (er ≠ 0 ∧ er ≠ 211) from fun h => by rcases he with h1 | h1 <;> simp_all)] at HR
  have HL := HCL.out he
  have HLK := Lh (fun (w' : World) (hb : Below W1.heap.size W1 w') => look_x HXW.out (HCR1.out w' (Kq.of_below hb)) HL)
  obtain ⟨V, hV⟩ : ∃ V, valF (u8s x.f13) = V := ⟨_, rfl⟩
  rw [hV] at HLK HR
  clear HL hV
  have t0 : W1.cell? ⟨gt, 0, none⟩ = some (.pointer (some ⟨g, 0, none⟩)) := blk_cell HRT1.out 0
  have t15 : W1.cell? ⟨gt, 15, none⟩ = some (.slice L.A13 x.f13.length L.c13) := blk_cell HRT1.out 15
  go_wp2_with fail
  refine (HLK.out _ (Below.refl _ _)).mono ?_
  rintro e w' ⟨rfl, hB⟩
  have HZ := Lh (blk_new w' (.cells #[.int .u16 0, .int .u16 0, .int .u32 0, .int .u32 0, .int .u32 0, .int .u32 0, .int .u32 0, .int .u16 0, .int .u16 0, .int .u32 0, .int .u32 0] 106))
  have Q := Lh (below_setRow (below_alloc hB (.cells #[.int .u16 0, .int .u16 0, .int .u32 0, .int .u32 0, .int .u32 0, .int .u32 0, .int .u32 0, .int .u16 0, .int .u16 0, .int .u32 0, .int .u32 0] 106)) hB.size (Go.Proofs.YthiaakjbapgibaaGreat.Ck.offV V))
  have HGE := Lh (show W1.heap.size ≤ w'.heap.size from hB.size)
  clear hB
  go_upto_region 5 with (refine wpList_store_row rfl 106 _ _ rfl w'.heap.size (Go.Proofs.YthiaakjbapgibaaGreat.Ck.offV V) rfl rfl 106 _ HZ.out (by kernel_rfl) (by first | rfl | simp [Go.Proofs.YthiaakjbapgibaaGreat.Ck.offV]) (by simp [Go.Proofs.YthiaakjbapgibaaGreat.Ck.offV, Value.oneCell']) ?_)
  clear t0 t15
  have G1 := setRow_heap _ _ _ (Go.Proofs.YthiaakjbapgibaaGreat.Ck.offV V) _ _ HZ.out
  have HGO := Lh G1
  have HM2 := Lh (HM1.out.below Q.out)
  have HRT2 := Lh (blk_below HRT1.out Q.out)
  have HGN := Lh (show w'.heap.size ≠ g by have := HGE.out; have := HM1.out.lt; have := HM1.out.only.size; omega)
  clear HZ G1
  generalize (w'.alloc (.cells #[.int .u16 0, .int .u16 0, .int .u32 0, .int .u32 0, .int .u32 0, .int .u32 0, .int .u32 0, .int .u16 0, .int .u16 0, .int .u32 0, .int .u32 0] 106)).setRow w'.heap.size (Go.Proofs.YthiaakjbapgibaaGreat.Ck.offV V) = W2 at *
  generalize w'.heap.size = go2 at *
  clear HM1 HRT1 HCR1 HLK
  have k0 := HM2.out.k0
  have k1 := HM2.out.k1
  have k3 := HM2.out.k3
  have k29 := HM2.out.k29
  have k30 := HM2.out.k30
  have k33 := HM2.out.k33
  have k34 := HM2.out.k34
  have t0 : W2.cell? ⟨gt, 0, none⟩ = some (.pointer (some ⟨g, 0, none⟩)) := blk_cell HRT2.out 0
  have t1 : W2.cell? ⟨gt, 1, none⟩ = some (.int .u32 tag) := blk_cell HRT2.out 1
  have o0 : W2.cell? ⟨go2, 0, none⟩ = some (.int .u16 ((V 2 : Nat) : Int)) := blk_cell HGO.out 0
  have o1 : W2.cell? ⟨go2, 1, none⟩ = some (.int .u16 ((V 3 : Nat) : Int)) := blk_cell HGO.out 1
  have o2 : W2.cell? ⟨go2, 2, none⟩ = some (.int .u32 ((V 4 : Nat) : Int)) := blk_cell HGO.out 2
  have o3 : W2.cell? ⟨go2, 3, none⟩ = some (.int .u32 ((V 5 : Nat) : Int)) := blk_cell HGO.out 3
  have o4 : W2.cell? ⟨go2, 4, none⟩ = some (.int .u32 ((V 6 : Nat) : Int)) := blk_cell HGO.out 4
  have o5 : W2.cell? ⟨go2, 5, none⟩ = some (.int .u32 ((V 7 : Nat) : Int)) := blk_cell HGO.out 5
  have o6 : W2.cell? ⟨go2, 6, none⟩ = some (.int .u32 ((V 8 : Nat) : Int)) := blk_cell HGO.out 6
  have o7 : W2.cell? ⟨go2, 7, none⟩ = some (.int .u16 ((V 9 : Nat) : Int)) := blk_cell HGO.out 7
  have o8 : W2.cell? ⟨go2, 8, none⟩ = some (.int .u16 ((V 10 : Nat) : Int)) := blk_cell HGO.out 8
  have o9 : W2.cell? ⟨go2, 9, none⟩ = some (.int .u32 ((V 11 : Nat) : Int)) := blk_cell HGO.out 9
  have o10 : W2.cell? ⟨go2, 10, none⟩ = some (.int .u32 ((V 12 : Nat) : Int)) := blk_cell HGO.out 10
  by_cases b1 : ((V 2 : Nat) : Int) = K.port
  rotate_left
  ·have b1a : decide (((V 2 : Nat) : Int) = K.port) = false := decide_eq_false b1
   have b1b : (((V 2 : Nat) : Int) == K.port) = false := by simpa using b1
   have b1c : (((V 2 : Nat) : Int) != K.port) = true := by simpa using b1
   rw [if_pos (show badV K V from Or.inl b1)] at HR
   go_quiet (fail)
   have HMq := Lh (HM2.out.drewN nq)
   clear o0 o1 o2 o3 o4 o5 o6 o7 o8 o9 o10
   clear k33 k34 k29 k30 k0 k1 k3 t0
   go_wp2_with fail
   refine (drop_calls _).mono ?_
   rintro e w9 ⟨rfl, rfl⟩
   exact ⟨rfl, by rw [← HR.out]; exact ⟨rfl, m, [], HMq.out⟩⟩
  have b1a : decide (((V 2 : Nat) : Int) = K.port) = true := decide_eq_true b1
  have b1b : (((V 2 : Nat) : Int) == K.port) = true := by simpa using b1
  have b1c : (((V 2 : Nat) : Int) != K.port) = false := by simpa using b1
  by_cases b2 : ((V 3 : Nat) : Int) = K.peer
  rotate_left
  ·have b2a : decide (((V 3 : Nat) : Int) = K.peer) = false := decide_eq_false b2
   have b2b : (((V 3 : Nat) : Int) == K.peer) = false := by simpa using b2
   have b2c : (((V 3 : Nat) : Int) != K.peer) = true := by simpa using b2
   rw [if_pos (show badV K V from Or.inr (Or.inl b2))] at HR
   go_quiet (fail)
   have HMq := Lh (HM2.out.drewN nq)
   clear o0 o1 o2 o3 o4 o5 o6 o7 o8 o9 o10
   clear k33 k34 k29 k30 k0 k1 k3 t0
   go_wp2_with fail
   refine (drop_calls _).mono ?_
   rintro e w9 ⟨rfl, rfl⟩
   exact ⟨rfl, by rw [← HR.out]; exact ⟨rfl, m, [], HMq.out⟩⟩
  have b2a : decide (((V 3 : Nat) : Int) = K.peer) = true := decide_eq_true b2
  have b2b : (((V 3 : Nat) : Int) == K.peer) = true := by simpa using b2
  have b2c : (((V 3 : Nat) : Int) != K.peer) = false := by simpa using b2
  by_cases b3 : ¬ ((V 9 : Nat) : Int) = 0
  rotate_left
  ·have b3 : ((V 9 : Nat) : Int) = 0 := Decidable.not_not.1 b3
   have b3a : decide (((V 9 : Nat) : Int) = 0) = true := decide_eq_true b3
   have b3b : (((V 9 : Nat) : Int) == 0) = true := by simpa using b3
   have b3c : (((V 9 : Nat) : Int) != 0) = false := by simpa using b3
   rw [if_pos (show badV K V from Or.inr (Or.inr (Or.inl b3)))] at HR
   go_quiet (fail)
   have HMq := Lh (HM2.out.drewN nq)
   clear o0 o1 o2 o3 o4 o5 o6 o7 o8 o9 o10
   clear k33 k34 k29 k30 k0 k1 k3 t0
   go_wp2_with fail
   refine (drop_calls _).mono ?_
   rintro e w9 ⟨rfl, rfl⟩
   exact ⟨rfl, by rw [← HR.out]; exact ⟨rfl, m, [], HMq.out⟩⟩
  have b3a : decide (((V 9 : Nat) : Int) = 0) = false := decide_eq_false b3
  have b3b : (((V 9 : Nat) : Int) == 0) = false := by simpa using b3
  have b3c : (((V 9 : Nat) : Int) != 0) = true := by simpa using b3
  by_cases b4 : ¬ K.out < ((V 9 : Nat) : Int)
  rotate_left
  ·have b4 : K.out < ((V 9 : Nat) : Int) := Decidable.not_not.1 b4
   have b4a : decide (K.out < ((V 9 : Nat) : Int)) = true := decide_eq_true b4
   rw [if_pos (show badV K V from Or.inr (Or.inr (Or.inr (Or.inl b4))))] at HR
   go_quiet (fail)
   have HMq := Lh (HM2.out.drewN nq)
   clear o0 o1 o2 o3 o4 o5 o6 o7 o8 o9 o10
   clear k33 k34 k29 k30 k0 k1 k3 t0
   go_wp2_with fail
   refine (drop_calls _).mono ?_
   rintro e w9 ⟨rfl, rfl⟩
   exact ⟨rfl, by rw [← HR.out]; exact ⟨rfl, m, [], HMq.out⟩⟩
  have b4a : decide (K.out < ((V 9 : Nat) : Int)) = false := decide_eq_false b4
  by_cases b5 : ¬ ((V 10 : Nat) : Int) = 0
  rotate_left
  ·have b5 : ((V 10 : Nat) : Int) = 0 := Decidable.not_not.1 b5
   have b5a : decide (((V 10 : Nat) : Int) = 0) = true := decide_eq_true b5
   have b5b : (((V 10 : Nat) : Int) == 0) = true := by simpa using b5
   have b5c : (((V 10 : Nat) : Int) != 0) = false := by simpa using b5
   rw [if_pos (show badV K V from Or.inr (Or.inr (Or.inr (Or.inr (Or.inl b5)))))] at HR
   go_quiet (fail)
   have HMq := Lh (HM2.out.drewN nq)
   clear o0 o1 o2 o3 o4 o5 o6 o7 o8 o9 o10
   clear k33 k34 k29 k30 k0 k1 k3 t0
   go_wp2_with fail
   refine (drop_calls _).mono ?_
   rintro e w9 ⟨rfl, rfl⟩
   exact ⟨rfl, by rw [← HR.out]; exact ⟨rfl, m, [], HMq.out⟩⟩
  have b5a : decide (((V 10 : Nat) : Int) = 0) = false := decide_eq_false b5
  have b5b : (((V 10 : Nat) : Int) == 0) = false := by simpa using b5
  have b5c : (((V 10 : Nat) : Int) != 0) = true := by simpa using b5
  by_cases b6 : ¬ K.inn < ((V 10 : Nat) : Int)
  rotate_left
  ·have b6 : K.inn < ((V 10 : Nat) : Int) := Decidable.not_not.1 b6
   have b6a : decide (K.inn < ((V 10 : Nat) : Int)) = true := decide_eq_true b6
   rw [if_pos (show badV K V from Or.inr (Or.inr (Or.inr (Or.inr (Or.inr b6)))))] at HR
   go_quiet (fail)
   have HMq := Lh (HM2.out.drewN nq)
   clear o0 o1 o2 o3 o4 o5 o6 o7 o8 o9 o10
   clear k33 k34 k29 k30 k0 k1 k3 t0
   go_wp2_with fail
   refine (drop_calls _).mono ?_
   rintro e w9 ⟨rfl, rfl⟩
   exact ⟨rfl, by rw [← HR.out]; exact ⟨rfl, m, [], HMq.out⟩⟩
  have b6a : decide (K.inn < ((V 10 : Nat) : Int)) = false := decide_eq_false b6
  rw [if_neg (show ¬ badV K V from fun h => by rcases h with h | h | h | h | h | h <;> contradiction)] at HR
  go_quiet (fail)
  have HM3 := Lh (HM2.out.drewN nq)
  have HRT3 := Lh (show (W2.drewN nq).heap[gt]? = _ from HRT2.out)
  have HGO3 := Lh (show (W2.drewN nq).heap[go2]? = _ from HGO.out)
  have Q3 := Lh (pw_below_drewN Q.out nq)
  clear HM2 HRT2 HGO Q t0 t1 o0 o1 o2 o3 o4 o5 o6 o7 o8 o9 o10 k0 k1 k3 k29 k30 k33 k34
  generalize W2.drewN nq = W3 at *
  have t1 : W3.cell? ⟨gt, 1, none⟩ = some (.int .u32 tag) := blk_cell HRT3.out 1
  have o2 : W3.cell? ⟨go2, 2, none⟩ = some (.int .u32 ((V 4 : Nat) : Int)) := blk_cell HGO3.out 2
  go_step
  go_upto_region 7 with (fail)
  by_cases b7 : ((V 4 : Nat) : Int) = tag
  rotate_left
  ·have b7a : decide (((V 4 : Nat) : Int) = tag) = false := decide_eq_false b7
   have b7b : (((V 4 : Nat) : Int) == tag) = false := by simpa using b7
   have b7c : (((V 4 : Nat) : Int) != tag) = true := by simpa using b7
   rw [if_pos b7] at HR
   go_quiet (fail)
   have HMq := Lh (HM3.out.drewN nq)
   clear t1 o2
   go_wp2_with fail
   exact ⟨rfl, by rw [← HR.out]; exact ⟨rfl, m, [], HMq.out⟩⟩
  have b7a : decide (((V 4 : Nat) : Int) = tag) = true := decide_eq_true b7
  have b7b : (((V 4 : Nat) : Int) == tag) = true := by simpa using b7
  have b7c : (((V 4 : Nat) : Int) != tag) = false := by simpa using b7
  rw [if_neg (show ¬ ¬ ((V 4 : Nat) : Int) = tag from fun h => h b7)] at HR
  go_quiet (fail)
  have HM4 := Lh (HM3.out.drewN nq)
  have HRT4 := Lh (show (W3.drewN nq).heap[gt]? = _ from HRT3.out)
  have HGO4 := Lh (show (W3.drewN nq).heap[go2]? = _ from HGO3.out)
  have Q4 := Lh (pw_below_drewN Q3.out nq)
  clear HM3 HRT3 HGO3 Q3 t1 o2
  generalize W3.drewN nq = W4 at *
  have k0 := HM4.out.k0
  go_step
  go_upto_region 10 with (fail)
  obtain ⟨b2, hb2⟩ : ∃ b, decide (2 ≤ m.s) = b := ⟨_, rfl⟩
  rw [hb2]
  have HB2 := Lh hb2
  clear hb2
  have k1 := HM4.out.k1
  have o2 : W4.cell? ⟨go2, 2, none⟩ = some (.int .u32 ((V 4 : Nat) : Int)) := blk_cell HGO4.out 2
  go_cut [11] from 112 to 133 (fun s11 wx => s11 = .bool (mineB m V) ∧ ∃ q, wx = W4.drewN q)
  case first =>
   obtain ⟨v4, h4⟩ : ∃ v : Int, ((V 4 : Nat) : Int) = v := ⟨_, rfl⟩
   obtain ⟨mt, ht⟩ : ∃ v : Int, m.tag = v := ⟨_, rfl⟩
   obtain ⟨s, hs⟩ : ∃ v : Int, m.s = v := ⟨_, rfl⟩
   rw [h4] at o2
   rw [ht] at k1
   rw [hs] at k0
   have HY := Lh (show mineB m V = (decide (s ≠ 0) && decide (v4 = mt)) by unfold mineB; rw [hs, h4, ht])
   clear h4 ht hs b7 b7a b7b b7c
   by_cases c0 : s = 0
   ·have c0a : decide (s = 0) = true := decide_eq_true c0
    have c0b : (s == 0) = true := by simpa using c0
    have c0c : (s != 0) = false := by simpa using c0
    go_quiet (fail)
    repeat go_step
    go_meet
    case rel => exact ⟨by rw [HY.out]; simp [c0], nq, rfl⟩
   ·have c0a : decide (s = 0) = false := decide_eq_false c0
    have c0b : (s == 0) = false := by simpa using c0
    have c0c : (s != 0) = true := by simpa using c0
    go_quiet (fail)
    repeat go_step
    go_meet
    case rel => exact ⟨by rw [HY.out]; by_cases h : v4 = mt <;> simp [h, c0], nq, rfl⟩
  case rest =>
  obtain ⟨hs11, q, hq⟩ := hcut
  subst hs11
  subst hq
  obtain ⟨mine, hmn⟩ : ∃ b, mineB m V = b := ⟨_, rfl⟩
  rw [hmn] at HR ⊢
  have HMN := Lh hmn
  clear hmn
  have HM5 := Lh (HM4.out.drewN q)
  have HRT5 := Lh (show (W4.drewN q).heap[gt]? = _ from HRT4.out)
  have HGO5 := Lh (show (W4.drewN q).heap[go2]? = _ from HGO4.out)
  have Q5 := Lh (pw_below_drewN Q4.out q)
  clear HM4 HRT4 HGO4 Q4 k0 k1 o2
  generalize W4.drewN q = W5 at *
  have k3 := HM5.out.k3
  have o3 : W5.cell? ⟨go2, 3, none⟩ = some (.int .u32 ((V 5 : Nat) : Int)) := blk_cell HGO5.out 3
  go_step
  go_upto_region 11 with (fail)
  go_cut [12] from 134 to 145 (fun s12 wx => s12 = .bool (yoursB m V) ∧ ∃ q, wx = W5.drewN q)
  case first =>
   obtain ⟨v5, h5⟩ : ∃ v : Int, ((V 5 : Nat) : Int) = v := ⟨_, rfl⟩
   obtain ⟨p0, h0⟩ : ∃ v : Int, m.pr.f0 = v := ⟨_, rfl⟩
   rw [h5] at o3
   rw [h0] at k3
   have HY := Lh (show yoursB m V = (b2 && decide (v5 = p0)) by unfold yoursB; rw [HB2.out, h5, h0])
   clear h5 h0
   cases b2
   ·go_quiet (fail)
    repeat go_step
    go_meet
    case rel => exact ⟨by rw [HY.out]; simp, nq, rfl⟩
   ·go_quiet (fail)
    repeat go_step
    go_meet
    case rel => exact ⟨by rw [HY.out]; by_cases h : v5 = p0 <;> simp [h], nq, rfl⟩
  case rest =>
  obtain ⟨hs12, q, hq⟩ := hcut
  subst hs12
  subst hq
  obtain ⟨yours, hyr⟩ : ∃ b, yoursB m V = b := ⟨_, rfl⟩
  rw [hyr] at HR ⊢
  have HYR := Lh hyr
  clear hyr
  have HM6 := Lh (HM5.out.drewN q)
  have HRT6 := Lh (show (W5.drewN q).heap[gt]? = _ from HRT5.out)
  have HGO6 := Lh (show (W5.drewN q).heap[go2]? = _ from HGO5.out)
  have Q6 := Lh (pw_below_drewN Q5.out q)
  clear HM5 HRT5 HGO5 Q5 k3 o3
  generalize W5.drewN q = W6 at *
  have k1 := HM6.out.k1
  have k3 := HM6.out.k3
  have o9 : W6.cell? ⟨go2, 9, none⟩ = some (.int .u32 ((V 11 : Nat) : Int)) := blk_cell HGO6.out 9
  have o10 : W6.cell? ⟨go2, 10, none⟩ = some (.int .u32 ((V 12 : Nat) : Int)) := blk_cell HGO6.out 10
  go_step
  go_upto_region 12 with (fail)
  go_cut [13] from 146 to 167 (fun s13 wx => s13 = .bool (tiedB m V) ∧ ∃ q, wx = W6.drewN q)
  case first =>
   obtain ⟨v11, h11⟩ : ∃ v : Int, ((V 11 : Nat) : Int) = v := ⟨_, rfl⟩
   obtain ⟨v12, h12⟩ : ∃ v : Int, ((V 12 : Nat) : Int) = v := ⟨_, rfl⟩
   obtain ⟨p0, h0⟩ : ∃ v : Int, m.pr.f0 = v := ⟨_, rfl⟩
   obtain ⟨mt, ht⟩ : ∃ v : Int, m.tag = v := ⟨_, rfl⟩
   rw [h11] at o9
   rw [h12] at o10
   rw [h0] at k3
   rw [ht] at k1
   have HY := Lh (show tiedB m V = (b2 && decide (v11 = mt) && decide (v12 = p0)) by unfold tiedB; rw [HB2.out, h11, h12, h0, ht])
   clear h11 h12 h0 ht b7 b7a b7b b7c
   cases b2
   ·go_quiet (fail)
    repeat go_step
    go_meet
    case rel => exact ⟨by rw [HY.out]; simp, nq, rfl⟩
   ·by_cases c9 : v11 = mt
    ·have c9a : decide (v11 = mt) = true := decide_eq_true c9
     have c9b : (v11 == mt) = true := by simpa using c9
     go_quiet (fail)
     repeat go_step
     go_meet
     case rel => exact ⟨by rw [HY.out]; by_cases h : v12 = p0 <;> simp [h, c9], nq, rfl⟩
    ·have c9a : decide (v11 = mt) = false := decide_eq_false c9
     have c9b : (v11 == mt) = false := by simpa using c9
     go_quiet (fail)
     repeat go_step
     go_meet
     case rel => exact ⟨by rw [HY.out]; simp [c9], nq, rfl⟩
  case rest =>
  obtain ⟨hs13, q, hq⟩ := hcut
  subst hs13
  subst hq
  obtain ⟨tied, htd⟩ : ∃ b, tiedB m V = b := ⟨_, rfl⟩
  rw [htd] at HR ⊢
  have HTD := Lh htd
  clear htd
  have HM7 := Lh (HM6.out.drewN q)
  have HRT7 := Lh (show (W6.drewN q).heap[gt]? = _ from HRT6.out)
  have HGO7 := Lh (show (W6.drewN q).heap[go2]? = _ from HGO6.out)
  have Q7 := Lh (pw_below_drewN Q6.out q)
  clear HM6 HRT6 HGO6 Q6 k1 k3 o9 o10
  generalize W6.drewN q = W7 at *
  clear b7 b7a b7b b7c
  go_step
  go_upto_region 13 with (fail)
  obtain ⟨st, hst⟩ : ∃ b, decide (er = 211) = b := ⟨_, rfl⟩
  go_cut [176] from 168 to 176 (fun s176 wx => s176 = .bool (st && !(mine && yours)) ∧ W7 = wx)
  case first =>
   subst hst
   rcases he with rfl | rfl
   ·go_wp2_with fail
    go_meet
    case rel => exact ⟨by simp, rfl⟩
   ·cases mine
    ·go_wp2_with fail
     go_meet
     case rel => exact ⟨by simp, rfl⟩
    ·go_wp2_with fail
     go_meet
     case rel => exact ⟨by simp, rfl⟩
  case rest =>
  obtain ⟨hs176, hq⟩ := hcut
  subst hs176
  subst hq
  obtain ⟨ea, hea⟩ : ∃ b, (st && !(mine && yours)) = b := ⟨_, rfl⟩
  rw [hea]
  have HEA := Lh hea
  clear hea
  cases ea
  rotate_left
  ·have hst1 : st = true := by have h := HEA.out; revert h; cases st <;> simp
   have hmy : (mine && yours) = false := by have h := HEA.out; revert h; cases st <;> cases mine <;> cases yours <;> simp
   have he2 : er = 211 := by rw [hst1] at hst; exact of_decide_eq_true hst
   rw [if_pos (show er = 211 ∧ (mine && yours) = false from ⟨he2, hmy⟩)] at HR
   obtain ⟨sn, hsn⟩ : ∃ n, staleN late = n := ⟨_, rfl⟩
   have HSN := Lh hsn
   have HSB := Lh (show 0 ≤ sn ∧ sn ≤ 4294967295 by rw [← hsn]; exact stale_bd HCT.out)
   have HSW := Lh (show IntKind.u32.wrap sn = sn from IntWalk.u32_in sn HSB.out)
   obtain ⟨fl, hfl⟩ : ∃ l, fourI sn = l := ⟨_, rfl⟩
   have HSF := Lh (show param_Stale.f sn = some (3, fl) by rw [← hfl]; exact stale_f sn HSB.out.1 HSB.out.2)
   have HSE := Lh (fun (w : World) (A : Option Addr) (c gs : Nat) (hb : Below W7.heap.size W7 w) (hg : w.heap[gs]? = some (.cells #[.int .u16 3, .slice A fl.length c] 123 (0, 0))) (hl : fl.length ≤ c) (hS : Stb B w fun W' => (Kd.int .u8).C W' A fl.length fl) => send_ms HM7.out hb (by simp) (staleC late) _ (stale_K (by rw [hsn]; exact hfl) hl hS hg) (V 5 : Nat))
   clear hsn hfl hst1 hmy he2 HEA hst he
   go_step
   go_upto_region 14 with fail
   refine grow_v (B := ecsB14) [0, 1, 2, 3, 4, 5, 6, 7, 8, 9, 10] [5, 6, 7, 10] (StI B W7 fl (Rt B W0 g K m [actSend (staleC late) (V 5 : Nat)] W7)) (fun vs => [(0, 177, .pointer (some ⟨g, 0, none⟩)), (1, 178, .int .i64 late), (2, 179, .int .i64 (IntKind.i64.wrap (1000 * late))), (3, 180, .int .i64 sn), (4, 181, .int .u32 sn), (5, 182, vs 1), (6, 183, vs 2), (7, 184, vs 3), (8, 185, .pointer (some ⟨go2, 3, none⟩)), (9, 186, .int .u32 ((V 5 : Nat) : Int)), (10, 187, vs 4)]) (by kernel_rfl) rfl (l := #[false, false, false, false, false, false, false, false, false, false, false]) rfl ecstab14 ecsbits14 (by kernel_rfl) (by kernel_rfl) (fun _ => rfl) rfl (fun _ => undef) ?_ ?_ ?_
   ·exact pw_below_drewN (Below.refl _ _) 1
   ·exact steps_cons (gv_op 0 3 [(2, fun vs => .pointer (some ⟨g, 0, none⟩))] 0 0 (fv := fun vs => .pointer (some ⟨g, 0, none⟩)) rfl rfl (wt_none rfl) (fun _ => rfl) (fun _ => rfl) rfl rfl (by kernel_rfl) (by kernel_rfl) ⟨rd_off (p := 2) (fun _ => rfl) rfl, trivial⟩ (fun a w s vs hm hs h e => by
    obtain ⟨e2, _⟩ := e
    replace e2 : a.tmps[2]? = some (.pointer (some ⟨g, 0, none⟩)) := e2
    go_simp)) (steps_cons (gv_op 0 0 [(4, fun vs => .int .i64 late)] 1 1 (fv := fun vs => .int .i64 late) rfl rfl (wt_none rfl) (fun _ => rfl) (fun _ => rfl) rfl rfl (by kernel_rfl) (by kernel_rfl) ⟨rd_off (p := 4) (fun _ => rfl) rfl, trivial⟩ (fun a w s vs hm hs h e => by
    obtain rfl : s = 0 := by omega
    obtain ⟨e4, _⟩ := e
    replace e4 : a.tmps[4]? = some (.int .i64 late) := e4
    go_simp)) (steps_cons (gv_op 0 0 [(178, fun vs => .int .i64 late)] 2 2 (fv := fun vs => .int .i64 (IntKind.i64.wrap (1000 * late))) rfl rfl (wt_none rfl) (fun _ => rfl) (fun _ => rfl) rfl rfl (by kernel_rfl) (by kernel_rfl) ⟨rd_on (p := 178) 1 1 (fun _ => rfl) (fun _ => rfl) (by kernel_rfl) rfl, trivial⟩ (fun a w s vs hm hs h e => by
    obtain rfl : s = 0 := by omega
    obtain ⟨e178, _⟩ := e
    replace e178 : a.tmps[178]? = some (.int .i64 late) := e178
    go_simp; first | done | rfl)) (steps_cons (gv_op 0 0 [(179, fun vs => .int .i64 (IntKind.i64.wrap (1000 * late)))] 3 3 (fv := fun vs => .int .i64 sn) rfl rfl (wt_none rfl) (fun _ => rfl) (fun _ => rfl) rfl rfl (by kernel_rfl) (by kernel_rfl) ⟨rd_on (p := 179) 2 2 (fun _ => rfl) (fun _ => rfl) (by kernel_rfl) rfl, trivial⟩ (fun a w s vs hm hs h e => by
    obtain rfl : s = 0 := by omega
    obtain ⟨e179, _⟩ := e
    replace e179 : a.tmps[179]? = some (.int .i64 (IntKind.i64.wrap (1000 * late))) := e179
    have h1 := HSN.out
    unfold staleN at h1
    go_simp; first | done | rfl)) (steps_cons (gv_op 0 0 [(180, fun vs => .int .i64 sn)] 4 4 (fv := fun vs => .int .u32 sn) rfl rfl (wt_none rfl) (fun _ => rfl) (fun _ => rfl) rfl rfl (by kernel_rfl) (by kernel_rfl) ⟨rd_on (p := 180) 3 3 (fun _ => rfl) (fun _ => rfl) (by kernel_rfl) rfl, trivial⟩ (fun a w s vs hm hs h e => by
    obtain rfl : s = 0 := by omega
    obtain ⟨e180, _⟩ := e
    replace e180 : a.tmps[180]? = some (.int .i64 sn) := e180
    have h1 := HSW.out
    go_simp; first | done | rfl | rw [h1])) (steps_cons (gv_call (vals := fun vs => [.int .u32 sn]) 5 5 0 rfl rfl (wt_none rfl) rfl (fun _ => rfl) (fun _ _ => rfl) (fun _ => rfl) rfl (by kernel_rfl) Tryz.func115 (by kernel_rfl) rfl rfl (arv_t (rd_on (p := 181) 4 4 (fun _ => rfl) (fun _ => rfl) (by kernel_rfl) rfl) (arv_n)) (fun vs w h => ((param_Stale.calls sn 3 fl w HSF.out).mono fun e w' ⟨v, he, hR, hB⟩ => ⟨_, he, st_one h hR hB⟩))) (steps_cons (gv_gen [(182, fun vs => vs 1)] 6 6 1 rfl rfl (wt_none rfl) rfl (fun _ => rfl) (fun _ _ => rfl) (fun _ => rfl) rfl (by kernel_rfl) ⟨rd_on (p := 182) 5 5 (fun _ => rfl) (fun _ => rfl) (by kernel_rfl) rfl, trivial⟩ (fun a w K vs h e hw hK => by
    obtain ⟨e182, _⟩ := e
    replace e182 : a.tmps[182]? = some (vs 1) := e182
    obtain ⟨A, c, hv, hl, hS, hb⟩ := h
    rw [hv] at e182
    exact value_ (w1 := w.alloc (.cells #[.int .u16 3, .slice A fl.length c] 123)) (v := .slice (some ⟨w.heap.size, 0, none⟩) 1 1) hw rfl (by go_simp; try rfl) (hK _ _ ⟨A, c, w.heap.size, rfl, blk_new _ _, hl, hS.mono (Kq.of_below (below_alloc (Below.refl _ _) _)), below_alloc hb _⟩))) (steps_cons (gv_gen [(183, fun vs => vs 2)] 7 7 2 rfl rfl (wt_none rfl) rfl (fun _ => rfl) (fun _ _ => rfl) (fun _ => rfl) rfl (by kernel_rfl) ⟨rd_on (p := 183) 6 6 (fun _ => rfl) (fun _ => rfl) (by kernel_rfl) rfl, trivial⟩ (fun a w K vs h e hw hK => by
    obtain ⟨e183, _⟩ := e
    replace e183 : a.tmps[183]? = some (vs 2) := e183
    obtain ⟨A, c, gs, hv, hg, hl, hS, hb⟩ := h
    rw [hv] at e183
    exact value_ (w1 := w) (v := .agg #[.int .u8 9, .int .u8 0, .int .u32 0, .int .u16 0, .int .u16 0, .int .u32 0, .int .u32 0, .int .u32 0, .int .u16 0, .int .u16 0, .slice none 0 0, .slice none 0 0, .slice none 0 0, .slice none 0 0, .slice (some ⟨gs, 0, none⟩) 1 1]) hw rfl (by go_simp; try rfl) (hK _ _ ⟨A, c, gs, rfl, hg, hl, hS, hb⟩))) (steps_cons (gv_op 0 3 [(6, fun vs => .pointer (some ⟨go2, 0, none⟩))] 8 8 (fv := fun vs => .pointer (some ⟨go2, 3, none⟩)) rfl rfl (wt_none rfl) (fun _ => rfl) (fun _ => rfl) rfl rfl (by kernel_rfl) (by kernel_rfl) ⟨rd_off (p := 6) (fun _ => rfl) rfl, trivial⟩ (fun a w s vs hm hs h e => by
    obtain ⟨e6, _⟩ := e
    replace e6 : a.tmps[6]? = some (.pointer (some ⟨go2, 0, none⟩)) := e6
    go_simp)) (steps_cons (gv_op 0 3 [(185, fun vs => .pointer (some ⟨go2, 3, none⟩))] 9 9 (fv := fun vs => .int .u32 ((V 5 : Nat) : Int)) rfl rfl (wt_none rfl) (fun _ => rfl) (fun _ => rfl) rfl rfl (by kernel_rfl) (by kernel_rfl) ⟨rd_on (p := 185) 8 8 (fun _ => rfl) (fun _ => rfl) (by kernel_rfl) rfl, trivial⟩ (fun a w s vs hm hs h e => by
    obtain ⟨e185, _⟩ := e
    replace e185 : a.tmps[185]? = some (.pointer (some ⟨go2, 3, none⟩)) := e185
    have hs : w.cell? ⟨go2, 3, none⟩ = some (.int .u32 ((V 5 : Nat) : Int)) := blk_cell (blk_below HGO7.out (st_below h (by omega))) 3
    go_simp; first | done | rfl)) (steps_cons (gv_call (vals := fun vs => [.pointer (some ⟨g, 0, none⟩), vs 3, .int .u32 ((V 5 : Nat) : Int)]) 10 10 3 rfl rfl (wt_none rfl) rfl (fun _ => rfl) (fun _ _ => rfl) (fun _ => rfl) rfl (by kernel_rfl) Tryz.func81 (by kernel_rfl) rfl rfl (arv_t (rd_on (p := 177) 0 0 (fun _ => rfl) (fun _ => rfl) (by kernel_rfl) rfl) (arv_t (rd_on (p := 184) 7 7 (fun _ => rfl) (fun _ => rfl) (by kernel_rfl) rfl) (arv_t (rd_on (p := 186) 9 9 (fun _ => rfl) (fun _ => rfl) (by kernel_rfl) rfl) (arv_n)))) (fun vs w h => by obtain ⟨A, c, gs, hv, hg, hl, hS, hb⟩ := h; have H := HSE.out w A c gs hb hg hl hS; rw [← hv] at H; exact H.mono (fun e w' hP => ⟨_, hP.1, rfl, hP.2⟩))) steps_nil))))))))))
   intro vs W8 hI8
   have H8 : Rt B W0 g K m [actSend (staleC late) (V 5 : Nat)] W7 (.returned (.tuple #[])) W8 := hI8
   obtain ⟨_, h1, h2⟩ := H8
   simp only [putSel, if_true, Act.put, List.setIfInBounds_toArray, List.set_cons_zero, List.set_cons_succ]
   go_wp2
   refine bodyPost_ret (results_none rfl _ _ _) rfl ?_
   rw [← HR.out]
   exact ⟨rfl, h1⟩
  rw [if_neg (show ¬ (er = 211 ∧ (mine && yours) = false) from fun h => by have h2 := HEA.out; rw [← hst, decide_eq_true h.1, h.2] at h2; exact absurd h2 (by decide))] at HR
  have HIX := Lh (show (Tryz.prog.info? 106).map (·.size) = some (Go.Proofs.YthiaakjbapgibaaGreat.Ck.offV V).size by kernel_rfl)
  clear hst he HEA
  have k0 := HM7.out.k0
  go_step
  go_upto_region 16 with (fail)
  by_cases c0 : m.s = 0
  ·rw [if_pos c0] at HR
   rw [c0] at k0
   go_upto_region 17 with (fail)
   clear k0
   refine grow_known (B := ecrB17) [0, 1, 2, 3, 4, 5, 6, 7, 8, 9, 10, 11, 12, 13] [9, 13] (fun s W1 => match s with | 0 => MS B W0 g K m [] W1 ∧ Kq B W7 W1 ∧ W1.heap[go2]? = some (.cells (Go.Proofs.YthiaakjbapgibaaGreat.Ck.offV V) 106 (0, 0)) | 1 => MS B W0 g K { m with tag := (V 4 : Nat) } [] W1 ∧ Kq B W7 W1 ∧ W1.heap[go2]? = some (.cells (Go.Proofs.YthiaakjbapgibaaGreat.Ck.offV V) 106 (0, 0)) | 2 => MS B W0 g K { { m with tag := (V 4 : Nat) } with tsn := (V 6 : Nat) } [] W1 ∧ Kq B W7 W1 ∧ W1.heap[go2]? = some (.cells (Go.Proofs.YthiaakjbapgibaaGreat.Ck.offV V) 106 (0, 0)) | _ => False) [(0, 196, .pointer (some ⟨g, 0, none⟩)), (1, 197, .pointer (some ⟨g, 0, none⟩)), (2, 198, .pointer (some ⟨go2, 2, none⟩)), (3, 199, .int .u32 (V 4 : Nat)), (4, 200, .pointer (some ⟨go2, 4, none⟩)), (5, 201, .int .u32 (V 6 : Nat)), (6, 202, .pointer (some ⟨g, 0, none⟩)), (7, 203, .pointer (some ⟨g, 0, none⟩)), (8, 204, .pointer (some ⟨g, 1, none⟩)), (10, 205, .pointer (some ⟨g, 0, none⟩)), (11, 206, .pointer (some ⟨g, 0, none⟩)), (12, 207, .pointer (some ⟨g, 2, none⟩))] (by kernel_rfl) rfl (l := #[false, false, false, false, false, false, false, false, false, false, false, false, false, false]) rfl ecrtab17 ecrbits17 (by kernel_rfl) (by kernel_rfl) rfl rfl ?_ ?_ ?_
   ·exact ⟨HM7.out.drewN 1, Kq.of_below (pw_below_drewN (Below.refl _ _) 1), blk_drewN HGO7.out 1⟩
   ·exact steps_cons (gk_op (p := 2) (fun W1 => W1.heap[go2]? = some (.cells (Go.Proofs.YthiaakjbapgibaaGreat.Ck.offV V) 106 (0, 0))) 0 0 rfl rfl rfl rfl rfl rfl (u := .pointer (some ⟨g, 0, none⟩)) (rd_off (p := 2) (fun _ => rfl) rfl) (fun s W1 h => by match s, h with | 0, h => exact h.2.2 | 1, h => exact h.2.2 | 2, h => exact h.2.2) (fun a w hJ e => by go_simp)) (steps_cons (gk_op (p := 2) (fun W1 => W1.heap[go2]? = some (.cells (Go.Proofs.YthiaakjbapgibaaGreat.Ck.offV V) 106 (0, 0))) 1 1 rfl rfl rfl rfl rfl rfl (u := .pointer (some ⟨g, 0, none⟩)) (rd_off (p := 2) (fun _ => rfl) rfl) (fun s W1 h => by match s, h with | 0, h => exact h.2.2 | 1, h => exact h.2.2 | 2, h => exact h.2.2) (fun a w hJ e => by go_simp)) (steps_cons (gk_op (p := 6) (fun W1 => W1.heap[go2]? = some (.cells (Go.Proofs.YthiaakjbapgibaaGreat.Ck.offV V) 106 (0, 0))) 2 2 rfl rfl rfl rfl rfl rfl (u := .pointer (some ⟨go2, 0, none⟩)) (rd_off (p := 6) (fun _ => rfl) rfl) (fun s W1 h => by match s, h with | 0, h => exact h.2.2 | 1, h => exact h.2.2 | 2, h => exact h.2.2) (fun a w hJ e => by go_simp)) (steps_cons (gk_op (p := 198) (fun W1 => W1.heap[go2]? = some (.cells (Go.Proofs.YthiaakjbapgibaaGreat.Ck.offV V) 106 (0, 0))) 3 3 rfl rfl rfl rfl rfl rfl (u := .pointer (some ⟨go2, 2, none⟩)) (rd_on (p := 198) 2 2 (fun _ => rfl) (fun _ => rfl) (by kernel_rfl) rfl) (fun s W1 h => by match s, h with | 0, h => exact h.2.2 | 1, h => exact h.2.2 | 2, h => exact h.2.2) (fun a w hJ e => by have hs : w.cell? ⟨go2, 2, none⟩ = some (.int .u32 (V 4 : Nat)) := blk_cell hJ 2; go_simp; first | done | rfl)) (steps_cons (gk_op (p := 6) (fun W1 => W1.heap[go2]? = some (.cells (Go.Proofs.YthiaakjbapgibaaGreat.Ck.offV V) 106 (0, 0))) 4 4 rfl rfl rfl rfl rfl rfl (u := .pointer (some ⟨go2, 0, none⟩)) (rd_off (p := 6) (fun _ => rfl) rfl) (fun s W1 h => by match s, h with | 0, h => exact h.2.2 | 1, h => exact h.2.2 | 2, h => exact h.2.2) (fun a w hJ e => by go_simp)) (steps_cons (gk_op (p := 200) (fun W1 => W1.heap[go2]? = some (.cells (Go.Proofs.YthiaakjbapgibaaGreat.Ck.offV V) 106 (0, 0))) 5 5 rfl rfl rfl rfl rfl rfl (u := .pointer (some ⟨go2, 4, none⟩)) (rd_on (p := 200) 4 4 (fun _ => rfl) (fun _ => rfl) (by kernel_rfl) rfl) (fun s W1 h => by match s, h with | 0, h => exact h.2.2 | 1, h => exact h.2.2 | 2, h => exact h.2.2) (fun a w hJ e => by have hs : w.cell? ⟨go2, 4, none⟩ = some (.int .u32 (V 6 : Nat)) := blk_cell hJ 4; go_simp; first | done | rfl)) (steps_cons (gk_op (p := 196) (fun W1 => W1.heap[go2]? = some (.cells (Go.Proofs.YthiaakjbapgibaaGreat.Ck.offV V) 106 (0, 0))) 6 6 rfl rfl rfl rfl rfl rfl (u := .pointer (some ⟨g, 0, none⟩)) (rd_on (p := 196) 0 0 (fun _ => rfl) (fun _ => rfl) (by kernel_rfl) rfl) (fun s W1 h => by match s, h with | 0, h => exact h.2.2 | 1, h => exact h.2.2 | 2, h => exact h.2.2) (fun a w hJ e => by go_simp)) (steps_cons (gk_op (p := 202) (fun W1 => W1.heap[go2]? = some (.cells (Go.Proofs.YthiaakjbapgibaaGreat.Ck.offV V) 106 (0, 0))) 7 7 rfl rfl rfl rfl rfl rfl (u := .pointer (some ⟨g, 0, none⟩)) (rd_on (p := 202) 6 6 (fun _ => rfl) (fun _ => rfl) (by kernel_rfl) rfl) (fun s W1 h => by match s, h with | 0, h => exact h.2.2 | 1, h => exact h.2.2 | 2, h => exact h.2.2) (fun a w hJ e => by go_simp)) (steps_cons (gk_op (p := 203) (fun W1 => W1.heap[go2]? = some (.cells (Go.Proofs.YthiaakjbapgibaaGreat.Ck.offV V) 106 (0, 0))) 8 8 rfl rfl rfl rfl rfl rfl (u := .pointer (some ⟨g, 0, none⟩)) (rd_on (p := 203) 7 7 (fun _ => rfl) (fun _ => rfl) (by kernel_rfl) rfl) (fun s W1 h => by match s, h with | 0, h => exact h.2.2 | 1, h => exact h.2.2 | 2, h => exact h.2.2) (fun a w hJ e => by go_simp)) (steps_cons (gk_store (p := 204) (s := 199) (u := .pointer (some ⟨g, 1, none⟩)) (v := .int .u32 (V 4 : Nat)) (f := fun W => W.setCell ⟨g, 1, none⟩ (.int .u32 (V 4 : Nat))) 9 0 rfl rfl rfl rfl rfl rfl (by kernel_rfl) (rd_on (p := 204) 8 8 (fun _ => rfl) (fun _ => rfl) (by kernel_rfl) rfl) (rd_on (p := 199) 3 3 (fun _ => rfl) (fun _ => rfl) (by kernel_rfl) rfl) (fun a w h e1 e2 => by have hs := h.1.k1; have hf := h.1.fz 1; go_simp) (fun w h => ⟨h.1.set1 _, h.2.1.trans (h.1.kset 1 _), blk_far h.2.2 HGN.out _⟩)) (steps_cons (gk_op (p := 197) (fun W1 => W1.heap[go2]? = some (.cells (Go.Proofs.YthiaakjbapgibaaGreat.Ck.offV V) 106 (0, 0))) 10 9 rfl rfl rfl rfl rfl rfl (u := .pointer (some ⟨g, 0, none⟩)) (rd_on (p := 197) 1 1 (fun _ => rfl) (fun _ => rfl) (by kernel_rfl) rfl) (fun s W1 h => by match s, h with | 0, h => exact h.2.2 | 1, h => exact h.2.2 | 2, h => exact h.2.2) (fun a w hJ e => by go_simp)) (steps_cons (gk_op (p := 205) (fun W1 => W1.heap[go2]? = some (.cells (Go.Proofs.YthiaakjbapgibaaGreat.Ck.offV V) 106 (0, 0))) 11 10 rfl rfl rfl rfl rfl rfl (u := .pointer (some ⟨g, 0, none⟩)) (rd_on (p := 205) 9 10 (fun _ => rfl) (fun _ => rfl) (by kernel_rfl) rfl) (fun s W1 h => by match s, h with | 0, h => exact h.2.2 | 1, h => exact h.2.2 | 2, h => exact h.2.2) (fun a w hJ e => by go_simp)) (steps_cons (gk_op (p := 206) (fun W1 => W1.heap[go2]? = some (.cells (Go.Proofs.YthiaakjbapgibaaGreat.Ck.offV V) 106 (0, 0))) 12 11 rfl rfl rfl rfl rfl rfl (u := .pointer (some ⟨g, 0, none⟩)) (rd_on (p := 206) 10 11 (fun _ => rfl) (fun _ => rfl) (by kernel_rfl) rfl) (fun s W1 h => by match s, h with | 0, h => exact h.2.2 | 1, h => exact h.2.2 | 2, h => exact h.2.2) (fun a w hJ e => by go_simp)) (steps_cons (gk_store (p := 207) (s := 201) (u := .pointer (some ⟨g, 2, none⟩)) (v := .int .u32 (V 6 : Nat)) (f := fun W => W.setCell ⟨g, 2, none⟩ (.int .u32 (V 6 : Nat))) 13 1 rfl rfl rfl rfl rfl rfl (by kernel_rfl) (rd_on (p := 207) 11 12 (fun _ => rfl) (fun _ => rfl) (by kernel_rfl) rfl) (rd_on (p := 201) 5 5 (fun _ => rfl) (fun _ => rfl) (by kernel_rfl) rfl) (fun a w h e1 e2 => by have hs := h.1.k2; have hf := h.1.fz 2; go_simp) (fun w h => ⟨h.1.set2 _, h.2.1.trans (h.1.kset 2 _), blk_far h.2.2 HGN.out _⟩)) steps_nil)))))))))))))
   intro W8 hI
   obtain ⟨hM8, hQ8, hbx⟩ := hI
   have HM8 := Lh hM8
   have HBX8 := Lh hbx
   clear hM8 hbx HM7 HGO7
   simp only [putSel, if_true, Act.put, List.setIfInBounds_toArray, List.set_cons_zero, List.set_cons_succ]
   have HOF := Lh (fun w => offered_calls w V)
   obtain ⟨p, hp⟩ : ∃ p, offP V = p := ⟨_, rfl⟩
   have HPF := Lh (show p.f0 = ((V 5 : Nat) : Int) by rw [← hp]; rfl)
   rw [hp] at HOF HR
   clear hp
   go_wp2_with (refine wpList_load_row rfl 106 _ rfl _ rfl 106 _ (0, 0) _ HBX8.out Tryz.underlying106 rfl HIX.out ?_)
   refine (HOF.out _).mono ?_
   rintro e w1 ⟨rfl, hB1⟩
   have HM1 := Lh (HM8.out.below hB1)
   have HTH := Lh (HM1.out.there 3 5 (by decide))
   clear hB1
   unfold PV
   go_upto_region 19 with (refine wpList_store_mid rfl 71 _ _ rfl g 3 #[.int .u32 p.f0, .int .u32 p.f1, .int .u32 p.f2, .int .u16 p.f3, .int .u16 p.f4] rfl rfl HTH.out (by kernel_rfl) (by simp [Value.oneCell']) ?_)
   have HM2 := Lh (HM1.out.setp p)
   clear HTH HM1 HM8
   generalize w1.setCells g 3 [.int .u32 p.f0, .int .u32 p.f1, .int .u32 p.f2, .int .u16 p.f3, .int .u16 p.f4] = W2 at *
   have k0 := HM2.out.k0
   have f0 := HM2.out.fz 0
   have HM3 := Lh (HM2.out.set0 3)
   go_upto_region 20 with (fail)
   clear k0 f0 HM2
   generalize W2.setCell ⟨g, 0, none⟩ (.int .i64 3) = W3 at *
   have HP6 := Lh HM3.out.pr
   go_wp2_with (refine wpList_load_mid rfl 71 _ rfl g 3 rfl _ _ HP6.out Tryz.underlying71 rfl (by kernel_rfl) ?_)
   refine (ask_ms HM3.out (by simp) (actPeer 4 p) _ (act_bare B W3 4 0 p 0)).mono ?_
   rintro e w7 ⟨rfl, hM7, hQ7⟩
   have HM7 := Lh hM7
   clear hM7 hQ7
   go_wp2_with fail
   refine (sendPeer_ms HM7.out (Below.refl _ _) (by simp) (mkC 11 0 0 0 0 0 0) _ (mkC_K _ _ _ _ _ _ _)).mono ?_
   rintro e w8 ⟨rfl, hM8, hQ8⟩
   go_wp2
   refine bodyPost_ret (results_none rfl _ _ _) rfl ?_
   rw [← HR.out, ← HPF.out]
   exact ⟨rfl, hM8⟩
  rw [if_neg c0] at HR
  have c0a : decide (m.s = 0) = false := decide_eq_false c0
  have c0b : (m.s == 0) = false := by simpa using c0
  have c0c : (m.s != 0) = true := by simpa using c0
  go_upto_region 22 with (fail)
  clear c0a c0b c0c c0
  obtain ⟨s1, hs1⟩ : ∃ b, decide (m.s = 1) = b := ⟨_, rfl⟩
  rw [hs1] at HR
  go_cut [230] from 190 to 242 (fun s230 wx => s230 = .bool (mine && (yours || s1)) ∧ W7 = wx)
  case first =>
   cases mine
   ·go_wp2_with fail
    go_meet
    case rel => exact ⟨rfl, rfl⟩
   ·cases yours
    ·by_cases c1 : m.s = 1
     ·have c1a : decide (m.s = 1) = true := decide_eq_true c1
      have c1b : (m.s == 1) = true := by simpa using c1
      go_wp2_with fail
      go_meet
      case rel => exact ⟨by rw [← hs1]; simp [c1], rfl⟩
     ·have c1a : decide (m.s = 1) = false := decide_eq_false c1
      have c1b : (m.s == 1) = false := by simpa using c1
      go_wp2_with fail
      go_meet
      case rel => exact ⟨by rw [← hs1]; simp [c1], rfl⟩
    ·go_wp2_with fail
     go_meet
     case rel => exact ⟨rfl, rfl⟩
  case rest =>
  obtain ⟨hs230, hq⟩ := hcut
  subst hs230
  subst hq
  obtain ⟨mb, hmb⟩ : ∃ b, (mine && (yours || s1)) = b := ⟨_, rfl⟩
  rw [hmb] at HR ⊢
  clear hmb hs1
  cases mb
  rotate_left
  ·rw [if_pos rfl] at HR
   go_step
   go_upto_region 23 with (fail)
   by_cases c2 : m.s ≤ 2
   ·rw [if_pos c2] at HR
    have c2a : decide (m.s ≤ 2) = true := decide_eq_true c2
    have HC2 := Lh c2
    clear c2
    go_upto_region 24 with (fail)
    clear k0 c2a
    go_wp2_with (refine wpList_load_row rfl 106 _ rfl _ rfl 106 _ (0, 0) _ HGO7.out Tryz.underlying106 rfl HIX.out ?_)
    refine (established_ms HM7.out (by simp) V).mono ?_
    rintro e w9 ⟨rfl, hM9, hQ9⟩
    go_wp2
    refine bodyPost_ret (results_none rfl _ _ _) rfl ?_
    rw [← HR.out]
    exact ⟨rfl, hM9⟩
   ·rw [if_neg c2] at HR
    have c2a : decide (m.s ≤ 2) = false := decide_eq_false c2
    have HC2 := Lh c2
    clear c2
    go_upto_region 25 with (fail)
    clear k0 c2a
    go_wp2_with fail
    refine (sendPeer_ms HM7.out (Below.refl _ _) (by simp) (mkC 11 0 0 0 0 0 0) _ (mkC_K _ _ _ _ _ _ _)).mono ?_
    rintro e w9 ⟨rfl, hM9, hQ9⟩
    go_wp2
    refine bodyPost_ret (results_none rfl _ _ _) rfl ?_
    rw [← HR.out]
    exact ⟨rfl, hM9⟩
  rw [if_neg (show ¬ (false = true) from Bool.false_ne_true)] at HR
  go_step
  go_upto_region 26 with (fail)
  cases mine
  rotate_left
  ·rw [if_pos rfl] at HR
   go_upto_region 27 with (fail)
   by_cases c2 : m.s = 2
   ·rw [if_pos c2] at HR
    have c2a : decide (m.s = 2) = true := decide_eq_true c2
    have c2b : (m.s == 2) = true := by simpa using c2
    have c2c : (m.s != 2) = false := by simpa using c2
    go_upto_region 29 with (fail)
    clear k0 c2a c2b c2c c2
    go_wp2_with (refine wpList_load_row rfl 106 _ rfl _ rfl 106 _ (0, 0) _ HGO7.out Tryz.underlying106 rfl HIX.out ?_)
    refine (established_ms HM7.out (by simp) V).mono ?_
    rintro e w9 ⟨rfl, hM9, hQ9⟩
    go_wp2
    refine bodyPost_ret (results_none rfl _ _ _) rfl ?_
    rw [← HR.out]
    exact ⟨rfl, hM9⟩
   ·rw [if_neg c2] at HR
    have c2a : decide (m.s = 2) = false := decide_eq_false c2
    have c2b : (m.s == 2) = false := by simpa using c2
    have c2c : (m.s != 2) = true := by simpa using c2
    go_upto_region 28 with (fail)
    clear k0 c2a c2b c2c c2
    have HMq := HM7
    go_wp2_with fail
    refine (drop_calls _).mono ?_
    rintro e w9 ⟨rfl, rfl⟩
    exact ⟨rfl, by rw [← HR.out]; exact ⟨rfl, m, [], HMq.out⟩⟩
  rw [if_neg (show ¬ (false = true) from Bool.false_ne_true)] at HR
  go_upto_region 30 with (fail)
  clear k0
  by_cases cy : (!yours && tied) = true
  rotate_left
  ·rw [if_neg cy] at HR
   have HMq := HM7
   cases yours
   ·cases tied
    ·go_wp2_with fail
     refine (drop_calls _).mono ?_
     rintro e w9 ⟨rfl, rfl⟩
     exact ⟨rfl, by rw [← HR.out]; exact ⟨rfl, m, [], HMq.out⟩⟩
    ·exact absurd rfl cy
   ·go_wp2_with fail
    refine (drop_calls _).mono ?_
    rintro e w9 ⟨rfl, rfl⟩
    exact ⟨rfl, by rw [← HR.out]; exact ⟨rfl, m, [], HMq.out⟩⟩
  rw [if_pos cy] at HR
  obtain ⟨rfl, rfl⟩ : yours = false ∧ tied = true := by revert cy; cases yours <;> cases tied <;> simp
  clear cy
  go_upto_region 31 with (fail)
  go_wp2_with (refine wpList_load_row rfl 106 _ rfl _ rfl 106 _ (0, 0) _ HGO7.out Tryz.underlying106 rfl HIX.out ?_)
  refine (restart_t HM7.out HT.out V).mono ?_
  intro e w9 hP
  rw [HR.out] at hP
  have HP := Lh hP
  clear hP
  cases r with
  | error c =>
   obtain ⟨rfl, hP2⟩ := HP.out
   unfold errA
   exact ⟨rfl, rfl, hP2⟩
  | ok mx =>
   obtain ⟨m9, xs9⟩ := mx
   obtain ⟨rfl, hP2⟩ := HP.out
   go_wp2
   refine bodyPost_ret (results_none rfl _ _ _) rfl ?_
   exact ⟨rfl, hP2⟩
end
end Go.Proofs.YthiaakjbapgibaaGreat.As
end
section
namespace Go.Proofs.YthiaakjbapgibaaGreat.As
open Go.RowKit YthiaakjbapgibaaGreatW.PrintWords YthiaakjbapgibaaGreatW.PrintLast Base PCh
section
variable {B : Nat} {W0 W : World} {g gt : Nat} {K : Cfg} {m : Mst} {xs : List Act'} {tag : Int} {x : Chk} {L : Lay} {now : Int}
theorem ask_below {We : World} (h : MS B W0 g K m xs We) (hB : Below We.heap.size We W) (hl : xs.length ≤ 100000) (y : Act') (r : List Value) (hA : ActR B W r y) : Calls Tryz.prog 74 #[.pointer (some ⟨g, 0, none⟩), .slice (some ⟨W.heap.size, 0, none⟩) 1 1] (W.alloc (.cells r.toArray 73)) (Rt B W0 g K m (xs ++ [y]) We) := by
 obtain ⟨cs, h1, h2⟩ := h.lift
 exact (ask1 B W0 We W g cs xs y r h1 hB hA hl).mono fun e w' ⟨a, b, c⟩ => ⟨a, h2 _ _ b c, c⟩
theorem cr_K {w : World} (h : Go.Proofs.YthiaakjbapgibaaGreat.Ch.CR w x L) : Kd.K k65 w x (Go.Proofs.YthiaakjbapgibaaGreat.Ch.CV x L).toList := k65_mk w x h.l10 h.h10 h.l11 h.h11 h.l12 h.h12 h.l13 h.h13 h.l14 h.h14
def failP (K : Cfg) (m : Mst) (tag : Int) (x : Chk) : Out :=
 if m.s = 0 then .error 222
 else if ownB m tag x = false then .error 221
 else if m.s = 1 then .error 222
 else if m.s = 2 ∧ (findX 3 x).2 = true then
  (if K.tries < m.tr + 1 then .ok (zeroM m, [actDown 3]) else .ok ({ m with s := 1, pr := ⟨0, 0, 0, 0, 0⟩, cb := [], tr := m.tr + 1 }, [actSend (mkC 1 0 m.tsn m.tag K.win K.out K.inn) 0, actTimer 2 1]))
 else .ok (m, [actTold x])
set_option maxHeartbeats 4000000 in
theorem failed_t (hM : MS B W0 g K m [] W) (hT : TC B W0 g gt tag x L now) (hQ : Kq B W0 W) (hX : XW x) (ht : 0 ≤ m.tr ∧ m.tr ≤ 1000) : Calls Tryz.prog 65 #[.pointer (some ⟨gt, 0, none⟩)] W (ClP B W0 g K (failP K m tag x)) := by
 obtain ⟨r, hr⟩ : ∃ r, failP K m tag x = r := ⟨_, rfl⟩
 rw [hr]
 have HR := Lh hr
 unfold failP at HR
 have HCR := Lh (hT.cr.mono hQ)
 have HRT := Lh (hM.only.blk hT.row hT.ne)
 have HXW := Lh hX
 have HTR := Lh ht
 have HM := Lh hM
 have HT := Lh hT
 have t0 : W.cell? ⟨gt, 0, none⟩ = some (.pointer (some ⟨g, 0, none⟩)) := hT.cell hM.only 0
 have t16 : W.cell? ⟨gt, 16, none⟩ = some (.slice L.A14 x.f14.length L.c14) := hT.cell hM.only 16
 have k0 := hM.k0
 have HMq := HM
 clear hM hT hQ hX ht hr
 go_enter Tryz.func65, Tryz.ntmps65
 by_cases h0 : m.s = 0
 ·rw [if_pos h0] at HR
  rw [h0] at k0
  go_wp2_with fail
  refine (drop_calls _).mono ?_
  rintro e w9 ⟨rfl, rfl⟩
  exact ⟨rfl, by rw [← HR.out]; exact ⟨rfl, m, [], HMq.out⟩⟩
 rw [if_neg h0] at HR
 have h0a : decide (m.s = 0) = false := decide_eq_false h0
 have h0b : (m.s == 0) = false := by simpa using h0
 have h0c : (m.s != 0) = true := by simpa using h0
 go_wp2_with fail
 refine (own_ms HM.out HT.out).mono ?_
 rintro e w2 ⟨rfl, rfl⟩
 by_cases ho : ownB m tag x = true
 rotate_left
 ·rw [if_neg ho]
  rw [if_pos (show ownB m tag x = false by simpa using ho)] at HR
  unfold errA
  exact ⟨rfl, by rw [← HR.out]; exact ⟨rfl, m, [], HM.out⟩⟩
 rw [if_pos ho]
 rw [if_neg (show ¬ ownB m tag x = false by rw [ho]; decide)] at HR
 clear ho h0a h0b h0c h0
 go_wp2_with fail
 refine (find_x HXW.out HCR.out.now 3).mono ?_
 rintro e W2 ⟨A1, c1, rfl, hR2, hB2⟩
 have HM2 := Lh (HM.out.below hB2)
 have HRT2 := Lh (blk_below HRT.out hB2)
 have HCR2 := Lh (HCR.out.mono (Kq.of_below hB2))
 clear hR2 hB2 t0 t16 k0 HRT HCR HM HMq
 have HMq := HM2
 have k0 := HM2.out.k0
 have t0 : W2.cell? ⟨gt, 0, none⟩ = some (.pointer (some ⟨g, 0, none⟩)) := blk_cell HRT2.out 0
 obtain ⟨fl, fb⟩ : ∃ f : List UInt8 × Bool, findX 3 x = f := ⟨_, rfl⟩
 rw [fb] at HR ⊢
 clear fb
 obtain ⟨fl, fk⟩ := fl
 dsimp only at HR ⊢
 have HRG := Lh (show W2.rangeAt gt 2 (Go.Proofs.YthiaakjbapgibaaGreat.Ch.CV x L).toList from fun j v hv => by have h := tv_cells HRT2.out j v hv; rwa [Addr.add_lit] at h)
 have HAS := Lh (ask_below HM2.out (below_alloc (Below.refl _ _) (.cells (Go.Proofs.YthiaakjbapgibaaGreat.Ch.CV x L) 65)) (by simp) (actTold x) _ (act_chunk B W2 7 0 x (Go.Proofs.YthiaakjbapgibaaGreat.Ch.CV x L).toList (fun W' hk => cr_K (HCR2.out W' hk))))
 rw [show (W2.alloc (.cells (Go.Proofs.YthiaakjbapgibaaGreat.Ch.CV x L) 65)).heap.size = W2.heap.size + 1 by simp] at HAS
 unfold Go.Proofs.YthiaakjbapgibaaGreat.Ch.CV at HRG HAS
 by_cases h1 : m.s = 1
 ·rw [if_pos h1] at HR
  rw [h1] at k0
  go_wp2_with fail
  refine (drop_calls _).mono ?_
  rintro e w9 ⟨rfl, rfl⟩
  exact ⟨rfl, by rw [← HR.out]; exact ⟨rfl, m, [], HMq.out⟩⟩
 rw [if_neg h1] at HR
 have h1a : decide (m.s = 1) = false := decide_eq_false h1
 have h1b : (m.s == 1) = false := by simpa using h1
 have h1c : (m.s != 1) = true := by simpa using h1
 go_upto_region 8 with (fail)
 clear h1a h1b h1c h1
 by_cases h2 : m.s = 2
 rotate_left
 ·rw [if_neg (show ¬ (m.s = 2 ∧ fk = true) from fun h => h2 h.1)] at HR
  have h2a : decide (m.s = 2) = false := decide_eq_false h2
  have h2b : (m.s == 2) = false := by simpa using h2
  have h2c : (m.s != 2) = true := by simpa using h2
  go_upto_region 5 with (fail)
  clear k0
  go_wp2_with (refine wpList_load_mid rfl 65 _ rfl gt 2 rfl _ _ HRG.out Tryz.underlying65 rfl (by kernel_rfl) ?_)
  refine HAS.out.mono ?_
  rintro e w3 ⟨rfl, hM3, hQ3⟩
  go_wp2
  refine bodyPost_ret (results_none rfl _ _ _) rfl ?_
  rw [← HR.out]
  exact ⟨rfl, hM3⟩
 cases fk
 ·rw [if_neg (show ¬ (m.s = 2 ∧ false = true) from fun h => Bool.false_ne_true h.2)] at HR
  rw [h2] at k0
  go_upto_region 5 with (fail)
  clear k0
  go_wp2_with (refine wpList_load_mid rfl 65 _ rfl gt 2 rfl _ _ HRG.out Tryz.underlying65 rfl (by kernel_rfl) ?_)
  refine HAS.out.mono ?_
  rintro e w3 ⟨rfl, hM3, hQ3⟩
  go_wp2
  refine bodyPost_ret (results_none rfl _ _ _) rfl ?_
  rw [← HR.out]
  exact ⟨rfl, hM3⟩
 rw [if_pos (show m.s = 2 ∧ true = true from ⟨h2, rfl⟩)] at HR
 clear HRG HAS
 rw [h2] at k0
 have k9 := HM2.out.k9
 have f9 := HM2.out.fz 9
 obtain ⟨b1, b2⟩ := HTR.out
 have HM3 := Lh (HM2.out.set9 (m.tr + 1))
 go_upto_region 10 with (fail)
 clear k0 k9 f9 t0
 generalize W2.setCell ⟨g, 9, none⟩ (.int .i64 (m.tr + 1)) = W3 at *
 have k9 : W3.cell? ⟨g, 9, none⟩ = some (.int .i64 (m.tr + 1)) := HM3.out.k9
 have k31 := HM3.out.k31
 obtain ⟨t1, ht1⟩ : ∃ t, m.tr + 1 = t := ⟨_, rfl⟩
 rw [ht1] at k9 HM3 HR
 rw [ht1]
 clear ht1 b1 b2 h2
 by_cases hc : K.tries < t1
 ·rw [if_pos hc] at HR
  have hca : decide (K.tries < t1) = true := decide_eq_true hc
  go_quiet (fail)
  have HM4 := Lh (HM3.out.drewN nq)
  clear k9 k31
  go_wp2_with fail
  refine (down_ms HM4.out (by simp) 3).mono ?_
  rintro e w3 ⟨rfl, hM5, hQ5⟩
  go_wp2
  refine bodyPost_ret (results_none rfl _ _ _) rfl ?_
  rw [← HR.out]
  exact ⟨rfl, hM5⟩
 rw [if_neg hc] at HR
 have hca : decide (K.tries < t1) = false := decide_eq_false hc
 go_quiet (fail)
 have HM4 := Lh (HM3.out.drewN nq)
 clear k9 k31 HM3
 go_upto_region 12 with (fail)
 generalize W3.drewN nq = W4 at *
 clear hca hc
 have k0 := HM4.out.k0
 have f0 := HM4.out.fz 0
 have HM5 := Lh (HM4.out.set0 1)
 have HTH := Lh (HM5.out.there 3 5 (by decide))
 have HM6 := Lh (HM5.out.setp ⟨0, 0, 0, 0, 0⟩)
 obtain ⟨W6, hW6⟩ : ∃ W6, (W4.setCell ⟨g, 0, none⟩ (.int .i64 1)).setCells g 3 [.int .u32 0, .int .u32 0, .int .u32 0, .int .u16 0, .int .u16 0] = W6 := ⟨_, rfl⟩
 rw [hW6] at HM6
 have HE := Lh hW6
 clear hW6
 obtain ⟨n8, A8, c8, hs8⟩ : ∃ n A c, W6.cell? ⟨g, 8, none⟩ = some (.slice A n c) := by
  obtain ⟨A, c, h, _⟩ := HM6.out.ck
  exact ⟨_, A, c, h⟩
 have hf8 := HM6.out.fz 8
 have HM7 := Lh (HM6.out.set8 none 0 [] (Nat.le_refl _) ⟨by simp, fun _ _ => Kd.C_nil _ _⟩)
 go_upto_region 13 with (refine wpList_store_mid rfl 71 _ _ rfl g 3 #[.int .u32 0, .int .u32 0, .int .u32 0, .int .u16 0, .int .u16 0] rfl rfl HTH.out (by kernel_rfl) (by simp [Value.oneCell']) ?_; rw [HE.out])
 clear k0 f0 hs8 hf8 HM4 HM5 HM6 HTH
 go_wp2_with fail
 refine (sendInit_ms HM7.out (by simp)).mono ?_
 rintro e w7 ⟨rfl, hM8, hQ8⟩
 go_wp2
 refine bodyPost_ret (results_none rfl _ _ _) rfl ?_
 rw [← HR.out]
 exact ⟨rfl, hM8⟩
end
end Go.Proofs.YthiaakjbapgibaaGreat.As
end
section
namespace Go.Proofs.YthiaakjbapgibaaGreat.As
open Go.RowKit YthiaakjbapgibaaGreatW.PrintWords YthiaakjbapgibaaGreatW.PrintLast Base PCh
section
variable {B : Nat} {W0 W : World} {g gp : Nat} {K : Cfg} {m : Mst} {xs : List Act'}
def expP (K : Cfg) (m : Mst) (timer cum : Int) : Out :=
 if timer = 1 ∧ (m.s = 1 ∨ m.s = 2) then
  (if K.tries < m.tr + 1 then .ok (zeroM m, [actDown 3])
  else if m.s = 1 then .ok ({ m with tr := m.tr + 1 }, [actSend (mkC 1 0 m.tsn m.tag K.win K.out K.inn) 0, actTimer 2 1])
  else .ok ({ m with tr := m.tr + 1 }, [actSend (echoC m.cb) m.pr.f0, actTimer 2 1]))
 else if timer = 2 ∧ (m.s = 5 ∨ m.s = 7) then
  (if K.lasts < m.tr + 1 then .ok (zeroM m, [actDown 4])
  else if m.s = 5 then .ok ({ m with tr := m.tr + 1 }, [actSend (mkC 7 0 cum 0 0 0 0) m.pr.f0, actTimer 2 2])
  else .ok ({ m with tr := m.tr + 1 }, [actSend (mkC 8 0 0 0 0 0 0) m.pr.f0, actTimer 2 2]))
 else if timer = 3 ∧ 4 ≤ m.s then .ok (zeroM m, [actSend (mkC 6 0 0 0 0 0 0) m.pr.f0, actDown 5])
 else .error 220
set_option maxHeartbeats 8000000 in
theorem exp1_ms {gt gc : Nat} {timer cum : Int} (hM : MS B W0 g K m [] W0) (htr : 0 ≤ m.tr ∧ m.tr ≤ 1000) (ht : W0.heap[gt]? = some (.cells #[.int .i64 timer] 3 (0, 0))) (hp : W0.heap[gp]? = some (.cells #[.pointer (some ⟨g, 0, none⟩)] 33 (0, 0))) (hc : W0.heap[gc]? = some (.cells #[.int .u32 cum] 41 (0, 0))) (nt : gt ≠ g) (np : gp ≠ g) (nc : gc ≠ g) :
  Calls Tryz.prog 46 #[.pointer (some ⟨gt, 0, none⟩), .pointer (some ⟨gp, 0, none⟩), .pointer (some ⟨gc, 0, none⟩)] W0 (ClP B W0 g K (expP K m timer cum)) := by
 obtain ⟨r, hr⟩ : ∃ r, expP K m timer cum = r := ⟨_, rfl⟩
 rw [hr]
 have HR := Lh hr
 unfold expP at HR
 clear hr
 have k0 := hM.k0
 have kt : W0.cell? ⟨gt, 0, none⟩ = some (.int .i64 timer) := blk_cell ht 0
 have kp : W0.cell? ⟨gp, 0, none⟩ = some (.pointer (some ⟨g, 0, none⟩)) := blk_cell hp 0
 have kc : W0.cell? ⟨gc, 0, none⟩ = some (.int .u32 cum) := blk_cell hc 0
 have HM := Lh hM
 have HTR := Lh htr
 have HP := Lh hp
 have HC := Lh hc
 clear hM hp hc ht htr
 by_cases t1 : timer = 1
 ·subst t1
  by_cases h12 : m.s = 1 ∨ m.s = 2
  ·rw [if_pos (show (1 : Int) = 1 ∧ (m.s = 1 ∨ m.s = 2) from ⟨rfl, h12⟩)] at HR
   rcases h12 with h | h
   ·rw [h] at k0
    have HS := Lh h
    clear h
    have k9 := HM.out.k9
    have f9 := HM.out.fz 9
    obtain ⟨b1, b2⟩ := HTR.out
    have HM3 := Lh (HM.out.set9 (m.tr + 1))
    go_enter Tryz.func46, Tryz.ntmps46
    go_upto_region 4 with (fail)
    clear k0 k9 f9 kt kp kc
    generalize W0.setCell ⟨g, 9, none⟩ (.int .i64 (m.tr + 1)) = W3 at *
    have kp : W3.cell? ⟨gp, 0, none⟩ = some (.pointer (some ⟨g, 0, none⟩)) := blk_cell (HM3.out.only.blk HP.out np) 0
    have kc : W3.cell? ⟨gc, 0, none⟩ = some (.int .u32 cum) := blk_cell (HM3.out.only.blk HC.out nc) 0
    have k9 : W3.cell? ⟨g, 9, none⟩ = some (.int .i64 (m.tr + 1)) := HM3.out.k9
    have k0 : W3.cell? ⟨g, 0, none⟩ = some (.int .i64 1) := by rw [← HS.out]; exact HM3.out.k0
    have kx := HM3.out.k31
    obtain ⟨t1, ht1⟩ : ∃ t, m.tr + 1 = t := ⟨_, rfl⟩
    rw [ht1] at k9 HM3 HR
    try rw [ht1]
    clear ht1 b1 b2
    by_cases hc : K.tries < t1
    ·rw [if_pos hc] at HR
     have hca : decide (K.tries < t1) = true := decide_eq_true hc
     clear hc
     go_quiet (fail)
     have HM4 := Lh (HM3.out.drewN nq)
     clear k9 kx k0
     go_wp2_with fail
     refine (down_ms HM4.out (by simp) 3).mono ?_
     rintro e w3 ⟨rfl, hM5, hQ5⟩
     go_wp2
     refine bodyPost_ret (results_none rfl _ _ _) rfl ?_
     rw [← HR.out]
     exact ⟨rfl, hM5⟩
    rw [if_neg hc] at HR
    have hca : decide (K.tries < t1) = false := decide_eq_false hc
    clear hc
    go_quiet (fail)
    have HM4 := Lh (HM3.out.drewN nq)
    clear k9 kx
    go_wp2_with fail
    rw [if_pos HS.out] at HR
    refine (sendInit_ms HM4.out (by simp)).mono ?_
    rintro e w3 ⟨rfl, hM5, hQ5⟩
    go_wp2
    refine bodyPost_ret (results_none rfl _ _ _) rfl ?_
    rw [← HR.out]
    exact ⟨rfl, hM5⟩
   ·rw [h] at k0
    have HS := Lh h
    clear h
    have k9 := HM.out.k9
    have f9 := HM.out.fz 9
    obtain ⟨b1, b2⟩ := HTR.out
    have HM3 := Lh (HM.out.set9 (m.tr + 1))
    go_enter Tryz.func46, Tryz.ntmps46
    go_upto_region 4 with (fail)
    clear k0 k9 f9 kt kp kc
    generalize W0.setCell ⟨g, 9, none⟩ (.int .i64 (m.tr + 1)) = W3 at *
    have kp : W3.cell? ⟨gp, 0, none⟩ = some (.pointer (some ⟨g, 0, none⟩)) := blk_cell (HM3.out.only.blk HP.out np) 0
    have kc : W3.cell? ⟨gc, 0, none⟩ = some (.int .u32 cum) := blk_cell (HM3.out.only.blk HC.out nc) 0
    have k9 : W3.cell? ⟨g, 9, none⟩ = some (.int .i64 (m.tr + 1)) := HM3.out.k9
    have k0 : W3.cell? ⟨g, 0, none⟩ = some (.int .i64 2) := by rw [← HS.out]; exact HM3.out.k0
    have kx := HM3.out.k31
    obtain ⟨t1, ht1⟩ : ∃ t, m.tr + 1 = t := ⟨_, rfl⟩
    rw [ht1] at k9 HM3 HR
    try rw [ht1]
    clear ht1 b1 b2
    by_cases hc : K.tries < t1
    ·rw [if_pos hc] at HR
     have hca : decide (K.tries < t1) = true := decide_eq_true hc
     clear hc
     go_quiet (fail)
     have HM4 := Lh (HM3.out.drewN nq)
     clear k9 kx k0
     go_wp2_with fail
     refine (down_ms HM4.out (by simp) 3).mono ?_
     rintro e w3 ⟨rfl, hM5, hQ5⟩
     go_wp2
     refine bodyPost_ret (results_none rfl _ _ _) rfl ?_
     rw [← HR.out]
     exact ⟨rfl, hM5⟩
    rw [if_neg hc] at HR
    have hca : decide (K.tries < t1) = false := decide_eq_false hc
    clear hc
    go_quiet (fail)
    have HM4 := Lh (HM3.out.drewN nq)
    clear k9 kx
    go_wp2_with fail
    rw [if_neg (show ¬ m.s = 1 by have := HS.out; omega)] at HR
    refine (sendEcho_ms HM4.out (by simp)).mono ?_
    rintro e w3 ⟨rfl, hM5, hQ5⟩
    go_wp2
    refine bodyPost_ret (results_none rfl _ _ _) rfl ?_
    rw [← HR.out]
    exact ⟨rfl, hM5⟩
  ·rw [if_neg (show ¬ ((1 : Int) = 1 ∧ (m.s = 1 ∨ m.s = 2)) from fun h => h12 h.2), if_neg (show ¬ ((1 : Int) = 2 ∧ (m.s = 5 ∨ m.s = 7)) from fun h => absurd h.1 (by decide)), if_neg (show ¬ ((1 : Int) = 3 ∧ 4 ≤ m.s) from fun h => absurd h.1 (by decide))] at HR
   have h1 : ¬ m.s = 1 := fun h => h12 (Or.inl h)
   have h2 : ¬ m.s = 2 := fun h => h12 (Or.inr h)
   clear h12
   have h1a : decide (m.s = 1) = false := decide_eq_false h1
   have h1b : (m.s == 1) = false := by simpa using h1
   have h1c : (m.s != 1) = true := by simpa using h1
   replace h1 := Lh h1
   have h2a : decide (m.s = 2) = false := decide_eq_false h2
   have h2b : (m.s == 2) = false := by simpa using h2
   have h2c : (m.s != 2) = true := by simpa using h2
   replace h2 := Lh h2
   go_enter Tryz.func46, Tryz.ntmps46
   go_wp2_with fail
   exact ⟨rfl, by rw [← HR.out]; exact ⟨rfl, m, [], HM.out⟩⟩
 have HR2 := HR
 clear HR
 have HR := Lh (show (if timer = 2 ∧ (m.s = 5 ∨ m.s = 7) then
  (if K.lasts < m.tr + 1 then Except.ok (zeroM m, [actDown 4])
  else if m.s = 5 then .ok ({ m with tr := m.tr + 1 }, [actSend (mkC 7 0 cum 0 0 0 0) m.pr.f0, actTimer 2 2])
  else .ok ({ m with tr := m.tr + 1 }, [actSend (mkC 8 0 0 0 0 0 0) m.pr.f0, actTimer 2 2]))
 else if timer = 3 ∧ 4 ≤ m.s then .ok (zeroM m, [actSend (mkC 6 0 0 0 0 0 0) m.pr.f0, actDown 5])
 else .error 220 : Out) = r from (if_neg (show ¬ (timer = 1 ∧ (m.s = 1 ∨ m.s = 2)) from fun h => t1 h.1)).symm.trans HR2.out)
 clear HR2
 by_cases t2 : timer = 2
 ·subst t2
  clear t1
  by_cases h57 : m.s = 5 ∨ m.s = 7
  ·rw [if_pos (show (2 : Int) = 2 ∧ (m.s = 5 ∨ m.s = 7) from ⟨rfl, h57⟩)] at HR
   rcases h57 with h | h
   ·rw [h] at k0
    have HS := Lh h
    clear h
    have k9 := HM.out.k9
    have f9 := HM.out.fz 9
    obtain ⟨b1, b2⟩ := HTR.out
    have HM3 := Lh (HM.out.set9 (m.tr + 1))
    go_enter Tryz.func46, Tryz.ntmps46
    go_upto_region 11 with (fail)
    clear k0 k9 f9 kt kp kc
    generalize W0.setCell ⟨g, 9, none⟩ (.int .i64 (m.tr + 1)) = W3 at *
    have kp : W3.cell? ⟨gp, 0, none⟩ = some (.pointer (some ⟨g, 0, none⟩)) := blk_cell (HM3.out.only.blk HP.out np) 0
    have kc : W3.cell? ⟨gc, 0, none⟩ = some (.int .u32 cum) := blk_cell (HM3.out.only.blk HC.out nc) 0
    have k9 : W3.cell? ⟨g, 9, none⟩ = some (.int .i64 (m.tr + 1)) := HM3.out.k9
    have k0 : W3.cell? ⟨g, 0, none⟩ = some (.int .i64 5) := by rw [← HS.out]; exact HM3.out.k0
    have kx := HM3.out.k32
    obtain ⟨t1, ht1⟩ : ∃ t, m.tr + 1 = t := ⟨_, rfl⟩
    rw [ht1] at k9 HM3 HR
    try rw [ht1]
    clear ht1 b1 b2
    by_cases hc : K.lasts < t1
    ·rw [if_pos hc] at HR
     have hca : decide (K.lasts < t1) = true := decide_eq_true hc
     clear hc
     go_quiet (fail)
     have HM4 := Lh (HM3.out.drewN nq)
     clear k9 kx k0
     go_wp2_with fail
     refine (down_ms HM4.out (by simp) 4).mono ?_
     rintro e w3 ⟨rfl, hM5, hQ5⟩
     go_wp2
     refine bodyPost_ret (results_none rfl _ _ _) rfl ?_
     rw [← HR.out]
     exact ⟨rfl, hM5⟩
    rw [if_neg hc] at HR
    have hca : decide (K.lasts < t1) = false := decide_eq_false hc
    clear hc
    go_quiet (fail)
    have HM4 := Lh (HM3.out.drewN nq)
    clear k9 kx
    go_wp2_with fail
    rw [if_pos HS.out] at HR
    refine (sendShut_ms HM4.out (by simp) cum).mono ?_
    rintro e w3 ⟨rfl, hM5, hQ5⟩
    go_wp2
    refine bodyPost_ret (results_none rfl _ _ _) rfl ?_
    rw [← HR.out]
    exact ⟨rfl, hM5⟩
   ·rw [h] at k0
    have HS := Lh h
    clear h
    have k9 := HM.out.k9
    have f9 := HM.out.fz 9
    obtain ⟨b1, b2⟩ := HTR.out
    have HM3 := Lh (HM.out.set9 (m.tr + 1))
    go_enter Tryz.func46, Tryz.ntmps46
    go_upto_region 11 with (fail)
    clear k0 k9 f9 kt kp kc
    generalize W0.setCell ⟨g, 9, none⟩ (.int .i64 (m.tr + 1)) = W3 at *
    have kp : W3.cell? ⟨gp, 0, none⟩ = some (.pointer (some ⟨g, 0, none⟩)) := blk_cell (HM3.out.only.blk HP.out np) 0
    have kc : W3.cell? ⟨gc, 0, none⟩ = some (.int .u32 cum) := blk_cell (HM3.out.only.blk HC.out nc) 0
    have k9 : W3.cell? ⟨g, 9, none⟩ = some (.int .i64 (m.tr + 1)) := HM3.out.k9
    have k0 : W3.cell? ⟨g, 0, none⟩ = some (.int .i64 7) := by rw [← HS.out]; exact HM3.out.k0
    have kx := HM3.out.k32
    obtain ⟨t1, ht1⟩ : ∃ t, m.tr + 1 = t := ⟨_, rfl⟩
    rw [ht1] at k9 HM3 HR
    try rw [ht1]
    clear ht1 b1 b2
    by_cases hc : K.lasts < t1
    ·rw [if_pos hc] at HR
     have hca : decide (K.lasts < t1) = true := decide_eq_true hc
     clear hc
     go_quiet (fail)
     have HM4 := Lh (HM3.out.drewN nq)
     clear k9 kx k0
     go_wp2_with fail
     refine (down_ms HM4.out (by simp) 4).mono ?_
     rintro e w3 ⟨rfl, hM5, hQ5⟩
     go_wp2
     refine bodyPost_ret (results_none rfl _ _ _) rfl ?_
     rw [← HR.out]
     exact ⟨rfl, hM5⟩
    rw [if_neg hc] at HR
    have hca : decide (K.lasts < t1) = false := decide_eq_false hc
    clear hc
    go_quiet (fail)
    have HM4 := Lh (HM3.out.drewN nq)
    clear k9 kx
    go_wp2_with fail
    rw [if_neg (show ¬ m.s = 5 by have := HS.out; omega)] at HR
    refine (sendShutAck_ms HM4.out (by simp)).mono ?_
    rintro e w3 ⟨rfl, hM5, hQ5⟩
    go_wp2
    refine bodyPost_ret (results_none rfl _ _ _) rfl ?_
    rw [← HR.out]
    exact ⟨rfl, hM5⟩
  ·rw [if_neg (show ¬ ((2 : Int) = 2 ∧ (m.s = 5 ∨ m.s = 7)) from fun h => h57 h.2), if_neg (show ¬ ((2 : Int) = 3 ∧ 4 ≤ m.s) from fun h => absurd h.1 (by decide))] at HR
   have h1 : ¬ m.s = 5 := fun h => h57 (Or.inl h)
   have h2 : ¬ m.s = 7 := fun h => h57 (Or.inr h)
   clear h57
   have h1a : decide (m.s = 5) = false := decide_eq_false h1
   have h1b : (m.s == 5) = false := by simpa using h1
   have h1c : (m.s != 5) = true := by simpa using h1
   replace h1 := Lh h1
   have h2a : decide (m.s = 7) = false := decide_eq_false h2
   have h2b : (m.s == 7) = false := by simpa using h2
   have h2c : (m.s != 7) = true := by simpa using h2
   replace h2 := Lh h2
   go_enter Tryz.func46, Tryz.ntmps46
   go_wp2_with fail
   exact ⟨rfl, by rw [← HR.out]; exact ⟨rfl, m, [], HM.out⟩⟩
 rw [if_neg (show ¬ (timer = 2 ∧ (m.s = 5 ∨ m.s = 7)) from fun h => t2 h.1)] at HR
 by_cases t3 : timer = 3
 ·subst t3
  clear t1 t2
  by_cases h4 : 4 ≤ m.s
  ·rw [if_pos (show (3 : Int) = 3 ∧ 4 ≤ m.s from ⟨rfl, h4⟩)] at HR
   have h4a : decide (4 ≤ m.s) = true := decide_eq_true h4
   clear h4
   go_enter Tryz.func46, Tryz.ntmps46
   go_upto_region 16 with (fail)
   clear k0 h4a
   go_wp2_with fail
   refine (sendPeer_ms HM.out (Below.refl _ _) (by simp) (mkC 6 0 0 0 0 0 0) _ (mkC_K _ _ _ _ _ _ _)).mono ?_
   rintro e w2 ⟨rfl, hM2, hQ2⟩
   clear kp kt kc
   have kp := blk_cell (hM2.only.blk HP.out np) 0
   have HM2 := Lh hM2
   clear hM2 hQ2
   go_wp2_with fail
   refine (down_ms HM2.out (by simp) 5).mono ?_
   rintro e w3 ⟨rfl, hM5, hQ5⟩
   go_wp2
   refine bodyPost_ret (results_none rfl _ _ _) rfl ?_
   rw [← HR.out]
   exact ⟨rfl, hM5⟩
  ·rw [if_neg (show ¬ ((3 : Int) = 3 ∧ 4 ≤ m.s) from fun h => h4 h.2)] at HR
   have h4a : decide (4 ≤ m.s) = false := decide_eq_false h4
   clear h4
   go_enter Tryz.func46, Tryz.ntmps46
   go_wp2_with fail
   exact ⟨rfl, by rw [← HR.out]; exact ⟨rfl, m, [], HM.out⟩⟩
 rw [if_neg (show ¬ (timer = 3 ∧ 4 ≤ m.s) from fun h => t3 h.1)] at HR
 have t1a : decide (timer = 1) = false := decide_eq_false t1
 have t1b : (timer == 1) = false := by simpa using t1
 have t1c : (timer != 1) = true := by simpa using t1
 replace t1 := Lh t1
 have t2a : decide (timer = 2) = false := decide_eq_false t2
 have t2b : (timer == 2) = false := by simpa using t2
 have t2c : (timer != 2) = true := by simpa using t2
 replace t2 := Lh t2
 have t3a : decide (timer = 3) = false := decide_eq_false t3
 have t3b : (timer == 3) = false := by simpa using t3
 have t3c : (timer != 3) = true := by simpa using t3
 replace t3 := Lh t3
 go_enter Tryz.func46, Tryz.ntmps46
 go_wp2_with fail
 exact ⟨rfl, by rw [← HR.out]; exact ⟨rfl, m, [], HM.out⟩⟩
theorem expire_ms {w : World} (h : MR B g K m w) (htr : 0 ≤ m.tr ∧ m.tr ≤ 1000) (timer : Int) (cum : Int) : Calls Tryz.prog 25 #[.pointer (some ⟨g, 0, none⟩), .int .i64 timer, .int .u32 cum] w (CallP B g K m (expP K m timer cum) w) := by
 have hmf : ∀ (fn : Fn) (first cap : Array Value) (w : World), (Instr.makeFunc fn first cap).run Tryz.prog w = .ok (.func fn first cap) w := fun _ _ _ _ => rfl
 have hl := h.lt
 have hb : Below w.heap.size w (((w.alloc (.cells #[.pointer (some ⟨g, 0, none⟩)] 33)).alloc (.cells #[.int .i64 timer] 3)).alloc (.cells #[.int .u32 cum] 41)) := below_alloc (below_alloc (below_alloc (Below.refl _ _) _) _) _
 have s0 : w.heap.size = w.heap.size := rfl
 have b0 : (((w.alloc (.cells #[.pointer (some ⟨g, 0, none⟩)] 33)).alloc (.cells #[.int .i64 timer] 3)).alloc (.cells #[.int .u32 cum] 41)).heap[w.heap.size]? = some (.cells #[.pointer (some ⟨g, 0, none⟩)] 33 (0, 0)) := blk_alloc (blk_alloc (by have h := blk_new w (.cells #[.pointer (some ⟨g, 0, none⟩)] 33); rw [s0] at h; exact h) _) _
 have s1 : (w.alloc (.cells #[.pointer (some ⟨g, 0, none⟩)] 33)).heap.size = w.heap.size + 1 := by simp
 have b1 : (((w.alloc (.cells #[.pointer (some ⟨g, 0, none⟩)] 33)).alloc (.cells #[.int .i64 timer] 3)).alloc (.cells #[.int .u32 cum] 41)).heap[w.heap.size + 1]? = some (.cells #[.int .i64 timer] 3 (0, 0)) := blk_alloc (by have h := blk_new (w.alloc (.cells #[.pointer (some ⟨g, 0, none⟩)] 33)) (.cells #[.int .i64 timer] 3); rw [s1] at h; exact h) _
 have s2 : ((w.alloc (.cells #[.pointer (some ⟨g, 0, none⟩)] 33)).alloc (.cells #[.int .i64 timer] 3)).heap.size = w.heap.size + 1 + 1 := by simp
 have b2 : (((w.alloc (.cells #[.pointer (some ⟨g, 0, none⟩)] 33)).alloc (.cells #[.int .i64 timer] 3)).alloc (.cells #[.int .u32 cum] 41)).heap[w.heap.size + 1 + 1]? = some (.cells #[.int .u32 cum] 41 (0, 0)) := by have h := blk_new ((w.alloc (.cells #[.pointer (some ⟨g, 0, none⟩)] 33)).alloc (.cells #[.int .i64 timer] 3)) (.cells #[.int .u32 cum] 41); rw [s2] at h; exact h
 have H := Lh (call_ms B (((w.alloc (.cells #[.pointer (some ⟨g, 0, none⟩)] 33)).alloc (.cells #[.int .i64 timer] 3)).alloc (.cells #[.int .u32 cum] 41)) g K m 46 #[.pointer (some ⟨w.heap.size + 1, 0, none⟩), .pointer (some ⟨w.heap.size, 0, none⟩), .pointer (some ⟨w.heap.size + 1 + 1, 0, none⟩)] (h.below hb) (enters_ Tryz.func46 (by kernel_rfl) (by kernel_rfl)) (expP K m timer cum) (fun W0 hO hM => exp1_ms hM htr (hO.blk b1 (by omega)) (hO.blk b0 (by omega)) (hO.blk b2 (by omega)) (by omega) (by omega) (by omega)))
 have HL := Lh hl
 have HB := Lh hb
 clear h hl hb htr b0 s0 b1 s1 b2 s2
 go_enter Tryz.func25, Tryz.ntmps25
 go_wp2_with fail
 refine H.out.mono ?_
 intro e w1 hP
 have hP' := CallP.mono HB.out hP HL.out
 obtain ⟨u, c, rfl⟩ := hP.ret
 clear hP H HB
 go_wp2
 go_ret2
 exact hP'
end
end Go.Proofs.YthiaakjbapgibaaGreat.As
end
section
namespace Go.Proofs.YthiaakjbapgibaaGreat.As
open Go.RowKit YthiaakjbapgibaaGreatW.PrintWords YthiaakjbapgibaaGreatW.PrintLast Base PCh
section
variable {B : Nat} {W0 W : World} {g gp : Nat} {K : Cfg} {m : Mst} {xs : List Act'}
theorem int_C_move {k : IntKind} {w w' : World} {ad : Addr} {n : Nat} {l : List Int} (h : (Kd.int k).C w (some ad) n l) (hb : w'.heap[ad.block]? = w.heap[ad.block]?) : (Kd.int k).C w' (some ad) n l := by
 obtain ⟨h1, h2, h3⟩ := Kd.reads_of_C (d := (0 : Int)) h
 refine Kd.C_of_reads (d := (0 : Int)) ⟨h1, h2, fun hn => ?_⟩
 obtain ⟨a, e, hc⟩ := h3 hn
 refine ⟨a, e, fun j hj => ?_⟩
 obtain rfl := Option.some.inj e
 rw [← hc j hj]
 have hbk : (ad.add j).block = ad.block := add_block _ _
 simp only [World.cell?, hbk, hb]
theorem user_stb (B : Nat) (w : World) (s : ByteArray) (hs : s.size ≤ 1000) :
  Calls Tryz.prog 77 #[.string s] w fun e w' => ∃ A c, e = .returned (.tuple #[.agg #[.int .u16 12, .slice A (Go.Proofs.YthiaakjbapgibaaGreat.ParCauses.bodyS s).length c], .int .i64 0]) ∧ (Go.Proofs.YthiaakjbapgibaaGreat.ParCauses.bodyS s).length ≤ c ∧ (Stb B w' fun W' => (Kd.int .u8).C W' A (Go.Proofs.YthiaakjbapgibaaGreat.ParCauses.bodyS s).length (Go.Proofs.YthiaakjbapgibaaGreat.ParCauses.bodyS s)) ∧ Below w.heap.size w w' := by
 have h : ¬ s.size > 65531 := by omega
 have hcv := Lib.run_convert_string_bytes (P := Tryz.prog) (w.alloc (.cells #[.int .u16 0, .slice none 0 0] 123)) 9 62 5 s Tryz.underlying9 Tryz.underlying62 Tryz.underlying5
 have hW : (Lib.bytesWorld (w.alloc (.cells #[.int .u16 0, .slice none 0 0] 123)) 5 s).heap[w.heap.size]? = some (.cells #[.int .u16 0, .slice none 0 0] 123 (0, 0)) := by
  rw [Lib.bytesWorld_at_old _ _ _ _ (by simp)]
  exact heap_alloc_new _ _
 have hC := Go.Proofs.YthiaakjbapgibaaGreat.ParCauses.bw_C (w.alloc (.cells #[.int .u16 0, .slice none 0 0] 123)) s (by omega)
 have hN := Lib.bytesWorld_at_new (w.alloc (.cells #[.int .u16 0, .slice none 0 0] 123)) 5 s
 have hB : Below w.heap.size w (Lib.bytesWorld (w.alloc (.cells #[.int .u16 0, .slice none 0 0] 123)) 5 s) := ((Below.refl _ _).alloc (Nat.le_refl _) _).trans ((Go.Proofs.YthiaakjbapgibaaGreat.ParCauses.bw_below _ _ _).mono (by simp))
 rw [World.size_alloc] at hcv hC hN
 have hl := Go.Proofs.YthiaakjbapgibaaGreat.ParCauses.bodyS_length s
 rw [hl] at hC
 obtain ⟨bc, bf, hN⟩ : ∃ bc bf, (Lib.bytesWorld (w.alloc (.cells #[.int .u16 0, .slice none 0 0] 123)) 5 s).heap[w.heap.size + 1]? = some (Obj.cells bc 5 bf) := ⟨_, _, hN⟩
 generalize hcap : grownCap (w.alloc (.cells #[.int .u16 0, .slice none 0 0] 123)) s.size 0 5 = cap at *
 have hcap2 : s.size ≤ cap := by rw [← hcap]; exact grownCap_ge _ _ _ _
 clear hcap
 generalize Lib.bytesWorld (w.alloc (.cells #[.int .u16 0, .slice none 0 0] 123)) 5 s = W1 at *
 have c0 := blk_cell hW 0
 have c1 := blk_cell hW 1
 have f0 := blk_frozen hW 0
 have f1 := blk_frozen hW 1
 have HC := Lh hC
 have HB := Lh hB
 have HW := Lh hW
 have HL := Lh hl
 have HN := Lh hN
 clear hC hB hW hl hN
 go_enter Tryz.func77, Tryz.ntmps77
 go_wp2
 refine bodyPost_ret (results_ct rfl _ _ w.heap.size 123 #[.int .u16 12, .slice (some ⟨w.heap.size + 1, 0, none⟩) s.size cap] (0, 0) _ rfl (blk_set (blk_set HW.out 0 _) 1 _) Tryz.underlying123 rfl (by kernel_rfl)) rfl ?_
 refine ⟨some ⟨w.heap.size + 1, 0, none⟩, cap, ?_, by rw [HL.out]; exact hcap2, ?_, (HB.out.setCell (p := ⟨w.heap.size, 0, none⟩) (Nat.le_refl _) _).setCell (p := ⟨w.heap.size, 1, none⟩) (Nat.le_refl _) _⟩
 ·rw [HL.out]; rfl
 ·rw [HL.out]
  intro W' hk
  have hne : w.heap.size + 1 ≠ w.heap.size := by omega
  have n1 := (Below.heap_setCell (W1.setCell ⟨w.heap.size, 0, none⟩ (.int .u16 12)) ⟨w.heap.size, 1, none⟩ (.slice (some ⟨w.heap.size + 1, 0, none⟩) s.size cap) (w.heap.size + 1) hne).trans ((Below.heap_setCell W1 ⟨w.heap.size, 0, none⟩ (.int .u16 12) (w.heap.size + 1) hne).trans HN.out)
  exact int_C_move HC.out ((hk.typ _ _ _ _ n1 rfl).trans HN.out.symm)
theorem par_K {B : Nat} {W : World} {kd ty : Int} {l : List Int} {A : Option Addr} {c gs : Nat} (hl : l.length ≤ c) (hS : Stb B W fun W' => (Kd.int .u8).C W' A l.length l) (hg : W.heap[gs]? = some (.cells #[.int .u16 ty, .slice A l.length c] 123 (0, 0))) :
  Stb B W fun W' => Kd.K k65 W' (⟨kd, 0, 0, 0, 0, 0, 0, 0, 0, 0, [], [], [], [], [⟨ty, l⟩]⟩ : Chk) (#[.int .u8 kd, .int .u8 0, .int .u32 0, .int .u16 0, .int .u16 0, .int .u32 0, .int .u32 0, .int .u32 0, .int .u16 0, .int .u16 0, .slice none 0 0, .slice none 0 0, .slice none 0 0, .slice none 0 0, .slice (some ⟨gs, 0, none⟩) 1 1] : Array Value).toList := by
 have hp : Stb B W fun W' => Kd.K k123 W' ⟨ty, l⟩ (#[.int .u16 ty, .slice A l.length c] : Array Value).toList := fun W' hk => k123_mk W' (⟨ty, l⟩ : S123) (A1 := A) (c1 := c) hl (hS W' hk)
 have hr := one_C k123 hg rfl hp
 exact fun W' hk => k65_mk W' (⟨kd, 0, 0, 0, 0, 0, 0, 0, 0, 0, [], [], [], [], [⟨ty, l⟩]⟩ : Chk) (Nat.le_refl _) (Kd.C_nil _ _) (Nat.le_refl _) (Kd.C_nil _ _) (Nat.le_refl _) (Kd.C_nil _ _) (Nat.le_refl _) (Kd.C_nil _ _) (Nat.le_refl _) (hr W' hk)
def userC (y : ByteArray) : Chk := ⟨6, 0, 0, 0, 0, 0, 0, 0, 0, 0, [], [], [], [], [⟨12, Go.Proofs.YthiaakjbapgibaaGreat.ParCauses.bodyS y⟩]⟩
def abP (m : Mst) (y : ByteArray) : Out :=
 if m.s = 0 then .error 220
 else if 1000 < y.size then .error 2
 else if m.s = 1 then .ok (zeroM m, [actDown 2])
 else .ok (zeroM m, [actSend (userC y) m.pr.f0, actDown 2])
set_option maxHeartbeats 2000000 in
theorem abort1_ms {gy : Nat} {y : ByteArray} (hM : MS B W0 g K m [] W0) (hp : W0.heap[gp]? = some (.cells #[.pointer (some ⟨g, 0, none⟩)] 33 (0, 0))) (hy : W0.heap[gy]? = some (.cells #[.string y] 9 (0, 0))) (np : gp ≠ g) (ny : gy ≠ g) :
  Calls Tryz.prog 76 #[.pointer (some ⟨gp, 0, none⟩), .pointer (some ⟨gy, 0, none⟩)] W0 (ClP B W0 g K (abP m y)) := by
 obtain ⟨r, hr⟩ : ∃ r, abP m y = r := ⟨_, rfl⟩
 rw [hr]
 have HR := Lh hr
 unfold abP at HR
 clear hr
 have k0 := hM.k0
 have kp : W0.cell? ⟨gp, 0, none⟩ = some (.pointer (some ⟨g, 0, none⟩)) := blk_cell hp 0
 have ky : W0.cell? ⟨gy, 0, none⟩ = some (.string y) := blk_cell hy 0
 have HM := Lh hM
 have HP := Lh hp
 clear hM hp hy
 go_enter Tryz.func76, Tryz.ntmps76
 by_cases h0 : m.s = 0
 ·rw [if_pos h0] at HR
  rw [h0] at k0
  go_wp2_with fail
  exact ⟨rfl, by rw [← HR.out]; exact ⟨rfl, m, [], HM.out⟩⟩
 rw [if_neg h0] at HR
 have h0a : decide (m.s = 0) = false := decide_eq_false h0
 have h0b : (m.s == 0) = false := by simpa using h0
 have h0c : (m.s != 0) = true := by simpa using h0
 by_cases hl : 1000 < y.size
 ·rw [if_pos hl] at HR
  have hla : decide ((1000 : Int) < (y.size : Int)) = true := decide_eq_true (by omega)
  have hlb : decide (1000 < y.size) = true := decide_eq_true hl
  clear hl
  go_wp2_with fail
  exact ⟨rfl, by rw [← HR.out]; exact ⟨rfl, m, [], HM.out⟩⟩
 rw [if_neg hl] at HR
 have hla : decide ((1000 : Int) < (y.size : Int)) = false := decide_eq_false (by omega)
 have hlb : decide (1000 < y.size) = false := decide_eq_false hl
 have HL := Lh (show y.size ≤ 1000 by omega)
 clear hl
 by_cases h1 : m.s = 1
 ·rw [if_pos h1] at HR
  rw [h1] at k0
  go_wp2_with fail
  refine (down_ms HM.out (by simp) 2).mono ?_
  rintro e w3 ⟨rfl, hM5, hQ5⟩
  go_wp2
  refine bodyPost_ret (results_none rfl _ _ _) rfl ?_
  rw [← HR.out]
  exact ⟨rfl, hM5⟩
 rw [if_neg h1] at HR
 have h1a : decide (m.s = 1) = false := decide_eq_false h1
 have h1b : (m.s == 1) = false := by simpa using h1
 have h1c : (m.s != 1) = true := by simpa using h1
 go_wp2_with fail
 refine (user_stb B W0 y HL.out).mono ?_
 rintro e w1 ⟨A, c, rfl, hlc, hS, hB⟩
 obtain ⟨l, hl⟩ : ∃ l, Go.Proofs.YthiaakjbapgibaaGreat.ParCauses.bodyS y = l := ⟨_, rfl⟩
 have HU := Lh (show userC y = ⟨6, 0, 0, 0, 0, 0, 0, 0, 0, 0, [], [], [], [], [⟨12, l⟩]⟩ by unfold userC; rw [hl])
 rw [hl] at hlc hS ⊢
 clear hl hla hlb h0a h0b h0c h1a h1b h1c h0 h1 k0 ky
 have HZ := Lh (blk_new w1 (.cells #[.int .u16 0, .slice none 0 0] 123))
 have HB := Lh (below_setRow (below_alloc hB (.cells #[.int .u16 0, .slice none 0 0] 123)) hB.size #[.int .u16 12, .slice A l.length c])
 have HK := Lh (show Kq B w1 ((w1.alloc (.cells #[.int .u16 0, .slice none 0 0] 123)).setRow w1.heap.size #[.int .u16 12, .slice A l.length c]) from Kq.of_below (below_setRow (below_alloc (Below.refl _ _) (.cells #[.int .u16 0, .slice none 0 0] 123)) (Nat.le_refl _) _))
 go_upto_region 6 with (refine wpList_store_row rfl 123 _ _ rfl w1.heap.size #[.int .u16 12, .slice A l.length c] rfl rfl 123 _ HZ.out (by kernel_rfl) rfl (by simp [Value.oneCell']) ?_)
 have HX := Lh (setRow_heap _ _ _ #[.int .u16 12, .slice A l.length c] _ _ HZ.out)
 have HS := Lh (hS.mono HK.out)
 have HLC := Lh hlc
 clear HZ HK hB hS hlc
 generalize (w1.alloc (.cells #[.int .u16 0, .slice none 0 0] 123)).setRow w1.heap.size #[.int .u16 12, .slice A l.length c] = W2 at *
 generalize w1.heap.size = gu at *
 have kp2 : W2.cell? ⟨gp, 0, none⟩ = some (.pointer (some ⟨g, 0, none⟩)) := blk_cell (blk_below HP.out HB.out) 0
 clear kp
 have HSN := Lh (sendPeer_ms HM.out (below_alloc HB.out (.cells #[.int .u16 12, .slice A l.length c] 123)) (by simp) (⟨6, 0, 0, 0, 0, 0, 0, 0, 0, 0, [], [], [], [], [⟨12, l⟩]⟩ : Chk) _ (par_K (kd := 6) (ty := 12) HLC.out (HS.out.mono (Kq.of_below (below_alloc (Below.refl _ _) (.cells #[.int .u16 12, .slice A l.length c] 123)))) (blk_new W2 (.cells #[.int .u16 12, .slice A l.length c] 123))))
 go_wp2_with (refine wpList_load_row rfl 123 _ rfl _ rfl 123 _ (0, 0) _ HX.out Tryz.underlying123 rfl (by kernel_rfl) ?_)
 refine HSN.out.mono ?_
 rintro e w2 ⟨rfl, hM2, hQ2⟩
 clear kp2
 have kp := blk_cell (hM2.only.blk HP.out np) 0
 have HM2 := Lh hM2
 clear hM2 hQ2 HSN
 go_wp2_with fail
 refine (down_ms HM2.out (by simp) 2).mono ?_
 rintro e w3 ⟨rfl, hM5, hQ5⟩
 go_wp2
 refine bodyPost_ret (results_none rfl _ _ _) rfl ?_
 rw [← HR.out, HU.out]
 exact ⟨rfl, hM5⟩
theorem abort_ms {w : World} (h : MR B g K m w) (y : ByteArray) : Calls Tryz.prog 43 #[.pointer (some ⟨g, 0, none⟩), .string y] w (CallP B g K m (abP m y) w) := by
 have hmf : ∀ (fn : Fn) (first cap : Array Value) (w : World), (Instr.makeFunc fn first cap).run Tryz.prog w = .ok (.func fn first cap) w := fun _ _ _ _ => rfl
 have hl := h.lt
 have hb : Below w.heap.size w ((w.alloc (.cells #[.pointer (some ⟨g, 0, none⟩)] 33)).alloc (.cells #[.string y] 9)) := below_alloc (below_alloc (Below.refl _ _) _) _
 have s0 : w.heap.size = w.heap.size := rfl
 have b0 : ((w.alloc (.cells #[.pointer (some ⟨g, 0, none⟩)] 33)).alloc (.cells #[.string y] 9)).heap[w.heap.size]? = some (.cells #[.pointer (some ⟨g, 0, none⟩)] 33 (0, 0)) := blk_alloc (by have h := blk_new w (.cells #[.pointer (some ⟨g, 0, none⟩)] 33); rw [s0] at h; exact h) _
 have s1 : (w.alloc (.cells #[.pointer (some ⟨g, 0, none⟩)] 33)).heap.size = w.heap.size + 1 := by simp
 have b1 : ((w.alloc (.cells #[.pointer (some ⟨g, 0, none⟩)] 33)).alloc (.cells #[.string y] 9)).heap[w.heap.size + 1]? = some (.cells #[.string y] 9 (0, 0)) := by have h := blk_new (w.alloc (.cells #[.pointer (some ⟨g, 0, none⟩)] 33)) (.cells #[.string y] 9); rw [s1] at h; exact h
 have H := Lh (call_ms B ((w.alloc (.cells #[.pointer (some ⟨g, 0, none⟩)] 33)).alloc (.cells #[.string y] 9)) g K m 76 #[.pointer (some ⟨w.heap.size, 0, none⟩), .pointer (some ⟨w.heap.size + 1, 0, none⟩)] (h.below hb) (enters_ Tryz.func76 (by kernel_rfl) (by kernel_rfl)) (abP m y) (fun W0 hO hM => abort1_ms hM (hO.blk b0 (by omega)) (hO.blk b1 (by omega)) (by omega) (by omega)))
 have HL := Lh hl
 have HB := Lh hb
 clear h hl hb b0 s0 b1 s1
 go_enter Tryz.func43, Tryz.ntmps43
 go_wp2_with fail
 refine H.out.mono ?_
 intro e w1 hP
 have hP' := CallP.mono HB.out hP HL.out
 obtain ⟨u, c, rfl⟩ := hP.ret
 clear hP H HB
 go_wp2
 go_ret2
 exact hP'
end
end Go.Proofs.YthiaakjbapgibaaGreat.As
end
section
namespace Go.Proofs.YthiaakjbapgibaaGreat.As
open Go.RowKit YthiaakjbapgibaaGreatW.PrintWords YthiaakjbapgibaaGreatW.PrintLast Base PCh
section
variable {B : Nat} {W0 W : World} {g gp : Nat} {K : Cfg} {m : Mst} {xs : List Act'}
theorem MS.lower {W5 : World} (h : MS B W5 g K m xs W) (hB : Below W0.heap.size W0 W5) (hg : g < W0.heap.size) : MS B W0 g K m xs W := by
 obtain ⟨cs, A, c, ⟨h1, h1b, h2, ⟨av, rs, h3, h4, h5⟩, h6⟩, h7, h8, h9⟩ := h
 exact ⟨cs, A, c, ⟨hg, h1b, h2, ⟨av, rs, h3, Kd.R_lower h4 hB.size, h5⟩, (Only.of_below hB).trans h6 (fun _ _ h => h)⟩, h7, h8, h9⟩
theorem MS.raise {W5 : World} (h : MS B W0 g K m [] W0) (hB : Below W0.heap.size W0 W5) : MS B W5 g K m [] W5 := by
 have h' := h.below hB
 obtain ⟨cs0, A0, c0, ⟨g1, g1b, g2, ⟨av0, rs0, g3, g4, g5⟩, g6⟩, g7, g8, g9⟩ := h
 have hr0 : rs0 = [] := List.eq_nil_of_length_eq_zero (by rw [g5.1]; rfl)
 subst hr0
 have hav : av0 = .slice none 0 0 := by
  rcases g4.2.choose_spec.1.2 with ⟨h, _⟩ | ⟨k, _, _, _, hk, hb, _⟩
  ·exact h
  ·have := blk_lt hb
   omega
 subst hav
 have g3' := blk_below g3 hB
 exact ⟨cs0, A0, c0, ⟨Nat.lt_of_lt_of_le g1 hB.size, g1b, g2, ⟨_, [], g3', Kd.R_nil _ _ _ _ _, ActsR.nil _ _⟩, Only.refl _ _⟩, g7, g8, g9.mono (Kq.of_below hB)⟩
theorem ClP.lower {W5 : World} {r : Out} {e : Ending} (h : ClP B W5 g K r e W) (hB : Below W0.heap.size W0 W5) (hg : g < W0.heap.size) : ClP B W0 g K r e W := by
 unfold ClP at *
 cases r with
 | error c =>
  obtain ⟨h1, m, xs, h2⟩ := h
  exact ⟨h1, m, xs, h2.lower hB hg⟩
 | ok mx =>
  obtain ⟨m9, xs9⟩ := mx
  exact ⟨h.1, h.2.lower hB hg⟩
def setBlk (w : World) (b : Nat) (o : Obj) : World := { w with heap := w.heap.setIfInBounds b o }
theorem run_push {P : Program} {t kt et : TypeId} (hm : P.underlying t = some (.map kt et)) (hd : P.underlying kt = some (.int .u8)) {w : World} {b : Nat} {es : Array MapEntry} {clock : Nat} (hb : w.heap[b]? = some (.map es clock)) (n : Int) (v : Value) (h1 : Instr.findNow (.int .u8) (.int .u8 n) es.toList 0 = some none) :
  (Instr.mapUpdate t (.map (some b)) (.int .u8 n) v).run P w = .ok () (setBlk w b (.map (es.push ⟨.int .u8 n, v, clock⟩) (clock + 1))) := by
 simp [Instr.mapUpdate, run_underlying hm, MapKept.run_getObj_map hb, MapKept.run_checkKey hd (d := .int .u8) (k := .int .u8 n) rfl, MapKept.run_findKey hd h1, MapKept.run_setObj_map _ hb, Result.andThen, setBlk]
theorem run_look {P : Program} {t kt et : TypeId} (hm : P.underlying t = some (.map kt et)) (hd : P.underlying kt = some (.int .u8)) {w : World} {b : Nat} {es : Array MapEntry} {clock : Nat} (hb : w.heap[b]? = some (.map es clock)) (n : Int) (i : Nat) (v : Value) (h1 : Instr.findNow (.int .u8) (.int .u8 n) es.toList 0 = some (some (i, v))) :
  (Instr.lookup t (.map (some b)) (.int .u8 n) false).run P w = .ok v w := by
 simp [Instr.lookup, run_underlying hm, MapKept.run_getObj_map hb, MapKept.run_checkKey hd (d := .int .u8) (k := .int .u8 n) rfl, MapKept.run_findKey hd h1, Result.andThen]
theorem run_look_no {P : Program} {t kt et : TypeId} (hm : P.underlying t = some (.map kt et)) (hd : P.underlying kt = some (.int .u8)) {w : World} {b : Nat} {es : Array MapEntry} {clock : Nat} (hb : w.heap[b]? = some (.map es clock)) (n : Int) (v : Value) (hz : (zeroValue et).run P w = .ok v w) (h1 : Instr.findNow (.int .u8) (.int .u8 n) es.toList 0 = some none) :
  (Instr.lookup t (.map (some b)) (.int .u8 n) false).run P w = .ok v w := by
 simp [Instr.lookup, run_underlying hm, MapKept.run_getObj_map hb, MapKept.run_checkKey hd (d := .int .u8) (k := .int .u8 n) rfl, MapKept.run_findKey hd h1, hz, Result.andThen]
structure MB (w0 w : World) (b : Nat) (es : Array MapEntry) (clock : Nat) : Prop where
 hb : w.heap[b]? = some (.map es clock)
 below : Below w0.heap.size w0 w
 lo : w0.heap.size ≤ b
theorem MB.push {w0 w : World} {b : Nat} {es : Array MapEntry} {clock : Nat} (h : MB w0 w b es clock) (e : MapEntry) (c : Nat) : MB w0 (setBlk w b (.map (es.push e) c)) b (es.push e) c := by
 refine ⟨?_, ⟨h.below.os, h.below.tape, h.below.output, by simp [setBlk]; exact h.below.size, fun k hk => ?_⟩, h.lo⟩
 ·show (w.heap.setIfInBounds b _)[b]? = _
  rw [Array.getElem?_setIfInBounds_self_of_lt (by have := (Array.getElem?_eq_some_iff.1 h.hb).1; exact this)]
 ·show (w.heap.setIfInBounds b _)[k]? = _
  rw [Array.getElem?_setIfInBounds_ne (by have := h.lo; omega)]
  exact h.below.block k hk
theorem wpList_push {w0 w : World} {ops : Array Oper} {rest : List Oper} {o : Oper} {a : Act} {Q : Exit → Act → World → Prop} (hg : o.guard = none) (m x v : Operand) (hop : o.op = Op.insert 118 m x v) (b : Nat) (hm : a.eval m = .map (some b)) (n : Int) (hx : a.eval x = .int .u8 n) (fv : Value) (hv : a.eval v = fv)
  {es : Array MapEntry} {clock : Nat} (HB : MB w0 w b es clock) (hf : Instr.findNow (.int .u8) (.int .u8 n) es.toList 0 = some none) (hK : ∀ w', MB w0 w' b (es.push ⟨.int .u8 n, fv, clock⟩) (clock + 1) → wpList Tryz.prog ops Q rest (a.put o.dst undef) w') : wpList Tryz.prog ops Q (o :: rest) a w := by
 refine wpList_plain hg fun K' hK' => ?_
 have hrun := run_push Tryz.underlying118 Tryz.underlying59 HB.hb n fv hf
 unfold Oper.wp
 simp [execOp, hop, hm, hx, hv, hrun, Result.andThen]
 exact hK' _ _ (hK _ (HB.push _ _))
theorem wpList_look {w : World} {ops : Array Oper} {rest : List Oper} {o : Oper} {a : Act} {Q : Exit → Act → World → Prop} (hg : o.guard = none) (m x : Operand) (hop : o.op = Op.lookup 118 m x false) (b : Nat) (hm : a.eval m = .map (some b)) (n : Int) (hx : a.eval x = .int .u8 n) (v : Value)
  (hrun : (Instr.lookup 118 (.map (some b)) (.int .u8 n) false).run Tryz.prog w = .ok v w) (hK : wpList Tryz.prog ops Q rest (a.put o.dst v) w) : wpList Tryz.prog ops Q (o :: rest) a w := by
 refine wpList_plain hg fun K' hK' => ?_
 unfold Oper.wp
 simp [execOp, hop, hm, hx, hrun, Result.andThen]
 exact hK' _ _ hK
noncomputable abbrev checkD (x : Chk) : Int := Go.Proofs.YthiaakjbapgibaaGreat.Ch.checkD x
noncomputable def takeP (K : Cfg) (m : Mst) (tag : Int) (x : Chk) (now : Int) : Out :=
 if now < 0 then .error 1
 else if 1099511627776 < now then .error 1
 else if ¬ checkD x = 0 then .error 1
 else if x.f0 = 1 then initP K m tag x now
 else if x.f0 = 2 then iackP K m tag x
 else if x.f0 = 10 then echoP K m tag x now
 else if x.f0 = 11 then cackP m tag x
 else if x.f0 = 9 then failP K m tag x
 else if x.f0 = 6 then abortP m tag x
 else if x.f0 = 14 then doneP m tag x
 else if x.f0 = 8 then sackP m tag x
 else if x.f0 = 7 then downP m tag x
 else otherP m tag x
set_option maxHeartbeats 8000000 in
theorem take1_ms {gn gx gg : Nat} {tag now : Int} {x : Chk} {L : Lay} (hM : MS B W0 g K m [] W0) (hK : KW K) (hW : MW m) (hX : XW x) (htr : 0 ≤ m.tr ∧ m.tr ≤ 1000) (hcr : Stb B W0 fun W => Go.Proofs.YthiaakjbapgibaaGreat.Ch.CR W x L) (hv : Go.Proofs.YthiaakjbapgibaaGreat.Ch.ValOk x L)
  (hn : W0.heap[gn]? = some (.cells #[.int .i64 now] 3 (0, 0))) (hx : W0.heap[gx]? = some (.cells (Go.Proofs.YthiaakjbapgibaaGreat.Ch.CV x L) 65 (0, 0))) (hp : W0.heap[gp]? = some (.cells #[.pointer (some ⟨g, 0, none⟩)] 33 (0, 0))) (hg : W0.heap[gg]? = some (.cells #[.int .u32 tag] 41 (0, 0))) (nx : gx ≠ g) (np : gp ≠ g) :
  Calls Tryz.prog 59 #[.pointer (some ⟨gn, 0, none⟩), .pointer (some ⟨gx, 0, none⟩), .pointer (some ⟨gp, 0, none⟩), .pointer (some ⟨gg, 0, none⟩)] W0 (ClP B W0 g K (takeP K m tag x now)) := by
 obtain ⟨r, hr⟩ : ∃ r, takeP K m tag x now = r := ⟨_, rfl⟩
 rw [hr]
 have HR := Lh hr
 unfold takeP at HR
 clear hr
 have kn : W0.cell? ⟨gn, 0, none⟩ = some (.int .i64 now) := blk_cell hn 0
 have HM := Lh hM
 have HLT := Lh hM.lt
 have HKW := Lh hK
 have HMW := Lh hW
 have HXW := Lh hX
 have HTR := Lh htr
 have HCR := Lh hcr
 have HV := Lh hv
 have HN0 := Lh hn
 have HX := Lh hx
 have HP := Lh hp
 have HG := Lh hg
 have HXS := Lh (show (Tryz.prog.info? 65).map (·.size) = some (Go.Proofs.YthiaakjbapgibaaGreat.Ch.CV x L).size by kernel_rfl)
 clear hM hK hW hX htr hcr hv hn hx hp hg
 go_enter Tryz.func59, Tryz.ntmps59
 by_cases n0 : now < 0
 ·rw [if_pos n0] at HR
  have n0a : decide (now < 0) = true := decide_eq_true n0
  go_wp2_with fail
  exact ⟨rfl, by rw [← HR.out]; exact ⟨rfl, m, [], HM.out⟩⟩
 rw [if_neg n0] at HR
 by_cases n1 : 1099511627776 < now
 ·rw [if_pos n1] at HR
  have n0a : decide (now < 0) = false := decide_eq_false n0
  have n1a : decide (1099511627776 < now) = true := decide_eq_true n1
  go_wp2_with fail
  exact ⟨rfl, by rw [← HR.out]; exact ⟨rfl, m, [], HM.out⟩⟩
 rw [if_neg n1] at HR
 have n0a : decide (now < 0) = false := decide_eq_false n0
 have n1a : decide (1099511627776 < now) = false := decide_eq_false n1
 have HN := Lh (show 0 ≤ now ∧ now ≤ 1099511627776 from ⟨by omega, by omega⟩)
 clear n0 n1
 have x0 : W0.cell? ⟨gx, 0, none⟩ = some (.int .u8 x.f0) := blk_cell HX.out 0
 have x1 : W0.cell? ⟨gx, 1, none⟩ = some (.int .u8 x.f1) := blk_cell HX.out 1
 have x2 : W0.cell? ⟨gx, 2, none⟩ = some (.int .u32 x.f2) := blk_cell HX.out 2
 have x3 : W0.cell? ⟨gx, 3, none⟩ = some (.int .u16 x.f3) := blk_cell HX.out 3
 have x4 : W0.cell? ⟨gx, 4, none⟩ = some (.int .u16 x.f4) := blk_cell HX.out 4
 have x5 : W0.cell? ⟨gx, 5, none⟩ = some (.int .u32 x.f5) := blk_cell HX.out 5
 have x6 : W0.cell? ⟨gx, 6, none⟩ = some (.int .u32 x.f6) := blk_cell HX.out 6
 have x7 : W0.cell? ⟨gx, 7, none⟩ = some (.int .u32 x.f7) := blk_cell HX.out 7
 have x8 : W0.cell? ⟨gx, 8, none⟩ = some (.int .u16 x.f8) := blk_cell HX.out 8
 have x9 : W0.cell? ⟨gx, 9, none⟩ = some (.int .u16 x.f9) := blk_cell HX.out 9
 have x10 : W0.cell? ⟨gx, 10, none⟩ = some (.slice L.A10 x.f10.length L.c10) := blk_cell HX.out 10
 have x11 : W0.cell? ⟨gx, 11, none⟩ = some (.slice L.A11 x.f11.length L.c11) := blk_cell HX.out 11
 have x12 : W0.cell? ⟨gx, 12, none⟩ = some (.slice L.A12 x.f12.length L.c12) := blk_cell HX.out 12
 have x13 : W0.cell? ⟨gx, 13, none⟩ = some (.slice L.A13 x.f13.length L.c13) := blk_cell HX.out 13
 have x14 : W0.cell? ⟨gx, 14, none⟩ = some (.slice L.A14 x.f14.length L.c14) := blk_cell HX.out 14
 go_wp2_with fail
 refine (Go.Proofs.YthiaakjbapgibaaGreat.Ch.check_calls W0 x L HCR.out.now HV.out).mono ?_
 rintro e W1 ⟨rfl, hB1⟩
 obtain ⟨cd, hcd⟩ : ∃ cd, checkD x = cd := ⟨_, rfl⟩
 rw [show Go.Proofs.YthiaakjbapgibaaGreat.Ch.checkD x = cd from hcd]
 rw [hcd] at HR
 have HM1 := Lh (HM.out.below hB1)
 have HB1 := Lh hB1
 clear hcd hB1
 by_cases hc : cd = 0
 rotate_left
 ·rw [if_pos hc] at HR
  have hca : decide (cd = 0) = false := decide_eq_false hc
  have hcb : (cd == 0) = false := by simpa using hc
  have hcc : (cd != 0) = true := by simpa using hc
  go_wp2_with fail
  exact ⟨rfl, by rw [← HR.out]; exact ⟨rfl, m, [], HM1.out⟩⟩
 subst hc
 rw [if_neg (show ¬ ¬ (0 : Int) = 0 from fun h => h rfl)] at HR
 go_upto_region 2 with (fail)
 clear n0a n1a kn x0 x1 x2 x3 x4 x5 x6 x7 x8 x9 x10 x11 x12 x13 x14
 have kn : W1.cell? ⟨gn, 0, none⟩ = some (.int .i64 now) := blk_cell (blk_below HN0.out HB1.out) 0
 have kp : W1.cell? ⟨gp, 0, none⟩ = some (.pointer (some ⟨g, 0, none⟩)) := blk_cell (blk_below HP.out HB1.out) 0
 have kg : W1.cell? ⟨gg, 0, none⟩ = some (.int .u32 tag) := blk_cell (blk_below HG.out HB1.out) 0
 have HX1 := Lh (blk_below HX.out HB1.out)
 unfold Go.Proofs.YthiaakjbapgibaaGreat.Ch.CV at HX1 HXS
 go_upto_region 3 with (refine wpList_load_row rfl 65 _ rfl _ rfl 65 _ (0, 0) _ HX1.out Tryz.underlying65 rfl HXS.out ?_)
 clear kn kp kg
 change Code.wp _ _ _ _ (W1.alloc (.cells (TV g tag x L now) 116))
 have HB2 := Lh (show Below W0.heap.size W0 (W1.alloc (.cells (TV g tag x L now) 116)) from below_alloc HB1.out _)
 have HT2 := Lh (blk_new W1 (.cells (TV g tag x L now) 116))
 have HGT := Lh (show W1.heap.size ≠ g by have := HLT.out; have := HB1.out.size; omega)
 clear HX1 HM1 HB1
 generalize W1.alloc (.cells (TV g tag x L now) 116) = W2 at *
 generalize W1.heap.size = gt at *
 have HMB := Lh (show MB W2 (W2.alloc (.map #[] 0)) W2.heap.size #[] 0 from ⟨(MapKept.heap_alloc W2 _).1, below_alloc (Below.refl _ _) _, Nat.le_refl _⟩)
 have hMk : ∀ w : World, (Instr.makeMap 118 none).run Tryz.prog w = .ok (.map (some w.heap.size)) (w.alloc (.map #[] 0)) := fun w => run_makeMap _ w
 go_upto_region 4 with (refine wpList_push rfl _ _ _ rfl _ rfl _ rfl _ rfl HMB.out (by rfl) ?_; intro w9 hMB; have HMB2 := Lh hMB; clear hMB HMB; have HMB := HMB2; clear HMB2)
 clear hMk
 have hne : ∀ (f : FuncId) (w : World), (binOp .neq 117 (.func (.func f) #[] #[]) .nilFunc).run Tryz.prog w = .ok (.bool true) w := fun _ _ => by rfl
 have hnn : ∀ (w : World), (binOp .neq 117 .nilFunc .nilFunc).run Tryz.prog w = .ok (.bool false) w := fun _ => by rfl
 rename World => w9
 have HMB2 := Lh (show MB W2 w9 W2.heap.size ((((((((((#[]).push ⟨.int .u8 1, .func (.func 61) #[] #[], 0⟩).push ⟨.int .u8 2, .func (.func 62) #[] #[], 1⟩).push ⟨.int .u8 10, .func (.func 63) #[] #[], 2⟩).push ⟨.int .u8 11, .func (.func 64) #[] #[], 3⟩).push ⟨.int .u8 9, .func (.func 65) #[] #[], 4⟩).push ⟨.int .u8 6, .func (.func 66) #[] #[], 5⟩).push ⟨.int .u8 14, .func (.func 67) #[] #[], 6⟩).push ⟨.int .u8 8, .func (.func 68) #[] #[], 7⟩).push ⟨.int .u8 7, .func (.func 69) #[] #[], 8⟩) 9 from HMB.out)
 clear HMB
 have HMB := HMB2
 clear HMB2
 have HB5 := Lh (HB2.out.trans (HMB.out.below.mono HB2.out.size))
 have HM5 := Lh (MS.raise HM.out HB5.out)
 have HT := Lh (show TC B w9 g gt tag x L now from ⟨blk_below HT2.out HMB.out.below, HGT.out, HCR.out.mono (Kq.of_below HB5.out)⟩)
 have kx : w9.cell? ⟨gx, 0, none⟩ = some (.int .u8 x.f0) := blk_cell (blk_below HX.out HB5.out) 0
 by_cases h1 : x.f0 = 1
 ·rw [if_pos h1] at HR
  rw [h1] at kx
  have hL := run_look Tryz.underlying118 Tryz.underlying59 HMB.out.hb 1 0 (.func (.func 61) #[] #[]) (by rfl)
  have hE := fun (args : Array Value) (w : World) => enters_ Tryz.func61 (by kernel_rfl) (by kernel_rfl) args w
  go_wp2_with (refine wpList_look rfl _ _ rfl _ rfl _ rfl _ hL ?_)
  refine (init_t HM5.out HT.out HKW.out HXW.out HN.out HMW.out).mono ?_
  intro e w7 hP
  rw [HR.out] at hP
  have HP := Lh (ClP.lower hP HB5.out HLT.out)
  clear hP
  have HR2 := HR
  cases r with
  | error c =>
   obtain ⟨rfl, hP2⟩ := HP.out
   unfold errA
   exact ⟨rfl, rfl, hP2⟩
  | ok mx =>
   obtain ⟨m9, xs9⟩ := mx
   obtain ⟨rfl, hP2⟩ := HP.out
   go_wp2
   refine bodyPost_ret (results_none rfl _ _ _) rfl ?_
   exact ⟨rfl, hP2⟩
 rw [if_neg h1] at HR
 by_cases h2 : x.f0 = 2
 ·rw [if_pos h2] at HR
  rw [h2] at kx
  have hL := run_look Tryz.underlying118 Tryz.underlying59 HMB.out.hb 2 1 (.func (.func 62) #[] #[]) (by rfl)
  have hE := fun (args : Array Value) (w : World) => enters_ Tryz.func62 (by kernel_rfl) (by kernel_rfl) args w
  go_wp2_with (refine wpList_look rfl _ _ rfl _ rfl _ rfl _ hL ?_)
  refine (initAck_t HM5.out HT.out (Kq.refl _ _) HXW.out).mono ?_
  intro e w7 hP
  rw [HR.out] at hP
  have HP := Lh (ClP.lower hP HB5.out HLT.out)
  clear hP
  have HR2 := HR
  cases r with
  | error c =>
   obtain ⟨rfl, hP2⟩ := HP.out
   unfold errA
   exact ⟨rfl, rfl, hP2⟩
  | ok mx =>
   obtain ⟨m9, xs9⟩ := mx
   obtain ⟨rfl, hP2⟩ := HP.out
   go_wp2
   refine bodyPost_ret (results_none rfl _ _ _) rfl ?_
   exact ⟨rfl, hP2⟩
 rw [if_neg h2] at HR
 by_cases h10 : x.f0 = 10
 ·rw [if_pos h10] at HR
  rw [h10] at kx
  have hL := run_look Tryz.underlying118 Tryz.underlying59 HMB.out.hb 10 2 (.func (.func 63) #[] #[]) (by rfl)
  have hE := fun (args : Array Value) (w : World) => enters_ Tryz.func63 (by kernel_rfl) (by kernel_rfl) args w
  go_wp2_with (refine wpList_look rfl _ _ rfl _ rfl _ rfl _ hL ?_)
  refine (echo_t HM5.out HT.out (Kq.refl _ _) HXW.out HN.out).mono ?_
  intro e w7 hP
  rw [HR.out] at hP
  have HP := Lh (ClP.lower hP HB5.out HLT.out)
  clear hP
  have HR2 := HR
  cases r with
  | error c =>
   obtain ⟨rfl, hP2⟩ := HP.out
   unfold errA
   exact ⟨rfl, rfl, hP2⟩
  | ok mx =>
   obtain ⟨m9, xs9⟩ := mx
   obtain ⟨rfl, hP2⟩ := HP.out
   go_wp2
   refine bodyPost_ret (results_none rfl _ _ _) rfl ?_
   exact ⟨rfl, hP2⟩
 rw [if_neg h10] at HR
 by_cases h11 : x.f0 = 11
 ·rw [if_pos h11] at HR
  rw [h11] at kx
  have hL := run_look Tryz.underlying118 Tryz.underlying59 HMB.out.hb 11 3 (.func (.func 64) #[] #[]) (by rfl)
  have hE := fun (args : Array Value) (w : World) => enters_ Tryz.func64 (by kernel_rfl) (by kernel_rfl) args w
  go_wp2_with (refine wpList_look rfl _ _ rfl _ rfl _ rfl _ hL ?_)
  refine (cookieAck_t HM5.out HT.out).mono ?_
  intro e w7 hP
  rw [HR.out] at hP
  have HP := Lh (ClP.lower hP HB5.out HLT.out)
  clear hP
  have HR2 := HR
  cases r with
  | error c =>
   obtain ⟨rfl, hP2⟩ := HP.out
   unfold errA
   exact ⟨rfl, rfl, hP2⟩
  | ok mx =>
   obtain ⟨m9, xs9⟩ := mx
   obtain ⟨rfl, hP2⟩ := HP.out
   go_wp2
   refine bodyPost_ret (results_none rfl _ _ _) rfl ?_
   exact ⟨rfl, hP2⟩
 rw [if_neg h11] at HR
 by_cases h9 : x.f0 = 9
 ·rw [if_pos h9] at HR
  rw [h9] at kx
  have hL := run_look Tryz.underlying118 Tryz.underlying59 HMB.out.hb 9 4 (.func (.func 65) #[] #[]) (by rfl)
  have hE := fun (args : Array Value) (w : World) => enters_ Tryz.func65 (by kernel_rfl) (by kernel_rfl) args w
  go_wp2_with (refine wpList_look rfl _ _ rfl _ rfl _ rfl _ hL ?_)
  refine (failed_t HM5.out HT.out (Kq.refl _ _) HXW.out HTR.out).mono ?_
  intro e w7 hP
  rw [HR.out] at hP
  have HP := Lh (ClP.lower hP HB5.out HLT.out)
  clear hP
  have HR2 := HR
  cases r with
  | error c =>
   obtain ⟨rfl, hP2⟩ := HP.out
   unfold errA
   exact ⟨rfl, rfl, hP2⟩
  | ok mx =>
   obtain ⟨m9, xs9⟩ := mx
   obtain ⟨rfl, hP2⟩ := HP.out
   go_wp2
   refine bodyPost_ret (results_none rfl _ _ _) rfl ?_
   exact ⟨rfl, hP2⟩
 rw [if_neg h9] at HR
 by_cases h6 : x.f0 = 6
 ·rw [if_pos h6] at HR
  rw [h6] at kx
  have hL := run_look Tryz.underlying118 Tryz.underlying59 HMB.out.hb 6 5 (.func (.func 66) #[] #[]) (by rfl)
  have hE := fun (args : Array Value) (w : World) => enters_ Tryz.func66 (by kernel_rfl) (by kernel_rfl) args w
  go_wp2_with (refine wpList_look rfl _ _ rfl _ rfl _ rfl _ hL ?_)
  refine (abort_t HM5.out HT.out).mono ?_
  intro e w7 hP
  rw [HR.out] at hP
  have HP := Lh (ClP.lower hP HB5.out HLT.out)
  clear hP
  have HR2 := HR
  cases r with
  | error c =>
   obtain ⟨rfl, hP2⟩ := HP.out
   unfold errA
   exact ⟨rfl, rfl, hP2⟩
  | ok mx =>
   obtain ⟨m9, xs9⟩ := mx
   obtain ⟨rfl, hP2⟩ := HP.out
   go_wp2
   refine bodyPost_ret (results_none rfl _ _ _) rfl ?_
   exact ⟨rfl, hP2⟩
 rw [if_neg h6] at HR
 by_cases h14 : x.f0 = 14
 ·rw [if_pos h14] at HR
  rw [h14] at kx
  have hL := run_look Tryz.underlying118 Tryz.underlying59 HMB.out.hb 14 6 (.func (.func 67) #[] #[]) (by rfl)
  have hE := fun (args : Array Value) (w : World) => enters_ Tryz.func67 (by kernel_rfl) (by kernel_rfl) args w
  go_wp2_with (refine wpList_look rfl _ _ rfl _ rfl _ rfl _ hL ?_)
  refine (shutDone_t HM5.out HT.out).mono ?_
  intro e w7 hP
  rw [HR.out] at hP
  have HP := Lh (ClP.lower hP HB5.out HLT.out)
  clear hP
  have HR2 := HR
  cases r with
  | error c =>
   obtain ⟨rfl, hP2⟩ := HP.out
   unfold errA
   exact ⟨rfl, rfl, hP2⟩
  | ok mx =>
   obtain ⟨m9, xs9⟩ := mx
   obtain ⟨rfl, hP2⟩ := HP.out
   go_wp2
   refine bodyPost_ret (results_none rfl _ _ _) rfl ?_
   exact ⟨rfl, hP2⟩
 rw [if_neg h14] at HR
 by_cases h8 : x.f0 = 8
 ·rw [if_pos h8] at HR
  rw [h8] at kx
  have hL := run_look Tryz.underlying118 Tryz.underlying59 HMB.out.hb 8 7 (.func (.func 68) #[] #[]) (by rfl)
  have hE := fun (args : Array Value) (w : World) => enters_ Tryz.func68 (by kernel_rfl) (by kernel_rfl) args w
  go_wp2_with (refine wpList_look rfl _ _ rfl _ rfl _ rfl _ hL ?_)
  refine (shutAck_t HM5.out HT.out).mono ?_
  intro e w7 hP
  rw [HR.out] at hP
  have HP := Lh (ClP.lower hP HB5.out HLT.out)
  clear hP
  have HR2 := HR
  cases r with
  | error c =>
   obtain ⟨rfl, hP2⟩ := HP.out
   unfold errA
   exact ⟨rfl, rfl, hP2⟩
  | ok mx =>
   obtain ⟨m9, xs9⟩ := mx
   obtain ⟨rfl, hP2⟩ := HP.out
   go_wp2
   refine bodyPost_ret (results_none rfl _ _ _) rfl ?_
   exact ⟨rfl, hP2⟩
 rw [if_neg h8] at HR
 by_cases h7 : x.f0 = 7
 ·rw [if_pos h7] at HR
  rw [h7] at kx
  have hL := run_look Tryz.underlying118 Tryz.underlying59 HMB.out.hb 7 8 (.func (.func 69) #[] #[]) (by rfl)
  have hE := fun (args : Array Value) (w : World) => enters_ Tryz.func69 (by kernel_rfl) (by kernel_rfl) args w
  go_wp2_with (refine wpList_look rfl _ _ rfl _ rfl _ rfl _ hL ?_)
  refine (shutdown_t HM5.out HT.out).mono ?_
  intro e w7 hP
  rw [HR.out] at hP
  have HP := Lh (ClP.lower hP HB5.out HLT.out)
  clear hP
  have HR2 := HR
  cases r with
  | error c =>
   obtain ⟨rfl, hP2⟩ := HP.out
   unfold errA
   exact ⟨rfl, rfl, hP2⟩
  | ok mx =>
   obtain ⟨m9, xs9⟩ := mx
   obtain ⟨rfl, hP2⟩ := HP.out
   go_wp2
   refine bodyPost_ret (results_none rfl _ _ _) rfl ?_
   exact ⟨rfl, hP2⟩
 rw [if_neg h7] at HR
 have hL := run_look_no Tryz.underlying118 Tryz.underlying59 HMB.out.hb x.f0 .nilFunc (by rfl) (by simp [Instr.findNow, Instr.sameNow, beq_false_of_ne h1, beq_false_of_ne h2, beq_false_of_ne h10, beq_false_of_ne h11, beq_false_of_ne h9, beq_false_of_ne h6, beq_false_of_ne h14, beq_false_of_ne h8, beq_false_of_ne h7])
 go_wp2_with (refine wpList_look rfl _ _ rfl _ rfl _ rfl _ hL ?_)
 refine (other_t HM5.out HT.out).mono ?_
 intro e w7 hP
 rw [HR.out] at hP
 have HP := Lh (ClP.lower hP HB5.out HLT.out)
 clear hP
 have HR2 := HR
 cases r with
 | error c =>
  obtain ⟨rfl, hP2⟩ := HP.out
  unfold errA
  exact ⟨rfl, rfl, hP2⟩
 | ok mx =>
  obtain ⟨m9, xs9⟩ := mx
  obtain ⟨rfl, hP2⟩ := HP.out
  go_wp2
  refine bodyPost_ret (results_none rfl _ _ _) rfl ?_
  exact ⟨rfl, hP2⟩
end
end Go.Proofs.YthiaakjbapgibaaGreat.As
end
section
namespace Go.Proofs.YthiaakjbapgibaaGreat.As
open Go.RowKit YthiaakjbapgibaaGreatW.PrintWords YthiaakjbapgibaaGreatW.PrintLast Base PCh
section
variable {B : Nat} {W0 W : World} {g gp : Nat} {K : Cfg} {m : Mst} {xs : List Act'}
theorem take_ms {w : World} (h : MR B g K m w) (hK : KW K) (hW : MW m) {x : Chk} {L : Lay} (hX : XW x) (htr : 0 ≤ m.tr ∧ m.tr ≤ 1000) (hcr : Stb B w fun W => Go.Proofs.YthiaakjbapgibaaGreat.Ch.CR W x L) (hv : Go.Proofs.YthiaakjbapgibaaGreat.Ch.ValOk x L) (tag now : Int) : Calls Tryz.prog 31 #[.pointer (some ⟨g, 0, none⟩), .int .u32 tag, .agg (Go.Proofs.YthiaakjbapgibaaGreat.Ch.CV x L), .int .i64 now] w (CallP B g K m (takeP K m tag x now) w) := by
 have hmf : ∀ (fn : Fn) (first cap : Array Value) (w : World), (Instr.makeFunc fn first cap).run Tryz.prog w = .ok (.func fn first cap) w := fun _ _ _ _ => rfl
 have hl := h.lt
 have hb : Below w.heap.size w ((((w.alloc (.cells #[.pointer (some ⟨g, 0, none⟩)] 33)).alloc (.cells #[.int .u32 tag] 41)).alloc (.cells (Go.Proofs.YthiaakjbapgibaaGreat.Ch.CV x L) 65)).alloc (.cells #[.int .i64 now] 3)) := below_alloc (below_alloc (below_alloc (below_alloc (Below.refl _ _) _) _) _) _
 have s0 : w.heap.size = w.heap.size := rfl
 have b0 : ((((w.alloc (.cells #[.pointer (some ⟨g, 0, none⟩)] 33)).alloc (.cells #[.int .u32 tag] 41)).alloc (.cells (Go.Proofs.YthiaakjbapgibaaGreat.Ch.CV x L) 65)).alloc (.cells #[.int .i64 now] 3)).heap[w.heap.size]? = some (.cells #[.pointer (some ⟨g, 0, none⟩)] 33 (0, 0)) := blk_alloc (blk_alloc (blk_alloc (by have h := blk_new w (.cells #[.pointer (some ⟨g, 0, none⟩)] 33); rw [s0] at h; exact h) _) _) _
 have s1 : (w.alloc (.cells #[.pointer (some ⟨g, 0, none⟩)] 33)).heap.size = w.heap.size + 1 := by simp
 have b1 : ((((w.alloc (.cells #[.pointer (some ⟨g, 0, none⟩)] 33)).alloc (.cells #[.int .u32 tag] 41)).alloc (.cells (Go.Proofs.YthiaakjbapgibaaGreat.Ch.CV x L) 65)).alloc (.cells #[.int .i64 now] 3)).heap[w.heap.size + 1]? = some (.cells #[.int .u32 tag] 41 (0, 0)) := blk_alloc (blk_alloc (by have h := blk_new (w.alloc (.cells #[.pointer (some ⟨g, 0, none⟩)] 33)) (.cells #[.int .u32 tag] 41); rw [s1] at h; exact h) _) _
 have s2 : ((w.alloc (.cells #[.pointer (some ⟨g, 0, none⟩)] 33)).alloc (.cells #[.int .u32 tag] 41)).heap.size = w.heap.size + 1 + 1 := by simp
 have b2 : ((((w.alloc (.cells #[.pointer (some ⟨g, 0, none⟩)] 33)).alloc (.cells #[.int .u32 tag] 41)).alloc (.cells (Go.Proofs.YthiaakjbapgibaaGreat.Ch.CV x L) 65)).alloc (.cells #[.int .i64 now] 3)).heap[w.heap.size + 1 + 1]? = some (.cells (Go.Proofs.YthiaakjbapgibaaGreat.Ch.CV x L) 65 (0, 0)) := blk_alloc (by have h := blk_new ((w.alloc (.cells #[.pointer (some ⟨g, 0, none⟩)] 33)).alloc (.cells #[.int .u32 tag] 41)) (.cells (Go.Proofs.YthiaakjbapgibaaGreat.Ch.CV x L) 65); rw [s2] at h; exact h) _
 have s3 : (((w.alloc (.cells #[.pointer (some ⟨g, 0, none⟩)] 33)).alloc (.cells #[.int .u32 tag] 41)).alloc (.cells (Go.Proofs.YthiaakjbapgibaaGreat.Ch.CV x L) 65)).heap.size = w.heap.size + 1 + 1 + 1 := by simp
 have b3 : ((((w.alloc (.cells #[.pointer (some ⟨g, 0, none⟩)] 33)).alloc (.cells #[.int .u32 tag] 41)).alloc (.cells (Go.Proofs.YthiaakjbapgibaaGreat.Ch.CV x L) 65)).alloc (.cells #[.int .i64 now] 3)).heap[w.heap.size + 1 + 1 + 1]? = some (.cells #[.int .i64 now] 3 (0, 0)) := by have h := blk_new (((w.alloc (.cells #[.pointer (some ⟨g, 0, none⟩)] 33)).alloc (.cells #[.int .u32 tag] 41)).alloc (.cells (Go.Proofs.YthiaakjbapgibaaGreat.Ch.CV x L) 65)) (.cells #[.int .i64 now] 3); rw [s3] at h; exact h
 obtain ⟨csr, hrow⟩ := (h.below hb).row
 have H := Lh (call_ms B ((((w.alloc (.cells #[.pointer (some ⟨g, 0, none⟩)] 33)).alloc (.cells #[.int .u32 tag] 41)).alloc (.cells (Go.Proofs.YthiaakjbapgibaaGreat.Ch.CV x L) 65)).alloc (.cells #[.int .i64 now] 3)) g K m 59 #[.pointer (some ⟨w.heap.size + 1 + 1 + 1, 0, none⟩), .pointer (some ⟨w.heap.size + 1 + 1, 0, none⟩), .pointer (some ⟨w.heap.size, 0, none⟩), .pointer (some ⟨w.heap.size + 1, 0, none⟩)] (h.below hb) (enters_ Tryz.func59 (by kernel_rfl) (by kernel_rfl)) (takeP K m tag x now) (fun W0 hO hM => take1_ms hM hK hW hX htr (hcr.mono ((Kq.of_below hb).trans (Kq.of_g hO h.1 hrow rfl))) hv (hO.blk b3 (by omega)) (hO.blk b2 (by omega)) (hO.blk b0 (by omega)) (hO.blk b1 (by omega)) (by omega) (by omega)))
 have HL := Lh hl
 have HB := Lh hb
 clear hK hW hX htr hcr hv hrow h hl hb b0 s0 b1 s1 b2 s2 b3 s3
 go_enter Tryz.func31, Tryz.ntmps31
 go_wp2_with fail
 refine H.out.mono ?_
 intro e w1 hP
 have hP' := CallP.mono HB.out hP HL.out
 obtain ⟨u, c, rfl⟩ := hP.ret
 clear hP H HB
 go_wp2
 go_ret2
 exact hP'
end
end Go.Proofs.YthiaakjbapgibaaGreat.As
end
section
namespace Go.Proofs.YthiaakjbapgibaaGreat.As
open Go.RowKit YthiaakjbapgibaaGreatW.PrintWords YthiaakjbapgibaaGreatW.PrintLast Base PCh
def okK (K : Cfg) : Prop := 1 ≤ K.life ∧ K.life ≤ 2147483648 ∧ 0 < K.win ∧ 0 < K.out ∧ 0 < K.inn ∧ 0 < K.port ∧ 0 < K.peer ∧ 0 ≤ K.tries ∧ K.tries ≤ 100 ∧ 0 ≤ K.lasts ∧ K.lasts ≤ 100
instance (K : Cfg) : Decidable (okK K) := by unfold okK; infer_instance
def confR (K : Cfg) : List Value := [.int .u64 K.seed, .int .i64 K.life, .int .u32 K.win, .int .u16 K.out, .int .u16 K.inn, .int .i64 K.tries, .int .i64 K.lasts, .int .u16 K.port, .int .u16 K.peer]
def confV (K : Cfg) : Array Value := (K.key.map (fun b : UInt8 => Value.int .u8 (b.toNat : Int)) ++ confR K).toArray
def newM (K : Cfg) : Mst := ⟨0, 0, 0, ⟨0, 0, 0, 0, 0⟩, [], 0, K.seed⟩
def newV (K : Cfg) : Array Value := (([.int .i64 0, .int .u32 0, .int .u32 0, .int .u32 0, .int .u32 0, .int .u32 0, .int .u16 0, .int .u16 0, .slice none 0 0, .int .i64 0] : List Value) ++ (K.key.map (fun b : UInt8 => Value.int .u8 (b.toNat : Int)) ++ confR K) ++ ([.int .u64 K.seed, .slice none 0 0, .bool true] : List Value)).toArray
theorem key16 {l : List UInt8} (h : l.length = 16) : ∃ a0 a1 a2 a3 a4 a5 a6 a7 a8 a9 a10 a11 a12 a13 a14 a15, l = [a0, a1, a2, a3, a4, a5, a6, a7, a8, a9, a10, a11, a12, a13, a14, a15] := by
 match l, h with
 | [a0, a1, a2, a3, a4, a5, a6, a7, a8, a9, a10, a11, a12, a13, a14, a15], _ => exact ⟨a0, a1, a2, a3, a4, a5, a6, a7, a8, a9, a10, a11, a12, a13, a14, a15, rfl⟩
theorem newV_Cs (K : Cfg) (hk : K.key.length = 16) : Cs K (newM K) (.slice none 0 0) (newV K) ∧ (newV K)[36]? = some (.slice none 0 0) := by
 obtain ⟨key, seed, life, win, out, inn, tries, lasts, port, peer⟩ := K
 obtain ⟨a0, a1, a2, a3, a4, a5, a6, a7, a8, a9, a10, a11, a12, a13, a14, a15, rfl⟩ := key16 hk
 refine ⟨⟨rfl, rfl, rfl, rfl, rfl, rfl, rfl, rfl, rfl, rfl, rfl, hk, fun i v hv => ?_, rfl, rfl, rfl, rfl, rfl, rfl, rfl, rfl, rfl, rfl, rfl⟩, rfl⟩
 have hi := key_lt (K := ⟨_, seed, life, win, out, inn, tries, lasts, port, peer⟩) hk hv
 match i, hi, hv with
 | 0, _, hv => exact hv
 | 1, _, hv => exact hv
 | 2, _, hv => exact hv
 | 3, _, hv => exact hv
 | 4, _, hv => exact hv
 | 5, _, hv => exact hv
 | 6, _, hv => exact hv
 | 7, _, hv => exact hv
 | 8, _, hv => exact hv
 | 9, _, hv => exact hv
 | 10, _, hv => exact hv
 | 11, _, hv => exact hv
 | 12, _, hv => exact hv
 | 13, _, hv => exact hv
 | 14, _, hv => exact hv
 | 15, _, hv => exact hv
theorem MR.new {B : Nat} {w : World} {g : Nat} {K : Cfg} (hk : K.key.length = 16) (hB : B ≤ g) (h : w.heap[g]? = some (.cells (newV K) 90 (0, 0))) : MR B g K (newM K) w :=
 ⟨hB, newV K, none, 0, h, (newV_Cs K hk).2, (newV_Cs K hk).1, Nat.le_refl _, by simp [newM], fun _ _ => Kd.C_nil _ _⟩
def NewR (w : World) (K : Cfg) (e : Ending) (w' : World) : Prop := Below w.heap.size w w' ∧ if okK K then (∃ g, e = .returned (.tuple #[.pointer (some ⟨g, 0, none⟩), .int .i64 0]) ∧ w.heap.size ≤ g ∧ w'.heap[g]? = some (.cells (newV K) 90 (0, 0))) else e = .returned (.tuple #[.pointer none, .int .i64 223])
set_option maxHeartbeats 8000000 in
theorem new_calls (w : World) (K : Cfg) (hk : K.key.length = 16) : Calls Tryz.prog 21 #[.agg (confV K)] w (NewR w K) := by
 obtain ⟨key, seed, life, win, out, inn, tries, lasts, port, peer⟩ := K
 obtain ⟨a0, a1, a2, a3, a4, a5, a6, a7, a8, a9, a10, a11, a12, a13, a14, a15, rfl⟩ := key16 hk
 obtain ⟨okb, hokb⟩ : ∃ b, decide (okK ⟨[a0, a1, a2, a3, a4, a5, a6, a7, a8, a9, a10, a11, a12, a13, a14, a15], seed, life, win, out, inn, tries, lasts, port, peer⟩) = b := ⟨_, rfl⟩
 have HOK := Lh hokb
 have HPO : Hid (∀ (P Q : Prop), (okb = true → P) → (okb = false → Q) → if okK ⟨[a0, a1, a2, a3, a4, a5, a6, a7, a8, a9, a10, a11, a12, a13, a14, a15], seed, life, win, out, inn, tries, lasts, port, peer⟩ then P else Q) := Lh (fun P Q h1 h2 => by
  by_cases h : okK ⟨[a0, a1, a2, a3, a4, a5, a6, a7, a8, a9, a10, a11, a12, a13, a14, a15], seed, life, win, out, inn, tries, lasts, port, peer⟩
  ·rw [if_pos h]; exact h1 (by rw [← hokb]; exact decide_eq_true h)
  ·rw [if_neg h]; exact h2 (by rw [← hokb]; exact decide_eq_false h))
 clear hokb
 show Calls Tryz.prog 21 #[.agg #[.int .u8 (a0.toNat : Int), .int .u8 (a1.toNat : Int), .int .u8 (a2.toNat : Int), .int .u8 (a3.toNat : Int), .int .u8 (a4.toNat : Int), .int .u8 (a5.toNat : Int), .int .u8 (a6.toNat : Int), .int .u8 (a7.toNat : Int), .int .u8 (a8.toNat : Int), .int .u8 (a9.toNat : Int), .int .u8 (a10.toNat : Int), .int .u8 (a11.toNat : Int), .int .u8 (a12.toNat : Int), .int .u8 (a13.toNat : Int), .int .u8 (a14.toNat : Int), .int .u8 (a15.toNat : Int), .int .u64 seed, .int .i64 life, .int .u32 win, .int .u16 out, .int .u16 inn, .int .i64 tries, .int .i64 lasts, .int .u16 port, .int .u16 peer]] w _
 have HI := Lh (show (Tryz.prog.info? 52).map (·.size) = some (#[.int .u8 (a0.toNat : Int), .int .u8 (a1.toNat : Int), .int .u8 (a2.toNat : Int), .int .u8 (a3.toNat : Int), .int .u8 (a4.toNat : Int), .int .u8 (a5.toNat : Int), .int .u8 (a6.toNat : Int), .int .u8 (a7.toNat : Int), .int .u8 (a8.toNat : Int), .int .u8 (a9.toNat : Int), .int .u8 (a10.toNat : Int), .int .u8 (a11.toNat : Int), .int .u8 (a12.toNat : Int), .int .u8 (a13.toNat : Int), .int .u8 (a14.toNat : Int), .int .u8 (a15.toNat : Int), .int .u64 seed, .int .i64 life, .int .u32 win, .int .u16 out, .int .u16 inn, .int .i64 tries, .int .i64 lasts, .int .u16 port, .int .u16 peer] : Array Value).size by kernel_rfl)
 have HNV := Lh (show newV ⟨[a0, a1, a2, a3, a4, a5, a6, a7, a8, a9, a10, a11, a12, a13, a14, a15], seed, life, win, out, inn, tries, lasts, port, peer⟩ = #[.int .i64 0, .int .u32 0, .int .u32 0, .int .u32 0, .int .u32 0, .int .u32 0, .int .u16 0, .int .u16 0, .slice none 0 0, .int .i64 0, .int .u8 (a0.toNat : Int), .int .u8 (a1.toNat : Int), .int .u8 (a2.toNat : Int), .int .u8 (a3.toNat : Int), .int .u8 (a4.toNat : Int), .int .u8 (a5.toNat : Int), .int .u8 (a6.toNat : Int), .int .u8 (a7.toNat : Int), .int .u8 (a8.toNat : Int), .int .u8 (a9.toNat : Int), .int .u8 (a10.toNat : Int), .int .u8 (a11.toNat : Int), .int .u8 (a12.toNat : Int), .int .u8 (a13.toNat : Int), .int .u8 (a14.toNat : Int), .int .u8 (a15.toNat : Int), .int .u64 seed, .int .i64 life, .int .u32 win, .int .u16 out, .int .u16 inn, .int .i64 tries, .int .i64 lasts, .int .u16 port, .int .u16 peer, .int .u64 seed, .slice none 0 0, .bool true] from rfl)
 generalize hKK : (⟨[a0, a1, a2, a3, a4, a5, a6, a7, a8, a9, a10, a11, a12, a13, a14, a15], seed, life, win, out, inn, tries, lasts, port, peer⟩ : Cfg) = KK at *
 have HKK := Lh hKK
 clear hKK hk
 go_enter Tryz.func21, Tryz.ntmps21
 go_upto_region 1 with (fail)
 refine wp_gen (fun W => W.heap[w.heap.size]? = some (.cells #[.int .u8 (a0.toNat : Int), .int .u8 (a1.toNat : Int), .int .u8 (a2.toNat : Int), .int .u8 (a3.toNat : Int), .int .u8 (a4.toNat : Int), .int .u8 (a5.toNat : Int), .int .u8 (a6.toNat : Int), .int .u8 (a7.toNat : Int), .int .u8 (a8.toNat : Int), .int .u8 (a9.toNat : Int), .int .u8 (a10.toNat : Int), .int .u8 (a11.toNat : Int), .int .u8 (a12.toNat : Int), .int .u8 (a13.toNat : Int), .int .u8 (a14.toNat : Int), .int .u8 (a15.toNat : Int), .int .u64 seed, .int .i64 life, .int .u32 win, .int .u16 out, .int .u16 inn, .int .i64 tries, .int .i64 lasts, .int .u16 port, .int .u16 peer] 52 (0, 0)) ∧ Below w.heap.size w W) ⟨blk_new _ _, below_alloc (Below.refl _ _) _⟩ ?_
 rintro W ⟨h1, hB⟩
 have k16 : W.cell? ⟨w.heap.size, 16, none⟩ = some (.int .u64 seed) := blk_cell h1 16
 have k17 : W.cell? ⟨w.heap.size, 17, none⟩ = some (.int .i64 life) := blk_cell h1 17
 have k18 : W.cell? ⟨w.heap.size, 18, none⟩ = some (.int .u32 win) := blk_cell h1 18
 have k19 : W.cell? ⟨w.heap.size, 19, none⟩ = some (.int .u16 out) := blk_cell h1 19
 have k20 : W.cell? ⟨w.heap.size, 20, none⟩ = some (.int .u16 inn) := blk_cell h1 20
 have k21 : W.cell? ⟨w.heap.size, 21, none⟩ = some (.int .i64 tries) := blk_cell h1 21
 have k22 : W.cell? ⟨w.heap.size, 22, none⟩ = some (.int .i64 lasts) := blk_cell h1 22
 have k23 : W.cell? ⟨w.heap.size, 23, none⟩ = some (.int .u16 port) := blk_cell h1 23
 have k24 : W.cell? ⟨w.heap.size, 24, none⟩ = some (.int .u16 peer) := blk_cell h1 24
 have H1 := Lh h1
 have HB := Lh hB
 clear h1 hB
 go_cut [4] from 5 to 57 (fun s4 wx => s4 = .bool okb ∧ W = wx)
 case first =>
  by_cases c0 : 1 ≤ life
  rotate_left
  ·have c0a : decide (1 ≤ life) = false := decide_eq_false c0
   have hb : okb = false := by rw [← HOK.out, ← HKK.out]; exact decide_eq_false (by unfold okK; dsimp only; omega)
   subst hb
   clear c0
   go_wp2_with fail
   go_meet
   case rel => exact ⟨rfl, rfl⟩
  have c0a : decide (1 ≤ life) = true := decide_eq_true c0
  replace c0 := Lh c0
  by_cases c1 : life ≤ 2147483648
  rotate_left
  ·have c1a : decide (life ≤ 2147483648) = false := decide_eq_false c1
   have hb : okb = false := by rw [← HOK.out, ← HKK.out]; exact decide_eq_false (by unfold okK; dsimp only; omega)
   subst hb
   clear c1
   go_wp2_with fail
   go_meet
   case rel => exact ⟨rfl, rfl⟩
  have c1a : decide (life ≤ 2147483648) = true := decide_eq_true c1
  replace c1 := Lh c1
  by_cases c2 : 0 < win
  rotate_left
  ·have c2a : decide (0 < win) = false := decide_eq_false c2
   have hb : okb = false := by rw [← HOK.out, ← HKK.out]; exact decide_eq_false (by unfold okK; dsimp only; omega)
   subst hb
   clear c2
   go_wp2_with fail
   go_meet
   case rel => exact ⟨rfl, rfl⟩
  have c2a : decide (0 < win) = true := decide_eq_true c2
  replace c2 := Lh c2
  by_cases c3 : 0 < out
  rotate_left
  ·have c3a : decide (0 < out) = false := decide_eq_false c3
   have hb : okb = false := by rw [← HOK.out, ← HKK.out]; exact decide_eq_false (by unfold okK; dsimp only; omega)
   subst hb
   clear c3
   go_wp2_with fail
   go_meet
   case rel => exact ⟨rfl, rfl⟩
  have c3a : decide (0 < out) = true := decide_eq_true c3
  replace c3 := Lh c3
  by_cases c4 : 0 < inn
  rotate_left
  ·have c4a : decide (0 < inn) = false := decide_eq_false c4
   have hb : okb = false := by rw [← HOK.out, ← HKK.out]; exact decide_eq_false (by unfold okK; dsimp only; omega)
   subst hb
   clear c4
   go_wp2_with fail
   go_meet
   case rel => exact ⟨rfl, rfl⟩
  have c4a : decide (0 < inn) = true := decide_eq_true c4
  replace c4 := Lh c4
  by_cases c5 : 0 < port
  rotate_left
  ·have c5a : decide (0 < port) = false := decide_eq_false c5
   have hb : okb = false := by rw [← HOK.out, ← HKK.out]; exact decide_eq_false (by unfold okK; dsimp only; omega)
   subst hb
   clear c5
   go_wp2_with fail
   go_meet
   case rel => exact ⟨rfl, rfl⟩
  have c5a : decide (0 < port) = true := decide_eq_true c5
  replace c5 := Lh c5
  by_cases c6 : 0 < peer
  rotate_left
  ·have c6a : decide (0 < peer) = false := decide_eq_false c6
   have hb : okb = false := by rw [← HOK.out, ← HKK.out]; exact decide_eq_false (by unfold okK; dsimp only; omega)
   subst hb
   clear c6
   go_wp2_with fail
   go_meet
   case rel => exact ⟨rfl, rfl⟩
  have c6a : decide (0 < peer) = true := decide_eq_true c6
  replace c6 := Lh c6
  by_cases c7 : 0 ≤ tries
  rotate_left
  ·have c7a : decide (0 ≤ tries) = false := decide_eq_false c7
   have hb : okb = false := by rw [← HOK.out, ← HKK.out]; exact decide_eq_false (by unfold okK; dsimp only; omega)
   subst hb
   clear c7
   go_wp2_with fail
   go_meet
   case rel => exact ⟨rfl, rfl⟩
  have c7a : decide (0 ≤ tries) = true := decide_eq_true c7
  replace c7 := Lh c7
  by_cases c8 : tries ≤ 100
  rotate_left
  ·have c8a : decide (tries ≤ 100) = false := decide_eq_false c8
   have hb : okb = false := by rw [← HOK.out, ← HKK.out]; exact decide_eq_false (by unfold okK; dsimp only; omega)
   subst hb
   clear c8
   go_wp2_with fail
   go_meet
   case rel => exact ⟨rfl, rfl⟩
  have c8a : decide (tries ≤ 100) = true := decide_eq_true c8
  replace c8 := Lh c8
  by_cases c9 : 0 ≤ lasts
  rotate_left
  ·have c9a : decide (0 ≤ lasts) = false := decide_eq_false c9
   have hb : okb = false := by rw [← HOK.out, ← HKK.out]; exact decide_eq_false (by unfold okK; dsimp only; omega)
   subst hb
   clear c9
   go_wp2_with fail
   go_meet
   case rel => exact ⟨rfl, rfl⟩
  have c9a : decide (0 ≤ lasts) = true := decide_eq_true c9
  replace c9 := Lh c9
  by_cases c10 : lasts ≤ 100
  rotate_left
  ·have c10a : decide (lasts ≤ 100) = false := decide_eq_false c10
   have hb : okb = false := by rw [← HOK.out, ← HKK.out]; exact decide_eq_false (by unfold okK; dsimp only; omega)
   subst hb
   clear c10
   go_wp2_with fail
   go_meet
   case rel => exact ⟨rfl, rfl⟩
  have c10a : decide (lasts ≤ 100) = true := decide_eq_true c10
  replace c10 := Lh c10
  have hb : okb = true := by rw [← HOK.out, ← HKK.out]; exact decide_eq_true ⟨c0.out, c1.out, c2.out, c3.out, c4.out, c5.out, c6.out, c7.out, c8.out, c9.out, c10.out⟩
  subst hb
  go_wp2_with fail
  go_meet
  case rel => exact ⟨rfl, rfl⟩
 case rest =>
 obtain ⟨hs4, hq⟩ := hcut
 subst hs4
 subst hq
 cases okb
 ·go_wp2
  go_ret2
  exact ⟨HB.out, HPO.out _ _ (fun h => absurd h Bool.false_ne_true) (fun _ => rfl)⟩
 ·go_wp2_with (refine wpList_load_row rfl 52 _ rfl _ rfl 52 _ (0, 0) _ H1.out Tryz.underlying52 rfl HI.out ?_)
  go_ret2
  refine ⟨below_alloc HB.out _, HPO.out _ _ (fun _ => ⟨_, rfl, HB.out.size, ?_⟩) (fun h => absurd h (by decide))⟩
  rw [HNV.out]
  exact blk_new _ _
end Go.Proofs.YthiaakjbapgibaaGreat.As
end
section
namespace Go.Proofs.YthiaakjbapgibaaGreat.As
open Go.RowKit YthiaakjbapgibaaGreatW.PrintWords YthiaakjbapgibaaGreatW.PrintLast Base PCh
section
variable {B : Nat} {w : World} {g : Nat} {K : Cfg} {m : Mst}
theorem MR.c37 (h : MR B g K m w) : ∃ cs, w.heap[g]? = some (.cells cs 90 (0, 0)) ∧ cs[37]? = some (.bool true) ∧ cs[0]? = some (.int .i64 m.s) ∧ cs[1]? = some (.int .u32 m.tag) ∧ cs[2]? = some (.int .u32 m.tsn) ∧ w.rangeAt g 3 [.int .u32 m.pr.f0, .int .u32 m.pr.f1, .int .u32 m.pr.f2, .int .u16 m.pr.f3, .int .u16 m.pr.f4] := by
 obtain ⟨hB, cs, A, c, h1, h2, h3, h4, h5⟩ := h
 refine ⟨cs, h1, h3.c37, h3.c0, h3.c1, h3.c2, fun j v hv => ?_⟩
 rw [blk_cell h1]
 match j, hv with
 | 0, hv => obtain rfl := Option.some.inj hv; exact h3.c3
 | 1, hv => obtain rfl := Option.some.inj hv; exact h3.c4
 | 2, hv => obtain rfl := Option.some.inj hv; exact h3.c5
 | 3, hv => obtain rfl := Option.some.inj hv; exact h3.c6
 | 4, hv => obtain rfl := Option.some.inj hv; exact h3.c7
theorem state_mr (h : MR B g K m w) : Calls Tryz.prog 17 #[.pointer (some ⟨g, 0, none⟩)] w fun e w' => e = .returned (.int .i64 m.s) ∧ w = w' := by
 obtain ⟨cs, hr, hb, h0, h1, h2, hp⟩ := h.c37
 have H := Lh (is_made w g cs hr hb)
 have k0 : w.cell? ⟨g, 0, none⟩ = some (.int .i64 m.s) := (blk_cell hr 0).trans h0
 clear hr hb h0 h1 h2 hp h
 go_enter Tryz.func17, Tryz.ntmps17
 go_wp2_with fail
 refine H.out.mono ?_
 rintro e w1 ⟨rfl, rfl⟩
 go_wp2
 go_ret
 exact ⟨rfl, rfl⟩
theorem own_mr (h : MR B g K m w) : Calls Tryz.prog 22 #[.pointer (some ⟨g, 0, none⟩)] w fun e w' => e = .returned (.tuple #[.int .u32 m.tag, .int .u32 m.tsn]) ∧ Below w.heap.size w w' := by
 obtain ⟨cs, hr, hb, h0, h1, h2, hp⟩ := h.c37
 have H := Lh (is_made w g cs hr hb)
 have k1 : w.cell? ⟨g, 1, none⟩ = some (.int .u32 m.tag) := (blk_cell hr 1).trans h1
 have k2 : w.cell? ⟨g, 2, none⟩ = some (.int .u32 m.tsn) := (blk_cell hr 2).trans h2
 clear hr hb h0 h1 h2 hp h
 go_enter Tryz.func22, Tryz.ntmps22
 go_wp2_with fail
 refine H.out.mono ?_
 rintro e w1 ⟨rfl, rfl⟩
 go_wp2
 go_quiet (fail)
 go_wp2
 go_ret2
 exact ⟨rfl, pw_below_drewN (Below.refl _ _) nq⟩
theorem peer_results2 (tmps : Array Value) (w : World) (a : Nat) (cs : Array Value) (t0 : tmps.getD 2 undef = .pointer (some ⟨a, 0, none⟩)) (h0 : w.heap[a]? = some (.cells cs 71 (0, 0))) (hcs : cs.size = 5) : (results Tryz.f30 tmps).run Tryz.prog w = .ok (.agg cs) w := by
 have hi : (Tryz.prog.info? 71).map (·.size) = some cs.size := by rw [hcs]; kernel_rfl
 have hl := run_loadVar_row w a 71 71 cs (0, 0) _ h0 Tryz.underlying71 rfl hi
 rw [Array.getD_eq_getD_getElem?] at t0
 simp [results, Tryz.results30, asAddr, t0, hl]
theorem peer_mr (h : MR B g K m w) : Calls Tryz.prog 30 #[.pointer (some ⟨g, 0, none⟩)] w fun e w' => e = .returned (.agg (PV m.pr)) ∧ Below w.heap.size w w' := by
 have h' := h.below (below_alloc (Below.refl w.heap.size w) (.cells #[.int .u32 0, .int .u32 0, .int .u32 0, .int .u16 0, .int .u16 0] 71))
 obtain ⟨cs, hr, hb, h0, h1, h2, hp⟩ := h'.c37
 have H := Lh (is_made _ g cs hr hb)
 have HP := Lh hp
 have HZ := Lh (blk_new w (.cells #[.int .u32 0, .int .u32 0, .int .u32 0, .int .u16 0, .int .u16 0] 71))
 have HB := Lh (below_alloc (Below.refl w.heap.size w) (.cells #[.int .u32 0, .int .u32 0, .int .u32 0, .int .u16 0, .int .u16 0] 71))
 clear hr hb h0 h1 h2 hp h h'
 obtain ⟨p, hpp⟩ : ∃ p, m.pr = p := ⟨_, rfl⟩
 rw [hpp] at HP ⊢
 clear hpp
 unfold PV
 go_enter Tryz.func30, Tryz.ntmps30
 go_wp2_with fail
 refine H.out.mono ?_
 rintro e w1 ⟨rfl, rfl⟩
 go_wp2_with (first | (refine wpList_load_mid rfl 71 _ rfl g 3 rfl _ _ HP.out Tryz.underlying71 rfl (by kernel_rfl) ?_) | (refine wpList_store_row rfl 71 _ _ rfl w.heap.size #[.int .u32 p.f0, .int .u32 p.f1, .int .u32 p.f2, .int .u16 p.f3, .int .u16 p.f4] rfl rfl 71 _ HZ.out (by kernel_rfl) rfl (by simp [Value.oneCell']) ?_))
 exact bodyPost_ret (peer_results2 _ _ w.heap.size _ rfl (setRow_heap _ _ _ _ _ _ HZ.out) rfl) rfl ⟨rfl, below_setRow HB.out (Nat.le_refl _) _⟩
end
end Go.Proofs.YthiaakjbapgibaaGreat.As
end
section
namespace Go.Proofs.YthiaakjbapgibaaGreat.As
open Go.RowKit YthiaakjbapgibaaGreatW.PrintWords YthiaakjbapgibaaGreatW.PrintLast Base PCh
def confA (sd : Int) : Array Value := #[.int .u8 0, .int .u8 0, .int .u8 0, .int .u8 0, .int .u8 0, .int .u8 0, .int .u8 0, .int .u8 0, .int .u8 0, .int .u8 0, .int .u8 0, .int .u8 0, .int .u8 0, .int .u8 0, .int .u8 0, .int .u8 0, .int .u64 sd, .int .i64 60000, .int .u32 9000, .int .u16 4, .int .u16 3, .int .i64 3, .int .i64 3, .int .u16 1, .int .u16 2]
theorem conf_results (tmps : Array Value) (w : World) (a : Nat) (cs : Array Value) (t0 : tmps.getD 4 undef = .pointer (some ⟨a, 0, none⟩)) (h0 : w.heap[a]? = some (.cells cs 52 (0, 0))) (hcs : cs.size = 25) : (results Tryz.f32 tmps).run Tryz.prog w = .ok (.agg cs) w := by
 have hi : (Tryz.prog.info? 52).map (·.size) = some cs.size := by rw [hcs]; kernel_rfl
 have hl := run_loadVar_row w a 52 52 cs (0, 0) _ h0 Tryz.underlying52 rfl hi
 rw [Array.getD_eq_getD_getElem?] at t0
 simp [results, Tryz.results32, asAddr, t0, hl]
theorem alloc_conf {o : Oper} {a : Act} {w : World} (ho : o.op = .alloc 52) : (execOp a.eval o).run Tryz.prog w = .ok (.value (.pointer (some ⟨w.heap.size, 0, none⟩))) (w.alloc (.cells #[.int .u8 0, .int .u8 0, .int .u8 0, .int .u8 0, .int .u8 0, .int .u8 0, .int .u8 0, .int .u8 0, .int .u8 0, .int .u8 0, .int .u8 0, .int .u8 0, .int .u8 0, .int .u8 0, .int .u8 0, .int .u8 0, .int .u64 0, .int .i64 0, .int .u32 0, .int .u16 0, .int .u16 0, .int .i64 0, .int .i64 0, .int .u16 0, .int .u16 0] 52)) := by
 unfold execOp
 simp only [ho]
 go_simp
theorem wpList_boxC {ops : Array Oper} {rest : List Oper} {o1 o2 : Oper} {a : Act} {w : World} {Q : Exit → Act → World → Prop} (h1 : o1.guard = none) (h2 : o2.guard = none) (n : Tmp) (hd : o1.dst = some n) (ho1 : o1.op = .alloc 52)
  (y : Operand) (ho2 : o2.op = .store 52 (.tmp n) y) (cs : Array Value) (hx : (a.put (some n) (.pointer (some ⟨w.heap.size, 0, none⟩))).eval (.tmp n) = .pointer (some ⟨w.heap.size, 0, none⟩))
  (hy : (a.put (some n) (.pointer (some ⟨w.heap.size, 0, none⟩))).eval y = .agg cs) (hsz : (#[.int .u8 0, .int .u8 0, .int .u8 0, .int .u8 0, .int .u8 0, .int .u8 0, .int .u8 0, .int .u8 0, .int .u8 0, .int .u8 0, .int .u8 0, .int .u8 0, .int .u8 0, .int .u8 0, .int .u8 0, .int .u8 0, .int .u64 0, .int .i64 0, .int .u32 0, .int .u16 0, .int .u16 0, .int .i64 0, .int .i64 0, .int .u16 0, .int .u16 0] : Array Value).size = cs.size) (hi : (Tryz.prog.info? 52).map (·.size) = some cs.size) (hone : cs.all (·.oneCell') = true)
  (h : wpList Tryz.prog ops Q rest ((a.put (some n) (.pointer (some ⟨w.heap.size, 0, none⟩))).put o2.dst undef) (w.alloc (.cells cs 52))) : wpList Tryz.prog ops Q (o1 :: o2 :: rest) a w := by
 have h3 : wpList Tryz.prog ops Q (o2 :: rest) (a.put (some n) (.pointer (some ⟨w.heap.size, 0, none⟩))) (w.alloc (.cells #[.int .u8 0, .int .u8 0, .int .u8 0, .int .u8 0, .int .u8 0, .int .u8 0, .int .u8 0, .int .u8 0, .int .u8 0, .int .u8 0, .int .u8 0, .int .u8 0, .int .u8 0, .int .u8 0, .int .u8 0, .int .u8 0, .int .u64 0, .int .i64 0, .int .u32 0, .int .u16 0, .int .u16 0, .int .i64 0, .int .i64 0, .int .u16 0, .int .u16 0] 52)) := by
  refine wpList_store_row h2 52 (.tmp n) y ho2 w.heap.size cs hx hy 52 #[.int .u8 0, .int .u8 0, .int .u8 0, .int .u8 0, .int .u8 0, .int .u8 0, .int .u8 0, .int .u8 0, .int .u8 0, .int .u8 0, .int .u8 0, .int .u8 0, .int .u8 0, .int .u8 0, .int .u8 0, .int .u8 0, .int .u64 0, .int .i64 0, .int .u32 0, .int .u16 0, .int .u16 0, .int .i64 0, .int .i64 0, .int .u16 0, .int .u16 0] (blk_new _ _) hi hsz hone ?_
  rw [World.setRow_alloc_new]
  exact h
 refine wpList_plain h1 fun _ hK => ?_
 have hK' := hK _ _ h3
 rw [← hd] at hK'
 unfold Oper.wp
 rw [alloc_conf ho1]
 exact hK'
theorem conf_one (sd : Int) : (confA sd).all (·.oneCell') = true := by simp [confA, Value.oneCell']
set_option maxHeartbeats 4000000 in
theorem conf_calls (w : World) (sd : Int) : Calls Tryz.prog 32 #[.int .i64 0, .int .u64 sd] w fun e w' => e = .returned (.agg (confA sd)) ∧ Below w.heap.size w w' := by
 have HZ := Lh (show (#[.int .u8 0, .int .u8 0, .int .u8 0, .int .u8 0, .int .u8 0, .int .u8 0, .int .u8 0, .int .u8 0, .int .u8 0, .int .u8 0, .int .u8 0, .int .u8 0, .int .u8 0, .int .u8 0, .int .u8 0, .int .u8 0, .int .u64 0, .int .i64 0, .int .u32 0, .int .u16 0, .int .u16 0, .int .i64 0, .int .i64 0, .int .u16 0, .int .u16 0] : Array Value).size = (confA sd).size from rfl)
 have HI := Lh (show (Tryz.prog.info? 52).map (·.size) = some (confA sd).size by kernel_rfl)
 have HO := Lh (conf_one sd)
 have HL := Lh (show ∀ v : Value, v = .agg #[.int .u8 0, .int .u8 0, .int .u8 0, .int .u8 0, .int .u8 0, .int .u8 0, .int .u8 0, .int .u8 0, .int .u8 0, .int .u8 0, .int .u8 0, .int .u8 0, .int .u8 0, .int .u8 0, .int .u8 0, .int .u8 0, .int .u64 sd, .int .i64 60000, .int .u32 9000, .int .u16 4, .int .u16 3, .int .i64 3, .int .i64 3, .int .u16 1, .int .u16 2] → v = .agg (confA sd) from fun v h => h)
 go_enter Tryz.func32, Tryz.ntmps32
 go_upto_region 2 with (with_reducible refine gate_dst (N := 5) rfl ?_; go_must (refine wpList_boxC rfl rfl 5 rfl rfl (.tmp 7) rfl (confA sd) rfl rfl HZ.out HI.out HO.out ?_))
 refine Go.Proofs.YthiaakjbapgibaaGreat.Ch.wp_gen (fun W => W.heap[w.heap.size]? = some (.cells #[.int .u8 0, .int .u8 0, .int .u8 0, .int .u8 0, .int .u8 0, .int .u8 0, .int .u8 0, .int .u8 0, .int .u8 0, .int .u8 0, .int .u8 0, .int .u8 0, .int .u8 0, .int .u8 0, .int .u8 0, .int .u8 0, .int .u64 0, .int .i64 0, .int .u32 0, .int .u16 0, .int .u16 0, .int .i64 0, .int .i64 0, .int .u16 0, .int .u16 0] 52 (0, 0)) ∧ W.heap[w.heap.size + 1]? = some (.cells (confA sd) 52 (0, 0)) ∧ Below w.heap.size w W) ?_ ?_
 ·have h2 := boxes3 w (.cells #[.int .u8 0, .int .u8 0, .int .u8 0, .int .u8 0, .int .u8 0, .int .u8 0, .int .u8 0, .int .u8 0, .int .u8 0, .int .u8 0, .int .u8 0, .int .u8 0, .int .u8 0, .int .u8 0, .int .u8 0, .int .u8 0, .int .u64 0, .int .i64 0, .int .u32 0, .int .u16 0, .int .u16 0, .int .i64 0, .int .i64 0, .int .u16 0, .int .u16 0] 52) (.cells (confA sd) 52) (.cells #[] 0)
  refine ⟨blk_alloc (blk_new _ _) _, ?_, below_alloc (below_alloc (Below.refl _ _) _) _⟩
  have h1 := blk_new (w.alloc (.cells #[.int .u8 0, .int .u8 0, .int .u8 0, .int .u8 0, .int .u8 0, .int .u8 0, .int .u8 0, .int .u8 0, .int .u8 0, .int .u8 0, .int .u8 0, .int .u8 0, .int .u8 0, .int .u8 0, .int .u8 0, .int .u8 0, .int .u64 0, .int .i64 0, .int .u32 0, .int .u16 0, .int .u16 0, .int .i64 0, .int .i64 0, .int .u16 0, .int .u16 0] 52)) (.cells (confA sd) 52)
  rw [World.size_alloc] at h1
  exact h1
 rintro W ⟨h0, h1, hB⟩
 have hs : W.cell? ⟨w.heap.size + 1, 0, none⟩ = some (.int .u8 0) := blk_cell h1 0
 have hf := blk_frozen h1 0
 have H0 := Lh h0
 have H1 := Lh h1
 have HB := Lh hB
 clear h0 h1 hB HZ HL
 go_upto_region 5 with (fail)
 have h1' := blk_put H1.out 0 (.int .u8 0) rfl
 have h1'' : (W.setCell ⟨w.heap.size + 1, 0, none⟩ (.int .u8 0)).heap[w.heap.size + 1]? = some (.cells (confA sd) 52 (0, 0)) := h1'
 have h0' := blk_far (p := ⟨w.heap.size + 1, 0, none⟩) H0.out (by dsimp only; omega) (.int .u8 0)
 have hb' := HB.out.setCell (p := ⟨w.heap.size + 1, 0, none⟩) (by dsimp only; omega) (.int .u8 0)
 clear hs hf h1'
 refine Go.Proofs.YthiaakjbapgibaaGreat.Ch.wp_gen (fun W => W.heap[w.heap.size]? = some (.cells #[.int .u8 0, .int .u8 0, .int .u8 0, .int .u8 0, .int .u8 0, .int .u8 0, .int .u8 0, .int .u8 0, .int .u8 0, .int .u8 0, .int .u8 0, .int .u8 0, .int .u8 0, .int .u8 0, .int .u8 0, .int .u8 0, .int .u64 0, .int .i64 0, .int .u32 0, .int .u16 0, .int .u16 0, .int .i64 0, .int .i64 0, .int .u16 0, .int .u16 0] 52 (0, 0)) ∧ W.heap[w.heap.size + 1]? = some (.cells (confA sd) 52 (0, 0)) ∧ Below w.heap.size w W) ⟨h0', h1'', hb'⟩ ?_
 clear h0' h1'' hb' H0 H1 HB
 rintro W' ⟨h0, h1, hB⟩
 have HB := Lh hB
 clear hB
 go_wp2_with (first | (with_reducible refine gate_dst (N := 18) rfl ?_; go_must (refine wpList_load_row rfl 52 (.tmp 5) rfl _ rfl 52 (confA sd) (0, 0) _ h1 Tryz.underlying52 rfl HI.out ?_)) | (with_reducible refine gate_store (p := 4) rfl ?_; go_must (refine wpList_store_row rfl 52 (.tmp 4) (.tmp 18) rfl _ (confA sd) rfl rfl 52 _ h0 HI.out rfl HO.out ?_)))
 exact bodyPost_ret (conf_results _ _ w.heap.size _ rfl (setRow_heap _ _ _ _ _ _ h0) rfl) rfl ⟨rfl, below_setRow HB.out (Nat.le_refl _) _⟩
def K0 (sd : Int) : Cfg := ⟨[0, 0, 0, 0, 0, 0, 0, 0, 0, 0, 0, 0, 0, 0, 0, 0], sd, 60000, 9000, 4, 3, 3, 3, 1, 2⟩
def K1 (sd : Int) : Cfg := ⟨[1, 0, 0, 0, 0, 0, 0, 0, 0, 0, 0, 0, 0, 0, 0, 0], sd, 60000, 9000, 5, 2, 3, 3, 2, 1⟩
theorem K0_ok (sd : Int) : okK (K0 sd) := by unfold okK K0; dsimp only; decide
theorem conf0_calls (w : World) (sd : Int) : Calls Tryz.prog 32 #[.int .i64 0, .int .u64 sd] w fun e w' => e = .returned (.agg (confV (K0 sd))) ∧ Below w.heap.size w w' := conf_calls w sd
theorem made_ms {B : Nat} {w : World} {K : Cfg} (hk : K.key.length = 16) (hok : okK K) (hB : B ≤ w.heap.size) : Calls Tryz.prog 21 #[.agg (confV K)] w fun e w' => ∃ g, e = .returned (.tuple #[.pointer (some ⟨g, 0, none⟩), .int .i64 0]) ∧ w.heap.size ≤ g ∧ MR B g K (newM K) w' ∧ Below w.heap.size w w' :=
 (new_calls w K hk).mono fun e w' h => by
  unfold NewR at h
  rw [if_pos hok] at h
  obtain ⟨h1, g, h2, h3, h4⟩ := h
  exact ⟨g, h2, h3, MR.new hk (Nat.le_trans hB h3) h4, h1⟩
theorem tag_one : tagD 1 = 0x910A2DEC ∧ tsnD 1 = 0x89025CC1 := by decide +kernel
theorem Res.C {B base : Nat} {W : World} {v : Value} {xs : List Act'} (h : Res B base W v xs) : ∃ A c, v = .slice A xs.length c ∧ xs.length ≤ c ∧ k73.C W A xs.length xs := by
 obtain ⟨rs, hR, hA⟩ := h
 obtain ⟨A, c, rfl, hle, hC⟩ := Kd.R_reads hR
 have e : rs.length = xs.length := hA.1
 refine ⟨A, c, by rw [e], by rw [← e]; exact hle, ?_⟩
 obtain ⟨h1, h2, h3⟩ := hC
 refine ⟨rfl, by rw [← e]; exact h2, fun hn => ?_⟩
 obtain ⟨ad, ha, hc⟩ := h3 (by rw [e]; exact hn)
 refine ⟨ad, ha, fun j x hj => ?_⟩
 have hlt : j < rs.length := by rw [e]; exact (List.getElem?_eq_some_iff.1 hj).1
 have hrj : rs[j]? = some rs[j] := List.getElem?_eq_getElem hlt
 obtain ⟨cs, hl, hK, hcell⟩ := hc j rs[j] hrj
 obtain ⟨A2, c2, hr, hl2, hS⟩ := hA.2 j rs[j] x hrj hj
 refine ⟨cs, hl, ?_, hcell⟩
 rw [hK.1, hr]
 exact k73_mk W x hl2 hS.now
end Go.Proofs.YthiaakjbapgibaaGreat.As
end
section
namespace Go.Proofs.YthiaakjbapgibaaGreat.As
open Go.RowKit YthiaakjbapgibaaGreatW.PrintWords YthiaakjbapgibaaGreatW.PrintLast Base PCh
set_option maxHeartbeats 2000000 in
theorem awake_calls (w : World) : Calls Tryz.prog 11 #[] w fun e w' => e = .returned (.bool true) ∧ Below w.heap.size w w' := by
 go_enter Tryz.func11, Tryz.ntmps11
 go_wp2_with fail
 refine (conf0_calls w 1).mono ?_
 rintro e w1 ⟨rfl, hB1⟩
 have HB1 := Lh hB1
 clear hB1
 go_wp2_with fail
 refine (made_ms (B := w.heap.size) (K := K0 1) rfl (K0_ok 1) HB1.out.size).mono ?_
 rintro e w2 ⟨g, rfl, hg, hM2, hB2⟩
 have HM2 := Lh hM2
 have HB2 := Lh (HB1.out.trans (hB2.mono HB1.out.size))
 have HG := Lh (show w.heap.size ≤ g from Nat.le_trans HB1.out.size hg)
 clear hM2 hB2 hg
 go_wp2_with fail
 refine (open_ms HM2.out).mono ?_
 intro e w3 hP
 have hP2 : CallP w.heap.size g (K0 1) (newM (K0 1)) (.ok ({ newM (K0 1) with d := nextD 1, tag := tagD 1, tsn := tsnD 1, s := 1, tr := 0 }, [actSend (mkC 1 0 (tsnD 1) (tagD 1) 9000 4 3) 0, actTimer 2 1])) w2 e w3 := hP
 obtain ⟨hO, ⟨v, rfl, hRes⟩, hM3⟩ := hP2
 clear hP
 obtain ⟨A3, c3, rfl, hle3, hC3⟩ := hRes.C
 obtain ⟨ad, A4, c4, rfl, x0, x1, x2, x3, _⟩ := at_T73 hC3 (1 : Int) (by decide) (by decide)
 have X3 := Lh (show w3.cell? ⟨ad.block, ad.off + 10 + 3, none⟩ = some (.int .i64 1) from by have h := x3; rw [show (rd_T73 [actSend (mkC 1 0 (tsnD 1) (tagD 1) 9000 4 3) 0, actTimer 2 1] 1).f3 = 1 from rfl] at h; simpa [Addr.add] using h)
 have HB3 := Lh (HB2.out.trans (hO.below HB2.out.size (fun k hk => by have := HG.out; omega)))
 have HM3 := Lh hM3
 have HT := Lh tag_one
 have HOW := Lh (own_mr hM3)
 rw [show ({ newM (K0 1) with d := nextD 1, tag := tagD 1, tsn := tsnD 1, s := 1, tr := 0 } : Mst).tag = 0x910A2DEC from tag_one.1, show ({ newM (K0 1) with d := nextD 1, tag := tagD 1, tsn := tsnD 1, s := 1, tr := 0 } : Mst).tsn = 0x89025CC1 from tag_one.2] at HOW
 clear hO hRes hM3 hC3 x0 x1 x2 x3
 go_wp2_with fail
 refine HOW.out.mono ?_
 rintro e w4 ⟨rfl, hB4⟩
 have HB4 := Lh (HB3.out.trans (hB4.mono HB3.out.size))
 have x3 := pw_cell_below hB4 X3.out
 have HST := Lh (state_mr (HM3.out.below hB4))
 rw [show ({ newM (K0 1) with d := nextD 1, tag := tagD 1, tsn := tsnD 1, s := 1, tr := 0 } : Mst).s = 1 from rfl] at HST
 clear hB4 HOW X3 HM3
 go_wp2_with fail
 refine HST.out.mono ?_
 rintro e w5 ⟨rfl, rfl⟩
 go_wp2
 go_ret
 exact ⟨rfl, HB4.out⟩
structure Opn where
 k : Int
 t : Int
 x : Chk
 n : Int
 u : Int
 b : Bool
 y : ByteArray
def opV (o : Opn) (L : Lay) : Array Value := #[.int .i64 o.k, .int .u32 o.t, .int .u8 o.x.f0, .int .u8 o.x.f1, .int .u32 o.x.f2, .int .u16 o.x.f3, .int .u16 o.x.f4, .int .u32 o.x.f5, .int .u32 o.x.f6, .int .u32 o.x.f7, .int .u16 o.x.f8, .int .u16 o.x.f9, .slice L.A10 o.x.f10.length L.c10, .slice L.A11 o.x.f11.length L.c11, .slice L.A12 o.x.f12.length L.c12, .slice L.A13 o.x.f13.length L.c13, .slice L.A14 o.x.f14.length L.c14, .int .i64 o.n, .int .u32 o.u, .bool o.b, .string o.y]
noncomputable def doP (K : Cfg) (m : Mst) (o : Opn) : Out :=
 if o.k = 1 then openP K m
 else if o.k = 2 then takeP K m o.t o.x o.n
 else if o.k = 3 then expP K m o.n o.u
 else if o.k = 4 then shutP K m o.b o.u
 else if o.k = 5 then emptyP K m o.u
 else if o.k = 6 then againP K m o.u
 else if o.k = 7 then abP m o.y
 else .ok (m, [])
set_option maxHeartbeats 4000000 in
theorem do_ms {B : Nat} {w : World} {g : Nat} {K : Cfg} {m : Mst} {o : Opn} {L : Lay} (h : MR B g K m w) (hK : KW K) (hW : MW m) (hX : XW o.x) (htr : 0 ≤ m.tr ∧ m.tr ≤ 1000) (hcr : Stb B w fun W => Go.Proofs.YthiaakjbapgibaaGreat.Ch.CR W o.x L) (hv : Go.Proofs.YthiaakjbapgibaaGreat.Ch.ValOk o.x L) :
  Calls Tryz.prog 23 #[.pointer (some ⟨g, 0, none⟩), .agg (opV o L)] w (CallP B g K m (doP K m o) w) := by
 obtain ⟨r, hr⟩ : ∃ r, doP K m o = r := ⟨_, rfl⟩
 rw [hr]
 have HR := Lh hr
 unfold doP at HR
 clear hr
 have HL := Lh h.lt
 have HB := Lh (below_alloc (Below.refl w.heap.size w) (.cells (opV o L) 67))
 have HM := Lh (h.below HB.out)
 have HCR := Lh (hcr.mono (Kq.of_below HB.out))
 have HBX := Lh (blk_new w (.cells (opV o L) 67))
 have HKW := Lh hK
 have HMW := Lh hW
 have HXW := Lh hX
 have HTR := Lh htr
 have HV := Lh hv
 clear h hK hW hX htr hcr hv
 show Calls Tryz.prog 23 #[.pointer (some ⟨g, 0, none⟩), .agg #[.int .i64 o.k, .int .u32 o.t, .int .u8 o.x.f0, .int .u8 o.x.f1, .int .u32 o.x.f2, .int .u16 o.x.f3, .int .u16 o.x.f4, .int .u32 o.x.f5, .int .u32 o.x.f6, .int .u32 o.x.f7, .int .u16 o.x.f8, .int .u16 o.x.f9, .slice L.A10 o.x.f10.length L.c10, .slice L.A11 o.x.f11.length L.c11, .slice L.A12 o.x.f12.length L.c12, .slice L.A13 o.x.f13.length L.c13, .slice L.A14 o.x.f14.length L.c14, .int .i64 o.n, .int .u32 o.u, .bool o.b, .string o.y]] w _
 go_enter Tryz.func23, Tryz.ntmps23
 go_upto_region 1 with (fail)
 change Code.wp _ _ _ _ (w.alloc (.cells (opV o L) 67))
 obtain ⟨go, hgo⟩ : ∃ go, w.heap.size = go := ⟨_, rfl⟩
 obtain ⟨W, hW⟩ : ∃ W, w.alloc (.cells (opV o L) 67) = W := ⟨_, rfl⟩
 rw [hW] at HB HM HCR HBX ⊢
 rw [hgo] at HBX ⊢
 clear hW
 have k0 : W.cell? ⟨go, 0, none⟩ = some (.int .i64 o.k) := blk_cell HBX.out 0
 have k1 : W.cell? ⟨go, 1, none⟩ = some (.int .u32 o.t) := blk_cell HBX.out 1
 have k17 : W.cell? ⟨go, 17, none⟩ = some (.int .i64 o.n) := blk_cell HBX.out 17
 have k18 : W.cell? ⟨go, 18, none⟩ = some (.int .u32 o.u) := blk_cell HBX.out 18
 have k19 : W.cell? ⟨go, 19, none⟩ = some (.bool o.b) := blk_cell HBX.out 19
 have k20 : W.cell? ⟨go, 20, none⟩ = some (.string o.y) := blk_cell HBX.out 20
 have HRG := Lh (show W.rangeAt go 2 (Go.Proofs.YthiaakjbapgibaaGreat.Ch.CV o.x L).toList from by
  intro j v hv
  rw [blk_cell HBX.out]
  have hl := (List.getElem?_eq_some_iff.1 hv).1
  match j, hv with
  | 0, hv => exact hv
  | 1, hv => exact hv
  | 2, hv => exact hv
  | 3, hv => exact hv
  | 4, hv => exact hv
  | 5, hv => exact hv
  | 6, hv => exact hv
  | 7, hv => exact hv
  | 8, hv => exact hv
  | 9, hv => exact hv
  | 10, hv => exact hv
  | 11, hv => exact hv
  | 12, hv => exact hv
  | 13, hv => exact hv
  | 14, hv => exact hv
  | k + 15, hv => exact absurd hl (by simp [Go.Proofs.YthiaakjbapgibaaGreat.Ch.CV]))
 clear hgo
 by_cases h1 : o.k = 1
 ·rw [if_pos h1] at HR
  rw [h1] at k0
  go_wp2_with fail
  refine (open_ms HM.out).mono ?_
  intro e w1 hP
  rw [HR.out] at hP
  have hP' := CallP.mono HB.out hP HL.out
  obtain ⟨u, c, rfl⟩ := hP'.ret
  clear hP
  go_wp2
  go_ret2
  exact hP'
 rw [if_neg h1] at HR
 have h1a : decide (o.k = 1) = false := decide_eq_false h1
 have h1b : (o.k == 1) = false := by simpa using h1
 by_cases h2 : o.k = 2
 ·rw [if_pos h2] at HR
  rw [h2] at k0
  go_wp2_with (refine wpList_load_mid rfl 65 _ rfl go 2 rfl _ _ HRG.out Tryz.underlying65 rfl (by kernel_rfl) ?_)
  refine (take_ms HM.out HKW.out HMW.out HXW.out HTR.out HCR.out HV.out o.t o.n).mono ?_
  intro e w1 hP
  rw [HR.out] at hP
  have hP' := CallP.mono HB.out hP HL.out
  obtain ⟨u, c, rfl⟩ := hP'.ret
  clear hP
  go_wp2
  go_ret2
  exact hP'
 rw [if_neg h2] at HR
 have h2a : decide (o.k = 2) = false := decide_eq_false h2
 have h2b : (o.k == 2) = false := by simpa using h2
 by_cases h3 : o.k = 3
 ·rw [if_pos h3] at HR
  rw [h3] at k0
  go_wp2_with fail
  refine (expire_ms HM.out HTR.out o.n o.u).mono ?_
  intro e w1 hP
  rw [HR.out] at hP
  have hP' := CallP.mono HB.out hP HL.out
  obtain ⟨u, c, rfl⟩ := hP'.ret
  clear hP
  go_wp2
  go_ret2
  exact hP'
 rw [if_neg h3] at HR
 have h3a : decide (o.k = 3) = false := decide_eq_false h3
 have h3b : (o.k == 3) = false := by simpa using h3
 by_cases h4 : o.k = 4
 ·rw [if_pos h4] at HR
  rw [h4] at k0
  go_wp2_with fail
  refine (shutdown_ms HM.out o.b o.u).mono ?_
  intro e w1 hP
  rw [HR.out] at hP
  have hP' := CallP.mono HB.out hP HL.out
  obtain ⟨u, c, rfl⟩ := hP'.ret
  clear hP
  go_wp2
  go_ret2
  exact hP'
 rw [if_neg h4] at HR
 have h4a : decide (o.k = 4) = false := decide_eq_false h4
 have h4b : (o.k == 4) = false := by simpa using h4
 by_cases h5 : o.k = 5
 ·rw [if_pos h5] at HR
  rw [h5] at k0
  go_wp2_with fail
  refine (empty_ms HM.out o.u).mono ?_
  intro e w1 hP
  rw [HR.out] at hP
  have hP' := CallP.mono HB.out hP HL.out
  obtain ⟨u, c, rfl⟩ := hP'.ret
  clear hP
  go_wp2
  go_ret2
  exact hP'
 rw [if_neg h5] at HR
 have h5a : decide (o.k = 5) = false := decide_eq_false h5
 have h5b : (o.k == 5) = false := by simpa using h5
 by_cases h6 : o.k = 6
 ·rw [if_pos h6] at HR
  rw [h6] at k0
  go_wp2_with fail
  refine (again_ms HM.out o.u).mono ?_
  intro e w1 hP
  rw [HR.out] at hP
  have hP' := CallP.mono HB.out hP HL.out
  obtain ⟨u, c, rfl⟩ := hP'.ret
  clear hP
  go_wp2
  go_ret2
  exact hP'
 rw [if_neg h6] at HR
 have h6a : decide (o.k = 6) = false := decide_eq_false h6
 have h6b : (o.k == 6) = false := by simpa using h6
 by_cases h7 : o.k = 7
 ·rw [if_pos h7] at HR
  rw [h7] at k0
  go_wp2_with fail
  refine (abort_ms HM.out o.y).mono ?_
  intro e w1 hP
  rw [HR.out] at hP
  have hP' := CallP.mono HB.out hP HL.out
  obtain ⟨u, c, rfl⟩ := hP'.ret
  clear hP
  go_wp2
  go_ret2
  exact hP'
 rw [if_neg h7] at HR
 have h7a : decide (o.k = 7) = false := decide_eq_false h7
 have h7b : (o.k == 7) = false := by simpa using h7
 go_wp2
 go_ret2
 rw [← HR.out]
 exact ⟨Only.of_below (S := (· = g)) HB.out, ⟨_, rfl, [], Kd.R_nil _ _ _ _ _, ActsR.nil _ _⟩, HM.out⟩
end Go.Proofs.YthiaakjbapgibaaGreat.As
end
section
namespace Go.Proofs.YthiaakjbapgibaaGreat.Base
open Go.ChangeShapes Go.WideShapes Go.ChangeAt Go.RowKit YthiaakjbapgibaaGreatW.PrintWords
def Short {H : Type} (t : TypeId) (D : DataW H) : Prop := ∀ n ∈ D.weights Tryz.prog t, n ≤ reachBytes
def OpensP {α : Type} (t : TypeId) (d : Kd α) (wt : α → Nat) (Pr : α → Prop) : Prop :=
 ∀ {H : Type} (enc : TypeId × Value → H) (W : World) (fuel : Nat) (cs : List Value) (D : DataW H) (p : List MemPlace), DataW.trod enc Tryz.prog W 0 (fun _ => true) true fuel t cs = some (D, p) → Short t D → ∃ x, d.K W x cs ∧ wt x ≤ Rows.uptoBulk D ∧ Pr x
theorem OpensP.of {α : Type} {t : TypeId} {d : Kd α} {wt : α → Nat} (h : Opens t d wt) : OpensP t d wt (fun _ => True) := by
 intro H enc W fuel cs D p hx _
 obtain ⟨x, h1, h2⟩ := h enc W fuel cs D p hx
 exact ⟨x, h1, h2, trivial⟩
theorem OpensP.mono {α : Type} {t : TypeId} {d : Kd α} {wt : α → Nat} {Pr Pr' : α → Prop} (h : OpensP t d wt Pr) (hp : ∀ x, Pr x → Pr' x) : OpensP t d wt Pr' := by
 intro H enc W fuel cs D p hx hs
 obtain ⟨x, h1, h2, h3⟩ := h enc W fuel cs D p hx hs
 exact ⟨x, h1, h2, hp x h3⟩
theorem weights_all {H : Type} {e : TypeId} {l : List (DataW H)} {D : DataW H} (h : D ∈ l) {n : Nat} (hn : n ∈ D.weights Tryz.prog e) : n ∈ DataW.weightsAll Tryz.prog e l := by
 induction l with
 | nil => cases h
 | cons x r ih =>
  simp only [DataW.weightsAll, List.mem_append]
  rcases List.mem_cons.1 h with rfl | h
  ·exact Or.inl hn
  ·exact Or.inr (ih h)
theorem OpensP.slice {α : Type} {t e : TypeId} {d : Kd α} {wt : α → Nat} {Pr : α → Prop} (ho : OpensP e d wt Pr) (ht : Tryz.prog.underlying t = some (.slice e)) (hc : Tryz.prog.cellsOf e = d.sz) (by_ : Nat) (hby : Tryz.prog.bytesOf e = by_) : OpensP t (Kd.slice e d) (fun xs => (xs.map wt).sum + 1) (fun xs => xs.length * by_ ≤ 140737488351232 ∧ ∀ x ∈ xs, Pr x) := by
 intro H enc W fuel cs D p h hs
 rcases Go.Deep.open_slice ht h with ⟨rfl, hx⟩ | ⟨a, len, cap, m, n, Ds, Pl, rfl, hb, hl, hm, hmm, hxx, hel⟩
 ·exact ⟨[], ⟨none, 0, rfl, Nat.le_refl _, Kd.C_nil d W⟩, bulk_one D, by simp, fun x hx => by cases hx⟩
 ·have hmc : m = cap := by simpa using hmm
  subst hmc
  simp only [Prod.mk.injEq] at hxx
  obtain ⟨rfl, rfl⟩ := hxx
  have hlen : len * by_ ≤ 140737488351232 := by
   have := hs ((((List.range len).map Ds).length + ((List.range (m - len)).map fun j => Ds (len + j)).length) * Tryz.prog.bytesOf e) (by simp only [DataW.weights, ht]; exact List.mem_cons_self ..)
   rw [hby] at this
   simp only [List.length_map, List.length_range] at this
   have h2 : len * by_ ≤ (len + (m - len)) * by_ := Nat.mul_le_mul_right _ (by omega)
   exact Nat.le_trans h2 this
  have hone : ∀ i, i < len → ∃ x cs', W.cells? 0 (a.add (i * d.sz)) d.sz = some cs' ∧ d.K W x cs' ∧ wt x ≤ Rows.uptoBulk (Ds i) ∧ Pr x := by
   intro i hi
   obtain ⟨cs', h1, h2⟩ := hel i (by omega)
   obtain ⟨x, hk, hw, hp⟩ := ho enc W n cs' (Ds i) (Pl i) h2 (fun q hq => hs q (by
    simp only [DataW.weights, ht]
    refine List.mem_cons_of_mem _ (List.mem_append_left _ (weights_all (D := Ds i) ?_ hq))
    exact List.mem_map.2 ⟨i, List.mem_range.2 hi, rfl⟩))
   rw [hc] at h1
   exact ⟨x, cs', h1, hk, hw, hp⟩
  cases hlen' : len with
  | zero =>
   refine ⟨[], ⟨some a, m, rfl, Nat.zero_le _, ⟨rfl, by simp, fun h0 => by simp at h0⟩⟩, ?_, by simp, fun x hx => by cases hx⟩
   exact bulk_one _
  | succ len' =>
   obtain ⟨x0, _⟩ := hone 0 (by omega)
   have hx : ∀ i, ∃ x, i < len → ∃ cs', W.cells? 0 (a.add (i * d.sz)) d.sz = some cs' ∧ d.K W x cs' ∧ wt x ≤ Rows.uptoBulk (Ds i) ∧ Pr x := by
    intro i
    by_cases hi : i < len
    ·obtain ⟨x, hx⟩ := hone i hi
     exact ⟨x, fun _ => hx⟩
    ·exact ⟨x0, fun h0 => absurd h0 hi⟩
   rw [← hlen']
   have hll : ((List.range len).map fun i => (hx i).choose).length = len := by simp
   have hget : ∀ j x, ((List.range len).map fun i => (hx i).choose)[j]? = some x → j < len ∧ x = (hx j).choose := by
    intro j x hj
    have hjl : j < len := by have := (List.getElem?_eq_some_iff.1 hj).1; simpa using this
    rw [List.getElem?_map, List.getElem?_range hjl] at hj
    exact ⟨hjl, (Option.some.inj hj).symm⟩
   refine ⟨(List.range len).map fun i => (hx i).choose, ⟨some a, m, by rw [hll], by rw [hll]; exact hl, ⟨rfl, by rw [hll]; simp only [maxLen] at hm; omega, fun _ => ⟨a, rfl, fun j x hj => ?_⟩⟩⟩, ?_, by rw [hll]; exact hlen, fun x hmem => ?_⟩
   ·obtain ⟨hjl, rfl⟩ := hget j x hj
    obtain ⟨cs', h1, h2, _⟩ := (hx j).choose_spec hjl
    obtain ⟨_, hlen2, hcell⟩ := World.cells?_some h1
    refine ⟨cs', hlen2, h2, fun i u hu => ?_⟩
    have hi : i < d.sz := by have := (List.getElem?_eq_some_iff.1 hu).1; omega
    have := hcell i hi
    rw [hu] at this
    rw [← this, Go.Deep.add_add]
   ·have hsm := bulk_sum ((List.range len).map Ds) ((List.range len).map fun i => (hx i).choose) wt (by simp) (fun i x D hxi hD => by
     obtain ⟨hjl, rfl⟩ := hget i x hxi
     rw [List.getElem?_map, List.getElem?_range hjl] at hD
     obtain rfl := Option.some.inj hD
     obtain ⟨_, _, _, h3, _⟩ := (hx i).choose_spec hjl
     exact h3)
    simp only [Rows.uptoBulk]
    omega
   ·obtain ⟨j, hj, rfl⟩ := List.mem_iff_getElem.1 hmem
    obtain ⟨hjl, he⟩ := hget j _ (List.getElem?_eq_getElem hj)
    rw [he]
    obtain ⟨_, _, _, _, h4⟩ := (hx j).choose_spec hjl
    exact h4
def Seg {α : Type} (fs : List Field) (off : Nat) (d : Kd α) (wt : α → Nat) (Pr : α → Prop) : Prop :=
 ∀ {H : Type} (enc : TypeId × Value → H) (W : World) (n : Nat) (cs : List Value) (xs : List (DataW H × List MemPlace)), xs.length = fs.length →
  (∀ (j : Nat) (f : Field), fs[j]? = some f → DataW.trod enc Tryz.prog W 0 (fun _ => true) true n f.type ((cs.drop f.offset).take (Tryz.prog.cellsOf f.type)) = xs[j]?) →
  (∀ q ∈ DataW.weightsEach Tryz.prog (fs.map (·.type)) (xs.map (·.1)), q ≤ reachBytes) → ∃ x, d.K W x ((cs.drop off).take d.sz) ∧ wt x ≤ Rows.uptoBulkAll (xs.map (·.1)) ∧ Pr x
theorem Seg.one {α : Type} {f : Field} {off : Nat} {d : Kd α} {wt : α → Nat} {Pr : α → Prop} (o : OpensP f.type d wt Pr) (ho : f.offset = off) (hc : Tryz.prog.cellsOf f.type = d.sz) : Seg [f] off d wt Pr := by
 intro H enc W n cs xs hl hx hs
 match xs, hl with
 | [x], _ =>
  have e := hx 0 f rfl
  rw [ho, hc] at e
  obtain ⟨v, h1, h2, h3⟩ := o enc W n _ x.1 x.2 e (fun q hq => hs q (by simp only [List.map_cons, List.map_nil, DataW.weightsEach, List.mem_append]; exact Or.inl hq))
  exact ⟨v, h1, by simp only [List.map_cons, List.map_nil, Rows.uptoBulkAll]; omega, h3⟩
theorem Seg.cons {α β : Type} {f : Field} {fs : List Field} {off : Nat} {a : Kd α} {b : Kd β} {wa : α → Nat} {wb : β → Nat} {Pa : α → Prop} {Pb : β → Prop} (o : OpensP f.type a wa Pa) (ho : f.offset = off) (hc : Tryz.prog.cellsOf f.type = a.sz) (s : Seg fs (off + a.sz) b wb Pb) :
  Seg (f :: fs) off (Kd.pair a b) (fun x => wa x.1 + wb x.2) (fun x => Pa x.1 ∧ Pb x.2) := by
 intro H enc W n cs xs hl hx hs
 match xs, hl with
 | x :: r, hl =>
  have e := hx 0 f rfl
  rw [ho, hc] at e
  obtain ⟨v, h1, h2, h3⟩ := o enc W n _ x.1 x.2 e (fun q hq => hs q (by simp only [List.map_cons, DataW.weightsEach, List.mem_append]; exact Or.inl hq))
  obtain ⟨u, g1, g2, g3⟩ := s enc W n cs r (by simpa using hl) (fun j f' hf => hx (j + 1) f' hf) (fun q hq => hs q (by simp only [List.map_cons, DataW.weightsEach, List.mem_append]; exact Or.inr hq))
  refine ⟨(v, u), ⟨_, _, ?_, h1, g1⟩, by simp only [List.map_cons, Rows.uptoBulkAll]; omega, h3, g3⟩
  show (cs.drop off).take (a.sz + b.sz) = _
  rw [List.take_add, List.drop_drop]
theorem OpensP.struct {α : Type} {t : TypeId} {fs : Array Field} {d : Kd α} {wt : α → Nat} {Pr : α → Prop} (ht : Tryz.prog.underlying t = some (.struct fs)) (hc : Tryz.prog.cellsOf t = d.sz) (s : Seg fs.toList 0 d wt Pr) : OpensP t d (fun x => wt x + 1) Pr := by
 intro H enc W fuel cs D p h hs
 obtain ⟨xs, n, _, hx, hlen, hl, hel⟩ := DataW.trod_struct ht h
 simp only [Prod.mk.injEq] at hx
 obtain ⟨v, h1, h2, h3⟩ := s enc W n cs xs (by simpa using hl) (fun j f hf => hel j f (by simpa using hf)) (fun q hq => hs q (by
  rw [hx.1]
  simp only [DataW.weights, ht]
  exact hq))
 rw [List.drop_zero, List.take_of_length_le (by omega)] at h1
 exact ⟨v, h1, by rw [hx.1]; simp only [Rows.uptoBulk]; omega, h3⟩
theorem OpensP.iso {α β : Type} {t : TypeId} {d : Kd α} {wt : α → Nat} {Pr : α → Prop} (o : OpensP t d wt Pr) (f : β → α) (g : α → β) (hfg : ∀ x, f (g x) = x) : OpensP t (Kd.iso d f) (fun x => wt (f x)) (fun x => Pr (f x)) := by
 intro H enc W fuel cs D p h hs
 obtain ⟨x, hk, hw, hp⟩ := o enc W fuel cs D p h hs
 exact ⟨g x, by show d.K W (f (g x)) cs; rw [hfg]; exact hk, by show wt (f (g x)) ≤ _; rw [hfg]; exact hw, by show Pr (f (g x)); rw [hfg]; exact hp⟩
theorem short_part {H : Type} {ts : List TypeId} {ds : List (DataW H)} (hsz : (DataW.weightsEach Tryz.prog ts ds).all (· ≤ reachBytes) = true) {j : Nat} {t : TypeId} {d : DataW H} (ht : ts[j]? = some t) (hd : ds[j]? = some d) : Short t d := fun n hn => by
 have := List.all_eq_true.1 hsz n (DataW.weights_mem_each ht hd n hn)
 simpa using this
theorem OpensP.arg {α : Type} {t e : TypeId} {d : Kd α} {wt : List α → Nat} {Pr : List α → Prop} (ho : OpensP t (Kd.slice e d) wt Pr) {H : Type} {enc : TypeId × Value → H} {W : World} {a : Option Addr} {len cap : Nat} {D : DataW H} {p : List MemPlace} (h : DataW.Trod enc Tryz.prog W 0 (fun _ => true) true t (.slice a len cap) D p) (hs : Short t D) :
  ∃ xs : List α, len = xs.length ∧ xs.length ≤ cap ∧ d.C W a xs.length xs ∧ wt xs ≤ Rows.uptoBulk D ∧ Pr xs := by
 obtain ⟨fuel, hf⟩ := h
 obtain ⟨xs, ⟨A, c, he, hl, hC⟩, hw, hp⟩ := ho enc W fuel _ D p hf hs
 simp [Value.cells] at he
 obtain ⟨rfl, rfl, rfl⟩ := he
 exact ⟨xs, rfl, hl, hC, hw, hp⟩
theorem OpensP.bytes : OpensP 62 (Kd.slice 5 Base.byte) (fun xs => (xs.map (fun _ => 1)).sum + 1) (fun xs => xs.length * 1 ≤ 140737488351232 ∧ ∀ x ∈ xs, True) := OpensP.slice (OpensP.of Opens.byte) Tryz.underlying62 cells_u8 1 bytes_u8
end Go.Proofs.YthiaakjbapgibaaGreat.Base
end
section
namespace Go.Proofs.YthiaakjbapgibaaGreat.As
open Go.ChangeShapes Go.WideShapes Go.ChangeAt Go.RowKit YthiaakjbapgibaaGreatW.PrintWords Base PCh
theorem op_u8 {t : TypeId} (ht : Tryz.prog.underlying t = some (.int .u8)) : OpensP t (Kd.int .u8) (fun _ => 1) (fun x => 0 ≤ x ∧ x < 256) := by
 intro H enc W fuel cs D p h _
 obtain ⟨z, rfl, _, hw⟩ := DataW.trod_int ht h
 have := bounds_u8 hw
 exact ⟨z, rfl, bulk_one D, by omega⟩
theorem op_u16 {t : TypeId} (ht : Tryz.prog.underlying t = some (.int .u16)) : OpensP t (Kd.int .u16) (fun _ => 1) i16 := by
 intro H enc W fuel cs D p h _
 obtain ⟨z, rfl, _, hw⟩ := DataW.trod_int ht h
 have := bounds_u16 hw
 exact ⟨z, rfl, bulk_one D, by unfold i16; omega⟩
theorem op_u32 {t : TypeId} (ht : Tryz.prog.underlying t = some (.int .u32)) : OpensP t (Kd.int .u32) (fun _ => 1) i32 := by
 intro H enc W fuel cs D p h _
 obtain ⟨z, rfl, _, hw⟩ := DataW.trod_int ht h
 have := bounds_u32 hw
 exact ⟨z, rfl, bulk_one D, by unfold i32; omega⟩
theorem op_i64 {t : TypeId} (ht : Tryz.prog.underlying t = some (.int .i64)) : OpensP t (Kd.int .i64) (fun _ => 1) (fun _ => True) := by
 intro H enc W fuel cs D p h _
 obtain ⟨z, rfl, _, hw⟩ := DataW.trod_int ht h
 exact ⟨z, rfl, bulk_one D, trivial⟩
theorem op_u64 {t : TypeId} (ht : Tryz.prog.underlying t = some (.int .u64)) : OpensP t (Kd.int .u64) (fun _ => 1) (fun x => 0 ≤ x ∧ x < 18446744073709551616) := by
 intro H enc W fuel cs D p h _
 obtain ⟨z, rfl, _, hw⟩ := DataW.trod_int ht h
 have := bounds_u64 hw
 exact ⟨z, rfl, bulk_one D, by omega⟩
theorem op_string {t : TypeId} (ht : Tryz.prog.underlying t = some .string) : OpensP t Kd.string (fun _ => 0) (fun _ => True) := by
 intro H enc W fuel cs D p h _
 obtain ⟨s, rfl, hx, hw⟩ := DataW.trod_string ht h
 exact ⟨s, rfl, Nat.zero_le _, trivial⟩
structure OkX (x : Chk) : Prop where
 w : XW x
 l13 : x.f13.length ≤ 140737488351232
theorem bytes_u8a : Tryz.prog.bytesOf 5 = 1 := by kernel_rfl
theorem opens_gap : OpensP 195 k195 (fun x => 1 + 1 + 1) (fun g => i16 g.f0 ∧ i16 g.f1) :=
 OpensP.iso (OpensP.struct Tryz.underlying195 (by kernel_rfl) (Seg.cons (op_u16 Tryz.underlying50) rfl (by kernel_rfl) (Seg.one (op_u16 Tryz.underlying50) rfl (by kernel_rfl)))) _ (fun p => ⟨p.1, p.2⟩) (fun _ => rfl)
theorem opens_body : OpensP 62 (Kd.slice 5 (Kd.int .u8)) (fun xs => (xs.map (fun _ => 1)).sum + 1) (fun xs => xs.length * 1 ≤ 140737488351232 ∧ ∀ x ∈ xs, 0 ≤ x ∧ x < 256) :=
 OpensP.slice (op_u8 Tryz.underlying5) Tryz.underlying62 (by kernel_rfl) 1 bytes_u8a
theorem opens_prm : OpensP 123 k123 (fun x => 1 + ((x.f1.map (fun _ => 1)).sum + 1) + 1) (fun p => i16 p.f0 ∧ p.f1.length ≤ 140737488355328 ∧ ∀ b ∈ p.f1, 0 ≤ b ∧ b < 256) :=
 OpensP.mono (OpensP.iso (OpensP.struct Tryz.underlying123 (by kernel_rfl) (Seg.cons (op_u16 Tryz.underlying50) rfl (by kernel_rfl) (Seg.one opens_body rfl (by kernel_rfl)))) _ (fun p => ⟨p.1, p.2⟩) (fun _ => rfl)) (fun x h => ⟨h.1, by have := h.2.1; simp at this; omega, h.2.2⟩)
theorem opens_chk : ∃ wt, OpensP 65 k65 wt OkX := by
 refine ⟨_, OpensP.mono (OpensP.iso (OpensP.struct Tryz.underlying65 (by kernel_rfl)
  (Seg.cons (op_u8 Tryz.underlying59) rfl (by kernel_rfl)
  (Seg.cons (op_u8 Tryz.underlying5) rfl (by kernel_rfl)
  (Seg.cons (op_u32 Tryz.underlying41) rfl (by kernel_rfl)
  (Seg.cons (op_u16 Tryz.underlying50) rfl (by kernel_rfl)
  (Seg.cons (op_u16 Tryz.underlying50) rfl (by kernel_rfl)
  (Seg.cons (op_u32 Tryz.underlying41) rfl (by kernel_rfl)
  (Seg.cons (op_u32 Tryz.underlying41) rfl (by kernel_rfl)
  (Seg.cons (op_u32 Tryz.underlying41) rfl (by kernel_rfl)
  (Seg.cons (op_u16 Tryz.underlying50) rfl (by kernel_rfl)
  (Seg.cons (op_u16 Tryz.underlying50) rfl (by kernel_rfl)
  (Seg.cons (OpensP.slice opens_gap Tryz.underlying60 (by kernel_rfl) 4 (by kernel_rfl)) rfl (by kernel_rfl)
  (Seg.cons (OpensP.slice opens_gap Tryz.underlying60 (by kernel_rfl) 4 (by kernel_rfl)) rfl (by kernel_rfl)
  (Seg.cons (OpensP.slice (op_u32 Tryz.underlying41) Tryz.underlying61 (by kernel_rfl) 4 (by kernel_rfl)) rfl (by kernel_rfl)
  (Seg.cons opens_body rfl (by kernel_rfl)
  (Seg.one (OpensP.slice opens_prm Tryz.underlying63 (by kernel_rfl) 32 (by kernel_rfl)) rfl (by kernel_rfl)))))))))))))))))
  _ (fun p => ⟨p.1, p.2.1, p.2.2.1, p.2.2.2.1, p.2.2.2.2.1, p.2.2.2.2.2.1, p.2.2.2.2.2.2.1, p.2.2.2.2.2.2.2.1, p.2.2.2.2.2.2.2.2.1, p.2.2.2.2.2.2.2.2.2.1, p.2.2.2.2.2.2.2.2.2.2.1, p.2.2.2.2.2.2.2.2.2.2.2.1, p.2.2.2.2.2.2.2.2.2.2.2.2.1, p.2.2.2.2.2.2.2.2.2.2.2.2.2.1, p.2.2.2.2.2.2.2.2.2.2.2.2.2.2⟩) (fun _ => rfl)) ?_⟩
 rintro x ⟨h0, h1, h2, h3, h4, h5, h6, h7, h8, h9, h10, h11, h12, h13, h14⟩
 exact ⟨⟨h0, h1, h2, h6, h7, h8, h9, h13.2, h14.2⟩, by have := h13.1; simpa using this⟩
def kOp : Kd Opn := Kd.iso (Kd.pair (Kd.int .i64) (Kd.pair (Kd.int .u32) (Kd.pair k65 (Kd.pair (Kd.int .i64) (Kd.pair (Kd.int .u32) (Kd.pair Kd.bool Kd.string)))))) (fun o => (o.k, o.t, o.x, o.n, o.u, o.b, o.y))
structure OkO (o : Opn) : Prop where
 t : i32 o.t
 u : i32 o.u
 x : OkX o.x
theorem opens_op : ∃ wt, OpensP 67 kOp wt OkO := by
 obtain ⟨wc, hc⟩ := opens_chk
 refine ⟨_, OpensP.mono (OpensP.iso (OpensP.struct Tryz.underlying67 (by kernel_rfl)
  (Seg.cons (op_i64 Tryz.underlying3) rfl (by kernel_rfl)
  (Seg.cons (op_u32 Tryz.underlying41) rfl (by kernel_rfl)
  (Seg.cons hc rfl (by kernel_rfl)
  (Seg.cons (op_i64 Tryz.underlying3) rfl (by kernel_rfl)
  (Seg.cons (op_u32 Tryz.underlying41) rfl (by kernel_rfl)
  (Seg.cons (OpensP.of (Opens.bool Tryz.underlying4)) rfl (by kernel_rfl)
  (Seg.one (op_string Tryz.underlying9) rfl (by kernel_rfl)))))))))
  _ (fun p => ⟨p.1, p.2.1, p.2.2.1, p.2.2.2.1, p.2.2.2.2.1, p.2.2.2.2.2.1, p.2.2.2.2.2.2⟩) (fun _ => rfl)) ?_⟩
 rintro x ⟨h0, h1, h2, h3, h4, h5, h6⟩
 exact ⟨h1, h4, h2⟩
theorem opens_ops : ∃ wt, OpensP 53 (Kd.slice 67 kOp) wt (fun xs => xs.length * 200 ≤ 140737488351232 ∧ ∀ x ∈ xs, OkO x) := by
 obtain ⟨wt, h⟩ := opens_op
 exact ⟨_, OpensP.slice h Tryz.underlying53 (by kernel_rfl) 200 (by kernel_rfl)⟩
theorem cr_of_K {w : World} {x : Chk} {cs : List Value} (h : k65.K w x cs) : ∃ L, cs = (Go.Proofs.YthiaakjbapgibaaGreat.Ch.CV x L).toList ∧ Go.Proofs.YthiaakjbapgibaaGreat.Ch.CR w x L := by
 obtain ⟨A10, c10, A11, c11, A12, c12, A13, c13, A14, c14, rfl, l10, g10, l11, g11, l12, g12, l13, g13, l14, g14⟩ := k65_open h
 exact ⟨⟨A10, c10, A11, c11, A12, c12, A13, c13, A14, c14⟩, rfl, ⟨l10, g10, l11, g11, l12, g12, l13, g13, l14, g14⟩⟩
theorem kOp_open {w : World} {o : Opn} {cs : List Value} (h : kOp.K w o cs) : ∃ L, cs = (opV o L).toList ∧ Go.Proofs.YthiaakjbapgibaaGreat.Ch.CR w o.x L := by
 obtain ⟨l1, r1, rfl, h1, l2, r2, rfl, h2, l3, r3, rfl, h3, l4, r4, rfl, h4, l5, r5, rfl, h5, l6, r6, rfl, h6, h7⟩ := h
 obtain ⟨L, rfl, hx⟩ := cr_of_K h3
 obtain rfl : l1 = [.int .i64 o.k] := h1
 obtain rfl : l2 = [.int .u32 o.t] := h2
 obtain rfl : l4 = [.int .i64 o.n] := h4
 obtain rfl : l5 = [.int .u32 o.u] := h5
 obtain rfl : l6 = [.bool o.b] := h6
 obtain rfl : r6 = [.string o.y] := h7
 exact ⟨L, rfl, hx⟩
def kKey : Kd (List UInt8) where
 sz := 16
 E := []
 K := fun _ x cs => x.length = 16 ∧ cs = x.map fun b => Value.int .u8 (b.toNat : Int)
 M := fun _ _ _ x cs => x.length = 16 ∧ cs = x.map fun b => Value.int .u8 (b.toNat : Int)
 K_len := by rintro _ x cs ⟨h, rfl⟩; simp [h]
 K_one := by rintro _ x cs ⟨h, rfl⟩ u hu; obtain ⟨b, _, rfl⟩ := List.mem_map.1 hu; rfl
 K_below := fun _ h => h
 K_of_M := fun h => h
 M_mono := fun _ h => h
 M_bound := fun h => h
 M_move := fun _ h => h
 M_lower := fun _ h => h
theorem op_key : OpensP 49 kKey (fun _ => 0) (fun l => l.length = 16) := by
 intro H enc W fuel cs D p hf _
 obtain ⟨xs, m, _, ex, hlen, hl, hel⟩ := DataW.trod_array Tryz.underlying49 hf
 have hc : Tryz.prog.cellsOf 49 = 16 := by kernel_rfl
 rw [hc] at hlen
 rw [cells_u8] at hel
 have hcell : ∀ i, i < 16 → ∃ b : UInt8, cs[i]? = some (.int .u8 (b.toNat : Int)) := by
  intro i hi
  have h1 := hel i hi
  obtain ⟨y, hy⟩ : ∃ y, xs[i]? = some y := ⟨xs[i]'(by omega), List.getElem?_eq_getElem (by omega)⟩
  rw [hy] at h1
  obtain ⟨n, h2, _, hw⟩ := DataW.trod_int Tryz.underlying5 h1
  refine ⟨UInt8.ofNat n.toNat, ?_⟩
  rw [u8_of_wf hw]
  have h3 : (cs.drop (i * 1)).take 1 = [cs[i]'(by omega)] := by
   rw [Nat.mul_one, List.drop_eq_getElem_cons (by omega)]
   rfl
  rw [h3] at h2
  injection h2 with h2
  rw [List.getElem?_eq_getElem (by omega), h2]
 refine ⟨(List.range 16).map fun i => if h : i < 16 then (hcell i h).choose else 0, ⟨by simp, ?_⟩, Nat.zero_le _, by simp⟩
 apply List.ext_getElem
 ·simp [hlen]
 ·intro i h1 h2
  have hi : i < 16 := by omega
  have := (hcell i hi).choose_spec
  have e := (List.getElem?_eq_getElem h1).symm.trans this
  rw [Option.some.inj e]
  simp [hi]
def kConf : Kd Cfg := Kd.iso (Kd.pair kKey (Kd.pair (Kd.int .u64) (Kd.pair (Kd.int .i64) (Kd.pair (Kd.int .u32) (Kd.pair (Kd.int .u16) (Kd.pair (Kd.int .u16) (Kd.pair (Kd.int .i64) (Kd.pair (Kd.int .i64) (Kd.pair (Kd.int .u16) (Kd.int .u16)))))))))) (fun K => (K.key, K.seed, K.life, K.win, K.out, K.inn, K.tries, K.lasts, K.port, K.peer))
structure OkK (K : Cfg) : Prop where
 key : K.key.length = 16
 seed : 0 ≤ K.seed ∧ K.seed < 18446744073709551616
 win : i32 K.win
 out : i16 K.out
 inn : i16 K.inn
 port : i16 K.port
 peer : i16 K.peer
theorem OkK.toKW {K : Cfg} (h : OkK K) (ho : okK K) : KW K := by
 obtain ⟨h1, h2, h3, h4, h5, h6, h7, h8, h9, h10, h11⟩ := ho
 exact ⟨h.seed, ⟨h1, h2⟩, h.win, h.out, h.inn, ⟨h8, h9⟩, ⟨h10, h11⟩, h.port, h.peer⟩
theorem opens_conf : ∃ wt, OpensP 52 kConf wt OkK := by
 refine ⟨_, OpensP.mono (OpensP.iso (OpensP.struct Tryz.underlying52 (by kernel_rfl)
  (Seg.cons op_key rfl (by kernel_rfl)
  (Seg.cons (op_u64 Tryz.underlying22) rfl (by kernel_rfl)
  (Seg.cons (op_i64 Tryz.underlying3) rfl (by kernel_rfl)
  (Seg.cons (op_u32 Tryz.underlying41) rfl (by kernel_rfl)
  (Seg.cons (op_u16 Tryz.underlying50) rfl (by kernel_rfl)
  (Seg.cons (op_u16 Tryz.underlying50) rfl (by kernel_rfl)
  (Seg.cons (op_i64 Tryz.underlying3) rfl (by kernel_rfl)
  (Seg.cons (op_i64 Tryz.underlying3) rfl (by kernel_rfl)
  (Seg.cons (op_u16 Tryz.underlying50) rfl (by kernel_rfl)
  (Seg.one (op_u16 Tryz.underlying50) rfl (by kernel_rfl))))))))))))
  _ (fun p => ⟨p.1, p.2.1, p.2.2.1, p.2.2.2.1, p.2.2.2.2.1, p.2.2.2.2.2.1, p.2.2.2.2.2.2.1, p.2.2.2.2.2.2.2.1, p.2.2.2.2.2.2.2.2.1, p.2.2.2.2.2.2.2.2.2⟩) (fun _ => rfl)) ?_⟩
 rintro x ⟨h0, h1, h2, h3, h4, h5, h6, h7, h8, h9⟩
 exact ⟨h0, h1, h3, h4, h5, h8, h9⟩
section
variable {H : Type} {enc : TypeId × Value → H} {W : World}
theorem open_conf {v : Value} {d : DataW H} {p : List MemPlace} (h : DataW.Trod enc Tryz.prog W 0 (fun _ => true) true 52 v d p) (hs : Short 52 d) : ∃ K : Cfg, v = .agg (confV K) ∧ OkK K := by
 obtain ⟨fuel, hf⟩ := h
 obtain ⟨wt, ho⟩ := opens_conf
 obtain ⟨K, hK, _, hp⟩ := ho enc W fuel _ d p hf hs
 obtain ⟨l1, r1, e1, h1, l2, r2, e2, h2, l3, r3, e3, h3, l4, r4, e4, h4, l5, r5, e5, h5, l6, r6, e6, h6, l7, r7, e7, h7, l8, r8, e8, h8, l9, r9, e9, h9, h10⟩ := hK
 have hcs : v.cells.toList = (confV K).toList := by
  rw [e1, e2, e3, e4, e5, e6, e7, e8, e9, h1.2, show l2 = [.int .u64 K.seed] from h2, show l3 = [.int .i64 K.life] from h3, show l4 = [.int .u32 K.win] from h4, show l5 = [.int .u16 K.out] from h5, show l6 = [.int .u16 K.inn] from h6, show l7 = [.int .i64 K.tries] from h7, show l8 = [.int .i64 K.lasts] from h8, show l9 = [.int .u16 K.port] from h9, show r9 = [.int .u16 K.peer] from h10]
  rfl
 obtain ⟨cs, rfl⟩ : ∃ cs, v = .agg cs := by
  cases v with
  | agg cs => exact ⟨cs, rfl⟩
  | _ =>
   have := congrArg List.length hcs
   simp [Value.cells, confV, confR, hp.key] at this
 have hcs' : cs.toList = (confV K).toList := hcs
 exact ⟨K, by rw [Array.toList_inj.1 hcs'], hp⟩
end
end Go.Proofs.YthiaakjbapgibaaGreat.As
end
section
namespace Go.Proofs.YthiaakjbapgibaaGreat.As
open Go.RowKit YthiaakjbapgibaaGreatW.PrintWords YthiaakjbapgibaaGreatW.PrintLast Base PCh
structure MI (m : Mst) : Prop where
 w : MW m
 tr : 0 ≤ m.tr ∧ m.tr ≤ 100
 s : 0 ≤ m.s ∧ m.s ≤ 7
theorem MI.of {m : Mst} (h1 : i32 m.tag) (h2 : i32 m.tsn) (h3 : i32 m.pr.f0) (h4 : i32 m.pr.f1) (h5 : i32 m.pr.f2) (h6 : i16 m.pr.f3) (h7 : i16 m.pr.f4) (h8 : 0 ≤ m.tr ∧ m.tr ≤ 100) (h9 : 0 ≤ m.s ∧ m.s ≤ 7) : MI m := ⟨⟨h1, h2, h3, h4, h5, h6, h7⟩, h8, h9⟩
theorem i32_0 : i32 0 := by unfold i32; omega
theorem i16_0 : i16 0 := by unfold i16; omega
theorem MI.zero (m : Mst) : MI (zeroM m) := MI.of i32_0 i32_0 i32_0 i32_0 i32_0 i16_0 i16_0 (by show (0 : Int) ≤ 0 ∧ (0 : Int) ≤ 100; decide) (by show (0 : Int) ≤ 0 ∧ (0 : Int) ≤ 7; decide)
theorem MI.new (K : Cfg) : MI (newM K) := MI.of i32_0 i32_0 i32_0 i32_0 i32_0 i16_0 i16_0 (by show (0 : Int) ≤ 0 ∧ (0 : Int) ≤ 100; decide) (by show (0 : Int) ≤ 0 ∧ (0 : Int) ≤ 7; decide)
theorem MI.tr1000 {m : Mst} (h : MI m) : 0 ≤ m.tr ∧ m.tr ≤ 1000 := ⟨h.tr.1, by have := h.tr.2; omega⟩
section
variable {K : Cfg} {m m' : Mst} {xs : List Act'} {tag now : Int} {x : Chk}
theorem MI.st (h : MI m) {s : Int} (hs : 0 ≤ s ∧ s ≤ 7) : MI { m with s := s } := MI.of h.w.tag h.w.tsn h.w.p0 h.w.p1 h.w.p2 h.w.p3 h.w.p4 h.tr hs
theorem MI.stt (h : MI m) {s t : Int} (hs : 0 ≤ s ∧ s ≤ 7) (ht : 0 ≤ t ∧ t ≤ 100) : MI { m with s := s, tr := t } := MI.of h.w.tag h.w.tsn h.w.p0 h.w.p1 h.w.p2 h.w.p3 h.w.p4 ht hs
theorem MI.t (h : MI m) {t : Int} (ht : 0 ≤ t ∧ t ≤ 100) : MI { m with tr := t } := MI.of h.w.tag h.w.tsn h.w.p0 h.w.p1 h.w.p2 h.w.p3 h.w.p4 ht h.s
theorem MI.d (h : MI m) (n : Int) : MI { m with d := n } := MI.of h.w.tag h.w.tsn h.w.p0 h.w.p1 h.w.p2 h.w.p3 h.w.p4 h.tr h.s
theorem open_MI (h : MI m) (e : openP K m = .ok (m', xs)) : MI m' := by
 unfold openP at e
 split at e
 ·cases e
  exact MI.of (tagD_32 _) (tsnD_32 _) h.w.p0 h.w.p1 h.w.p2 h.w.p3 h.w.p4 (by dsimp only; omega) (by dsimp only; omega)
 ·cases e
theorem shut_MI {em : Bool} {cum : Int} (h : MI m) (e : shutP K m em cum = .ok (m', xs)) : MI m' := by
 unfold shutP at e
 split at e
 ·cases em <;> cases e
  ·exact h.st (by omega)
  ·exact h.stt (by omega) (by omega)
 ·cases e
theorem empty_MI {cum : Int} (h : MI m) (e : emptyP K m cum = .ok (m', xs)) : MI m' := by
 unfold emptyP at e
 split at e
 ·cases e
  exact h.stt (by omega) (by omega)
 split at e
 ·cases e
  exact h.stt (by omega) (by omega)
 ·cases e
  exact h
theorem again_MI {cum : Int} (h : MI m) (e : againP K m cum = .ok (m', xs)) : MI m' := by
 unfold againP at e
 split at e <;> cases e <;> exact h
theorem exp_MI {timer cum : Int} (hK : KW K) (h : MI m) (e : expP K m timer cum = .ok (m', xs)) : MI m' := by
 have h1 := h.tr
 have h2 := hK.tries
 have h3 := hK.lasts
 unfold expP at e
 split at e
 ·split at e
  ·cases e; exact MI.zero m
  ·split at e <;> cases e <;> exact h.t (by omega)
 split at e
 ·split at e
  ·cases e; exact MI.zero m
  ·split at e <;> cases e <;> exact h.t (by omega)
 split at e
 ·cases e; exact MI.zero m
 ·cases e
theorem ab_MI {y : ByteArray} (h : MI m) (e : abP m y = .ok (m', xs)) : MI m' := by
 unfold abP at e
 split at e
 ·cases e
 split at e
 ·cases e
 split at e <;> cases e <;> exact MI.zero m
theorem abort_MI (h : MI m) (e : abortP m tag x = .ok (m', xs)) : MI m' := by
 unfold abortP at e
 split at e
 ·cases e
 split at e
 ·cases e
 ·cases e; exact MI.zero m
theorem done_MI (h : MI m) (e : doneP m tag x = .ok (m', xs)) : MI m' := by
 unfold doneP at e
 split at e
 ·cases e
 split at e
 ·cases e
 split at e
 ·cases e; exact MI.zero m
 ·cases e
theorem cack_MI (h : MI m) (e : cackP m tag x = .ok (m', xs)) : MI m' := by
 unfold cackP at e
 split at e
 ·cases e
 split at e
 ·cases e
 split at e
 ·cases e; exact h.st (by omega)
 ·cases e
theorem other_MI (h : MI m) (e : otherP m tag x = .ok (m', xs)) : MI m' := by
 unfold otherP at e
 split at e
 ·cases e; exact h
 split at e
 ·cases e
 split at e
 ·cases e
 ·cases e; exact h
theorem down_MI (h : MI m) (e : downP m tag x = .ok (m', xs)) : MI m' := by
 unfold downP at e
 split at e
 ·exact other_MI h e
 split at e
 ·cases e
 split at e
 ·cases e; exact h.st (by omega)
 split at e
 ·cases e; exact h.stt (by omega) (by omega)
 split at e
 ·cases e; exact h
 ·cases e
theorem sack_MI (h : MI m) (e : sackP m tag x = .ok (m', xs)) : MI m' := by
 unfold sackP at e
 split at e
 ·cases e; exact h
 split at e
 ·cases e
 split at e
 ·cases e; exact MI.zero m
 ·cases e
theorem ans_MI {t n a b : Int} (h : MI m) (e : ansP K m x now t n a b = .ok (m', xs)) : MI m' := by
 unfold ansP at e
 cases e; exact h
theorem init_MI (h : MI m) (e : initP K m tag x now = .ok (m', xs)) : MI m' := by
 unfold initP at e
 split at e
 ·cases e
 split at e
 ·cases e
 split at e
 ·cases e; exact h
 split at e
 ·cases e; exact h
 split at e
 ·exact ans_MI h e
 split at e
 ·exact ans_MI h e
 split at e
 ·exact ans_MI (h.d _) e
 ·exact ans_MI (h.d _) e
theorem iack_MI (hK : KW K) (hX : XW x) (h : MI m) (e : iackP K m tag x = .ok (m', xs)) : MI m' := by
 unfold iackP at e
 split at e
 ·cases e
 split at e
 ·cases e
 split at e
 ·split at e
  ·cases e; exact MI.zero m
  split at e
  ·cases e; exact MI.zero m
  ·cases e
   exact MI.of h.w.tag h.w.tsn hX.f6 hX.f2 hX.f7 (min16 hK.out hX.f9) (min16 hK.inn hX.f8) (by dsimp only; omega) (by dsimp only; omega)
 ·cases e
theorem fail_MI (hK : KW K) (h : MI m) (e : failP K m tag x = .ok (m', xs)) : MI m' := by
 have h1 := h.tr
 have h2 := hK.tries
 unfold failP at e
 split at e
 ·cases e
 split at e
 ·cases e
 split at e
 ·cases e
 split at e
 ·split at e
  ·cases e; exact MI.zero m
  ·cases e
   exact MI.of h.w.tag h.w.tsn i32_0 i32_0 i32_0 i16_0 i16_0 (by dsimp only; omega) (by dsimp only; omega)
 ·cases e; exact h
theorem V32 (l : List UInt8) (i : Nat) (hi : Go.Proofs.YthiaakjbapgibaaGreat.Ck.nF i = 4) : i32 (valF l i : Nat) := by
 have h := Go.Proofs.YthiaakjbapgibaaGreat.Ck.valF_lt l i
 rw [hi] at h
 unfold i32
 have : valF l i < 4294967296 := h
 omega
theorem V16 (l : List UInt8) (i : Nat) (hi : Go.Proofs.YthiaakjbapgibaaGreat.Ck.nF i = 2) : i16 (valF l i : Nat) := by
 have h := Go.Proofs.YthiaakjbapgibaaGreat.Ck.valF_lt l i
 rw [hi] at h
 unfold i16
 have : valF l i < 65536 := h
 omega
theorem est_MI {l : List UInt8} (h : MI m) (e : estP m (valF l) = .ok (m', xs)) : MI m' := by
 unfold estP at e
 cases e
 exact MI.of h.w.tag h.w.tsn (V32 l 5 rfl) (V32 l 7 rfl) (V32 l 8 rfl) (V16 l 9 rfl) (V16 l 10 rfl) h.tr (by dsimp only; omega)
theorem restart_MI {l : List UInt8} (h : MI m) (e : restartP m (valF l) = .ok (m', xs)) : MI m' := by
 unfold restartP at e
 split at e
 ·cases e
 split at e
 ·cases e; exact h
 ·cases e
  exact MI.of (V32 l 4 rfl) (V32 l 6 rfl) (V32 l 5 rfl) (V32 l 7 rfl) (V32 l 8 rfl) (V16 l 9 rfl) (V16 l 10 rfl) (by dsimp only; omega) (by dsimp only; omega)
theorem echo_MI (h : MI m) (e : echoP K m tag x now = .ok (m', xs)) : MI m' := by
 unfold echoP echoQ at e
 split at e
 ·cases e
 split at e
 ·cases e
 split at e
 ·cases e
 split at e
 ·cases e; exact h
 split at e
 ·cases e
  exact MI.of (V32 _ 4 rfl) (V32 _ 6 rfl) (V32 _ 5 rfl) (V32 _ 7 rfl) (V32 _ 8 rfl) (V16 _ 9 rfl) (V16 _ 10 rfl) h.tr (by dsimp only; omega)
 split at e
 ·split at e
  ·exact est_MI h e
  ·cases e; exact h
 split at e
 ·split at e
  ·exact est_MI h e
  ·cases e
 split at e
 ·exact restart_MI h e
 ·cases e
set_option maxHeartbeats 4000000 in
theorem take_MI (hK : KW K) (hX : XW x) (h : MI m) (e : takeP K m tag x now = .ok (m', xs)) : MI m' := by
 unfold takeP at e
 generalize checkD x = cd at e
 generalize hi : initP K m tag x now = r1 at e
 generalize hii : iackP K m tag x = r2 at e
 generalize he : echoP K m tag x now = r3 at e
 split at e
 ·cases e
 split at e
 ·cases e
 split at e
 ·cases e
 split at e
 ·exact init_MI h (hi.trans e)
 split at e
 ·exact iack_MI hK hX h (hii.trans e)
 split at e
 ·exact echo_MI h (he.trans e)
 split at e
 ·exact cack_MI h e
 split at e
 ·exact fail_MI hK h e
 split at e
 ·exact abort_MI h e
 split at e
 ·exact done_MI h e
 split at e
 ·exact sack_MI h e
 split at e
 ·exact down_MI h e
 ·exact other_MI h e
theorem do_MI {o : Opn} (hK : KW K) (hX : XW o.x) (h : MI m) (e : doP K m o = .ok (m', xs)) : MI m' := by
 unfold doP at e
 split at e
 ·exact open_MI h e
 split at e
 ·exact take_MI hK hX h e
 split at e
 ·exact exp_MI hK h e
 split at e
 ·exact shut_MI h e
 split at e
 ·exact empty_MI h e
 split at e
 ·exact again_MI h e
 split at e
 ·exact ab_MI h e
 ·cases e; exact h
end
def aft (m : Mst) : Out → Mst
 | .ok (m', _) => m'
 | .error _ => m
theorem aft_MI {K : Cfg} {m : Mst} {o : Opn} (hK : KW K) (hX : XW o.x) (h : MI m) : MI (aft m (doP K m o)) := by
 cases e : doP K m o with
 | error c => exact h
 | ok r => obtain ⟨m', xs⟩ := r; exact do_MI hK hX h e
theorem CallP.aft {B : Nat} {g : Nat} {K : Cfg} {m : Mst} {r : Out} {w w' : World} {e : Ending} (h : CallP B g K m r w e w') : Only (· = g) w w' ∧ MR B g K (aft m r) w' := by
 cases r with
 | error c => exact ⟨h.1, h.2.2⟩
 | ok q => obtain ⟨m', xs⟩ := q; exact ⟨h.1, h.2.2⟩
theorem CallP.kq {B : Nat} {g : Nat} {K : Cfg} {m : Mst} {r : Out} {w w' : World} {e : Ending} (h : CallP B g K m r w e w') (hM : MR B g K m w) : Kq B w w' := by
 obtain ⟨cs, hr⟩ := hM.row
 exact Kq.of_g h.1 hM.1 hr rfl
end Go.Proofs.YthiaakjbapgibaaGreat.As
end
section
namespace Go.Proofs.YthiaakjbapgibaaGreat.Ch
open Go.RowKit YthiaakjbapgibaaGreatW.PrintWords Base PCh ParEnc ParDec ParCauses
theorem int_at {k : IntKind} {w : World} {A : Option Addr} {n : Nat} {l : List Int} (h : (Kd.int k).C w A n l) (i : Nat) (hi : i < n) : ∃ ad, A = some ad ∧ w.cell? (ad.add i) = some (.int k (l.getD i 0)) := by
 obtain ⟨_, _, h3⟩ := Kd.reads_of_C (enc := Value.int k) (d := (0 : Int)) (h1 := fun _ => rfl) h
 obtain ⟨ad, e, hc⟩ := h3 (by omega)
 exact ⟨ad, e, hc i hi⟩
end Go.Proofs.YthiaakjbapgibaaGreat.Ch
end
section
namespace Go.Proofs.YthiaakjbapgibaaGreat.Ch
open Go.RowKit YthiaakjbapgibaaGreatW.PrintWords Base PCh ParDec
theorem R_only {α : Type} {d : Kd α} {e : Nat} {w w' : World} {base : Nat} {ok : Nat → Prop} {v : Value} {xs : List α} {S : Nat → Prop} (h : d.R e w base ok v xs) (o : Only S w w') (hs : ∀ k, base ≤ k → k < w.heap.size → ¬ S k) : d.R e w' base ok v xs :=
 Kd.R_mono (Kd.R_move (Kd.R_bound h) (fun k hk => o.block k hk.2.2.1 (hs k hk.2.1 hk.2.2.1))) (fun k hk => hk.1)
end Go.Proofs.YthiaakjbapgibaaGreat.Ch
end
section
namespace Go.Proofs.YthiaakjbapgibaaGreat.Ch
open Go.RowKit YthiaakjbapgibaaGreatW.PrintWords Base PCh
def WS (w : World) (gw : Nat) (xs : List Int) : Prop := ∃ u, w.heap[gw]? = some (.cells #[u] 168 (0, 0)) ∧ (Kd.int .u8).R 5 w (gw + 1) (fun k => k ≠ gw) u xs
theorem Fr.grown {gw base : Nat} {a b c : World} {u : Value} {xs : List Int} {ok : Nat → Prop} (h : Fr gw a b) (hR : (Kd.int .u8).R 5 b base ok u xs) (hB : Below gw b c) (hG : b.grownBy c u.ownBlock) : Fr gw a c :=
 ⟨h.below.trans hB, fun k cells t h1 h2 h3 => blk_grown (h.kept k cells t h1 h2 h3) hG (Kd.R_ne hR (h.kept k cells t h1 h2 h3) (fun e => h1 e.symm))⟩
theorem Fr.C_lit {gw g t n : Nat} {w W : World} {cells : Array Value} {kk : IntKind} {ns : List Int} (h : Fr gw w W) (h1 : t ≠ 5) (h2 : t ≠ 168) (hg : w.heap[g]? = some (.cells cells t (0, 0))) (hC : (Kd.int kk).C w (some ⟨g, 0, none⟩) n ns) : (Kd.int kk).C W (some ⟨g, 0, none⟩) n ns := by
 obtain ⟨e1, e2, e3⟩ := hC
 refine ⟨e1, e2, fun hn => ?_⟩
 obtain ⟨ad, e, hc⟩ := e3 hn
 injection e with e
 subst e
 refine ⟨_, rfl, fun j p hj => ?_⟩
 obtain ⟨cs, c1, c2, c3⟩ := hc j p hj
 refine ⟨cs, c1, c2, fun i u hu => ?_⟩
 have := c3 i u hu
 have hb : (Addr.add ⟨g, 0, none⟩ (j * (Kd.int kk).sz + i)).block = g := add_block _ _
 unfold World.cell? at this ⊢
 rw [hb, h.kept g cells t h1 h2 hg]
 rw [hb, hg] at this
 exact this
theorem twoL_length (l : List Int) : (twoL l).length = 2 * l.length := by
 induction l with
 | nil => rfl
 | cons n r ih => simp only [twoL, List.length_append, List.length_cons, List.length_nil, ih]; omega
theorem fourL_length (l : List Int) : (fourL l).length = 4 * l.length := by
 induction l with
 | nil => rfl
 | cons n r ih => simp only [fourL, List.length_append, List.length_cons, List.length_nil, ih]; omega
set_option maxHeartbeats 2000000 in
theorem wtwo_calls (w : World) (gw : Nat) (xs : List Int) (A : Option Addr) (c : Nat) (ns : List Int) (hs : WS w gw xs) (hA : ∀ W, Fr gw w W → (Kd.int .u16).C W A ns.length ns) (hx : xs.length + 2 * ns.length ≤ 140737488355328) :
  Calls Tryz.prog 141 #[.pointer (some ⟨gw, 0, none⟩), .slice A ns.length c] w fun e w' => e = .returned (.tuple #[]) ∧ WS w' gw (xs ++ twoL ns) ∧ Fr gw w w' := by
 have HS := Lh hs
 have HA := Lh hA
 have hm := (hA w (Fr.refl _ _)).2.1
 clear hs hA
 go_enter Tryz.func141, Tryz.ntmps141
 go_wp2
 go_loopw [5, 8] (fun v5 v8 wr => ∃ (i : Nat) (ys : List Int), i ≤ ns.length ∧ v8 = .int .i64 (i : Int) ∧ Hid (ys.length = xs.length + 2 * i) ∧ Hid (ys ++ twoL (ns.drop i) = xs ++ twoL ns) ∧ Hid (WS wr gw ys) ∧ Hid (Fr gw w wr)) (fun _ v8 _ => ns.length - (intOf v8).toNat)
 case atStart => exact ⟨0, xs, Nat.zero_le _, rfl, (by show _ = _; omega), rfl, HS.out, Fr.refl _ _⟩
 case round =>
  clear HS
  obtain ⟨i, ys, hi, rfl, HYL, HE, HW, HF⟩ := hrel
  by_cases hlt : i < ns.length
  ·obtain ⟨ad, rfl, x0⟩ := int_at (HA.out wr HF.out) i hlt
   obtain ⟨u, hg, hR⟩ := HW.out
   obtain ⟨Au, cu, rfl⟩ := Kd.R_slice hR
   have hE := HE.out
   have hd : ns.drop i = ns.getD i 0 :: ns.drop (i + 1) := by
    rw [List.drop_eq_getElem_cons hlt]
    congr 1
    simp [List.getD_eq_getElem?_getD, hlt]
   rw [hd, twoL] at hE
   generalize ns.getD i 0 = q at *
   have hE2 : (ys ++ [q / 256 % 256, q % 256]) ++ twoL (ns.drop (i + 1)) = xs ++ twoL ns := by rw [List.append_assoc]; exact hE
   have HE2 := Lh hE2
   have HG := Lh hg
   have HR := Lh hR
   have k0 : wr.cell? ⟨gw, 0, none⟩ = some (.slice Au ys.length cu) := blk_cell hg 0
   have HLT := Lh (blk_lt hg)
   clear hE hE2 hd HE HW hg hR
   go_wp2_with (at_builtin; go_must (refine Kd.R_append_row (Value.int .u8) (0 : Int) (w0 := wr.alloc (.cells #[.int .u8 (q / 256 % 256), .int .u8 (q % 256)] 5)) (W := wr.alloc (.cells #[.int .u8 (q / 256 % 256), .int .u8 (q % 256)] 5)) (gw + 1) rfl _ _ 62 5 _ 1 rfl Tryz.underlying62 info_u8 rfl (by decide) (.slice Au ys.length cu) ys [q / 256 % 256, q % 256] (some ⟨wr.heap.size, 0, none⟩) 2 2 (fun k => k ≠ gw) rfl rfl (fun k hk => by have := HLT.out; simp at hk; omega) (Kd.R_alloc HR.out _) (row_lit (Kd.int .u8) rfl wr 5 [.int .u8 (q / 256 % 256), .int .u8 (q % 256)] [q / 256 % 256, q % 256] rfl (by simp) (fun j v p hv hp => by rcases j with _ | _ | j <;> simp at hv hp <;> (subst hv; subst hp; rfl))) (Below.refl _ _) (by have := HLT.out; simp; omega) (by have := HYL.out; omega) ?_); (intro v1 w1 hR1 hB1 hG1 _; have HR1 := Lh hR1; have HB1 := Lh hB1; have HGR := Lh hG1; clear hR1 hB1 hG1; refine RowKit.Hid.out ?_))
   refine Lh ?_
   obtain ⟨A7, c7, hv1⟩ := Kd.R_slice HR1.out
   subst hv1
   have hown : (Value.slice Au ys.length cu).ownBlock ≠ some gw := fun e => (Kd.R_alloc HR.out (.cells #[.int .u8 (q / 256 % 256), .int .u8 (q % 256)] 5)).1 _ e rfl
   have hg1 := blk_grown (blk_alloc HG.out (.cells #[.int .u8 (q / 256 % 256), .int .u8 (q % 256)] 5)) HGR.out (fun e => hown e.symm)
   have hs := blk_cell hg1 0
   have hf := blk_frozen hg1 0
   have HG1 := Lh hg1
   have HF1 := Lh (Fr.grown (HF.out.alloc (Nat.le_of_lt HLT.out) (.cells #[.int .u8 (q / 256 % 256), .int .u8 (q % 256)] 5)) (Kd.R_alloc HR.out _) (HB1.out.mono (Nat.le_succ _)) HGR.out)
   have HR2 := Lh (Kd.R_far HR1.out (p := ⟨gw, 0, none⟩) (fun k hk => hk) (.slice A7 (ys ++ [q / 256 % 256, q % 256]).length c7))
   rw [show (ys ++ [q / 256 % 256, q % 256]).length = ys.length + 2 by simp] at HR2
   clear hg1 HGR HB1 HF HR HG k0
   go_wp2
   go_roundw
   case rel => exact ⟨i + 1, ys ++ [q / 256 % 256, q % 256], by omega, by go_num, (by have := HYL.out; show _ = _; simp only [List.length_append, List.length_cons, List.length_nil]; omega), HE2, ⟨_, blk_put HG1.out 0 _ rfl, HR2.out⟩, HF1.out.set HG1.out 0 _⟩
   case measure => simp [intOf]; omega
  ·obtain rfl : i = ns.length := by omega
   have hE := HE.out
   rw [List.drop_length, twoL, List.append_nil] at hE
   have HE2 := Lh hE
   clear hE HE HA
   go_wp2
   go_end0
   exact ⟨rfl, by rw [← HE2.out]; exact HW.out, HF.out⟩
set_option maxHeartbeats 2000000 in
theorem wfour_calls (w : World) (gw : Nat) (xs : List Int) (A : Option Addr) (c : Nat) (ns : List Int) (hs : WS w gw xs) (hA : ∀ W, Fr gw w W → (Kd.int .u32).C W A ns.length ns) (hx : xs.length + 4 * ns.length ≤ 140737488355328) :
  Calls Tryz.prog 140 #[.pointer (some ⟨gw, 0, none⟩), .slice A ns.length c] w fun e w' => e = .returned (.tuple #[]) ∧ WS w' gw (xs ++ fourL ns) ∧ Fr gw w w' := by
 have HS := Lh hs
 have HA := Lh hA
 have hm := (hA w (Fr.refl _ _)).2.1
 clear hs hA
 go_enter Tryz.func140, Tryz.ntmps140
 go_wp2
 go_loopw [5, 8] (fun v5 v8 wr => ∃ (i : Nat) (ys : List Int), i ≤ ns.length ∧ v8 = .int .i64 (i : Int) ∧ Hid (ys.length = xs.length + 4 * i) ∧ Hid (ys ++ fourL (ns.drop i) = xs ++ fourL ns) ∧ Hid (WS wr gw ys) ∧ Hid (Fr gw w wr)) (fun _ v8 _ => ns.length - (intOf v8).toNat)
 case atStart => exact ⟨0, xs, Nat.zero_le _, rfl, (by show _ = _; omega), rfl, HS.out, Fr.refl _ _⟩
 case round =>
  clear HS
  obtain ⟨i, ys, hi, rfl, HYL, HE, HW, HF⟩ := hrel
  by_cases hlt : i < ns.length
  ·obtain ⟨ad, rfl, x0⟩ := int_at (HA.out wr HF.out) i hlt
   obtain ⟨u, hg, hR⟩ := HW.out
   obtain ⟨Au, cu, rfl⟩ := Kd.R_slice hR
   have hE := HE.out
   have hd : ns.drop i = ns.getD i 0 :: ns.drop (i + 1) := by
    rw [List.drop_eq_getElem_cons hlt]
    congr 1
    simp [List.getD_eq_getElem?_getD, hlt]
   rw [hd, fourL] at hE
   generalize ns.getD i 0 = q at *
   have hE2 : (ys ++ [q / 16777216 % 256, q / 65536 % 256, q / 256 % 256, q % 256]) ++ fourL (ns.drop (i + 1)) = xs ++ fourL ns := by rw [List.append_assoc]; exact hE
   have HE2 := Lh hE2
   have HG := Lh hg
   have HR := Lh hR
   have k0 : wr.cell? ⟨gw, 0, none⟩ = some (.slice Au ys.length cu) := blk_cell hg 0
   have HLT := Lh (blk_lt hg)
   clear hE hE2 hd HE HW hg hR
   go_wp2_with (at_builtin; go_must (refine Kd.R_append_row (Value.int .u8) (0 : Int) (w0 := wr.alloc (.cells #[.int .u8 (q / 16777216 % 256), .int .u8 (q / 65536 % 256), .int .u8 (q / 256 % 256), .int .u8 (q % 256)] 5)) (W := wr.alloc (.cells #[.int .u8 (q / 16777216 % 256), .int .u8 (q / 65536 % 256), .int .u8 (q / 256 % 256), .int .u8 (q % 256)] 5)) (gw + 1) rfl _ _ 62 5 _ 1 rfl Tryz.underlying62 info_u8 rfl (by decide) (.slice Au ys.length cu) ys [q / 16777216 % 256, q / 65536 % 256, q / 256 % 256, q % 256] (some ⟨wr.heap.size, 0, none⟩) 4 4 (fun k => k ≠ gw) rfl rfl (fun k hk => by have := HLT.out; simp at hk; omega) (Kd.R_alloc HR.out _) (row_lit (Kd.int .u8) rfl wr 5 [.int .u8 (q / 16777216 % 256), .int .u8 (q / 65536 % 256), .int .u8 (q / 256 % 256), .int .u8 (q % 256)] [q / 16777216 % 256, q / 65536 % 256, q / 256 % 256, q % 256] rfl (by simp) (fun j v p hv hp => by rcases j with _ | _ | _ | _ | j <;> simp at hv hp <;> (subst hv; subst hp; rfl))) (Below.refl _ _) (by have := HLT.out; simp; omega) (by have := HYL.out; omega) ?_); (intro v1 w1 hR1 hB1 hG1 _; have HR1 := Lh hR1; have HB1 := Lh hB1; have HGR := Lh hG1; clear hR1 hB1 hG1; refine RowKit.Hid.out ?_))
   refine Lh ?_
   obtain ⟨A7, c7, hv1⟩ := Kd.R_slice HR1.out
   subst hv1
   have hown : (Value.slice Au ys.length cu).ownBlock ≠ some gw := fun e => (Kd.R_alloc HR.out (.cells #[.int .u8 (q / 16777216 % 256), .int .u8 (q / 65536 % 256), .int .u8 (q / 256 % 256), .int .u8 (q % 256)] 5)).1 _ e rfl
   have hg1 := blk_grown (blk_alloc HG.out (.cells #[.int .u8 (q / 16777216 % 256), .int .u8 (q / 65536 % 256), .int .u8 (q / 256 % 256), .int .u8 (q % 256)] 5)) HGR.out (fun e => hown e.symm)
   have hs := blk_cell hg1 0
   have hf := blk_frozen hg1 0
   have HG1 := Lh hg1
   have HF1 := Lh (Fr.grown (HF.out.alloc (Nat.le_of_lt HLT.out) (.cells #[.int .u8 (q / 16777216 % 256), .int .u8 (q / 65536 % 256), .int .u8 (q / 256 % 256), .int .u8 (q % 256)] 5)) (Kd.R_alloc HR.out _) (HB1.out.mono (Nat.le_succ _)) HGR.out)
   have HR2 := Lh (Kd.R_far HR1.out (p := ⟨gw, 0, none⟩) (fun k hk => hk) (.slice A7 (ys ++ [q / 16777216 % 256, q / 65536 % 256, q / 256 % 256, q % 256]).length c7))
   rw [show (ys ++ [q / 16777216 % 256, q / 65536 % 256, q / 256 % 256, q % 256]).length = ys.length + 4 by simp] at HR2
   clear hg1 HGR HB1 HF HR HG k0
   go_wp2
   go_roundw
   case rel => exact ⟨i + 1, ys ++ [q / 16777216 % 256, q / 65536 % 256, q / 256 % 256, q % 256], by omega, by go_num, (by have := HYL.out; show _ = _; simp only [List.length_append, List.length_cons, List.length_nil]; omega), HE2, ⟨_, blk_put HG1.out 0 _ rfl, HR2.out⟩, HF1.out.set HG1.out 0 _⟩
   case measure => simp [intOf]; omega
  ·obtain rfl : i = ns.length := by omega
   have hE := HE.out
   rw [List.drop_length, fourL, List.append_nil] at hE
   have HE2 := Lh hE
   clear hE HE HA
   go_wp2
   go_end0
   exact ⟨rfl, by rw [← HE2.out]; exact HW.out, HF.out⟩
end Go.Proofs.YthiaakjbapgibaaGreat.Ch
end
section
namespace Go.Proofs.YthiaakjbapgibaaGreat.Ch
open Go.RowKit YthiaakjbapgibaaGreatW.PrintWords YthiaakjbapgibaaGreatW.PrintLast Base PCh ParDec ParEnc
def valAT8 : Bool × List (List Nat × List Nat) := (true, [([], []), ([], []), ([1], [1]), ([2], [2]), ([3], [3]), ([], []), ([5], [5]), ([4, 6], [4, 6]), ([0, 0, 1, 2, 3, 4, 5, 6, 7], [0]), ([8, 0, 1, 2, 3, 4, 5, 6, 7], [8]), ([9, 7, 7, 0, 1, 2, 3, 4, 5, 6, 7], [7, 9])])
def valAB8 : List Nat := [0, 0, 2, 6, 14, 0, 32, 126, 255, 511, 1023]
theorem valAtab8 : Go.Proofs.YthiaakjbapgibaaGreatW.PrintLast.rtab .any (Go.Proofs.YthiaakjbapgibaaGreatW.PrintLast.opsOf Tryz.f107 8) = valAT8 := by kernel_rfl
theorem valAbits8 : Go.Proofs.YthiaakjbapgibaaGreatW.PrintLast.waitsOk valAT8.2 valAB8 = true := by kernel_rfl
theorem ValQ.of_R {b0 base : Nat} {ok : Nat → Prop} {v : Value} {xs : List Int} {w w' : World} (hR : (Kd.int .u8).R 5 w' base ok v xs) (hb : w.heap.size ≤ base) (hB : Below w.heap.size w w') : ValQ b0 xs w (.returned v) w' := by
 obtain ⟨A, c, rfl, hle, hC⟩ := Kd.R_reads hR
 refine ⟨A, c, rfl, hle, fun W hO => ?_, hB⟩
 obtain ⟨A2, c2, he, _, hC2⟩ := Kd.R_reads (R_only hR hO (fun k hk _ h => by omega))
 injection he with e1 _ _
 rw [e1]
 exact hC2
theorem wfour_lit (w : World) (gw : Nat) (xs ns : List Int) (vs : List Value) (n : Nat) (hv : vs = ns.map (Value.int .u32)) (hn : ns.length = n) (hs : WS w gw xs) (hx : xs.length + 4 * ns.length ≤ 140737488355328) :
  Calls Tryz.prog 140 #[.pointer (some ⟨gw, 0, none⟩), .slice (some ⟨w.heap.size, 0, none⟩) n n] (w.alloc (.cells vs.toArray 41)) fun e w' => e = .returned (.tuple #[]) ∧ WS w' gw (xs ++ fourL ns) ∧ Fr gw w w' := by
 subst hn
 obtain ⟨u, hg, hR⟩ := hs
 have hlt := blk_lt hg
 have hC : (Kd.int .u32).C (w.alloc (.cells vs.toArray 41)) (some ⟨w.heap.size, 0, none⟩) ns.length ns := row_lit (Kd.int .u32) rfl w _ vs ns (by rw [hv, List.length_map]) (by omega) (fun j v p h1 h2 => by
  rw [hv, List.getElem?_map, h2] at h1
  injection h1 with h1
  subst h1
  rfl)
 refine (wfour_calls (w.alloc (.cells vs.toArray 41)) gw xs (some ⟨w.heap.size, 0, none⟩) ns.length ns ⟨u, blk_alloc hg _, Kd.R_alloc hR _⟩ (fun W hF => hF.C_lit (by decide) (by decide) (blk_new _ _) hC) hx).mono ?_
 rintro e w' ⟨h1, h2, h3⟩
 exact ⟨h1, h2, ((Fr.refl gw w).alloc (Nat.le_of_lt hlt) _).trans h3⟩
theorem wtwo_lit (w : World) (gw : Nat) (xs ns : List Int) (vs : List Value) (n : Nat) (hv : vs = ns.map (Value.int .u16)) (hn : ns.length = n) (hs : WS w gw xs) (hx : xs.length + 2 * ns.length ≤ 140737488355328) :
  Calls Tryz.prog 141 #[.pointer (some ⟨gw, 0, none⟩), .slice (some ⟨w.heap.size, 0, none⟩) n n] (w.alloc (.cells vs.toArray 50)) fun e w' => e = .returned (.tuple #[]) ∧ WS w' gw (xs ++ twoL ns) ∧ Fr gw w w' := by
 subst hn
 obtain ⟨u, hg, hR⟩ := hs
 have hlt := blk_lt hg
 have hC : (Kd.int .u16).C (w.alloc (.cells vs.toArray 50)) (some ⟨w.heap.size, 0, none⟩) ns.length ns := row_lit (Kd.int .u16) rfl w _ vs ns (by rw [hv, List.length_map]) (by omega) (fun j v p h1 h2 => by
  rw [hv, List.getElem?_map, h2] at h1
  injection h1 with h1
  subst h1
  rfl)
 refine (wtwo_calls (w.alloc (.cells vs.toArray 50)) gw xs (some ⟨w.heap.size, 0, none⟩) ns.length ns ⟨u, blk_alloc hg _, Kd.R_alloc hR _⟩ (fun W hF => hF.C_lit (by decide) (by decide) (blk_new _ _) hC) hx).mono ?_
 rintro e w' ⟨h1, h2, h3⟩
 exact ⟨h1, h2, ((Fr.refl gw w).alloc (Nat.le_of_lt hlt) _).trans h3⟩
end Go.Proofs.YthiaakjbapgibaaGreat.Ch
end
