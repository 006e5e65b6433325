/- The statement ChunkOwn of ropewalk/ropewalklaw06.ChunkOwn, where what it reads is of bulk at most 1048576. Proved from the walk Ch.own_row. -/
import Derived.Test.YtjmadnpicidbeaaOa5
import Derived.Lib.SlBytesConst
section
namespace Go.Proofs.Ytjmadnpicidbeaa.Ch
open Go.RowKit Go.Proofs.YtjmadnpicidbeaaW.PrintWords Go.Proofs.YtjmadnpicidbeaaW.PrintLast Go.Proofs.Ytjmadnpicidbeaa.Base Go.Proofs.Ytjmadnpicidbeaa.PCh Go.Proofs.Ytjmadnpicidbeaa.ParDec
set_option maxRecDepth 100000
set_option linter.unusedVariables false
set_option linter.unusedSimpArgs false
set_option maxHeartbeats 4000000 in
theorem rread_l3 (w : World) (A : Option Addr) (c : Nat) (v : List UInt8) (fl : Int) (hb : byte.C w A v.length v) (hc : v.length ≤ c) (hv : v.length ≤ 140737488355232) :
  Calls Try.prog 29 #[.agg (freshV 3 fl), .slice A v.length c] w (RReadP w (readLists false 3 0 v)) := by
 have HP := Lib.hid (fun (W : World) (h : Below w.heap.size w W) => rlists_sack W A c v (Kd.C_below hb h) hc hv)
 have X := Bx.new w (freshV 3 fl)
 clear hb
 go_enter Try.func29, Try.ntmps29
 go_upto_region 1 with (fail)
 refine wp_gen (Bx w (freshV 3 fl)) X ?_
 clear X
 intro W X
 have k0 : W.cell? ⟨w.heap.size, 0, none⟩ = some (.int .u8 3) := X.cell 0
 have k1 : W.cell? ⟨w.heap.size, 1, none⟩ = some (.int .u8 fl) := X.cell 1
 have f1 := X.frozen 1
 go_upto_region 21 with (fail)
 refine wp_gen (Bx w (freshV 3 0)) (X.set 1 _) ?_
 clear X k0 k1 f1 W
 intro W X
 have HWZ := Lib.hid X.x3
 go_wp2_with (with_reducible refine gate_dst (N := 77) rfl ?_; go_must (refine wpList_load_row rfl 30 (.tmp 2) rfl _ rfl 30 _ (0, 0) _ X.x0 Try.underlying30 rfl (by kernel_rfl) ?_))
 refine (HP.out W X.x2).mono ?_
 rintro e w1 ⟨cs, code, rfl, hsz, hone, hB, hP⟩
 have Y := X.below hB
 have HPP := Lib.hid hP
 have hsz2 : (Try.prog.info? 30).map (·.size) = some cs.size := by rw [hsz]; kernel_rfl
 have HSZ := Lib.hid hsz
 have HSZ2 := Lib.hid hsz2
 have HOLD := Lib.hid (show zerV.size = cs.size by rw [hsz]; rfl)
 clear hP hB hsz hsz2
 go_wp2_with (with_reducible refine gate_store (p := 4) rfl ?_; go_must (refine wpList_store_row rfl 30 (.tmp 4) (.tmp 80) rfl _ cs rfl rfl 30 zerV Y.x1 HSZ2.out HOLD.out hone ?_))
 exact ret_pass rfl rfl rfl rfl Y.x1 HSZ.out hone Y.x2 (Nat.le_succ _) (by have := HWZ.out; omega) HPP.out
set_option maxHeartbeats 4000000 in
theorem rread_l16 (w : World) (A : Option Addr) (c : Nat) (v : List UInt8) (fl : Int) (hb : byte.C w A v.length v) (hc : v.length ≤ c) (hv : v.length ≤ 140737488355232) :
  Calls Try.prog 29 #[.agg (freshV 16 fl), .slice A v.length c] w (RReadP w (readLists true 16 0 v)) := by
 have HP := Lib.hid (fun (W : World) (h : Below w.heap.size w W) => rlists_nr W A c v (Kd.C_below hb h) hc hv)
 have X := Bx.new w (freshV 16 fl)
 clear hb
 go_enter Try.func29, Try.ntmps29
 go_upto_region 1 with (fail)
 refine wp_gen (Bx w (freshV 16 fl)) X ?_
 clear X
 intro W X
 have k0 : W.cell? ⟨w.heap.size, 0, none⟩ = some (.int .u8 16) := X.cell 0
 have k1 : W.cell? ⟨w.heap.size, 1, none⟩ = some (.int .u8 fl) := X.cell 1
 have f1 := X.frozen 1
 go_upto_region 21 with (fail)
 refine wp_gen (Bx w (freshV 16 0)) (X.set 1 _) ?_
 clear X k0 k1 f1 W
 intro W X
 have HWZ := Lib.hid X.x3
 go_wp2_with (with_reducible refine gate_dst (N := 77) rfl ?_; go_must (refine wpList_load_row rfl 30 (.tmp 2) rfl _ rfl 30 _ (0, 0) _ X.x0 Try.underlying30 rfl (by kernel_rfl) ?_))
 refine (HP.out W X.x2).mono ?_
 rintro e w1 ⟨cs, code, rfl, hsz, hone, hB, hP⟩
 have Y := X.below hB
 have HPP := Lib.hid hP
 have hsz2 : (Try.prog.info? 30).map (·.size) = some cs.size := by rw [hsz]; kernel_rfl
 have HSZ := Lib.hid hsz
 have HSZ2 := Lib.hid hsz2
 have HOLD := Lib.hid (show zerV.size = cs.size by rw [hsz]; rfl)
 clear hP hB hsz hsz2
 go_wp2_with (with_reducible refine gate_store (p := 4) rfl ?_; go_must (refine wpList_store_row rfl 30 (.tmp 4) (.tmp 80) rfl _ cs rfl rfl 30 zerV Y.x1 HSZ2.out HOLD.out hone ?_))
 exact ret_pass rfl rfl rfl rfl Y.x1 HSZ.out hone Y.x2 (Nat.le_succ _) (by have := HWZ.out; omega) HPP.out
theorem keepL_nil (p : Nat → Bool) : keepL p ⟨none, 0, none, 0, none, 0, none, 0, none, 0⟩ = ⟨none, 0, none, 0, none, 0, none, 0, none, 0⟩ := by
 unfold keepL
 cases p 10 <;> cases p 11 <;> cases p 12 <;> cases p 13 <;> cases p 14 <;> rfl
set_option maxHeartbeats 4000000 in
theorem rread_none (w : World) (A : Option Addr) (c : Nat) (v : List UInt8) (kd fl : Int) (hk : kd = 8 ∨ kd = 11 ∨ kd = 14) (h0' : 0 ≤ fl) (h1 : fl < 256) (hb : byte.C w A v.length v) (hc : v.length ≤ c) (hv : v.length ≤ 140737488355232) :
  Calls Try.prog 29 #[.agg (freshV kd fl), .slice A v.length c] w (RReadP w (readNone kd (flD kd fl) v)) := by
 have HO := fresh_one kd fl
 have HK := Lib.hid (show 0 ≤ kd by omega)
 have q0 : (kd == 0) = false := by rcases hk with h | h | h <;> simp [h]
 have q1 : (kd == 1) = false := by rcases hk with h | h | h <;> simp [h]
 have q2 : (kd == 2) = false := by rcases hk with h | h | h <;> simp [h]
 have q3 : (kd == 3) = false := by rcases hk with h | h | h <;> simp [h]
 have q16 : (kd == 16) = false := by rcases hk with h | h | h <;> simp [h]
 have q4 : (kd == 4) = false := by rcases hk with h | h | h <;> simp [h]
 have q5 : (kd == 5) = false := by rcases hk with h | h | h <;> simp [h]
 have q9 : (kd == 9) = false := by rcases hk with h | h | h <;> simp [h]
 have q6 : (kd == 6) = false := by rcases hk with h | h | h <;> simp [h]
 have q7 : (kd == 7) = false := by rcases hk with h | h | h <;> simp [h]
 have hq : (kd == 8) = true ∨ ((kd == 8) = false ∧ (kd == 11) = true) ∨ ((kd == 8) = false ∧ (kd == 11) = false ∧ (kd == 14) = true) := by rcases hk with h | h | h <;> simp [h]
 clear hk
 have X := Bx.new w (freshV kd fl)
 clear hb
 go_enter Try.func29, Try.ntmps29
 go_upto_region 1 with (fail)
 refine wp_gen (Bx w (freshV kd fl)) X ?_
 clear X
 intro W X
 have k0 : W.cell? ⟨w.heap.size, 0, none⟩ = some (.int .u8 kd) := X.cell 0
 by_cases h0 : v.length = 0
 ·have q : ((v.length : Int) != 0) = false := by simp [h0]
  have HR := Lib.hid (show readNone kd (flD kd fl) v = .ok (chk0 kd (flD kd fl)) by unfold readNone; rw [if_pos h0])
  have HBR := Lib.hid (rbare_calls W (chk0 kd fl) ⟨none, 0, none, 0, none, 0, none, 0, none, 0⟩ HK.out h0' h1)
  have HF := Lib.hid (show bareD (chk0 kd fl) = chk0 kd (flD kd fl) by unfold bareD keepF chk0; simp)
  rw [HF.out] at HBR
  clear h0
  have HW := Lib.hid (show CV (chk0 kd fl) ⟨none, 0, none, 0, none, 0, none, 0, none, 0⟩ = freshV kd fl from rfl)
  rw [HW.out] at HBR
  have HL := Lib.hid (show CV (chk0 kd (flD kd fl)) (keepL (hasF (chk0 kd fl).f0) ⟨none, 0, none, 0, none, 0, none, 0, none, 0⟩) = #[.int .u8 kd, .int .u8 (flD kd fl), .int .u32 0, .int .u16 0, .int .u16 0, .int .u32 0, .int .u32 0, .int .u32 0, .int .u16 0, .int .u16 0, .slice none 0 0, .slice none 0 0, .slice none 0 0, .slice none 0 0, .slice none 0 0] by rw [keepL_nil]; rfl)
  rw [HL.out] at HBR
  rcases hq with q8 | ⟨q8, q11⟩ | ⟨q8, q11, q14⟩
  all_goals
   go_wp2_with (with_reducible refine gate_dst (N := 122) rfl ?_; go_must (refine wpList_load_row rfl 30 (.tmp 2) rfl _ rfl 30 _ (0, 0) _ X.x0 Try.underlying30 rfl (by kernel_rfl) ?_))
   refine HBR.out.mono ?_
   rintro e w1 ⟨rfl, hB⟩
   replace X := X.below hB
   clear hB
   have k1 : w1.cell? ⟨w.heap.size, 1, none⟩ = some (.int .u8 fl) := X.cell 1
   have f1 := X.frozen 1
   have hfv : ∀ W : World, (Instr.field 30 (.agg #[.int .u8 kd, .int .u8 (flD kd fl), .int .u32 0, .int .u16 0, .int .u16 0, .int .u32 0, .int .u32 0, .int .u32 0, .int .u16 0, .int .u16 0, .slice none 0 0, .slice none 0 0, .slice none 0 0, .slice none 0 0, .slice none 0 0]) 1).run Try.prog W = .ok (.int .u8 (flD kd fl)) W := fun _ => by kernel_rfl
   go_upto_region 41 with (fail)
   refine wp_gen (Bx w (freshV kd (flD kd fl))) (X.set 1 _) ?_
   clear X k0 k1 f1 HO W HBR
   intro W X
   go_wp2_with (with_reducible refine gate_dst (N := 126) rfl ?_; go_must (refine wpList_ret_row 126 rfl rfl rfl (.tmp 2) (.tmp 4) rfl rfl rfl _ _ _ _ rfl rfl rfl X.x0 X.x1 rfl rfl (fresh_one _ _) ?_))
   exact ret_good rfl rfl rfl rfl X.x1 HR.out rfl (fresh_one _ _) X.x2 (Nat.le_succ _) (mnil _ _ _ _)
 ·have q : ((v.length : Int) != 0) = true := by rw [bne_iff_ne]; omega
  have HR := Lib.hid (show readNone kd (flD kd fl) v = .error 61 by unfold readNone; rw [if_neg h0])
  rcases hq with q8 | ⟨q8, q11⟩ | ⟨q8, q11, q14⟩
  all_goals
   go_wp2_with (with_reducible refine gate_dst (N := 121) rfl ?_; go_must (refine wpList_ret_row 121 rfl rfl rfl (.tmp 2) (.tmp 4) rfl rfl rfl _ _ _ _ rfl rfl rfl X.x0 X.x1 rfl rfl HO ?_))
   exact ret_bad rfl rfl rfl rfl X.x1 HR.out rfl HO X.x2 (Nat.le_succ _)
end Go.Proofs.Ytjmadnpicidbeaa.Ch
end
section
namespace Go.Proofs.Ytjmadnpicidbeaa.Ch
open Go.RowKit Go.Proofs.YtjmadnpicidbeaaW.PrintWords Go.Proofs.YtjmadnpicidbeaaW.PrintLast Go.Proofs.Ytjmadnpicidbeaa.Base Go.Proofs.Ytjmadnpicidbeaa.PCh Go.Proofs.Ytjmadnpicidbeaa.ParDec
set_option maxRecDepth 100000
set_option linter.unusedVariables false
set_option linter.unusedSimpArgs false
set_option maxHeartbeats 4000000 in
theorem rread_data (w : World) (A : Option Addr) (c : Nat) (v : List UInt8) (fl : Int) (h0 : 0 ≤ fl) (hb : byte.C w A v.length v) (hc : v.length ≤ c) (hv : v.length ≤ 140737488355232) :
  Calls Try.prog 29 #[.agg (freshV 0 fl), .slice A v.length c] w (RReadP w (readData 0 (fl % 8) v)) := by
 have HG := Lib.hid (fun (W : World) (h : Below w.heap.size w W) (at_ n : Nat) (z y : Int) (hz : z = (at_ : Int)) (hy : y = (n : Int)) (hn : n ≤ 4) (hh : at_ + n ≤ v.length) => get_calls W A v c (Kd.C_below hb h) hc (by omega) at_ n z y hz hy hn hh)
 have HBC := Lib.hid (fun (W : World) (h : Below w.heap.size w W) => Kd.C_below hb h)
 have X := Bx.new w (freshV 0 fl)
 have HO := fresh_one 0 fl
 clear hb
 go_enter Try.func29, Try.ntmps29
 go_upto_region 1 with (fail)
 refine wp_gen (Bx w (freshV 0 fl)) X ?_
 clear X
 intro W X
 have k0 : W.cell? ⟨w.heap.size, 0, none⟩ = some (.int .u8 0) := X.cell 0
 by_cases h12 : v.length = 12
 ·have q : ((v.length : Int) == 12) = true := by simp [h12]
  have HR := Lib.hid (show readData 0 (fl % 8) v = .error 62 by unfold readData; rw [if_neg (by omega), if_pos h12])
  go_wp2_with (with_reducible refine gate_dst (N := 13) rfl ?_; go_must (refine wpList_ret_row 13 rfl rfl rfl (.tmp 2) (.tmp 4) rfl rfl rfl _ _ _ _ rfl rfl rfl X.x0 X.x1 rfl rfl HO ?_))
  exact ret_bad rfl rfl rfl rfl X.x1 HR.out rfl HO X.x2 (Nat.le_succ _)
 have q : ((v.length : Int) == 12) = false := by simp; omega
 by_cases hlt : v.length < 12
 ·have HR := Lib.hid (show readData 0 (fl % 8) v = .error 61 by unfold readData; rw [if_pos hlt])
  clear h12
  go_wp2_with (with_reducible refine gate_dst (N := 17) rfl ?_; go_must (refine wpList_ret_row 17 rfl rfl rfl (.tmp 2) (.tmp 4) rfl rfl rfl _ _ _ _ rfl rfl rfl X.x0 X.x1 rfl rfl HO ?_))
  exact ret_bad rfl rfl rfl rfl X.x1 HR.out rfl HO X.x2 (Nat.le_succ _)
 have HR := Lib.hid (show readData 0 (fl % 8) v = .ok ⟨0, fl % 8, (be (v.take 4) : Nat), (be ((v.drop 4).take 2) : Nat), (be ((v.drop 6).take 2) : Nat), (be ((v.drop 8).take 4) : Nat), 0, 0, 0, 0, [], [], [], intsL (v.drop 12), []⟩ by unfold readData; rw [if_neg hlt, if_neg h12])
 have k1 : W.cell? ⟨w.heap.size, 1, none⟩ = some (.int .u8 fl) := X.cell 1
 have f1 := X.frozen 1
 go_upto_region 8 with (fail)
 refine wp_gen (Bx w (freshV 0 (fl % 8))) (X.set 1 _) ?_
 clear X k0 k1 f1 W HO
 intro W X
 have k2 : W.cell? ⟨w.heap.size, 2, none⟩ = _ := X.cell 2
 have k3 : W.cell? ⟨w.heap.size, 3, none⟩ = _ := X.cell 3
 have k4 : W.cell? ⟨w.heap.size, 4, none⟩ = _ := X.cell 4
 have k5 : W.cell? ⟨w.heap.size, 5, none⟩ = _ := X.cell 5
 have f2 := X.frozen 2
 have f3 := X.frozen 3
 have f4 := X.frozen 4
 have f5 := X.frozen 5
 go_wp2_with fail
 refine (HG.out _ X.x2 0 4 _ _ rfl rfl (by decide) (by omega)).mono ?_
 rintro e w1 ⟨rfl, ⟨m1, rfl⟩⟩
 go_wp2_with fail
 refine (HG.out _ (pw_below_drewN X.x2 _) 4 2 _ _ rfl rfl (by decide) (by omega)).mono ?_
 rintro e w1 ⟨rfl, ⟨m2, rfl⟩⟩
 go_wp2_with fail
 refine (HG.out _ (pw_below_drewN X.x2 _) 6 2 _ _ rfl rfl (by decide) (by omega)).mono ?_
 rintro e w1 ⟨rfl, ⟨m3, rfl⟩⟩
 go_wp2_with fail
 refine (HG.out _ (pw_below_drewN X.x2 _) 8 4 _ _ rfl rfl (by decide) (by omega)).mono ?_
 rintro e w1 ⟨rfl, ⟨m4, rfl⟩⟩
 go_upto_region 9 with (fail)
 simp only [u16_be]
 refine wp_gen (Bx w #[.int .u8 0, .int .u8 (fl % 8), .int .u32 ((be (v.take 4) : Nat) : Int), .int .u16 ((be ((v.drop 4).take 2) : Nat) : Int), .int .u16 ((be ((v.drop 6).take 2) : Nat) : Int), .int .u32 ((be ((v.drop 8).take 4) : Nat) : Int), .int .u32 0, .int .u32 0, .int .u16 0, .int .u16 0, .slice none 0 0, .slice none 0 0, .slice none 0 0, .slice none 0 0, .slice none 0 0]) (((((X.drewN _).set 2 _).set 3 _).set 4 _).set 5 _) ?_
 clear X k2 k3 k4 k5 f2 f3 f4 f5 W
 intro W X
 obtain ⟨A', hdr, hdC, hdl⟩ := drop_bytes (HBC.out W X.x2) hc 12 12 rfl (by omega)
 have HCD := Lib.hid (fun (W' : World) (h : Below W.heap.size W W') => by
  have h2 := C_intsL (Kd.C_below hdC h)
  rw [List.length_drop] at h2
  exact h2)
 have HLD := Lib.hid (show (v.drop 12).length ≤ 140737488355232 by rw [List.length_drop]; omega)
 clear hdC
 go_wp2_with (first | (with_reducible refine gate_dst (N := 36) rfl ?_; go_must (refine Kd.R_lit (Kd.int .u8) (w0 := W) W.heap.size 5 rfl rfl (xs := []) (inner := []) (ok := fun _ => True) (okp := fun _ => True) (by go_simp; try rfl) (reps_nil _) (fun _ _ => trivial) trivial (Below.refl _ _) (Nat.le_refl _) (by simp) ?_); (intro v1 w1 hR1 hB1 hG1 _; have HR1 := Lib.hid hR1; have HB1 := Lib.hid hB1; clear hR1 hB1 hG1)) | (at_builtin; go_must (refine Kd.R_append_row (Value.int .u8) (0 : Int) (w0 := W) (W := w1) W.heap.size rfl _ _ 22 5 _ 1 rfl Try.underlying22 info_u8 rfl (by decide) v1 [] (intsL (v.drop 12)) _ _ _ (fun _ => True) rfl rfl (fun _ _ => trivial) HR1.out (HCD.out _ HB1.out) HB1.out HB1.out.size (by have := HLD.out; simp; omega) ?_); (intro v2 w2 hR2 hB2 hG2 _; have HR2 := Lib.hid hR2; have HB2 := Lib.hid hB2; clear hR2 hB2 hG2; refine RowKit.Hid.out ?_)))
 refine Lib.hid ?_
 have Y := X.below HB2.out
 have k13 : w2.cell? ⟨w.heap.size, 13, none⟩ = _ := Y.cell 13
 have f13 := Y.frozen 13
 obtain ⟨A2, c2, e2⟩ := Kd.R_slice HR2.out
 go_upto_region 10 with (fail)
 subst e2
 refine wp_gen (fun W' => Bx w #[.int .u8 0, .int .u8 (fl % 8), .int .u32 ((be (v.take 4) : Nat) : Int), .int .u16 ((be ((v.drop 4).take 2) : Nat) : Int), .int .u16 ((be ((v.drop 6).take 2) : Nat) : Int), .int .u32 ((be ((v.drop 8).take 4) : Nat) : Int), .int .u32 0, .int .u32 0, .int .u16 0, .int .u16 0, .slice none 0 0, .slice none 0 0, .slice none 0 0, .slice A2 (intsL (v.drop 12)).length c2, .slice none 0 0] W' ∧ (Kd.int .u8).R 5 W' W.heap.size (fun _ => True) (.slice A2 (intsL (v.drop 12)).length c2) (intsL (v.drop 12))) ⟨Y.set 13 _, R_only HR2.out ((Only.refl (· = w.heap.size) _).setCell (fun _ => rfl) _) (fun k hk _ h => by have := X.x3; omega)⟩ ?_
 have HSZ := Lib.hid X.x3
 clear X Y k13 f13 hdr HCD HBC HG HLD HR1 HB1 HR2 HB2
 rintro W3 ⟨X, R3⟩
 go_wp2_with (with_reducible refine gate_dst (N := 41) rfl ?_; go_must (refine wpList_ret_row 41 rfl rfl rfl (.tmp 2) (.tmp 4) rfl rfl rfl _ _ _ _ rfl rfl rfl X.x0 X.x1 rfl rfl (by simp [Value.oneCell']) ?_))
 refine ret_good rfl rfl rfl rfl X.x1 HR.out rfl (by simp [Value.oneCell']) X.x2 (Nat.le_succ _) (k30_mkM _ _ _ _ (Kd.R_nil _ _ _ _ _) (Kd.R_nil _ _ _ _ _) (Kd.R_nil _ _ _ _ _) ?_ (Kd.R_nil _ _ _ _ _))
 exact Kd.R_lower (R_only R3 (setRow_only _ _ _) (fun k hk _ h => by have := HSZ.out; omega)) (by have := HSZ.out; omega)
end Go.Proofs.Ytjmadnpicidbeaa.Ch
end
section
namespace Go.Proofs.Ytjmadnpicidbeaa.Ch
open Go.RowKit Go.Proofs.YtjmadnpicidbeaaW.PrintWords Go.Proofs.YtjmadnpicidbeaaW.PrintLast Go.Proofs.Ytjmadnpicidbeaa.Base Go.Proofs.Ytjmadnpicidbeaa.PCh Go.Proofs.Ytjmadnpicidbeaa.ParDec
set_option maxRecDepth 100000
set_option linter.unusedVariables false
set_option linter.unusedSimpArgs false
set_option maxHeartbeats 4000000 in
theorem rread_shut (w : World) (A : Option Addr) (c : Nat) (v : List UInt8) (fl : Int) (hb : byte.C w A v.length v) (hc : v.length ≤ c) (hv : v.length ≤ 140737488355232) :
  Calls Try.prog 29 #[.agg (freshV 7 fl), .slice A v.length c] w (RReadP w (readShut 7 0 v)) := by
 have HG := Lib.hid (fun (W : World) (h : Below w.heap.size w W) (at_ n : Nat) (z y : Int) (hz : z = (at_ : Int)) (hy : y = (n : Int)) (hn : n ≤ 4) (hh : at_ + n ≤ v.length) => get_calls W A v c (Kd.C_below hb h) hc (by omega) at_ n z y hz hy hn hh)
 have HBC := Lib.hid (fun (W : World) (h : Below w.heap.size w W) => Kd.C_below hb h)
 have HO := fresh_one 7 fl
 have X := Bx.new w (freshV 7 fl)
 clear hb
 go_enter Try.func29, Try.ntmps29
 go_upto_region 1 with (fail)
 refine wp_gen (Bx w (freshV 7 fl)) X ?_
 clear X
 intro W X
 have k0 : W.cell? ⟨w.heap.size, 0, none⟩ = some (.int .u8 7) := X.cell 0
 by_cases h4 : v.length = 4
 ·have q : ((v.length : Int) != 4) = false := by simp [h4]
  have HR := Lib.hid (show readShut 7 0 v = .ok ⟨7, 0, (be v : Nat), 0, 0, 0, 0, 0, 0, 0, [], [], [], [], []⟩ by unfold readShut; rw [if_pos h4])
  have HV := Lib.hid (show v.take 4 = v from List.take_of_length_le (by omega))
  have h5 : 4 ≤ v.length := by omega
  clear h4
  have k1 : W.cell? ⟨w.heap.size, 1, none⟩ = some (.int .u8 fl) := X.cell 1
  have f1 := X.frozen 1
  have k2 : W.cell? ⟨w.heap.size, 2, none⟩ = some (.int .u32 0) := X.cell 2
  have f2 := X.frozen 2
  go_wp2_with fail
  refine (HG.out _ X.x2 0 4 _ _ rfl rfl (by decide) (by omega)).mono ?_
  rintro e w1 ⟨rfl, ⟨m0, rfl⟩⟩
  go_upto_region 34 with (fail)
  (first | rw [List.drop_zero, HV.out] | rw [HV.out])
  refine wp_gen (Bx w (#[.int .u8 7, .int .u8 0, .int .u32 ((be v : Nat) : Int), .int .u16 0, .int .u16 0, .int .u32 0, .int .u32 0, .int .u32 0, .int .u16 0, .int .u16 0, .slice none 0 0, .slice none 0 0, .slice none 0 0, .slice none 0 0, .slice none 0 0])) (((X.drewN _).set 1 _).set 2 _) ?_
  clear X k0 k1 f1 k2 f2 HO W
  intro W X
  go_wp2_with (with_reducible refine gate_dst (N := 113) rfl ?_; go_must (refine wpList_ret_row 113 rfl rfl rfl (.tmp 2) (.tmp 4) rfl rfl rfl _ _ _ _ rfl rfl rfl X.x0 X.x1 rfl rfl (by simp [Value.oneCell']) ?_))
  exact ret_good rfl rfl rfl rfl X.x1 HR.out rfl (by simp [Value.oneCell']) X.x2 (Nat.le_succ _) (k30_mkM _ _ _ _ (Kd.R_nil _ _ _ _ _) (Kd.R_nil _ _ _ _ _) (Kd.R_nil _ _ _ _ _) (Kd.R_nil _ _ _ _ _) (Kd.R_nil _ _ _ _ _))
 ·have q : ((v.length : Int) != 4) = true := by simp; omega
  have HR := Lib.hid (show readShut 7 0 v = .error 61 by unfold readShut; rw [if_neg h4])
  go_wp2_with (with_reducible refine gate_dst (N := 108) rfl ?_; go_must (refine wpList_ret_row 108 rfl rfl rfl (.tmp 2) (.tmp 4) rfl rfl rfl _ _ _ _ rfl rfl rfl X.x0 X.x1 rfl rfl HO ?_))
  exact ret_bad rfl rfl rfl rfl X.x1 HR.out rfl HO X.x2 (Nat.le_succ _)
set_option maxHeartbeats 4000000 in
theorem rread_echo (w : World) (A : Option Addr) (c : Nat) (v : List UInt8) (fl : Int) (hb : byte.C w A v.length v) (hc : v.length ≤ c) (hv : v.length ≤ 140737488355232) :
  Calls Try.prog 29 #[.agg (freshV 10 fl), .slice A v.length c] w (RReadP w (readBody 10 0 v)) := by
 have HG := Lib.hid (fun (W : World) (h : Below w.heap.size w W) (at_ n : Nat) (z y : Int) (hz : z = (at_ : Int)) (hy : y = (n : Int)) (hn : n ≤ 4) (hh : at_ + n ≤ v.length) => get_calls W A v c (Kd.C_below hb h) hc (by omega) at_ n z y hz hy hn hh)
 have HBC := Lib.hid (fun (W : World) (h : Below w.heap.size w W) => Kd.C_below hb h)
 have HO := fresh_one 10 fl
 have X := Bx.new w (freshV 10 fl)
 clear hb
 go_enter Try.func29, Try.ntmps29
 go_upto_region 1 with (fail)
 refine wp_gen (Bx w (freshV 10 fl)) X ?_
 clear X
 intro W X
 have k0 : W.cell? ⟨w.heap.size, 0, none⟩ = some (.int .u8 10) := X.cell 0
 have k1 : W.cell? ⟨w.heap.size, 1, none⟩ = some (.int .u8 fl) := X.cell 1
 have f1 := X.frozen 1
 go_upto_region 44 with (fail)
 refine wp_gen (Bx w (freshV 10 0)) (X.set 1 _) ?_
 clear X k0 k1 f1 HO W
 intro W X
 have HR := Lib.hid (show readBody 10 0 v = .ok ⟨10, 0, 0, 0, 0, 0, 0, 0, 0, 0, [], [], [], intsL v, []⟩ from rfl)
 have HCD := Lib.hid (fun (W' : World) (h : Below W.heap.size W W') => C_intsL (Kd.C_below (HBC.out W X.x2) h))
 have HLD := Lib.hid (show v.length ≤ 140737488355232 from hv)
 go_wp2_with (first | (with_reducible refine gate_dst (N := 130) rfl ?_; go_must (refine Kd.R_lit (Kd.int .u8) (w0 := W) W.heap.size 5 rfl rfl (xs := []) (inner := []) (ok := fun _ => True) (okp := fun _ => True) (by go_simp; try rfl) (reps_nil _) (fun _ _ => trivial) trivial (Below.refl _ _) (Nat.le_refl _) (by simp) ?_); (intro v1 w1 hR1 hB1 hG1 _; have HR1 := Lib.hid hR1; have HB1 := Lib.hid hB1; clear hR1 hB1 hG1)) | (at_builtin; go_must (refine Kd.R_append_row (Value.int .u8) (0 : Int) (w0 := W) (W := w1) W.heap.size rfl _ _ 22 5 _ 1 rfl Try.underlying22 info_u8 rfl (by decide) v1 [] (intsL v) _ _ _ (fun _ => True) rfl rfl (fun _ _ => trivial) HR1.out (HCD.out _ HB1.out) HB1.out HB1.out.size (by have := HLD.out; simp; omega) ?_); (intro v2 w2 hR2 hB2 hG2 _; have HR2 := Lib.hid hR2; have HB2 := Lib.hid hB2; clear hR2 hB2 hG2; refine RowKit.Hid.out ?_)))
 refine Lib.hid ?_
 have Y := X.below HB2.out
 have k13 : w2.cell? ⟨w.heap.size, 13, none⟩ = _ := Y.cell 13
 have f13 := Y.frozen 13
 obtain ⟨A2, c2, e2⟩ := Kd.R_slice HR2.out
 go_upto_region 45 with (fail)
 subst e2
 refine wp_gen (fun W' => Bx w #[.int .u8 10, .int .u8 0, .int .u32 0, .int .u16 0, .int .u16 0, .int .u32 0, .int .u32 0, .int .u32 0, .int .u16 0, .int .u16 0, .slice none 0 0, .slice none 0 0, .slice none 0 0, .slice A2 (intsL v).length c2, .slice none 0 0] W' ∧ (Kd.int .u8).R 5 W' W.heap.size (fun _ => True) (.slice A2 (intsL v).length c2) (intsL v)) ⟨Y.set 13 _, R_only HR2.out ((Only.refl (· = w.heap.size) _).setCell (fun _ => rfl) _) (fun k hk _ h => by have := X.x3; omega)⟩ ?_
 have HSZ := Lib.hid X.x3
 clear X Y k13 f13 HCD HBC HG HLD HR1 HB1 HR2 HB2
 rintro W3 ⟨X, R3⟩
 go_wp2_with (with_reducible refine gate_dst (N := 134) rfl ?_; go_must (refine wpList_ret_row 134 rfl rfl rfl (.tmp 2) (.tmp 4) rfl rfl rfl _ _ _ _ rfl rfl rfl X.x0 X.x1 rfl rfl (by simp [Value.oneCell']) ?_))
 refine ret_good rfl rfl rfl rfl X.x1 HR.out rfl (by simp [Value.oneCell']) X.x2 (Nat.le_succ _) (k30_mkM _ _ _ _ (Kd.R_nil _ _ _ _ _) (Kd.R_nil _ _ _ _ _) (Kd.R_nil _ _ _ _ _) ?_ (Kd.R_nil _ _ _ _ _))
 exact Kd.R_lower (R_only R3 (setRow_only _ _ _) (fun k hk _ h => by have := HSZ.out; omega)) (by have := HSZ.out; omega)
set_option maxHeartbeats 4000000 in
theorem rread_body (w : World) (A : Option Addr) (c : Nat) (v : List UInt8) (kd fl : Int) (hk : ∀ c ∈ ([0, 1, 2, 3, 16, 4, 5, 9, 6, 7, 8, 11, 14, 10] : List Int), kd ≠ c) (hb : byte.C w A v.length v) (hc : v.length ≤ c) (hv : v.length ≤ 140737488355232) :
  Calls Try.prog 29 #[.agg (freshV kd fl), .slice A v.length c] w (RReadP w (readBody kd fl v)) := by
 have HG := Lib.hid (fun (W : World) (h : Below w.heap.size w W) (at_ n : Nat) (z y : Int) (hz : z = (at_ : Int)) (hy : y = (n : Int)) (hn : n ≤ 4) (hh : at_ + n ≤ v.length) => get_calls W A v c (Kd.C_below hb h) hc (by omega) at_ n z y hz hy hn hh)
 have HBC := Lib.hid (fun (W : World) (h : Below w.heap.size w W) => Kd.C_below hb h)
 have HO := fresh_one kd fl
 have q0 : (kd == 0) = false := by simpa using hk 0 (by decide)
 have q1 : (kd == 1) = false := by simpa using hk 1 (by decide)
 have q2 : (kd == 2) = false := by simpa using hk 2 (by decide)
 have q3 : (kd == 3) = false := by simpa using hk 3 (by decide)
 have q16 : (kd == 16) = false := by simpa using hk 16 (by decide)
 have q4 : (kd == 4) = false := by simpa using hk 4 (by decide)
 have q5 : (kd == 5) = false := by simpa using hk 5 (by decide)
 have q9 : (kd == 9) = false := by simpa using hk 9 (by decide)
 have q6 : (kd == 6) = false := by simpa using hk 6 (by decide)
 have q7 : (kd == 7) = false := by simpa using hk 7 (by decide)
 have q8 : (kd == 8) = false := by simpa using hk 8 (by decide)
 have q11 : (kd == 11) = false := by simpa using hk 11 (by decide)
 have q14 : (kd == 14) = false := by simpa using hk 14 (by decide)
 have q10 : (kd == 10) = false := by simpa using hk 10 (by decide)
 clear hk
 have X := Bx.new w (freshV kd fl)
 clear hb
 go_enter Try.func29, Try.ntmps29
 go_upto_region 1 with (fail)
 refine wp_gen (Bx w (freshV kd fl)) X ?_
 clear X
 intro W X
 have k0 : W.cell? ⟨w.heap.size, 0, none⟩ = some (.int .u8 kd) := X.cell 0
 go_upto_region 44 with (fail)
 have HR := Lib.hid (show readBody kd fl v = .ok ⟨kd, fl, 0, 0, 0, 0, 0, 0, 0, 0, [], [], [], intsL v, []⟩ from rfl)
 have HCD := Lib.hid (fun (W' : World) (h : Below W.heap.size W W') => C_intsL (Kd.C_below (HBC.out W X.x2) h))
 have HLD := Lib.hid (show v.length ≤ 140737488355232 from hv)
 go_wp2_with (first | (with_reducible refine gate_dst (N := 130) rfl ?_; go_must (refine Kd.R_lit (Kd.int .u8) (w0 := W) W.heap.size 5 rfl rfl (xs := []) (inner := []) (ok := fun _ => True) (okp := fun _ => True) (by go_simp; try rfl) (reps_nil _) (fun _ _ => trivial) trivial (Below.refl _ _) (Nat.le_refl _) (by simp) ?_); (intro v1 w1 hR1 hB1 hG1 _; have HR1 := Lib.hid hR1; have HB1 := Lib.hid hB1; clear hR1 hB1 hG1)) | (at_builtin; go_must (refine Kd.R_append_row (Value.int .u8) (0 : Int) (w0 := W) (W := w1) W.heap.size rfl _ _ 22 5 _ 1 rfl Try.underlying22 info_u8 rfl (by decide) v1 [] (intsL v) _ _ _ (fun _ => True) rfl rfl (fun _ _ => trivial) HR1.out (HCD.out _ HB1.out) HB1.out HB1.out.size (by have := HLD.out; simp; omega) ?_); (intro v2 w2 hR2 hB2 hG2 _; have HR2 := Lib.hid hR2; have HB2 := Lib.hid hB2; clear hR2 hB2 hG2; refine RowKit.Hid.out ?_)))
 refine Lib.hid ?_
 have Y := X.below HB2.out
 have k13 : w2.cell? ⟨w.heap.size, 13, none⟩ = _ := Y.cell 13
 have f13 := Y.frozen 13
 obtain ⟨A2, c2, e2⟩ := Kd.R_slice HR2.out
 go_upto_region 45 with (fail)
 subst e2
 refine wp_gen (fun W' => Bx w #[.int .u8 (kd), .int .u8 (fl), .int .u32 0, .int .u16 0, .int .u16 0, .int .u32 0, .int .u32 0, .int .u32 0, .int .u16 0, .int .u16 0, .slice none 0 0, .slice none 0 0, .slice none 0 0, .slice A2 (intsL v).length c2, .slice none 0 0] W' ∧ (Kd.int .u8).R 5 W' W.heap.size (fun _ => True) (.slice A2 (intsL v).length c2) (intsL v)) ⟨Y.set 13 _, R_only HR2.out ((Only.refl (· = w.heap.size) _).setCell (fun _ => rfl) _) (fun k hk _ h => by have := X.x3; omega)⟩ ?_
 have HSZ := Lib.hid X.x3
 clear X Y k13 f13 HCD HBC HG HLD HR1 HB1 HR2 HB2
 rintro W3 ⟨X, R3⟩
 go_wp2_with (with_reducible refine gate_dst (N := 134) rfl ?_; go_must (refine wpList_ret_row 134 rfl rfl rfl (.tmp 2) (.tmp 4) rfl rfl rfl _ _ _ _ rfl rfl rfl X.x0 X.x1 rfl rfl (by simp [Value.oneCell']) ?_))
 refine ret_good rfl rfl rfl rfl X.x1 HR.out rfl (by simp [Value.oneCell']) X.x2 (Nat.le_succ _) (k30_mkM _ _ _ _ (Kd.R_nil _ _ _ _ _) (Kd.R_nil _ _ _ _ _) (Kd.R_nil _ _ _ _ _) ?_ (Kd.R_nil _ _ _ _ _))
 exact Kd.R_lower (R_only R3 (setRow_only _ _ _) (fun k hk _ h => by have := HSZ.out; omega)) (by have := HSZ.out; omega)
end Go.Proofs.Ytjmadnpicidbeaa.Ch
end
section
namespace Go.Proofs.Ytjmadnpicidbeaa.Ch
open Go.RowKit Go.Proofs.YtjmadnpicidbeaaW.PrintWords Go.Proofs.YtjmadnpicidbeaaW.PrintLast Go.Proofs.Ytjmadnpicidbeaa.Base Go.Proofs.Ytjmadnpicidbeaa.PCh Go.Proofs.Ytjmadnpicidbeaa.ParDec
set_option maxRecDepth 100000
set_option linter.unusedVariables false
set_option linter.unusedSimpArgs false
theorem prmsD_err {v : List UInt8} {c : Int} (h : prmsD v = .error c) : c ≠ 0 := by
 unfold prmsD at h
 by_cases e : (decD v).2.2 = 0
 ·rw [if_pos e] at h
  cases h
 ·rw [if_neg e] at h
  injection h with h
  rw [← h]
  exact e
theorem listsD_err {nr : Bool} {v : List UInt8} {c : Int} (h : listsD nr v = .error c) : c ≠ 0 := by
 unfold listsD at h
 repeat' split at h
 all_goals first | cases h; done | (injection h with h; omega)
theorem readD_err {kd fl : Int} {v : List UInt8} {c : Int} (h : readD kd fl v = .error c) : c ≠ 0 := by
 unfold readD readData readInit readLists readPrms readShut readNone readBody at h
 repeat' split at h
 all_goals first | (cases h; done) | (injection h with h; omega) | (rename_i e; injection h with h; subst h; first | exact prmsD_err e | exact listsD_err e)
theorem rread_calls (w : World) (A : Option Addr) (c : Nat) (v : List UInt8) (kd fl : Int) (hk0 : 0 ≤ kd) (h0 : 0 ≤ fl) (h1 : fl < 256) (hb : byte.C w A v.length v) (hc : v.length ≤ c) (hv : v.length ≤ 140737488355232) :
  Calls Try.prog 29 #[.agg (freshV kd fl), .slice A v.length c] w (RReadP w (readD kd (flD kd fl) v)) := by
 unfold readD
 by_cases h : kd = 0
 ·subst h; rw [if_pos rfl, flD_eight _ fl h0 h1 (by rfl)]; exact rread_data w A c v fl h0 hb hc hv
 rw [if_neg h]
 by_cases h' : kd = 1 ∨ kd = 2
 ·rw [if_pos h', flD_zero _ fl h0 h1 (by rcases h' with rfl | rfl <;> rfl)]; exact rread_init w A c v kd fl h' hb hc hv
 rw [if_neg h']
 by_cases h3 : kd = 3
 ·subst h3; rw [if_pos rfl, flD_zero _ fl h0 h1 (by rfl)]; exact rread_l3 w A c v fl hb hc hv
 rw [if_neg h3]
 by_cases h16 : kd = 16
 ·subst h16; rw [if_pos rfl, flD_zero _ fl h0 h1 (by rfl)]; exact rread_l16 w A c v fl hb hc hv
 rw [if_neg h16]
 by_cases h4 : kd = 4 ∨ kd = 5
 ·rw [if_pos h4, flD_zero _ fl h0 h1 (by rcases h4 with rfl | rfl <;> rfl)]
  rcases h4 with rfl | rfl
  ·exact rread_p4 w A c v fl hb hc hv
  ·exact rread_p5 w A c v fl hb hc hv
 rw [if_neg h4]
 by_cases h6 : kd = 6 ∨ kd = 9
 ·rw [if_pos h6]
  rcases h6 with rfl | rfl
  ·rw [flD_two _ fl h0 h1 (by rfl)]; exact rread_p6 w A c v fl hb hc hv h0
  ·rw [flD_zero _ fl h0 h1 (by rfl)]; exact rread_p9 w A c v fl hb hc hv
 rw [if_neg h6]
 by_cases h7 : kd = 7
 ·subst h7; rw [if_pos rfl, flD_zero _ fl h0 h1 (by rfl)]; exact rread_shut w A c v fl hb hc hv
 rw [if_neg h7]
 by_cases h8 : kd = 8 ∨ kd = 11 ∨ kd = 14
 ·rw [if_pos h8]; exact rread_none w A c v kd fl h8 h0 h1 hb hc hv
 rw [if_neg h8]
 by_cases h10 : kd = 10
 ·subst h10; rw [flD_zero _ fl h0 h1 (by rfl)]; exact rread_echo w A c v fl hb hc hv
 rw [flD_all _ fl h0 h1 (by unfold maskD; rw [if_neg h, if_neg (fun e => e.elim (fun e => h6 (Or.inl e)) (fun e => h8 (Or.inr (Or.inr e)))), if_neg (by omega)])]
 exact rread_body w A c v kd fl (by intro x hx; simp only [List.mem_cons, List.not_mem_nil, or_false] at hx; omega) hb hc hv
theorem chkE : ∀ q ∈ k30.E, q ≠ 30 := by decide
theorem M_setRow {w : World} {b0 g : Nat} {d : Chk} {cs : List Value} {old cs' : Array Value} (h : k30.M w b0 (fun _ => True) d cs) (hg : w.heap[g]? = some (.cells old 30 (0, 0))) : k30.M (w.setRow g cs') b0 (fun _ => True) d cs :=
 k30.M_mono (fun _ hk => hk.1) (k30.M_move (fun k hk => setRow_other _ _ _ _ (fun e => by
  obtain ⟨_, _, _, q, hq, cells, hc⟩ := hk
  rw [e, hg] at hc
  injection hc with hc
  injection hc with _ hc
  exact chkE q hq hc.symm)) (k30.M_bound h))
theorem ParR.alloc {b0 : Nat} {r : Except Int Chk} {cs : Array Value} {code : Int} {w : World} (h : ParR b0 r cs code w) (x : Obj) : ParR b0 r cs code (w.alloc x) := by
 obtain ⟨h1, h2, h3⟩ := h
 refine ⟨h1, h2, ?_⟩
 cases r with
 | error c => exact h3
 | ok d => exact ⟨h3.1, M_only h3.2 (Only.of_below (S := fun _ => False) (below_alloc (Below.refl _ _) x)) (fun _ _ _ h => h)⟩
theorem ParR.setRow {b0 g : Nat} {r : Except Int Chk} {cs old cs' : Array Value} {code : Int} {w : World} (h : ParR b0 r cs code w) (hg : w.heap[g]? = some (.cells old 30 (0, 0))) : ParR b0 r cs code (w.setRow g cs') := by
 obtain ⟨h1, h2, h3⟩ := h
 refine ⟨h1, h2, ?_⟩
 cases r with
 | error c => exact h3
 | ok d => exact ⟨h3.1, M_setRow h3.2 hg⟩
def rdecT6 : Bool × List (List Nat × List Nat) := (true, [([], []), ([0], [0]), ([1], [1]), ([], []), ([3], [3]), ([4], [4]), ([2, 5], [2, 5]), ([], []), ([], []), ([7, 8], [7, 8]), ([6, 9], [6, 9]), ([10], [10]), ([11], [11]), ([11], [11]), ([], []), ([14, 12, 10, 0, 1, 2, 3, 4, 5, 6, 7, 8, 9, 10, 11, 12, 14], [12, 14]), ([13, 15, 0, 1, 2, 3, 4, 5, 6, 7, 8, 9, 10, 11, 12, 13, 14, 15], [13])])
def rdecB6 : List Nat := [0, 1, 3, 0, 8, 24, 63, 0, 0, 384, 1023, 2047, 4095, 4095, 0, 24575, 65535]
theorem rdectab6 : Go.Proofs.YtjmadnpicidbeaaW.PrintLast.rtab .any (Go.Proofs.YtjmadnpicidbeaaW.PrintLast.opsOf Try.f11 6) = rdecT6 := by kernel_rfl
theorem rdecbits6 : Go.Proofs.YtjmadnpicidbeaaW.PrintLast.waitsOk rdecT6.2 rdecB6 = true := by kernel_rfl
theorem rdec_results (tmps : Array Value) (w : World) (a : Nat) (cs : Array Value) (v1 v2 : Value) (t0 : tmps.getD 2 undef = .pointer (some ⟨a, 0, none⟩)) (t1 : tmps.getD 3 undef = v1) (t2 : tmps.getD 4 undef = v2)
  (h0 : w.heap[a]? = some (.cells cs 30 (0, 0))) (hcs : cs.size = 15) : (results Try.f11 tmps).run Try.prog w = .ok (.tuple #[.agg cs, v1, v2]) w := by
 have hi : (Try.prog.info? 30).map (·.size) = some cs.size := by rw [hcs]; kernel_rfl
 have hl := run_loadVar_row w a 30 30 cs (0, 0) _ h0 Try.underlying30 rfl hi
 rw [Array.getD_eq_getD_getElem?] at t0 t1 t2
 simp [results, Try.results11, asAddr, t0, t1, t2, hl]
set_option maxHeartbeats 4000000 in
theorem rdec_calls (w : World) (A : Option Addr) (bs : List UInt8) (c : Nat) (hb : byte.C w A bs.length bs) (hc : bs.length ≤ c) (hv : bs.length ≤ 140737488355232) :
  Calls Try.prog 11 #[.slice A bs.length c] w (DecCP bs w) := by
 unfold DecCP
 have HBC := Lib.hid (fun (W : World) (h : Below w.heap.size w W) => Kd.C_below hb h)
 have X := (show (w.alloc (.cells zerV 30)).heap[w.heap.size]? = some (.cells zerV 30 (0, 0)) ∧ Below w.heap.size w (w.alloc (.cells zerV 30)) from ⟨blk_new _ _, below_alloc (Below.refl _ _) _⟩)
 go_enter Try.func11, Try.ntmps11
 go_upto_region 1 with (fail)
 refine wp_gen (fun W => W.heap[w.heap.size]? = some (.cells zerV 30 (0, 0)) ∧ Below w.heap.size w W) X ?_
 clear X
 intro W X
 by_cases h4 : bs.length < 4
 ·have HR := Lib.hid (show decC bs = (chk0 0 0, 0, 60) by unfold decC; rw [if_pos h4])
  clear hb
  go_wp2_with (with_reducible refine gate_store (p := 2) rfl ?_; go_must (refine wpList_store_row rfl 30 (.tmp 2) (.tmp 11) rfl _ zerV rfl rfl 30 zerV X.1 (by kernel_rfl) rfl (by simp [Value.oneCell']) ?_))
  exact bodyPost_ret (rdec_results _ _ _ zerV _ _ rfl rfl rfl (setRow_heap _ _ _ _ _ _ X.1) rfl) rfl ⟨zerV, by rw [HR.out]; try rfl, by rw [HR.out]; exact mnil _ _ _ _, below_setRow X.2 (Nat.le_refl _) _⟩
 have hcl := Lib.hid (show ∀ W, Below w.heap.size w W → byte.C W A bs.length bs from HBC.out)
 go_wp2_with fail
 refine (get_calls W A bs c (HBC.out W X.2) hc (by omega) 2 2 _ _ rfl rfl (by decide) (by omega)).mono ?_
 rintro e w1 ⟨rfl, ⟨m0, rfl⟩⟩
 have hbe := be_two_lt (bs.drop 2)
 have HDC := Lib.hid (show decC bs = _ from by unfold decC; rw [if_neg h4])
 clear hcl hb
 obtain ⟨n, hn⟩ : ∃ n, be ((bs.drop 2).take 2) = n := ⟨_, rfl⟩
 rw [hn] at HDC hbe ⊢
 replace X := (show (W.drewN m0).heap[w.heap.size]? = some (.cells zerV 30 (0, 0)) ∧ Below w.heap.size w (W.drewN m0) from ⟨blk_drewN X.1 m0, pw_below_drewN X.2 m0⟩)
 generalize W.drewN m0 = W at *
 clear hn
 by_cases hsz : n < 4 ∨ bs.length < n
 ·have HR := Lib.hid (show decC bs = (chk0 0 0, 0, 60) by rw [HDC.out, if_pos hsz])
  clear HDC
  go_wp2_with (with_reducible refine gate_store (p := 2) rfl ?_; go_must (refine wpList_store_row rfl 30 (.tmp 2) (.tmp 23) rfl _ zerV rfl rfl 30 zerV X.1 (by kernel_rfl) rfl (by simp [Value.oneCell']) ?_))
  all_goals first | (exfalso; omega) | (exact bodyPost_ret (rdec_results _ _ _ zerV _ _ rfl rfl rfl (setRow_heap _ _ _ _ _ _ X.1) rfl) rfl ⟨zerV, by rw [HR.out]; try rfl, by rw [HR.out]; exact mnil _ _ _ _, below_setRow X.2 (Nat.le_refl _) _⟩)
 rw [if_neg hsz] at HDC
 have p1 : decide ((n : Int) < 4) = false := by simp; omega
 have p2 : decide ((bs.length : Int) < (n : Int)) = false := by simp; omega
 have hn4 : 4 ≤ n := by omega
 have hnl : n ≤ bs.length := by omega
 clear hsz
 have hC := HBC.out W X.2
 obtain ⟨A9, hsl, hdC, hdl⟩ := mid_bytes hC hc 4 n hn4 hnl
 replace hsl : ∀ W : World, (Instr.slice 22 (.slice A bs.length c) (some (.int .i64 4)) (some (.int .i64 (n : Int))) none).run Try.prog W = .ok (.slice A9 ((bs.take n).drop 4).length (c - 4)) W := hsl
 obtain ⟨ad, e1, c0⟩ := byte_at hC 0 (by omega)
 obtain ⟨ad', e2, c1⟩ := byte_at hC 1 (by omega)
 subst e1
 cases e2
 rw [show ad.add 1 = ad.add (0 + 1) from rfl, add_field _ _ 1 (by omega)] at c1
 replace c1 : W.cell? ⟨ad.block, ad.off + 1, none⟩ = some (.int .u8 ((bs.getD 1 0).toNat : Int)) := c1
 replace c0 : W.cell? ad = some (.int .u8 ((bs.getD 0 0).toNat : Int)) := c0
 have hz : ((bs.take n).drop 4).length ≤ 140737488355232 := by rw [List.length_drop, List.length_take]; omega
 obtain ⟨kd, hkd⟩ : ∃ kd : Int, ((bs.getD 0 0).toNat : Int) = kd := ⟨_, rfl⟩
 obtain ⟨fl, hfl⟩ : ∃ fl : Int, ((bs.getD 1 0).toNat : Int) = fl := ⟨_, rfl⟩
 have hk0 : 0 ≤ kd := by omega
 have hf0 : 0 ≤ fl := by omega
 have hf1 : fl < 256 := by rw [← hfl]; have := (bs.getD 1 0).toNat_lt; omega
 rw [hkd] at HDC c0
 rw [hfl] at HDC c1
 have C0 := Lib.hid c0
 have C1 := Lib.hid c1
 have HP := Lib.hid (fun (W' : World) (h : Below W.heap.size W W') => rread_calls W' A9 (c - 4) ((bs.take n).drop 4) kd fl hk0 hf0 hf1 (Kd.C_below hdC h) hdl hz)
 have hin1 : (0 : Int) < (bs.length : Int) := by omega
 have hin2 : ¬ (bs.length : Int) ≤ 0 := by omega
 have hin3 : ¬ (bs.length : Int) ≤ 1 := by omega
 have hin4 : (1 : Int) < (bs.length : Int) := by omega
 have hin5 : ¬ bs = [] := fun e => by rw [e] at hin1; simp at hin1
 clear hC hdC hdl c0 c1 hz hkd hfl hk0 hf0 hf1 HBC
 generalize ((bs.take n).drop 4).length = zl at *
 generalize c - 4 = zc at *
 generalize (bs.take n).drop 4 = v at *
 have hmin : (4 : Int) ≤ (n : Int) := by omega
 go_upto_region 6 with (fail)
 have B := True.intro
 refine start_ (n := 17) (S := fun w' => True) (ds := []) #[false, false, false, false, false, false, false, false, false, false, false, false, false, false, false, false, false] (by kernel_rfl) rfl rfl trivial (fun hHeld => ?_)
 refine with_tabW rdectab6 rdecbits6 (fun HT_ HW_ => ?_)
 refine pure_ (i := 0) (N := some 25) (v := ?_) (a' := ?_) #[true, false, false, false, false, false, false, false, false, false, false, false, false, false, false, false, false] rfl rfl (any_of HT_.out (by kernel_rfl)) (fun _ _ _ h => h) (Or.inl ⟨by rfl, ?_⟩) ?_ ?_
 rotate_left
 ·intro w'
  go_simp
  with_reducible rfl
 rotate_left
 ·simp only [Act.put, List.setIfInBounds_toArray, List.set_cons_zero, List.set_cons_succ, i64_w, i32_w]
  rfl
 refine pure_ (i := 3) (N := some 28) (v := ?_) (a' := ?_) #[true, false, false, true, false, false, false, false, false, false, false, false, false, false, false, false, false] rfl rfl (any_of HT_.out (by kernel_rfl)) (fun _ _ _ h => h) (Or.inl ⟨by rfl, ?_⟩) ?_ ?_
 rotate_left
 ·intro w'
  go_simp
  with_reducible rfl
 rotate_left
 ·simp only [Act.put, List.setIfInBounds_toArray, List.set_cons_zero, List.set_cons_succ, i64_w, i32_w]
  rfl
 refine pure_ (i := 7) (N := some 32) (v := ?_) (a' := ?_) #[true, false, false, true, false, false, false, true, false, false, false, false, false, false, false, false, false] rfl rfl (any_of HT_.out (by kernel_rfl)) (fun _ _ _ h => h) (Or.inl ⟨by rfl, ?_⟩) ?_ ?_
 rotate_left
 ·intro w'
  go_simp
  with_reducible rfl
 rotate_left
 ·simp only [Act.put, List.setIfInBounds_toArray, List.set_cons_zero, List.set_cons_succ, i64_w, i32_w]
  rfl
 refine pure_ (i := 8) (N := some 33) (v := ?_) (a' := ?_) #[true, false, false, true, false, false, false, true, true, false, false, false, false, false, false, false, false] rfl rfl (any_of HT_.out (by kernel_rfl)) (fun _ _ _ h => h) (Or.inl ⟨by rfl, ?_⟩) ?_ ?_
 rotate_left
 ·intro w'
  go_simp
  with_reducible rfl
 rotate_left
 ·simp only [Act.put, List.setIfInBounds_toArray, List.set_cons_zero, List.set_cons_succ, i64_w, i32_w]
  rfl
 refine inv_at [1, 2, 4, 5, 6, 9, 10, 11, 12, 13, 14, 15, 16] (fun a0_ b a w' => ∃ (cs : Array Value) (code : Int) (g6 : Nat) (m10_ : Value) (m11_ : Value) (m12_ : Value) (m13_ : Value) (m14_ : Value) (m16_ : Value), a = putSel a0_ b [(1, 26, .pointer (some ad)), (2, 27, .int .u8 kd), (4, 29, .pointer (some ⟨ad.block, ad.off + 1, none⟩)), (5, 30, .int .u8 fl), (6, 31, .agg (#[.int .u8 (kd), .int .u8 (fl), .int .u32 0, .int .u16 0, .int .u16 0, .int .u32 0, .int .u32 0, .int .u32 0, .int .u16 0, .int .u16 0, .slice none 0 0, .slice none 0 0, .slice none 0 0, .slice none 0 0, .slice none 0 0])), (9, 34, .slice A9 zl zc), (10, 35, m10_), (11, 24, m11_), (12, 36, m12_), (13, 37, m13_), (14, 6, m14_), (16, 7, m16_)] ∧ (Below W.heap.size W w') ∧ (b 10 = true → ParR W.heap.size (readD kd (flD kd fl) v) cs code w') ∧ (b 14 = true → b 15 = false → w'.heap[g6]? = some (.cells (#[.int .u8 0, .int .u8 0, .int .u32 0, .int .u16 0, .int .u16 0, .int .u32 0, .int .u32 0, .int .u32 0, .int .u16 0, .int .u16 0, .slice none 0 0, .slice none 0 0, .slice none 0 0, .slice none 0 0, .slice none 0 0]) 30 (0, 0)) ∧ W.heap.size ≤ g6) ∧ (b 15 = true → w'.heap[g6]? = some (.cells cs 30 (0, 0)) ∧ W.heap.size ≤ g6) ∧ (b 10 = true → (m10_ : Value) = .tuple #[.agg cs, .int .i64 code]) ∧ (b 11 = true → (m11_ : Value) = .tuple #[.agg cs, .int .i64 code]) ∧ (b 12 = true → (m12_ : Value) = .agg cs) ∧ (b 13 = true → (m13_ : Value) = .int .i64 code) ∧ (b 14 = true → (m14_ : Value) = .pointer (some ⟨g6, 0, none⟩)) ∧ (b 16 = true → (m16_ : Value) = .int .i64 code)) HT_.out HW_.out (by kernel_rfl) (by kernel_rfl) ?_ ?_ ?_
 ·exact ⟨#[], 0, 0, .bool false, .bool false, .bool false, .bool false, .bool false, .bool false, by simp only [putSel, Bool.false_eq_true, if_false], below_drew (Below.refl _ _), fun h_ => absurd h_ (by decide), fun h_ => absurd h_ (by decide), fun h_ => absurd h_ (by decide), fun h_ => absurd h_ (by decide), fun h_ => absurd h_ (by decide), fun h_ => absurd h_ (by decide), fun h_ => absurd h_ (by decide), fun h_ => absurd h_ (by decide), fun h_ => absurd h_ (by decide)⟩
 ·skip
  clear B
  refine steps_cons ?_ ?_
  ·rintro b a w' ⟨cs, code, g6, m10_, m11_, m12_, m13_, m14_, m16_, ha, Q_B, Q_P, Q_Z, Q_Z2, Q_X10_, Q_X11_, Q_X12_, Q_X13_, Q_X14_, Q_X16_⟩ hb_ hon hoff
   refine ⟨_, rfl, fun K hK => ?_⟩
   have e25 : a.tmps[25]? = some (.slice (some ad) bs.length c) := by rw [ha]; exact (putSel_off rfl).trans rfl
   replace ha := Aside0.mk ha
   have B := Aside0.mk Q_B
   refine value_ (w1 := w') (v := .pointer (some ad)) (by rfl) rfl ?_ ?_
   ·go_simp
    (try simp only [i64_w])
    try rfl
   refine hK.out _ _ ⟨cs, code, g6, m10_, m11_, m12_, m13_, m14_, m16_, (by rw [ha.out]; exact putSel_upk 0 hb_ rfl rfl rfl), Q_B, fun h0_ => absurd ((hoff 10 (by kernel_rfl)).symm.trans h0_) (by decide), Q_Z, fun h0_ => absurd ((hoff 15 (by kernel_rfl)).symm.trans h0_) (by decide), fun h0_ => absurd ((hoff 10 (by kernel_rfl)).symm.trans h0_) (by decide), fun h0_ => absurd ((hoff 11 (by kernel_rfl)).symm.trans h0_) (by decide), fun h0_ => absurd ((hoff 12 (by kernel_rfl)).symm.trans h0_) (by decide), fun h0_ => absurd ((hoff 13 (by kernel_rfl)).symm.trans h0_) (by decide), Q_X14_, fun h0_ => absurd ((hoff 16 (by kernel_rfl)).symm.trans h0_) (by decide)⟩
  refine steps_cons ?_ ?_
  ·rintro b a w' ⟨cs, code, g6, m10_, m11_, m12_, m13_, m14_, m16_, ha, Q_B, Q_P, Q_Z, Q_Z2, Q_X10_, Q_X11_, Q_X12_, Q_X13_, Q_X14_, Q_X16_⟩ hb_ hon hoff
   refine ⟨_, rfl, fun K hK => ?_⟩
   have e26 : a.tmps[26]? = some (.pointer (some ad)) := by rw [ha]; exact putSel_on (e := (1, 26, .pointer (some ad))) 0 rfl rfl (hon 1 (by kernel_rfl)) rfl
   replace ha := Aside0.mk ha
   have B := Aside0.mk Q_B
   have hs := pw_cell_below B.out C0.out
   refine value_ (w1 := w') (v := .int .u8 kd) (by rfl) rfl ?_ ?_
   ·go_simp
    (try simp only [i64_w])
    try rfl
   refine hK.out _ _ ⟨cs, code, g6, m10_, m11_, m12_, m13_, m14_, m16_, (by rw [ha.out]; exact putSel_upk 1 hb_ rfl rfl rfl), Q_B, fun h0_ => absurd ((hoff 10 (by kernel_rfl)).symm.trans h0_) (by decide), Q_Z, fun h0_ => absurd ((hoff 15 (by kernel_rfl)).symm.trans h0_) (by decide), fun h0_ => absurd ((hoff 10 (by kernel_rfl)).symm.trans h0_) (by decide), fun h0_ => absurd ((hoff 11 (by kernel_rfl)).symm.trans h0_) (by decide), fun h0_ => absurd ((hoff 12 (by kernel_rfl)).symm.trans h0_) (by decide), fun h0_ => absurd ((hoff 13 (by kernel_rfl)).symm.trans h0_) (by decide), Q_X14_, fun h0_ => absurd ((hoff 16 (by kernel_rfl)).symm.trans h0_) (by decide)⟩
  refine steps_cons ?_ ?_
  ·rintro b a w' ⟨cs, code, g6, m10_, m11_, m12_, m13_, m14_, m16_, ha, Q_B, Q_P, Q_Z, Q_Z2, Q_X10_, Q_X11_, Q_X12_, Q_X13_, Q_X14_, Q_X16_⟩ hb_ hon hoff
   refine ⟨_, rfl, fun K hK => ?_⟩
   have e28 : a.tmps[28]? = some (.slice (some ad) bs.length c) := by rw [ha]; exact (putSel_off rfl).trans rfl
   replace ha := Aside0.mk ha
   have B := Aside0.mk Q_B
   refine value_ (w1 := w') (v := .pointer (some ⟨ad.block, ad.off + 1, none⟩)) (by rfl) rfl ?_ ?_
   ·go_simp
    (try simp only [i64_w])
    try rfl
   refine hK.out _ _ ⟨cs, code, g6, m10_, m11_, m12_, m13_, m14_, m16_, (by rw [ha.out]; exact putSel_upk 2 hb_ rfl rfl rfl), Q_B, fun h0_ => absurd ((hoff 10 (by kernel_rfl)).symm.trans h0_) (by decide), Q_Z, fun h0_ => absurd ((hoff 15 (by kernel_rfl)).symm.trans h0_) (by decide), fun h0_ => absurd ((hoff 10 (by kernel_rfl)).symm.trans h0_) (by decide), fun h0_ => absurd ((hoff 11 (by kernel_rfl)).symm.trans h0_) (by decide), fun h0_ => absurd ((hoff 12 (by kernel_rfl)).symm.trans h0_) (by decide), fun h0_ => absurd ((hoff 13 (by kernel_rfl)).symm.trans h0_) (by decide), Q_X14_, fun h0_ => absurd ((hoff 16 (by kernel_rfl)).symm.trans h0_) (by decide)⟩
  refine steps_cons ?_ ?_
  ·rintro b a w' ⟨cs, code, g6, m10_, m11_, m12_, m13_, m14_, m16_, ha, Q_B, Q_P, Q_Z, Q_Z2, Q_X10_, Q_X11_, Q_X12_, Q_X13_, Q_X14_, Q_X16_⟩ hb_ hon hoff
   refine ⟨_, rfl, fun K hK => ?_⟩
   have e29 : a.tmps[29]? = some (.pointer (some ⟨ad.block, ad.off + 1, none⟩)) := by rw [ha]; exact putSel_on (e := (4, 29, .pointer (some ⟨ad.block, ad.off + 1, none⟩))) 2 rfl rfl (hon 4 (by kernel_rfl)) rfl
   replace ha := Aside0.mk ha
   have B := Aside0.mk Q_B
   have hs := pw_cell_below B.out C1.out
   refine value_ (w1 := w') (v := .int .u8 fl) (by rfl) rfl ?_ ?_
   ·go_simp
    (try simp only [i64_w])
    try rfl
   refine hK.out _ _ ⟨cs, code, g6, m10_, m11_, m12_, m13_, m14_, m16_, (by rw [ha.out]; exact putSel_upk 3 hb_ rfl rfl rfl), Q_B, fun h0_ => absurd ((hoff 10 (by kernel_rfl)).symm.trans h0_) (by decide), Q_Z, fun h0_ => absurd ((hoff 15 (by kernel_rfl)).symm.trans h0_) (by decide), fun h0_ => absurd ((hoff 10 (by kernel_rfl)).symm.trans h0_) (by decide), fun h0_ => absurd ((hoff 11 (by kernel_rfl)).symm.trans h0_) (by decide), fun h0_ => absurd ((hoff 12 (by kernel_rfl)).symm.trans h0_) (by decide), fun h0_ => absurd ((hoff 13 (by kernel_rfl)).symm.trans h0_) (by decide), Q_X14_, fun h0_ => absurd ((hoff 16 (by kernel_rfl)).symm.trans h0_) (by decide)⟩
  refine steps_cons ?_ ?_
  ·rintro b a w' ⟨cs, code, g6, m10_, m11_, m12_, m13_, m14_, m16_, ha, Q_B, Q_P, Q_Z, Q_Z2, Q_X10_, Q_X11_, Q_X12_, Q_X13_, Q_X14_, Q_X16_⟩ hb_ hon hoff
   refine ⟨_, rfl, fun K hK => ?_⟩
   have e27 : a.tmps[27]? = some (.int .u8 kd) := by rw [ha]; exact putSel_on (e := (2, 27, .int .u8 kd)) 1 rfl rfl (hon 2 (by kernel_rfl)) rfl
   have e30 : a.tmps[30]? = some (.int .u8 fl) := by rw [ha]; exact putSel_on (e := (5, 30, .int .u8 fl)) 3 rfl rfl (hon 5 (by kernel_rfl)) rfl
   replace ha := Aside0.mk ha
   have B := Aside0.mk Q_B
   refine value_ (w1 := w') (v := .agg (#[.int .u8 (kd), .int .u8 (fl), .int .u32 0, .int .u16 0, .int .u16 0, .int .u32 0, .int .u32 0, .int .u32 0, .int .u16 0, .int .u16 0, .slice none 0 0, .slice none 0 0, .slice none 0 0, .slice none 0 0, .slice none 0 0])) (by rfl) rfl ?_ ?_
   ·go_simp
    (try simp only [i64_w])
    try rfl
   refine hK.out _ _ ⟨cs, code, g6, m10_, m11_, m12_, m13_, m14_, m16_, (by rw [ha.out]; exact putSel_upk 4 hb_ rfl rfl rfl), Q_B, fun h0_ => absurd ((hoff 10 (by kernel_rfl)).symm.trans h0_) (by decide), Q_Z, fun h0_ => absurd ((hoff 15 (by kernel_rfl)).symm.trans h0_) (by decide), fun h0_ => absurd ((hoff 10 (by kernel_rfl)).symm.trans h0_) (by decide), fun h0_ => absurd ((hoff 11 (by kernel_rfl)).symm.trans h0_) (by decide), fun h0_ => absurd ((hoff 12 (by kernel_rfl)).symm.trans h0_) (by decide), fun h0_ => absurd ((hoff 13 (by kernel_rfl)).symm.trans h0_) (by decide), Q_X14_, fun h0_ => absurd ((hoff 16 (by kernel_rfl)).symm.trans h0_) (by decide)⟩
  refine steps_cons ?_ ?_
  ·rintro b a w' ⟨cs, code, g6, m10_, m11_, m12_, m13_, m14_, m16_, ha, Q_B, Q_P, Q_Z, Q_Z2, Q_X10_, Q_X11_, Q_X12_, Q_X13_, Q_X14_, Q_X16_⟩ hb_ hon hoff
   refine ⟨_, rfl, fun K hK => ?_⟩
   have e32 : a.tmps[32]? = some (.slice (some ad) bs.length c) := by rw [ha]; exact (putSel_off rfl).trans rfl
   have e33 : a.tmps[33]? = some (.int .i64 (n : Int)) := by rw [ha]; exact (putSel_off rfl).trans rfl
   replace ha := Aside0.mk ha
   have B := Aside0.mk Q_B
   refine value_ (w1 := w') (v := .slice A9 zl zc) (by rfl) rfl ?_ ?_
   ·go_simp
    (try simp only [i64_w])
    try rfl
   refine hK.out _ _ ⟨cs, code, g6, m10_, m11_, m12_, m13_, m14_, m16_, (by rw [ha.out]; exact putSel_upk 5 hb_ rfl rfl rfl), Q_B, fun h0_ => absurd ((hoff 10 (by kernel_rfl)).symm.trans h0_) (by decide), Q_Z, fun h0_ => absurd ((hoff 15 (by kernel_rfl)).symm.trans h0_) (by decide), fun h0_ => absurd ((hoff 10 (by kernel_rfl)).symm.trans h0_) (by decide), fun h0_ => absurd ((hoff 11 (by kernel_rfl)).symm.trans h0_) (by decide), fun h0_ => absurd ((hoff 12 (by kernel_rfl)).symm.trans h0_) (by decide), fun h0_ => absurd ((hoff 13 (by kernel_rfl)).symm.trans h0_) (by decide), Q_X14_, fun h0_ => absurd ((hoff 16 (by kernel_rfl)).symm.trans h0_) (by decide)⟩
  refine steps_cons ?_ ?_
  ·rintro b a w' ⟨cs, code, g6, m10_, m11_, m12_, m13_, m14_, m16_, ha, Q_B, Q_P, Q_Z, Q_Z2, Q_X10_, Q_X11_, Q_X12_, Q_X13_, Q_X14_, Q_X16_⟩ hb_ hon hoff
   refine ⟨_, rfl, fun K hK => ?_⟩
   have e31 : a.tmps[31]? = some (.agg (#[.int .u8 (kd), .int .u8 (fl), .int .u32 0, .int .u16 0, .int .u16 0, .int .u32 0, .int .u32 0, .int .u32 0, .int .u16 0, .int .u16 0, .slice none 0 0, .slice none 0 0, .slice none 0 0, .slice none 0 0, .slice none 0 0])) := by rw [ha]; exact putSel_on (e := (6, 31, .agg (#[.int .u8 (kd), .int .u8 (fl), .int .u32 0, .int .u16 0, .int .u16 0, .int .u32 0, .int .u32 0, .int .u32 0, .int .u16 0, .int .u16 0, .slice none 0 0, .slice none 0 0, .slice none 0 0, .slice none 0 0, .slice none 0 0]))) 4 rfl rfl (hon 6 (by kernel_rfl)) rfl
   have e34 : a.tmps[34]? = some (.slice A9 zl zc) := by rw [ha]; exact putSel_on (e := (9, 34, .slice A9 zl zc)) 5 rfl rfl (hon 9 (by kernel_rfl)) rfl
   replace ha := Aside0.mk ha
   have B := Aside0.mk Q_B
   refine goes_ Try.func29 (by kernel_rfl) rfl #[.agg (#[.int .u8 (kd), .int .u8 (fl), .int .u32 0, .int .u16 0, .int .u16 0, .int .u32 0, .int .u32 0, .int .u32 0, .int .u16 0, .int .u16 0, .slice none 0 0, .slice none 0 0, .slice none 0 0, .slice none 0 0, .slice none 0 0]), .slice A9 zl zc] (by rfl) rfl rfl (by first | (simp only [List.map_toArray, List.map_cons, List.map_nil, Act.eval, Array.getD_eq_getD_getElem?, Option.getD_some, e31, e34]; done) | (simp only [List.map_toArray, List.map_cons, List.map_nil, Act.eval, Array.getD_eq_getD_getElem?, Option.getD_some, e31, e34]; rfl)) ?_
   refine (HP.out w' B.out).mono ?_
   rintro e w1 ⟨cs1, code1, rfl, hsz1, hone1, hB1, hP1⟩
   refine ⟨_, rfl, ?_⟩
   refine hK.out _ _ ⟨cs1, code1, g6, (.tuple #[.agg cs1, .int .i64 code1]), m11_, m12_, m13_, m14_, m16_, (by rw [ha.out]; exact putSel_upk 6 hb_ rfl rfl rfl), below_then B.out B.out.size hB1, fun _ => ParR.of hsz1 hone1 B.out.size hP1, fun h0_ h1_ => ⟨blk_below (Q_Z h0_ h1_).1 hB1, (Q_Z h0_ h1_).2⟩, fun h0_ => absurd ((hoff 15 (by kernel_rfl)).symm.trans h0_) (by decide), fun _ => rfl, fun h0_ => absurd ((hoff 11 (by kernel_rfl)).symm.trans h0_) (by decide), fun h0_ => absurd ((hoff 12 (by kernel_rfl)).symm.trans h0_) (by decide), fun h0_ => absurd ((hoff 13 (by kernel_rfl)).symm.trans h0_) (by decide), Q_X14_, fun h0_ => absurd ((hoff 16 (by kernel_rfl)).symm.trans h0_) (by decide)⟩
  refine steps_cons ?_ ?_
  ·rintro b a w' ⟨cs, code, g6, m10_, m11_, m12_, m13_, m14_, m16_, ha, Q_B, Q_P, Q_Z, Q_Z2, Q_X10_, Q_X11_, Q_X12_, Q_X13_, Q_X14_, Q_X16_⟩ hb_ hon hoff
   refine ⟨_, rfl, fun K hK => ?_⟩
   have e35 : a.tmps[35]? = some (m10_) := by rw [ha]; exact putSel_on (e := (10, 35, m10_)) 6 rfl rfl (hon 10 (by kernel_rfl)) rfl
   rw [Q_X10_ (hon 10 (by kernel_rfl))] at e35
   replace ha := Aside0.mk ha
   have B := Aside0.mk Q_B
   have P := Aside0.mk (Q_P (hon 10 (by kernel_rfl)))
   refine value_ (w1 := w') (v := .tuple #[.agg cs, .int .i64 code]) (by rfl) rfl ?_ ?_
   ·go_simp
    (try simp only [i64_w])
    try rfl
   refine hK.out _ _ ⟨cs, code, g6, m10_, (.tuple #[.agg cs, .int .i64 code]), m12_, m13_, m14_, m16_, (by rw [ha.out]; exact putSel_upk 7 hb_ rfl rfl rfl), Q_B, Q_P, Q_Z, fun h0_ => absurd ((hoff 15 (by kernel_rfl)).symm.trans h0_) (by decide), Q_X10_, fun _ => rfl, fun h0_ => absurd ((hoff 12 (by kernel_rfl)).symm.trans h0_) (by decide), fun h0_ => absurd ((hoff 13 (by kernel_rfl)).symm.trans h0_) (by decide), Q_X14_, fun h0_ => absurd ((hoff 16 (by kernel_rfl)).symm.trans h0_) (by decide)⟩
  refine steps_cons ?_ ?_
  ·rintro b a w' ⟨cs, code, g6, m10_, m11_, m12_, m13_, m14_, m16_, ha, Q_B, Q_P, Q_Z, Q_Z2, Q_X10_, Q_X11_, Q_X12_, Q_X13_, Q_X14_, Q_X16_⟩ hb_ hon hoff
   refine ⟨_, rfl, fun K hK => ?_⟩
   have e24 : a.tmps[24]? = some (m11_) := by rw [ha]; exact putSel_on (e := (11, 24, m11_)) 7 rfl rfl (hon 11 (by kernel_rfl)) rfl
   rw [Q_X11_ (hon 11 (by kernel_rfl))] at e24
   replace ha := Aside0.mk ha
   have B := Aside0.mk Q_B
   have P := Aside0.mk (Q_P (hon 10 (by kernel_rfl)))
   refine value_ (w1 := w') (v := .agg cs) (by rfl) rfl ?_ ?_
   ·go_simp
    (try simp only [i64_w])
    try rfl
   refine hK.out _ _ ⟨cs, code, g6, m10_, m11_, (.agg cs), m13_, m14_, m16_, (by rw [ha.out]; exact putSel_upk 8 hb_ rfl rfl rfl), Q_B, Q_P, Q_Z, fun h0_ => absurd ((hoff 15 (by kernel_rfl)).symm.trans h0_) (by decide), Q_X10_, Q_X11_, fun _ => rfl, Q_X13_, Q_X14_, fun h0_ => absurd ((hoff 16 (by kernel_rfl)).symm.trans h0_) (by decide)⟩
  refine steps_cons ?_ ?_
  ·rintro b a w' ⟨cs, code, g6, m10_, m11_, m12_, m13_, m14_, m16_, ha, Q_B, Q_P, Q_Z, Q_Z2, Q_X10_, Q_X11_, Q_X12_, Q_X13_, Q_X14_, Q_X16_⟩ hb_ hon hoff
   refine ⟨_, rfl, fun K hK => ?_⟩
   have e24 : a.tmps[24]? = some (m11_) := by rw [ha]; exact putSel_on (e := (11, 24, m11_)) 7 rfl rfl (hon 11 (by kernel_rfl)) rfl
   rw [Q_X11_ (hon 11 (by kernel_rfl))] at e24
   replace ha := Aside0.mk ha
   have B := Aside0.mk Q_B
   have P := Aside0.mk (Q_P (hon 10 (by kernel_rfl)))
   refine value_ (w1 := w') (v := .int .i64 code) (by rfl) rfl ?_ ?_
   ·go_simp
    (try simp only [i64_w])
    try rfl
   refine hK.out _ _ ⟨cs, code, g6, m10_, m11_, m12_, (.int .i64 code), m14_, m16_, (by rw [ha.out]; exact putSel_upk 9 hb_ rfl rfl rfl), Q_B, Q_P, Q_Z, Q_Z2, Q_X10_, Q_X11_, Q_X12_, fun _ => rfl, Q_X14_, fun h0_ => absurd ((hoff 16 (by kernel_rfl)).symm.trans h0_) (by decide)⟩
  refine steps_cons ?_ ?_
  ·rintro b a w' ⟨cs, code, g6, m10_, m11_, m12_, m13_, m14_, m16_, ha, Q_B, Q_P, Q_Z, Q_Z2, Q_X10_, Q_X11_, Q_X12_, Q_X13_, Q_X14_, Q_X16_⟩ hb_ hon hoff
   refine ⟨_, rfl, fun K hK => ?_⟩
   replace ha := Aside0.mk ha
   have B := Aside0.mk Q_B
   refine value_ (w1 := w'.alloc (.cells (#[.int .u8 0, .int .u8 0, .int .u32 0, .int .u16 0, .int .u16 0, .int .u32 0, .int .u32 0, .int .u32 0, .int .u16 0, .int .u16 0, .slice none 0 0, .slice none 0 0, .slice none 0 0, .slice none 0 0, .slice none 0 0]) 30)) (v := .pointer (some ⟨w'.heap.size, 0, none⟩)) (by rfl) rfl (by go_simp; try rfl) ?_
   refine hK.out _ _ ⟨cs, code, w'.heap.size, m10_, m11_, m12_, m13_, (.pointer (some ⟨w'.heap.size, 0, none⟩)), m16_, (by rw [ha.out]; exact putSel_upk 10 hb_ rfl rfl rfl), B.out.alloc B.out.size _, fun h0_ => ParR.alloc (Q_P h0_) _, fun _ _ => ⟨blk_new _ _, B.out.size⟩, fun h0_ => absurd ((hoff 15 (by kernel_rfl)).symm.trans h0_) (by decide), Q_X10_, Q_X11_, Q_X12_, Q_X13_, fun _ => rfl, fun h0_ => absurd ((hoff 16 (by kernel_rfl)).symm.trans h0_) (by decide)⟩
  refine steps_cons ?_ ?_
  ·rintro b a w' ⟨cs, code, g6, m10_, m11_, m12_, m13_, m14_, m16_, ha, Q_B, Q_P, Q_Z, Q_Z2, Q_X10_, Q_X11_, Q_X12_, Q_X13_, Q_X14_, Q_X16_⟩ hb_ hon hoff
   refine ⟨_, rfl, fun K hK => ?_⟩
   have e6 : a.tmps[6]? = some (m14_) := by rw [ha]; exact putSel_on (e := (14, 6, m14_)) 10 rfl rfl (hon 14 (by kernel_rfl)) rfl
   rw [Q_X14_ (hon 14 (by kernel_rfl))] at e6
   have e36 : a.tmps[36]? = some (m12_) := by rw [ha]; exact putSel_on (e := (12, 36, m12_)) 8 rfl rfl (hon 12 (by kernel_rfl)) rfl
   rw [Q_X12_ (hon 12 (by kernel_rfl))] at e36
   replace ha := Aside0.mk ha
   have B := Aside0.mk Q_B
   have P := Aside0.mk (Q_P (hon 10 (by kernel_rfl)))
   have Z := Aside0.mk (Q_Z (hon 14 (by kernel_rfl)) hb_)
   refine skip_ (w1 := w'.setRow g6 cs) (by rfl) rfl (exec_store_row 30 (.tmp 6) (.tmp 36) rfl (eval_of e6) (eval_of e36) Z.out.1 (by rw [P.out.1]; kernel_rfl) (by rw [P.out.1]; rfl) P.out.2.1) ?_
   refine hK.out _ _ ⟨cs, code, g6, m10_, m11_, m12_, m13_, m14_, m16_, (by rw [ha.out]; exact putSel_none (v := undef) rfl), below_setRow B.out Z.out.2 _, fun _ => ParR.setRow P.out Z.out.1, fun _ h1_ => absurd ((up_self b 15).symm.trans h1_) (by decide), fun _ => ⟨setRow_heap _ _ _ _ _ _ Z.out.1, Z.out.2⟩, Q_X10_, Q_X11_, Q_X12_, Q_X13_, Q_X14_, fun h0_ => absurd ((hoff 16 (by kernel_rfl)).symm.trans h0_) (by decide)⟩
  refine steps_cons ?_ ?_
  ·rintro b a w' ⟨cs, code, g6, m10_, m11_, m12_, m13_, m14_, m16_, ha, Q_B, Q_P, Q_Z, Q_Z2, Q_X10_, Q_X11_, Q_X12_, Q_X13_, Q_X14_, Q_X16_⟩ hb_ hon hoff
   refine ⟨_, rfl, fun K hK => ?_⟩
   have e37 : a.tmps[37]? = some (m13_) := by rw [ha]; exact putSel_on (e := (13, 37, m13_)) 9 rfl rfl (hon 13 (by kernel_rfl)) rfl
   rw [Q_X13_ (hon 13 (by kernel_rfl))] at e37
   replace ha := Aside0.mk ha
   have B := Aside0.mk Q_B
   have P := Aside0.mk (Q_P (hon 10 (by kernel_rfl)))
   have Z2 := Aside0.mk (Q_Z2 (hon 15 (by kernel_rfl)))
   refine value_ (w1 := w') (v := .int .i64 code) (by rfl) rfl ?_ ?_
   ·go_simp
    (try simp only [i64_w])
    try rfl
   refine hK.out _ _ ⟨cs, code, g6, m10_, m11_, m12_, m13_, m14_, (.int .i64 code), (by rw [ha.out]; exact putSel_upk 11 hb_ rfl rfl rfl), Q_B, Q_P, fun _ h1_ => absurd ((hon 15 (by kernel_rfl)).symm.trans h1_) (by decide), Q_Z2, Q_X10_, Q_X11_, Q_X12_, Q_X13_, Q_X14_, fun _ => rfl⟩
  exact steps_nil
 rintro b a w' hall ⟨cs, code, g6, m10_, m11_, m12_, m13_, m14_, m16_, ha, Q_B, Q_P, Q_Z, Q_Z2, Q_X10_, Q_X11_, Q_X12_, Q_X13_, Q_X14_, Q_X16_⟩
 clear B
 have hb1_ := hall 1 (by kernel_rfl)
 have hb2_ := hall 2 (by kernel_rfl)
 have hb4_ := hall 4 (by kernel_rfl)
 have hb5_ := hall 5 (by kernel_rfl)
 have hb6_ := hall 6 (by kernel_rfl)
 have hb9_ := hall 9 (by kernel_rfl)
 have hb10_ := hall 10 (by kernel_rfl)
 have hb11_ := hall 11 (by kernel_rfl)
 have hb12_ := hall 12 (by kernel_rfl)
 have hb13_ := hall 13 (by kernel_rfl)
 have hb14_ := hall 14 (by kernel_rfl)
 have hb15_ := hall 15 (by kernel_rfl)
 have hb16_ := hall 16 (by kernel_rfl)
 subst ha
 obtain rfl := Q_X10_ hb10_
 obtain rfl := Q_X11_ hb11_
 obtain rfl := Q_X12_ hb12_
 obtain rfl := Q_X13_ hb13_
 obtain rfl := Q_X14_ hb14_
 obtain rfl := Q_X16_ hb16_
 simp only [putSel, hb1_, hb2_, hb4_, hb5_, hb6_, hb9_, hb10_, hb11_, hb12_, hb13_, hb14_, hb15_, hb16_, if_true, Act.put, List.setIfInBounds_toArray, List.set_cons_zero, List.set_cons_succ]
 have B := Aside0.mk Q_B
 clear Q_B
 have P := Aside0.mk (Q_P hb10_)
 clear Q_P
 clear Q_Z
 have Z2 := Aside0.mk (Q_Z2 hb15_)
 clear Q_Z2
 clear hall hb1_ hb2_ hb4_ hb5_ hb6_ hb9_ hb10_ hb11_ hb12_ hb13_ hb14_ hb15_ hb16_
 clear C0 C1 HP
 have hP9 := P.out.2.2
 have hZ2 := Z2.out
 have HCS := Lib.hid P.out.1
 have HCO := P.out.2.1
 have hB9 : Below w.heap.size w w' := below_then X.2 X.2.size B.out
 have hX9 : w'.heap[w.heap.size]? = some (.cells zerV 30 (0, 0)) := blk_below X.1 B.out
 have hsz : w.heap.size < W.heap.size := blk_lt X.1
 clear B P Z2 X
 have X := And.intro hX9 hB9
 have HI := Lib.hid (show (Try.prog.info? 30).map (·.size) = some cs.size by rw [HCS.out]; kernel_rfl)
 have HOLD := Lib.hid (show zerV.size = cs.size by rw [HCS.out]; rfl)
 clear hX9 hB9
 cases hr : readD kd (flD kd fl) v with
 | error er =>
  rw [hr] at hP9
  have hne := readD_err hr
  have HR := Lib.hid (show decC bs = (chk0 0 0, 0, er) by rw [HDC.out, hr])
  replace hP9 : code = er := hP9
  subst hP9
  have q : (code != 0) = true := by simp [hne]
  clear hr HDC hne hZ2
  go_wp2_with (with_reducible refine gate_store (p := 2) rfl ?_; go_must (refine wpList_store_row rfl 30 (.tmp 2) (.tmp 40) rfl _ zerV rfl rfl 30 zerV X.1 (by kernel_rfl) rfl (by simp [Value.oneCell']) ?_))
  exact bodyPost_ret (rdec_results _ _ _ zerV _ _ rfl rfl rfl (setRow_heap _ _ _ _ _ _ X.1) rfl) rfl ⟨zerV, by rw [HR.out]; try rfl, by rw [HR.out]; exact mnil _ _ _ _, below_setRow X.2 (Nat.le_refl _) _⟩
 | ok d =>
  rw [hr] at hP9
  obtain ⟨rfl, hM⟩ := hP9
  have HR := Lib.hid (show decC bs = (d, ((min ((n + 3) / 4 * 4) bs.length : Nat) : Int), 0) by rw [HDC.out, hr])
  have HM := Lib.hid hM
  clear hr HDC hM
  have hz3 := hZ2.1
  have hmm : (if (bs.length : Int) < (((n + 3) / 4 * 4 : Nat) : Int) then (bs.length : Int) else (((n + 3) / 4 * 4 : Nat) : Int)) = ((min ((n + 3) / 4 * 4) bs.length : Nat) : Int) := by split <;> omega
  go_wp2_with (first | (with_reducible refine gate_dst (N := 42) rfl ?_; go_must (refine wpList_load_row rfl 30 (.tmp 6) rfl _ rfl 30 cs (0, 0) _ hz3 Try.underlying30 rfl HI.out ?_)) | (with_reducible refine gate_store (p := 2) rfl ?_; go_must (refine wpList_store_row rfl 30 (.tmp 2) (.tmp 42) rfl _ cs rfl rfl 30 zerV X.1 HI.out HOLD.out HCO ?_)))
  all_goals first
   | exact bodyPost_ret (rdec_results _ _ _ cs (.int .i64 (((n : Int) + 3) / 4 * 4)) (.int .i64 0) rfl rfl rfl (setRow_heap _ _ _ _ _ _ X.1) HCS.out) rfl ⟨cs, by rw [HR.out]; exact congrArg (fun z => Ending.returned (.tuple #[.agg cs, .int .i64 z, .int .i64 0])) (show (((n : Int) + 3) / 4 * 4 : Int) = ((min ((n + 3) / 4 * 4) bs.length : Nat) : Int) by omega), by rw [HR.out]; exact k30.M_lower (Nat.le_of_lt hsz) (M_only HM.out (setRow_only _ _ _) (fun k hk _ h => by omega)), below_setRow X.2 (Nat.le_refl _) _⟩
   | exact bodyPost_ret (rdec_results _ _ _ cs (.int .i64 ((bs.length : Int))) (.int .i64 0) rfl rfl rfl (setRow_heap _ _ _ _ _ _ X.1) HCS.out) rfl ⟨cs, by rw [HR.out]; exact congrArg (fun z => Ending.returned (.tuple #[.agg cs, .int .i64 z, .int .i64 0])) (show ((bs.length : Int) : Int) = ((min ((n + 3) / 4 * 4) bs.length : Nat) : Int) by omega), by rw [HR.out]; exact k30.M_lower (Nat.le_of_lt hsz) (M_only HM.out (setRow_only _ _ _) (fun k hk _ h => by omega)), below_setRow X.2 (Nat.le_refl _) _⟩
end Go.Proofs.Ytjmadnpicidbeaa.Ch
end
section
namespace Go.Proofs.Ytjmadnpicidbeaa.Ch
open Go.RowKit Go.Proofs.YtjmadnpicidbeaaW.PrintWords Go.Proofs.YtjmadnpicidbeaaW.PrintLast Go.Proofs.Ytjmadnpicidbeaa.Base Go.Proofs.Ytjmadnpicidbeaa.PCh Go.Proofs.Ytjmadnpicidbeaa.ParDec
set_option maxRecDepth 100000
set_option linter.unusedVariables false
set_option linter.unusedSimpArgs false
theorem info_chk : (Try.prog.info? 30).map (fun i => (i.zero, i.size, i.bytes)) = some (some (.agg zerV), k30.sz, 152) := by kernel_rfl
def allD : Nat → List UInt8 → Nat → List Chk → List Chk × Int × Int
 | 0, _, _, acc => (acc, 0, 0)
 | n + 1, b, at_, acc => if at_ < b.length then (if (decC (b.drop at_)).2.2 ≠ 0 then ([], (at_ : Int), (decC (b.drop at_)).2.2) else allD n b (at_ + (decC (b.drop at_)).2.1.toNat) (acc ++ [(decC (b.drop at_)).1])) else (acc, 0, 0)
def allL (b : List UInt8) : List Chk × Int × Int := allD (b.length + 1) b 0 []
theorem decC_len {b : List UInt8} (h : (decC b).2.2 = 0) : ∃ n : Nat, (decC b).2.1 = (n : Int) ∧ 4 ≤ n ∧ n ≤ b.length := by
 unfold decC at h ⊢
 by_cases h4 : b.length < 4
 ·rw [if_pos h4] at h
  cases h
 rw [if_neg h4] at h ⊢
 by_cases h5 : be ((b.drop 2).take 2) < 4 ∨ b.length < be ((b.drop 2).take 2)
 ·rw [if_pos h5] at h
  cases h
 rw [if_neg h5] at h ⊢
 cases hr : readD ((b.getD 0 0).toNat : Int) (flD ((b.getD 0 0).toNat : Int) ((b.getD 1 0).toNat : Int)) ((b.take (be ((b.drop 2).take 2))).drop 4) with
 | error c =>
  rw [hr] at h
  exact absurd h (readD_err hr)
 | ok d => exact ⟨_, rfl, by omega, Nat.min_le_right _ _⟩
set_option maxHeartbeats 4000000 in
theorem all_calls2 (w : World) (A : Option Addr) (b : List UInt8) (c : Nat) (hb : byte.C w A b.length b) (hc : b.length ≤ c) (hv : b.length ≤ 1048576) :
  Calls Try.prog 21 #[.slice A b.length c] w fun e w' => ∃ v, e = .returned (.tuple #[v, .int .i64 (allL b).2.1, .int .i64 (allL b).2.2]) ∧ Kd.R k30 30 w' w.heap.size (fun _ => True) v (allL b).1 ∧ Below w.heap.size w w' := by
 have HBC := Lib.hid (fun (W : World) (h : Below w.heap.size w W) => Kd.C_below hb h)
 obtain ⟨E, hE⟩ : ∃ E, allL b = E := ⟨_, rfl⟩
 rw [hE]
 have HE := Lib.hid (show allD (b.length + 1) b 0 [] = E from hE)
 clear hE hb
 go_enter Try.func21, Try.ntmps21
 go_wp2
 go_loopw [5, 6] (fun v5 v6 wr => ∃ (at_ n : Nat) (xs : List Chk), at_ ≤ b.length ∧ v6 = .int .i64 (at_ : Int) ∧ Hid (b.length < n + at_ ∧ xs.length ≤ at_) ∧ Hid (allD n b at_ xs = E) ∧ Hid (Kd.R k30 30 wr w.heap.size (fun _ => True) v5 xs) ∧ Hid (Below w.heap.size w wr)) (fun _ v6 _ => b.length - (intOf v6).toNat)
 case atStart => exact ⟨0, b.length + 1, [], Nat.zero_le _, rfl, ⟨by omega, Nat.le_refl _⟩, HE.out, Kd.R_nil _ _ _ _ _, Below.refl _ _⟩
 case round =>
  obtain ⟨at_, n, xs, hat, rfl, HN, HA, HR, HB⟩ := hrel
  by_cases hlt : at_ < b.length
  ·obtain ⟨n, rfl⟩ : ∃ m, n = m + 1 := ⟨n - 1, by have := HN.out.1; omega⟩
   have hA := HA.out
   rw [allD, if_pos hlt] at hA
   obtain ⟨A', hdr, hdC, hdl⟩ := drop_bytes (HBC.out _ HB.out) hc at_ (at_ : Int) rfl (Nat.le_of_lt hlt)
   have hzl : (b.drop at_).length ≤ 140737488355232 := by rw [List.length_drop]; omega
   have HD := Lib.hid (decC_calls wr A' (b.drop at_) (c - at_) hdC hdl (by omega))
   have hdn : (decC (b.drop at_)).2.2 = 0 → ∃ k : Nat, (decC (b.drop at_)).2.1 = (k : Int) ∧ 4 ≤ k ∧ k ≤ b.length - at_ := fun h => by
    obtain ⟨k, h1, h2, h3⟩ := decC_len h
    exact ⟨k, h1, h2, by rw [List.length_drop] at h3; exact h3⟩
   unfold DecCP at HD
   have HDN := Lib.hid hdn
   have HA2 := Lib.hid hA
   clear hA hdC hdl hzl hdn HA
   generalize decC (b.drop at_) = D at *
   obtain ⟨d, k, er⟩ := D
   dsimp only at HD HDN HA2
   generalize (b.drop at_).length = zl at *
   go_wp2_with fail
   refine HD.out.mono ?_
   rintro e w1 ⟨cs, rfl, hM, hB⟩
   obtain ⟨cl, rfl⟩ : ∃ cl : List Value, cs = cl.toArray := ⟨cs.toList, by simp⟩
   rw [List.toList_toArray] at hM
   obtain ⟨v10, v11, v12, v13, v14, hcs, h10, h11, h12, h13, h14⟩ := k30_openM hM
   obtain ⟨A10, c10, rfl⟩ := Kd.R_slice h10
   obtain ⟨A11, c11, rfl⟩ := Kd.R_slice h11
   obtain ⟨A12, c12, rfl⟩ := Kd.R_slice h12
   obtain ⟨A13, c13, rfl⟩ := Kd.R_slice h13
   obtain ⟨A14, c14, rfl⟩ := Kd.R_slice h14
   have HB2 := Lib.hid (below_then HB.out HB.out.size hB)
   have HR2 := Lib.hid (R_only HR.out (Only.of_below (S := fun _ => False) hB) (fun _ _ _ h => h))
   have HS := Lib.hid hB.size
   subst hcs
   have HM := Lib.hid hM
   clear h10 h11 h12 h13 h14 hM hB HD
   have HBO := Lib.hid (fun k h => Kd.R_lt HR.out k h)
   by_cases her : er = 0
   ·subst her
    obtain ⟨k', hk', hk4, hkl⟩ := HDN.out rfl
    subst hk'
    have hA := HA2.out
    rw [if_neg (by simp), Int.toNat_natCast] at hA
    have HA3 := Lib.hid hA
    clear hA HA2 HDN
    have hwr : wrap64 ((at_ : Int) + (k' : Int)) = ((at_ + k' : Nat) : Int) := by unfold wrap64; omega
    go_upto_region 7 with (fail)
    refine wp_gen (fun W' => W'.heap[w1.heap.size]? = some (.cells ([.int .u8 d.f0, .int .u8 d.f1, .int .u32 d.f2, .int .u16 d.f3, .int .u16 d.f4, .int .u32 d.f5, .int .u32 d.f6, .int .u32 d.f7, .int .u16 d.f8, .int .u16 d.f9, .slice A10 d.f10.length c10, .slice A11 d.f11.length c11, .slice A12 d.f12.length c12, .slice A13 d.f13.length c13, .slice A14 d.f14.length c14] : List Value).toArray 30 (0, 0)) ∧ Kd.R k30 30 W' w.heap.size (fun _ => True) u5 xs ∧ k30.M W' w.heap.size (fun k => wr.heap.size ≤ k) d ([.int .u8 d.f0, .int .u8 d.f1, .int .u32 d.f2, .int .u16 d.f3, .int .u16 d.f4, .int .u32 d.f5, .int .u32 d.f6, .int .u32 d.f7, .int .u16 d.f8, .int .u16 d.f9, .slice A10 d.f10.length c10, .slice A11 d.f11.length c11, .slice A12 d.f12.length c12, .slice A13 d.f13.length c13, .slice A14 d.f14.length c14]) ∧ Below w.heap.size w W') ⟨blk_new _ _, Kd.R_alloc HR2.out _, k30.M_mono (fun k hk => hk.2.1) (k30.M_bound (M_only HM.out (Only.of_below (S := fun _ => False) (below_alloc (Below.refl _ _) _)) (fun _ _ _ h => h))) |> k30.M_lower HB.out.size, below_alloc HB2.out _⟩ ?_
    clear HR2 HM HB2 HB HR
    rintro W2 ⟨hblk, hR2, hM2, hB2⟩
    have HM2 := Lib.hid hM2
    have HR3 := Lib.hid hR2
    have HB3 := Lib.hid hB2
    have HBL := Lib.hid hblk
    clear hR2 hM2 hB2 hblk
    go_wp2_with (first | (with_reducible refine gate_dst (N := 27) rfl ?_; go_must (refine wpList_load_row rfl 30 (.tmp 7) rfl _ rfl 30 _ (0, 0) _ HBL.out Try.underlying30 rfl (by kernel_rfl) ?_)) | (at_builtin; go_must (refine Kd.R_append k30 (w0 := w) (W := W2) w.heap.size rfl _ _ 41 30 (.agg zerV) 152 rfl Try.underlying41 info_chk rfl (by decide) (by decide) u5 xs d ([.int .u8 d.f0, .int .u8 d.f1, .int .u32 d.f2, .int .u16 d.f3, .int .u16 d.f4, .int .u32 d.f5, .int .u32 d.f6, .int .u32 d.f7, .int .u16 d.f8, .int .u16 d.f9, .slice A10 d.f10.length c10, .slice A11 d.f11.length c11, .slice A12 d.f12.length c12, .slice A13 d.f13.length c13, .slice A14 d.f14.length c14]) (fun _ => True) (fun k => wr.heap.size ≤ k) rfl rfl HM2.out (fun k hk => ⟨trivial, fun he => by have := HBO.out k he.symm; omega⟩) (fun _ _ => trivial) HR3.out HB3.out HB3.out.size (by have := HN.out.2; omega) ?_); (intro v1 w2 hR1 hB1 hG1 _; have HR1 := Lib.hid hR1; have HB1 := Lib.hid hB1; clear hR1 hB1 hG1)))
    go_roundw
    case rel => exact ⟨at_ + k', n, xs ++ [d], by omega, by rw [← hwr]; first | rfl | go_num, ⟨by have := HN.out.1; show _ < _; omega, by have := HN.out.2; show _ ≤ _; rw [List.length_append]; simp; omega⟩, HA3, HR1, HB1⟩
    case measure => simp [intOf]; omega
   ·have hA := HA2.out
    rw [if_pos her] at hA
    subst hA
    have q : (er != 0) = true := by simp [her]
    clear HA2 HDN her
    go_wp2
    go_ret3
    exact ⟨_, rfl, Kd.R_nil _ _ _ _ _, below_alloc HB2.out _⟩
  ·obtain rfl : at_ = b.length := by omega
   have hA := HA.out
   have hn : ∃ m, n = m + 1 := ⟨n - 1, by have := HN.out.1; omega⟩
   obtain ⟨n, rfl⟩ := hn
   rw [allD, if_neg (Nat.lt_irrefl _)] at hA
   subst hA
   clear HA HE
   go_wp2
   go_ret3
   exact ⟨_, rfl, HR.out, HB.out⟩
end Go.Proofs.Ytjmadnpicidbeaa.Ch
end
section
namespace Go.Proofs.Ytjmadnpicidbeaa.Ch
open Go.RowKit Go.Proofs.YtjmadnpicidbeaaW.PrintWords Go.Proofs.YtjmadnpicidbeaaW.PrintLast Go.Proofs.Ytjmadnpicidbeaa.Base Go.Proofs.Ytjmadnpicidbeaa.PCh Go.Proofs.Ytjmadnpicidbeaa.ParDec Go.Proofs.Ytjmadnpicidbeaa.ParEnc
set_option maxRecDepth 100000
set_option linter.unusedVariables false
set_option linter.unusedSimpArgs false
structure ChkOk (x : Chk) : Prop where
 bare : x = bareD x
 data : x.f0 = 0 → x.f13 ≠ []
 beat : x.f0 = 4 ∨ x.f0 = 5 → beatB x.f14 = true
 l10 : x.f10.length ≤ 4096
 l11 : x.f11.length ≤ 4096
 l12 : x.f12.length ≤ 4096
 enc : (encP x.f14).2 = 0
 len : (valueD x).length ≤ 65531
theorem check_ok {x : Chk} : checkD x = 0 ↔ ChkOk x := by
 constructor
 ·intro h
  unfold checkD at h
  by_cases h1 : decide (x = bareD x) = false
  ·rw [if_pos h1] at h; cases h
  rw [if_neg h1] at h
  by_cases h2 : x.f0 = 0 ∧ x.f13.length = 0
  ·rw [if_pos h2] at h; cases h
  rw [if_neg h2] at h
  by_cases h3 : (x.f0 = 4 ∨ x.f0 = 5) ∧ beatB x.f14 = false
  ·rw [if_pos h3] at h; cases h
  rw [if_neg h3] at h
  by_cases h4 : 4096 < x.f10.length ∨ 4096 < x.f11.length ∨ 4096 < x.f12.length
  ·rw [if_pos h4] at h; cases h
  rw [if_neg h4] at h
  by_cases h5 : (encP x.f14).2 ≠ 0
  ·rw [if_pos h5] at h; exact absurd h h5
  rw [if_neg h5] at h
  by_cases h6 : 65531 < (valueD x).length
  ·rw [if_pos h6] at h; cases h
  exact ⟨by simpa using h1, fun e hb => h2 ⟨e, by rw [hb]; rfl⟩, fun e => (by cases hb : beatB x.f14 <;> first | rfl | exact absurd ⟨e, hb⟩ h3), by omega, by omega, by omega, by omega, by omega⟩
 ·intro h
  unfold checkD
  rw [if_neg (by rw [decide_eq_true h.bare]; decide), if_neg (fun e => h.data e.1 (List.length_eq_zero_iff.1 e.2)), if_neg (fun e => by rw [h.beat e.1] at e; exact absurd e.2 (by decide)), if_neg (by have := h.l10; have := h.l11; have := h.l12; omega), if_neg (by have := h.enc; omega), if_neg (by have := h.len; omega)]
end Go.Proofs.Ytjmadnpicidbeaa.Ch
end
section
namespace Go.Proofs.Ytjmadnpicidbeaa.Base
open Go.RowKit Go.Proofs.YtjmadnpicidbeaaW.PrintWords Go.Proofs.YtjmadnpicidbeaaW.PrintLast
set_option linter.unusedVariables false
set_option linter.unusedSimpArgs false
abbrev Sel := List (Nat × Tmp × Value)
def Ar (O B : List Nat) (i : Nat) (L : (Nat → Value) → Sel) (a0 : Act) (os : List Operand) (vals : List Value) : Prop :=
 ∀ (b : Nat → Bool) (vs : Nat → Value), (∀ j, (O.contains j && (B.getD i 0).testBit j) = true → b j = true) → (∀ d, (O.contains d && (B.getD d 0).testBit i) = true → b d = false) → os.map (putSel a0 b (L vs)).eval = vals
end Go.Proofs.Ytjmadnpicidbeaa.Base
end
section
namespace Go.Proofs.Ytjmadnpicidbeaa.Ch
open Go.RowKit Go.Proofs.YtjmadnpicidbeaaW.PrintWords Go.Proofs.YtjmadnpicidbeaaW.PrintLast Go.Proofs.Ytjmadnpicidbeaa.Base Go.Proofs.Ytjmadnpicidbeaa.PCh Go.Proofs.Ytjmadnpicidbeaa.ParDec Go.Proofs.Ytjmadnpicidbeaa.ParEnc
set_option maxRecDepth 100000
set_option linter.unusedVariables false
set_option linter.unusedSimpArgs false
structure B1 (w : World) (x : Chk) (L : Lay) (W : World) : Prop where
 x0 : W.heap[w.heap.size]? = some (.cells (CV x L) 30 (0, 0))
 x2 : Below w.heap.size w W
theorem B1.cell {w W : World} {x : Chk} {L : Lay} (h : B1 w x L W) (i : Nat) : W.cell? ⟨w.heap.size, i, none⟩ = (CV x L)[i]? := blk_cell h.x0 i
theorem B1.below {w W W' : World} {x : Chk} {L : Lay} (h : B1 w x L W) (hb : Below W.heap.size W W') : B1 w x L W' := ⟨blk_below h.x0 hb, below_then h.x2 h.x2.size hb⟩
theorem B1.drewN {w W : World} {x : Chk} {L : Lay} (h : B1 w x L W) (n : Nat) : B1 w x L (W.drewN n) := ⟨blk_drewN h.x0 n, pw_below_drewN h.x2 n⟩
theorem B1.new (w : World) (x : Chk) (L : Lay) : B1 w x L (w.alloc (.cells (CV x L) 30)) := ⟨blk_new _ _, below_alloc (Below.refl _ _) _⟩
set_option maxHeartbeats 4000000 in
theorem check_calls (w : World) (x : Chk) (L : Lay) (hx : CR w x L) (hv : ValOk x L) :
  Calls Try.prog 16 #[.agg (CV x L)] w fun e w' => e = .returned (.int .i64 (checkD x)) ∧ Below w.heap.size w w' := by
 have HBR := Lib.hid (fun (W : World) (h : Below w.heap.size w W) => bare_calls W x L (hx.below h))
 have HSM := Lib.hid (fun (W : World) (h : Below w.heap.size w W) => same_calls W x (bareD x) L (keepL (hasF x.f0) L) (hx.below h) (keep_CR (hx.below h) _ _))
 have HEN := Lib.hid (fun (W : World) (h : Below w.heap.size w W) => encP_calls W L.A14 L.c14 x.f14 (Kd.C_below hx.h14 h) hx.l14)
 have HXC := Lib.hid (fun (W : World) (h : Below w.heap.size w W) => hx.below h)
 have HXS := Lib.hid (show (Try.prog.info? 30).map (·.size) = some (CV x L).size by kernel_rfl)
 have HM13 := Lib.hid hx.h13.2.1
 obtain ⟨CD, hcd⟩ : ∃ CD, checkD x = CD := ⟨_, rfl⟩
 have HCD := Lib.hid hcd
 rw [hcd]
 have X := B1.new w x L
 clear hx hcd
 go_enter Try.func16, Try.ntmps16
 go_upto_region 1 with (fail)
 refine wp_gen (B1 w x L) X ?_
 clear X
 intro W X
 obtain ⟨q, hq⟩ : ∃ q, decide (x = bareD x) = q := ⟨_, rfl⟩
 rw [hq] at HSM
 have HQ := Lib.hid hq
 clear hq
 have HX0 := Lib.hid X
 have B := True.intro
 refine start_ (n := 6) (S := fun w' => True) (ds := []) #[false, false, false, false, false, false] (by kernel_rfl) rfl rfl trivial (fun hHeld => ?_)
 refine with_tabW checktab1 checkbits1 (fun HT_ HW_ => ?_)
 refine inv_at [0, 1, 2, 3, 4, 5] (fun a0_ b a w' => a = putSel a0_ b [(0, 6, .agg (CV x L)), (1, 7, .agg (CV x L)), (2, 8, .agg (CV (bareD x) (keepL (hasF x.f0) L))), (3, 9, .bool q), (4, 10, .bool (!q)), (5, 5, .bool (!q))] ∧ (Below W.heap.size W w')) HT_.out HW_.out (by kernel_rfl) (by kernel_rfl) ?_ ?_ ?_
 ·exact ⟨by simp only [putSel, Bool.false_eq_true, if_false], below_drew (Below.refl _ _)⟩
 ·skip
  clear B
  refine steps_cons ?_ ?_
  ·rintro b a w' ⟨ha, Q_B⟩ hb_ hon hoff
   refine ⟨_, rfl, fun K hK => ?_⟩
   have e1 : a.tmps[1]? = some (.pointer (some ⟨w.heap.size, 0, none⟩)) := by rw [ha]; exact (putSel_off rfl).trans rfl
   replace ha := Aside0.mk ha
   have B := Aside0.mk Q_B
   refine value_ (w1 := w') (v := .agg (CV x L)) (by rfl) rfl (exec_load_row 30 (.tmp 1) rfl (eval_of e1) (blk_below HX0.out.x0 B.out) Try.underlying30 rfl HXS.out) ?_
   refine hK.out _ _ ⟨(by rw [ha.out]; exact putSel_upk 0 hb_ rfl rfl rfl), B.out⟩
  refine steps_cons ?_ ?_
  ·rintro b a w' ⟨ha, Q_B⟩ hb_ hon hoff
   refine ⟨_, rfl, fun K hK => ?_⟩
   have e1 : a.tmps[1]? = some (.pointer (some ⟨w.heap.size, 0, none⟩)) := by rw [ha]; exact (putSel_off rfl).trans rfl
   replace ha := Aside0.mk ha
   have B := Aside0.mk Q_B
   refine value_ (w1 := w') (v := .agg (CV x L)) (by rfl) rfl (exec_load_row 30 (.tmp 1) rfl (eval_of e1) (blk_below HX0.out.x0 B.out) Try.underlying30 rfl HXS.out) ?_
   refine hK.out _ _ ⟨(by rw [ha.out]; exact putSel_upk 1 hb_ rfl rfl rfl), B.out⟩
  refine steps_cons ?_ ?_
  ·rintro b a w' ⟨ha, Q_B⟩ hb_ hon hoff
   refine ⟨_, rfl, fun K hK => ?_⟩
   have e7 : a.tmps[7]? = some (.agg (CV x L)) := by rw [ha]; exact putSel_on (e := (1, 7, .agg (CV x L))) 1 rfl rfl (hon 1 (by kernel_rfl)) rfl
   replace ha := Aside0.mk ha
   have B := Aside0.mk Q_B
   refine goes_ Try.func38 (by kernel_rfl) rfl #[.agg (CV x L)] (by rfl) rfl rfl (by first | (simp only [List.map_toArray, List.map_cons, List.map_nil, Act.eval, Array.getD_eq_getD_getElem?, Option.getD_some, e7]; done) | (simp only [List.map_toArray, List.map_cons, List.map_nil, Act.eval, Array.getD_eq_getD_getElem?, Option.getD_some, e7]; rfl)) ?_
   refine (HBR.out w' (HX0.out.below B.out).x2).mono ?_
   rintro e w1 ⟨rfl, hB1⟩
   refine ⟨_, rfl, ?_⟩
   refine hK.out _ _ ⟨(by rw [ha.out]; exact putSel_upk 2 hb_ rfl rfl rfl), B.out.trans (hB1.mono B.out.size)⟩
  refine steps_cons ?_ ?_
  ·rintro b a w' ⟨ha, Q_B⟩ hb_ hon hoff
   refine ⟨_, rfl, fun K hK => ?_⟩
   have e6 : a.tmps[6]? = some (.agg (CV x L)) := by rw [ha]; exact putSel_on (e := (0, 6, .agg (CV x L))) 0 rfl rfl (hon 0 (by kernel_rfl)) rfl
   have e8 : a.tmps[8]? = some (.agg (CV (bareD x) (keepL (hasF x.f0) L))) := by rw [ha]; exact putSel_on (e := (2, 8, .agg (CV (bareD x) (keepL (hasF x.f0) L)))) 2 rfl rfl (hon 2 (by kernel_rfl)) rfl
   replace ha := Aside0.mk ha
   have B := Aside0.mk Q_B
   refine goes_ Try.func14 (by kernel_rfl) rfl #[.agg (CV x L), .agg (CV (bareD x) (keepL (hasF x.f0) L))] (by rfl) rfl rfl (by first | (simp only [List.map_toArray, List.map_cons, List.map_nil, Act.eval, Array.getD_eq_getD_getElem?, Option.getD_some, e6, e8]; done) | (simp only [List.map_toArray, List.map_cons, List.map_nil, Act.eval, Array.getD_eq_getD_getElem?, Option.getD_some, e6, e8]; rfl)) ?_
   refine (HSM.out w' (HX0.out.below B.out).x2).mono ?_
   rintro e w1 ⟨rfl, hB1⟩
   refine ⟨_, rfl, ?_⟩
   refine hK.out _ _ ⟨(by rw [ha.out]; exact putSel_upk 3 hb_ rfl rfl rfl), B.out.trans (hB1.mono B.out.size)⟩
  refine steps_cons ?_ ?_
  ·rintro b a w' ⟨ha, Q_B⟩ hb_ hon hoff
   refine ⟨_, rfl, fun K hK => ?_⟩
   have e9 : a.tmps[9]? = some (.bool q) := by rw [ha]; exact putSel_on (e := (3, 9, .bool q)) 3 rfl rfl (hon 3 (by kernel_rfl)) rfl
   replace ha := Aside0.mk ha
   have B := Aside0.mk Q_B
   refine value_ (w1 := w') (v := .bool (!q)) (by rfl) rfl ?_ ?_
   ·go_simp
    (try simp only [i64_w])
    try rfl
   refine hK.out _ _ ⟨(by rw [ha.out]; exact putSel_upk 4 hb_ rfl rfl rfl), Q_B⟩
  refine steps_cons ?_ ?_
  ·rintro b a w' ⟨ha, Q_B⟩ hb_ hon hoff
   refine ⟨_, rfl, fun K hK => ?_⟩
   have e10 : a.tmps[10]? = some (.bool (!q)) := by rw [ha]; exact putSel_on (e := (4, 10, .bool (!q))) 4 rfl rfl (hon 4 (by kernel_rfl)) rfl
   replace ha := Aside0.mk ha
   have B := Aside0.mk Q_B
   refine value_ (w1 := w') (v := .bool (!q)) (by rfl) rfl ?_ ?_
   ·go_simp
    (try simp only [i64_w])
    try rfl
   refine hK.out _ _ ⟨(by rw [ha.out]; exact putSel_upk 5 hb_ rfl rfl rfl), Q_B⟩
  exact steps_nil
 rintro b a w' hall ⟨ha, Q_B⟩
 clear B
 have hb0_ := hall 0 (by kernel_rfl)
 have hb1_ := hall 1 (by kernel_rfl)
 have hb2_ := hall 2 (by kernel_rfl)
 have hb3_ := hall 3 (by kernel_rfl)
 have hb4_ := hall 4 (by kernel_rfl)
 have hb5_ := hall 5 (by kernel_rfl)
 subst ha
 simp only [putSel, hb0_, hb1_, hb2_, hb3_, hb4_, hb5_, if_true, Act.put, List.setIfInBounds_toArray, List.set_cons_zero, List.set_cons_succ]
 have B := Aside0.mk Q_B
 clear Q_B
 clear hall hb0_ hb1_ hb2_ hb3_ hb4_ hb5_
 replace X := X.below B.out
 clear B HBR HSM HX0
 generalize w' = W at *
 cases q with
 | false =>
  have hC : CD = 63 := by rw [← HCD.out]; unfold checkD; rw [if_pos HQ.out]
  subst hC
  go_wp2
  go_ret
  exact ⟨rfl, X.x2⟩
 | true =>
 have HXE := Lib.hid (show x = bareD x from of_decide_eq_true HQ.out)
 have n1 : ¬ decide (x = bareD x) = false := by rw [HQ.out]; decide
 have hcd := HCD.out
 unfold checkD at hcd
 rw [if_neg n1] at hcd
 clear n1 HCD
 have k0 : W.cell? ⟨w.heap.size, 0, none⟩ = some (.int .u8 x.f0) := X.cell 0
 have k10 : W.cell? ⟨w.heap.size, 10, none⟩ = some (.slice L.A10 x.f10.length L.c10) := X.cell 10
 have k11 : W.cell? ⟨w.heap.size, 11, none⟩ = some (.slice L.A11 x.f11.length L.c11) := X.cell 11
 have k12 : W.cell? ⟨w.heap.size, 12, none⟩ = some (.slice L.A12 x.f12.length L.c12) := X.cell 12
 have k13 : W.cell? ⟨w.heap.size, 13, none⟩ = some (.slice L.A13 x.f13.length L.c13) := X.cell 13
 have k14 : W.cell? ⟨w.heap.size, 14, none⟩ = some (.slice L.A14 x.f14.length L.c14) := X.cell 14
 by_cases h62 : x.f0 = 0 ∧ x.f13.length = 0
 ·rw [if_pos h62] at hcd
  have q0 : (x.f0 == 0) = true := by simp [h62.1]
  have q13 : ((x.f13.length : Int) == 0) = true := by rw [h62.2]; rfl
  subst hcd
  clear h62
  go_wp2
  go_ret
  exact ⟨rfl, X.x2⟩
 rw [if_neg h62] at hcd
 have hbt : beatB x.f14 = true ∨ beatB x.f14 = false := by cases beatB x.f14 <;> simp
 by_cases h61 : (x.f0 = 4 ∨ x.f0 = 5) ∧ beatB x.f14 = false
 ·rw [if_pos h61] at hcd
  have q0 : (x.f0 == 0) = false := by simp; omega
  have HBT := Lib.hid (fun (W' : World) (h : Below w.heap.size w W') => chunk_beat.calls x.f0 x.f1 x.f2 x.f3 x.f4 x.f5 x.f6 x.f7 x.f8 x.f9 L.A10 L.c10 x.f10 L.A11 L.c11 x.f11 L.A12 L.c12 x.f12 L.A13 L.c13 x.f13 L.A14 L.c14 x.f14 false W' (HXC.out W' h).h10 (HXC.out W' h).l10 (HXC.out W' h).h11 (HXC.out W' h).l11 (HXC.out W' h).h12 (HXC.out W' h).l12 (HXC.out W' h).h13 (HXC.out W' h).l13 (HXC.out W' h).h14 (HXC.out W' h).l14 (by rw [beat_f, h61.2]))
  have HIB := Lib.hid (fun W' => isBeat_calls x.f0 W')
  rw [decide_eq_true h61.1] at HIB
  subst hcd
  clear h61 h62 hbt
  go_wp2_with fail
  refine (HIB.out _).mono ?_
  rintro e w2 ⟨rfl, ⟨m2, rfl⟩⟩
  replace X := X.drewN m2
  go_wp2_with (with_reducible refine gate_dst (N := 26) rfl ?_; go_must (refine step_on (wanted_on rfl rfl rfl rfl) (exec_load_row 30 (.tmp 1) rfl rfl X.x0 Try.underlying30 rfl HXS.out) ?_))
  refine (HBT.out _ X.x2).mono ?_
  rintro e w2 ⟨rfl, hB2⟩
  replace X := X.below hB2
  go_wp2
  go_ret
  exact ⟨rfl, X.x2⟩
 rw [if_neg h61] at hcd
 have HCD := Lib.hid hcd
 clear hcd
 have hvar : (x.f0 = 0 ∧ ¬ x.f13.length = 0) ∨ (¬ x.f0 = 0 ∧ ¬ (x.f0 = 4 ∨ x.f0 = 5)) ∨ (¬ x.f0 = 0 ∧ (x.f0 = 4 ∨ x.f0 = 5) ∧ beatB x.f14 = true) := by
  by_cases a0 : x.f0 = 0
  ·exact Or.inl ⟨a0, fun e => h62 ⟨a0, e⟩⟩
  ·by_cases a4 : x.f0 = 4 ∨ x.f0 = 5
   ·exact Or.inr (Or.inr ⟨a0, a4, hbt.elim id (fun e => absurd ⟨a4, e⟩ h61)⟩)
   ·exact Or.inr (Or.inl ⟨a0, a4⟩)
 clear h61 h62 hbt
 rcases hvar with ⟨a0, a13⟩ | ⟨a0, a4⟩ | ⟨a0, a4, hbt⟩
 ·have HIB := Lib.hid (fun W' => isBeat_calls x.f0 W')
  rw [decide_eq_false (by omega)] at HIB
  have q0 : (x.f0 == 0) = true := by simp [a0]
  have q13 : ((x.f13.length : Int) == 0) = false := by rw [beq_eq_false_iff_ne]; omega
  clear a0 a13
  go_wp2_with fail
  refine (HIB.out _).mono ?_
  rintro e w2 ⟨rfl, ⟨m2, rfl⟩⟩
  replace X := X.drewN m2
  go_upto_region 7 with (fail)
  refine wp_gen (B1 w x L) X ?_
  clear X k0 k10 k11 k12 k13 k14 q0 q13 HIB
  intro W X
  have k10 : W.cell? ⟨w.heap.size, 10, none⟩ = some (.slice L.A10 x.f10.length L.c10) := X.cell 10
  have k11 : W.cell? ⟨w.heap.size, 11, none⟩ = some (.slice L.A11 x.f11.length L.c11) := X.cell 11
  have k12 : W.cell? ⟨w.heap.size, 12, none⟩ = some (.slice L.A12 x.f12.length L.c12) := X.cell 12
  have k14 : W.cell? ⟨w.heap.size, 14, none⟩ = some (.slice L.A14 x.f14.length L.c14) := X.cell 14
  by_cases hm : 4096 < x.f10.length ∨ 4096 < x.f11.length ∨ 4096 < x.f12.length
  ·have hc := HCD.out
   rw [if_pos hm] at hc
   subst hc
   go_wp2
   all_goals first | (exfalso; omega) | (go_ret; exact ⟨rfl, X.x2⟩)
  have b10 : decide ((4096 : Int) < (x.f10.length : Int)) = false := by simp; omega
  have b11 : decide ((4096 : Int) < (x.f11.length : Int)) = false := by simp; omega
  have b12 : decide ((4096 : Int) < (x.f12.length : Int)) = false := by simp; omega
  have HCE := Lib.hid HCD.out
  rw [if_neg hm] at HCE
  have l10 : x.f10.length ≤ 4096 := by omega
  have l11 : x.f11.length ≤ 4096 := by omega
  have l12 : x.f12.length ≤ 4096 := by omega
  have HEW := Lib.hid (HEN.out W X.x2)
  by_cases he : (encP x.f14).2 = 0
  ·have HVL := Lib.hid (fun (W' : World) (h : Below w.heap.size w W') => hv W' (HXC.out W' h) HXE.out l10 l11 l12 he)
   rw [if_neg (fun e => e he)] at HCE
   rw [he] at HEW
   clear hm he
   unfold ValP at HVL
   go_wp2_with fail
   refine HEW.out.mono ?_
   rintro e w3 ⟨v0, rfl, hR, hB3⟩
   obtain ⟨A0, c0, rfl⟩ := Kd.R_slice hR
   replace X := X.below hB3
   clear hR hB3 k10 k11 k12 k14
   go_wp2_with (with_reducible refine gate_dst (N := 52) rfl ?_; refine wpList_load_row rfl 30 (.tmp 1) rfl _ rfl 30 _ (0, 0) _ X.x0 Try.underlying30 rfl HXS.out ?_)
   refine (HVL.out _ X.x2).mono ?_
   rintro e w5 ⟨A9, c9, rfl, hle9, hC9, hB5⟩
   replace X := X.below hB5
   clear hC9 hB5 hle9
   generalize (valueD x).length = vl at *
   by_cases h2 : 65531 < vl
   ·have hc := HCE.out
    rw [if_pos h2] at hc
    subst hc
    go_wp2
    go_ret
    exact ⟨rfl, X.x2⟩
   ·have hc := HCE.out
    rw [if_neg h2] at hc
    subst hc
    go_wp2
    go_ret
    exact ⟨rfl, X.x2⟩
  ·have hc := HCE.out
   rw [if_pos he] at hc
   rw [hc] at HEW he
   have q : (CD != 0) = true := by simp [he]
   clear hm he hc
   go_wp2_with fail
   refine HEW.out.mono ?_
   rintro e w3 ⟨v0, rfl, hR, hB3⟩
   obtain ⟨A0, c0, rfl⟩ := Kd.R_slice hR
   replace X := X.below hB3
   clear hR hB3 k10 k11 k12 k14
   go_wp2
   go_ret
   exact ⟨rfl, X.x2⟩
 ·have HIB := Lib.hid (fun W' => isBeat_calls x.f0 W')
  rw [decide_eq_false a4] at HIB
  have q0 : (x.f0 == 0) = false := by simp [a0]
  clear a0 a4
  go_wp2_with fail
  refine (HIB.out _).mono ?_
  rintro e w2 ⟨rfl, ⟨m2, rfl⟩⟩
  replace X := X.drewN m2
  go_upto_region 7 with (fail)
  refine wp_gen (B1 w x L) X ?_
  clear X k0 k10 k11 k12 k13 k14 q0 HIB
  intro W X
  have k10 : W.cell? ⟨w.heap.size, 10, none⟩ = some (.slice L.A10 x.f10.length L.c10) := X.cell 10
  have k11 : W.cell? ⟨w.heap.size, 11, none⟩ = some (.slice L.A11 x.f11.length L.c11) := X.cell 11
  have k12 : W.cell? ⟨w.heap.size, 12, none⟩ = some (.slice L.A12 x.f12.length L.c12) := X.cell 12
  have k14 : W.cell? ⟨w.heap.size, 14, none⟩ = some (.slice L.A14 x.f14.length L.c14) := X.cell 14
  by_cases hm : 4096 < x.f10.length ∨ 4096 < x.f11.length ∨ 4096 < x.f12.length
  ·have hc := HCD.out
   rw [if_pos hm] at hc
   subst hc
   go_wp2
   all_goals first | (exfalso; omega) | (go_ret; exact ⟨rfl, X.x2⟩)
  have b10 : decide ((4096 : Int) < (x.f10.length : Int)) = false := by simp; omega
  have b11 : decide ((4096 : Int) < (x.f11.length : Int)) = false := by simp; omega
  have b12 : decide ((4096 : Int) < (x.f12.length : Int)) = false := by simp; omega
  have HCE := Lib.hid HCD.out
  rw [if_neg hm] at HCE
  have l10 : x.f10.length ≤ 4096 := by omega
  have l11 : x.f11.length ≤ 4096 := by omega
  have l12 : x.f12.length ≤ 4096 := by omega
  have HEW := Lib.hid (HEN.out W X.x2)
  by_cases he : (encP x.f14).2 = 0
  ·have HVL := Lib.hid (fun (W' : World) (h : Below w.heap.size w W') => hv W' (HXC.out W' h) HXE.out l10 l11 l12 he)
   rw [if_neg (fun e => e he)] at HCE
   rw [he] at HEW
   clear hm he
   unfold ValP at HVL
   go_wp2_with fail
   refine HEW.out.mono ?_
   rintro e w3 ⟨v0, rfl, hR, hB3⟩
   obtain ⟨A0, c0, rfl⟩ := Kd.R_slice hR
   replace X := X.below hB3
   clear hR hB3 k10 k11 k12 k14
   go_wp2_with (with_reducible refine gate_dst (N := 52) rfl ?_; refine wpList_load_row rfl 30 (.tmp 1) rfl _ rfl 30 _ (0, 0) _ X.x0 Try.underlying30 rfl HXS.out ?_)
   refine (HVL.out _ X.x2).mono ?_
   rintro e w5 ⟨A9, c9, rfl, hle9, hC9, hB5⟩
   replace X := X.below hB5
   clear hC9 hB5 hle9
   generalize (valueD x).length = vl at *
   by_cases h2 : 65531 < vl
   ·have hc := HCE.out
    rw [if_pos h2] at hc
    subst hc
    go_wp2
    go_ret
    exact ⟨rfl, X.x2⟩
   ·have hc := HCE.out
    rw [if_neg h2] at hc
    subst hc
    go_wp2
    go_ret
    exact ⟨rfl, X.x2⟩
  ·have hc := HCE.out
   rw [if_pos he] at hc
   rw [hc] at HEW he
   have q : (CD != 0) = true := by simp [he]
   clear hm he hc
   go_wp2_with fail
   refine HEW.out.mono ?_
   rintro e w3 ⟨v0, rfl, hR, hB3⟩
   obtain ⟨A0, c0, rfl⟩ := Kd.R_slice hR
   replace X := X.below hB3
   clear hR hB3 k10 k11 k12 k14
   go_wp2
   go_ret
   exact ⟨rfl, X.x2⟩
 ·have HIB := Lib.hid (fun W' => isBeat_calls x.f0 W')
  rw [decide_eq_true a4] at HIB
  have HBT := Lib.hid (fun (W' : World) (h : Below w.heap.size w W') => chunk_beat.calls x.f0 x.f1 x.f2 x.f3 x.f4 x.f5 x.f6 x.f7 x.f8 x.f9 L.A10 L.c10 x.f10 L.A11 L.c11 x.f11 L.A12 L.c12 x.f12 L.A13 L.c13 x.f13 L.A14 L.c14 x.f14 true W' (HXC.out W' h).h10 (HXC.out W' h).l10 (HXC.out W' h).h11 (HXC.out W' h).l11 (HXC.out W' h).h12 (HXC.out W' h).l12 (HXC.out W' h).h13 (HXC.out W' h).l13 (HXC.out W' h).h14 (HXC.out W' h).l14 (by rw [beat_f, hbt]))
  have q0 : (x.f0 == 0) = false := by simp [a0]
  clear a0 a4 hbt
  go_wp2_with fail
  refine (HIB.out _).mono ?_
  rintro e w2 ⟨rfl, ⟨m2, rfl⟩⟩
  replace X := X.drewN m2
  go_wp2_with (with_reducible refine gate_dst (N := 26) rfl ?_; go_must (refine step_on (wanted_on rfl rfl rfl rfl) (exec_load_row 30 (.tmp 1) rfl rfl X.x0 Try.underlying30 rfl HXS.out) ?_))
  refine (HBT.out _ X.x2).mono ?_
  rintro e w2 ⟨rfl, hB2⟩
  replace X := X.below hB2
  clear hB2
  go_upto_region 7 with (fail)
  refine wp_gen (B1 w x L) X ?_
  clear X k0 k10 k11 k12 k13 k14 q0 HIB HBT
  intro W X
  have k10 : W.cell? ⟨w.heap.size, 10, none⟩ = some (.slice L.A10 x.f10.length L.c10) := X.cell 10
  have k11 : W.cell? ⟨w.heap.size, 11, none⟩ = some (.slice L.A11 x.f11.length L.c11) := X.cell 11
  have k12 : W.cell? ⟨w.heap.size, 12, none⟩ = some (.slice L.A12 x.f12.length L.c12) := X.cell 12
  have k14 : W.cell? ⟨w.heap.size, 14, none⟩ = some (.slice L.A14 x.f14.length L.c14) := X.cell 14
  by_cases hm : 4096 < x.f10.length ∨ 4096 < x.f11.length ∨ 4096 < x.f12.length
  ·have hc := HCD.out
   rw [if_pos hm] at hc
   subst hc
   go_wp2
   all_goals first | (exfalso; omega) | (go_ret; exact ⟨rfl, X.x2⟩)
  have b10 : decide ((4096 : Int) < (x.f10.length : Int)) = false := by simp; omega
  have b11 : decide ((4096 : Int) < (x.f11.length : Int)) = false := by simp; omega
  have b12 : decide ((4096 : Int) < (x.f12.length : Int)) = false := by simp; omega
  have HCE := Lib.hid HCD.out
  rw [if_neg hm] at HCE
  have l10 : x.f10.length ≤ 4096 := by omega
  have l11 : x.f11.length ≤ 4096 := by omega
  have l12 : x.f12.length ≤ 4096 := by omega
  have HEW := Lib.hid (HEN.out W X.x2)
  by_cases he : (encP x.f14).2 = 0
  ·have HVL := Lib.hid (fun (W' : World) (h : Below w.heap.size w W') => hv W' (HXC.out W' h) HXE.out l10 l11 l12 he)
   rw [if_neg (fun e => e he)] at HCE
   rw [he] at HEW
   clear hm he
   unfold ValP at HVL
   go_wp2_with fail
   refine HEW.out.mono ?_
   rintro e w3 ⟨v0, rfl, hR, hB3⟩
   obtain ⟨A0, c0, rfl⟩ := Kd.R_slice hR
   replace X := X.below hB3
   clear hR hB3 k10 k11 k12 k14
   go_wp2_with (with_reducible refine gate_dst (N := 52) rfl ?_; refine wpList_load_row rfl 30 (.tmp 1) rfl _ rfl 30 _ (0, 0) _ X.x0 Try.underlying30 rfl HXS.out ?_)
   refine (HVL.out _ X.x2).mono ?_
   rintro e w5 ⟨A9, c9, rfl, hle9, hC9, hB5⟩
   replace X := X.below hB5
   clear hC9 hB5 hle9
   generalize (valueD x).length = vl at *
   by_cases h2 : 65531 < vl
   ·have hc := HCE.out
    rw [if_pos h2] at hc
    subst hc
    go_wp2
    go_ret
    exact ⟨rfl, X.x2⟩
   ·have hc := HCE.out
    rw [if_neg h2] at hc
    subst hc
    go_wp2
    go_ret
    exact ⟨rfl, X.x2⟩
  ·have hc := HCE.out
   rw [if_pos he] at hc
   rw [hc] at HEW he
   have q : (CD != 0) = true := by simp [he]
   clear hm he hc
   go_wp2_with fail
   refine HEW.out.mono ?_
   rintro e w3 ⟨v0, rfl, hR, hB3⟩
   obtain ⟨A0, c0, rfl⟩ := Kd.R_slice hR
   replace X := X.below hB3
   clear hR hB3 k10 k11 k12 k14
   go_wp2
   go_ret
   exact ⟨rfl, X.x2⟩
end Go.Proofs.Ytjmadnpicidbeaa.Ch
end
section
namespace Go.Proofs.Ytjmadnpicidbeaa.Ch
open Go.RowKit Go.Proofs.YtjmadnpicidbeaaW.PrintWords Go.Proofs.YtjmadnpicidbeaaW.PrintLast Go.Proofs.Ytjmadnpicidbeaa.Base Go.Proofs.Ytjmadnpicidbeaa.PCh Go.Proofs.Ytjmadnpicidbeaa.ParDec Go.Proofs.Ytjmadnpicidbeaa.ParEnc
set_option maxRecDepth 100000
set_option linter.unusedVariables false
set_option linter.unusedSimpArgs false
theorem be_lt (l : List UInt8) : ∀ a, l.foldl (fun a b => a * 256 + b.toNat) a < (a + 1) * 256 ^ l.length := by
 induction l with
 | nil => intro a; simp
 | cons b r ih =>
  intro a
  have h1 := ih (a * 256 + b.toNat)
  have h2 := b.toNat_lt
  refine Nat.lt_of_lt_of_le h1 ?_
  rw [List.length_cons, Nat.pow_succ, Nat.mul_comm (256 ^ r.length) 256, ← Nat.mul_assoc]
  exact Nat.mul_le_mul_right _ (by omega)
theorem be_in16 (v : List UInt8) : in16 (be (v.take 2) : Int) := by
 have h := be_lt (v.take 2) 0
 have hl : (v.take 2).length ≤ 2 := by rw [List.length_take]; omega
 have := Nat.pow_le_pow_right (n := 256) (by decide) hl
 unfold in16 be
 omega
theorem be_in32 (v : List UInt8) (hl : v.length ≤ 4) : in32 (be v : Int) := by
 have h := be_lt v 0
 have := Nat.pow_le_pow_right (n := 256) (by decide) hl
 unfold in32 be
 omega
theorem be4_in (v : List UInt8) : in32 (be (v.take 4) : Int) := be_in32 _ (by rw [List.length_take]; omega)
theorem gapsD_ok (n : Nat) : ∀ v, ∀ g ∈ gapsD n v, okG g := by
 induction n with
 | zero => intro v g h; cases h
 | succ n ih =>
  intro v g h
  rcases List.mem_cons.1 h with rfl | h
  ·exact ⟨be_in16 _, be_in16 _⟩
  ·exact ih _ g h
theorem dupsD_ok (n : Nat) : ∀ v, ∀ g ∈ dupsD n v, in32 g := by
 induction n with
 | zero => intro v g h; cases h
 | succ n ih =>
  intro v g h
  rcases List.mem_cons.1 h with rfl | h
  ·exact be4_in _
  ·exact ih _ g h
theorem prmsD_all {v : List UInt8} {ps : List PrmS} (h : prmsD v = .ok ps) : (∀ p ∈ ps, okQ p) ∧ (encP ps).2 = 0 ∧ (encP ps).1.length ≤ v.length := by
 unfold prmsD at h
 by_cases e : (decD v).2.2 = 0
 ·rw [if_pos e] at h
  injection h with h
  subst h
  obtain ⟨h1, h2, h3, h4⟩ := dec_ok v e
  have hr := runB_short _ (okP_short h2) []
  unfold encP
  rw [if_neg (by omega), hr]
  exact ⟨fun p hp => ⟨⟨(h2 p hp).1, (h2 p hp).2.1⟩, fun b hb => (h2 p hp).2.2.2 b hb⟩, rfl, h3⟩
 ·rw [if_neg e] at h
  cases h
theorem flD_in (kd f1 : Int) (h0 : 0 ≤ f1) (h1 : f1 < 256) : inB (flD kd f1) ∧ flD kd (flD kd f1) = flD kd f1 := by
 have key : ∀ k : Int, (k = 0 ∨ k = 1 ∨ k = 7 ∨ k = 255) → ∀ f, 0 ≤ f → f < 256 → bits .and .u8 f k = f % (k + 1) := by
  intro k hk f f0 f1
  rcases hk with rfl | rfl | rfl | rfl
  ·exact and_mod f 0 f0 f1 (by decide)
  ·exact and_mod f 1 f0 f1 (by decide)
  ·exact and_mod f 3 f0 f1 (by decide)
  ·exact and_mod f 8 f0 f1 (by decide)
 have hm : maskD kd = 0 ∨ maskD kd = 1 ∨ maskD kd = 7 ∨ maskD kd = 255 := by
  unfold maskD
  split
  ·exact Or.inr (Or.inr (Or.inl rfl))
  ·split
   ·exact Or.inr (Or.inl rfl)
   ·split
    ·exact Or.inl rfl
    ·exact Or.inr (Or.inr (Or.inr rfl))
 have e1 := key _ hm f1 h0 h1
 unfold flD
 rw [e1]
 have hp : 0 ≤ f1 % (maskD kd + 1) ∧ f1 % (maskD kd + 1) < 256 := by rcases hm with h | h | h | h <;> rw [h] <;> omega
 refine ⟨hp, ?_⟩
 rw [key _ hm _ hp.1 hp.2]
 rcases hm with h | h | h | h <;> rw [h] <;> omega
end Go.Proofs.Ytjmadnpicidbeaa.Ch
end
section
namespace Go.Proofs.Ytjmadnpicidbeaa.Ch
open Go.RowKit Go.Proofs.YtjmadnpicidbeaaW.PrintWords Go.Proofs.YtjmadnpicidbeaaW.PrintLast Go.Proofs.Ytjmadnpicidbeaa.Base Go.Proofs.Ytjmadnpicidbeaa.PCh Go.Proofs.Ytjmadnpicidbeaa.ParDec Go.Proofs.Ytjmadnpicidbeaa.ParEnc
set_option maxRecDepth 100000
set_option linter.unusedVariables false
set_option linter.unusedSimpArgs false
def encAT13 : Bool × List (List Nat × List Nat) := (true, [([], []), ([], []), ([1], [1]), ([2], [2]), ([3], [3]), ([], []), ([5], [5]), ([], []), ([7], [7]), ([6, 8], [6, 8]), ([4, 9], [4, 9]), ([0, 0, 1, 2, 3, 4, 5, 6, 7, 8, 9, 10], [0]), ([11, 0, 1, 2, 3, 4, 5, 6, 7, 8, 9, 10], [11]), ([12, 10, 10, 0, 1, 2, 3, 4, 5, 6, 7, 8, 9, 10], [10, 12])])
def encAB13 : List Nat := [0, 0, 2, 6, 14, 0, 32, 0, 128, 480, 1022, 2047, 4095, 8191]
theorem encAtab13 : Go.Proofs.YtjmadnpicidbeaaW.PrintLast.rtab .any (Go.Proofs.YtjmadnpicidbeaaW.PrintLast.opsOf Try.f15 13) = encAT13 := by kernel_rfl
theorem encAbits13 : Go.Proofs.YtjmadnpicidbeaaW.PrintLast.waitsOk encAT13.2 encAB13 = true := by kernel_rfl
def encBT16 : Bool × List (List Nat × List Nat) := (true, [([], []), ([], []), ([1], [1]), ([2], [2]), ([3], [3]), ([], []), ([5], [5]), ([6], [6]), ([], []), ([8], [8]), ([7, 9], [7, 9]), ([4, 10, 7], [4, 10]), ([0, 0, 1, 2, 3, 4, 5, 6, 7, 8, 9, 10, 11], [0]), ([12, 0, 1, 2, 3, 4, 5, 6, 7, 8, 9, 10, 11], [12]), ([13, 11, 11, 0, 1, 2, 3, 4, 5, 6, 7, 8, 9, 10, 11], [11, 13])])
def encBB16 : List Nat := [0, 0, 2, 6, 14, 0, 32, 96, 0, 256, 992, 2046, 4095, 8191, 16383]
theorem encBtab16 : Go.Proofs.YtjmadnpicidbeaaW.PrintLast.rtab .any (Go.Proofs.YtjmadnpicidbeaaW.PrintLast.opsOf Try.f15 16) = encBT16 := by kernel_rfl
theorem encBbits16 : Go.Proofs.YtjmadnpicidbeaaW.PrintLast.waitsOk encBT16.2 encBB16 = true := by kernel_rfl
set_option maxHeartbeats 4000000 in
theorem encode_chunks (w : World) (A : Option Addr) (c : Nat) (l : List Chk) (hl : Kd.C k30 w A l.length l)
  (hck : ∀ x ∈ l, ∀ W L, CR W x L → Calls Try.prog 16 #[.agg (CV x L)] W fun e w' => e = .returned (.int .i64 (checkD x)) ∧ Below W.heap.size W w')
  (hval : ∀ x ∈ l, checkD x = 0 → ∀ W L, w.heap.size ≤ W.heap.size → (∀ W', Below w.heap.size W W' → CR W' x L) → Calls Try.prog 36 #[.agg (CV x L)] W (ValQ w.heap.size (valueD x) W)) :
  Calls Try.prog 15 #[.slice A l.length c] w fun e w' => ∃ v, e = .returned (.tuple #[v, .int .i64 (encD l).2]) ∧ (Kd.int .u8).R 5 w' w.heap.size (fun _ => True) v (encD l).1 ∧ Below w.heap.size w w' := by
 have HLC := Lib.hid (fun (W : World) (h : Below w.heap.size w W) => Kd.C_below hl h)
 have HCK := Lib.hid hck
 have HVAL := Lib.hid hval
 have HMX := Lib.hid hl.2.1
 obtain ⟨E, hE⟩ : ∃ E, encD l = E := ⟨_, rfl⟩
 rw [hE]
 have HE := Lib.hid hE
 clear hl hck hval hE
 go_enter Try.func15, Try.ntmps15
 have hm := HMX.out
 go_wp2
 go_loopw [13] (fun v13 wr => ∃ (i : Nat), i ≤ l.length ∧ v13 = .int .i64 (i : Int) ∧ Hid (chkAll (l.drop i) = chkAll l) ∧ Hid (Below w.heap.size w wr)) (fun v13 _ => l.length - (intOf v13).toNat)
 case atStart => exact ⟨0, Nat.zero_le _, rfl, rfl, Below.refl _ _⟩
 case round =>
  obtain ⟨i, hi, rfl, HA, HB⟩ := hrel
  by_cases hlt : i < l.length
  ·obtain ⟨ad, x, L, rfl, hd, hxm, hcell, hx⟩ := chk_at (HLC.out wr HB.out) i hlt
   have hA := HA.out
   rw [hd, chkAll] at hA
   have HCX := Lib.hid (HCK.out x hxm (wr.alloc (.cells (CV x L) 30)) L (hx.below (below_alloc (Below.refl _ _) _)))
   have HCL := Lib.hid hcell
   have HXS := Lib.hid (show (Try.prog.info? 30).map (·.size) = some (CV x L).size by kernel_rfl)
   have HXZ := Lib.hid (show (#[.int .u8 0, .int .u8 0, .int .u32 0, .int .u16 0, .int .u16 0, .int .u32 0, .int .u32 0, .int .u32 0, .int .u16 0, .int .u16 0, .slice none 0 0, .slice none 0 0, .slice none 0 0, .slice none 0 0, .slice none 0 0] : Array Value).size = (CV x L).size from rfl)
   have HXO := Lib.hid (CV_one x L)
   clear hcell hd hxm
   generalize checkD x = q at *
   generalize CV x L = CX at *
   clear hx HA
   have HA2 := Lib.hid hA
   clear hA
   go_wp2_with (first | (with_reducible refine gate_dst (N := 16) rfl ?_; go_must (refine wpList_load_cells rfl 30 (.tmp 15) rfl rfl CX _ (fun j v hv => HCL.out j v hv) Try.underlying30 rfl HXS.out ?_)) | (with_reducible refine gate_dst (N := 5) rfl ?_; go_must (refine wpList_box rfl rfl 5 rfl rfl (.tmp 16) rfl CX rfl rfl HXZ.out HXS.out HXO.out ?_)) | (with_reducible refine gate_dst (N := 17) rfl ?_; go_must (refine wpList_load_cells rfl 30 (.tmp 5) rfl rfl CX _ (cells_of_blk (blk_new wr (.cells CX 30))) Try.underlying30 rfl HXS.out ?_)))
   refine HCX.out.mono ?_
   rintro e w1 ⟨rfl, hB1⟩
   have HB2 := Lib.hid (below_then HB.out (by have := HB.out.size; exact this) (below_then (below_alloc (Below.refl wr.heap.size wr) (.cells CX 30)) (by simp) hB1))
   clear hB1 HB HCL
   by_cases hq : q = 0
   ·subst hq
    have hA := HA2.out
    rw [if_pos rfl] at hA
    have HA := Lib.hid hA
    clear hA HA2
    go_wp2
    go_roundw
    case rel => exact ⟨i + 1, by omega, by go_num, HA, HB2⟩
    case measure => simp [intOf]; omega
   ·have hA := HA2.out
    rw [if_neg hq] at hA
    have HA := Lib.hid hA
    clear hA HA2
    go_wp2
    go_ret2
    have hE : encD l = ([], q) := by unfold encD; rw [← HA.out, if_neg hq]
    rw [← HE.out, hE]
    exact ⟨_, rfl, Kd.R_nil _ _ _ _ _, HB2.out⟩
  ·obtain rfl : i = l.length := by omega
   have hA := HA.out
   rw [List.drop_length, chkAll] at hA
   have HAL := Lib.hid hA.symm
   have HRE := Lib.hid (show runE [] l = E by have := HE.out; unfold encD at this; rw [if_pos hA.symm] at this; exact this)
   clear hA HA HCK HE
   go_wp2
   have HW0 := Lib.hid (show WS (wr.alloc (.cells #[.slice none 0 0] 66)) wr.heap.size [] from ⟨_, blk_new _ _, Kd.R_nil _ _ _ _ _⟩)
   have HBW := Lib.hid (below_alloc HB.out (.cells #[.slice none 0 0] 66))
   have HGW := Lib.hid (show w.heap.size ≤ wr.heap.size from HB.out.size)
   clear HB
   generalize wr.alloc (.cells #[.slice none 0 0] 66) = W0 at *
   generalize wr.heap.size = gw at *
   go_loopw [27] (fun v27 wr => ∃ (i : Nat) (acc : List Int), i ≤ l.length ∧ v27 = .int .i64 (i : Int) ∧ Hid (runE acc (l.drop i) = E) ∧ Hid (acc.length ≤ 65536) ∧ Hid (WS wr gw acc) ∧ Hid (Below w.heap.size w wr)) (fun v27 _ => l.length - (intOf v27).toNat)
   case atStart => exact ⟨0, [], Nat.zero_le _, rfl, HRE.out, (by show _ ≤ _; simp), HW0.out, HBW.out⟩
   case round =>
    obtain ⟨i, acc, hi, rfl, HA, HLA, HW, HB⟩ := hrel
    by_cases hlt : i < l.length
    ·obtain ⟨ad, x, L, rfl, hd, hxm, hcell, hx⟩ := chk_at (HLC.out w (Below.refl _ _)) i hlt
     have hA := HA.out
     rw [hd, runE, chunkL] at hA
     have hc0 := chkAll_mem HAL.out hxm
     have hvl := checkD_len hc0
     have HCL := Lib.hid (fun j v hv => pw_cell_below HB.out (hcell j v hv))
     have HV := Lib.hid (HVAL.out x hxm hc0 (wr.alloc (.cells (CV x L) 30)) L (by have := HB.out.size; rw [World.size_alloc]; omega) (fun W' h => hx.below ((below_alloc HB.out _).trans h)))
     have HXS := Lib.hid (show (Try.prog.info? 30).map (·.size) = some (CV x L).size by kernel_rfl)
     have HXZ := Lib.hid (show (#[.int .u8 0, .int .u8 0, .int .u32 0, .int .u16 0, .int .u16 0, .int .u32 0, .int .u32 0, .int .u32 0, .int .u16 0, .int .u16 0, .slice none 0 0, .slice none 0 0, .slice none 0 0, .slice none 0 0, .slice none 0 0] : Array Value).size = (CV x L).size from rfl)
     have HXO := Lib.hid (CV_one x L)
     have HY0 := Lib.hid (show (CV x L)[0]? = some (.int .u8 x.f0) from rfl)
     have HY1 := Lib.hid (show (CV x L)[1]? = some (.int .u8 x.f1) from rfl)
     clear hcell hd hxm hx hc0 HA HAL HRE HW0 HBW HLC HVAL
     generalize CV x L = CX at *
     generalize valueD x = v at *
     generalize x.f0 = a0 at *
     generalize x.f1 = a1 at *
     obtain ⟨pad, hpad⟩ : ∃ m : Nat, (v.length + 3) / 4 * 4 - v.length = m := ⟨_, rfl⟩
     unfold padL at hA
     rw [hpad] at hA
     simp only [← List.append_assoc] at hA
     have HPL := Lib.hid (show pad ≤ 3 by omega)
     have HSUB := Lib.hid (show wrap64 ((((v.length + 3) / 4 * 4 : Nat) : Int) - (v.length : Int)) = ((pad : Nat) : Int) by unfold wrap64; omega)
     have HPD := Lib.hid (fun W : World => padded_calls v.length (by omega) W)
     have HVL := Lib.hid hvl
     have HA2 := Lib.hid hA
     clear hA hpad hvl
     obtain ⟨n, hn⟩ : ∃ n, v.length = n := ⟨_, rfl⟩
     rw [hn] at HSUB HPD HVL HA2
     have HNV := Lib.hid hn
     clear hn
     generalize hpn : (n + 3) / 4 * 4 = pn at *
     clear hpn
     go_wp2_with (first | (with_reducible refine gate_dst (N := 30) rfl ?_; go_must (refine wpList_load_cells rfl 30 (.tmp 29) rfl rfl CX _ (fun j v hv => HCL.out j v hv) Try.underlying30 rfl HXS.out ?_)) | (with_reducible refine gate_dst (N := 9) rfl ?_; go_must (refine wpList_box rfl rfl 9 rfl rfl (.tmp 30) rfl CX rfl rfl HXZ.out HXS.out HXO.out ?_)) | (with_reducible refine gate_dst (N := 31) rfl ?_; go_must (refine wpList_load_cells rfl 30 (.tmp 9) rfl rfl CX _ (cells_of_blk (blk_new wr (.cells CX 30))) Try.underlying30 rfl HXS.out ?_)))
     refine HV.out.mono ?_
     rintro e W ⟨Av, cv, rfl, hvc, hVC, hB1⟩
     obtain ⟨u, hg, hR⟩ := HW.out
     obtain ⟨Au, cu, rfl⟩ := Kd.R_slice hR
     have hgx := blk_lt hg
     have hsz : (wr.alloc (.cells CX 30)).heap.size = wr.heap.size + 1 := by simp
     have hWz := hB1.size
     rw [hsz] at hWz
     obtain ⟨okW, hokW⟩ : ∃ f : Nat → Prop, ∀ k, f k ↔ (gw < k ∧ (k < wr.heap.size ∨ W.heap.size ≤ k)) := ⟨fun k => gw < k ∧ (k < wr.heap.size ∨ W.heap.size ≤ k), fun k => Iff.rfl⟩
     have HC := Lib.hid (blk_below (blk_alloc hg (.cells CX 30)) hB1)
     have HR := Lib.hid (show (Kd.int .u8).R 5 W (gw + 1) okW (.slice Au acc.length cu) acc from R_only (Kd.R_alloc (Kd.R_mono (Kd.R_bound hR) (fun k hk => (hokW k).2 ⟨by have := hk.2.1; omega, Or.inl hk.2.2.1⟩)) _) (Only.of_below (S := fun _ => False) hB1) (fun _ _ _ h => h))
     have HXB := Lib.hid (blk_below (blk_new wr (.cells CX 30)) hB1)
     have HNX := Lib.hid (show ¬ (wr.heap.size = gw ∨ okW wr.heap.size) from fun h => h.elim (fun h => by omega) (fun h => by have := (hokW _).1 h; omega))
     have HOK := Lib.hid (show ∀ k, W.heap.size ≤ k → okW k from fun k hk => (hokW k).2 ⟨by omega, Or.inr hk⟩)
     have HGO := Lib.hid (show ¬ okW gw from fun h => by have := (hokW _).1 h; omega)
     have HVC := Lib.hid (show ∀ W', Only (fun k => k = gw ∨ okW k) W W' → (Kd.int .u8).C W' Av n v from fun W' hO => by
      rw [← HNV.out]
      exact hVC W' (hO.mono (fun k hk h => by
       rw [hsz]
       have := HGW.out
       rcases h with rfl | h
       ·omega
       ·have h2 := (hokW k).1 h
        omega)))
     have HBW := Lib.hid ((below_alloc HB.out (.cells CX 30)).trans (hB1.mono (by have := HB.out.size; omega)))
     have HBO := Lib.hid (show ∀ k, (k = gw ∨ okW k) → w.heap.size ≤ k from fun k h => by
      have := HGW.out
      rcases h with rfl | h
      ·omega
      ·have h2 := (hokW k).1 h
       omega)
     have HXL := Lib.hid (show acc.length ≤ 65536 from HLA.out)
     rw [HNV.out]
     clear hokW hVC hB1 hWz hsz hgx hg hR HW HB HV HCL HLA hvc HXS HXZ HXO
     generalize wr.heap.size = gx at *
     generalize acc = xs at *
     clear wr
     go_upto_region 13 with (fail)
     have B := True.intro
     have C := True.intro
     have R := True.intro
     have D := True.intro
     refine start_ (n := 14) (S := fun w' => True) (ds := []) #[false, false, false, false, false, false, false, false, false, false, false, false, false, false] (by kernel_rfl) rfl rfl trivial (fun hHeld => ?_)
     refine with_tabW encAtab13 encAbits13 (fun HT_ HW_ => ?_)
     refine pure_ (i := 0) (N := some 33) (v := ?_) (a' := ?_) #[true, false, false, false, false, false, false, false, false, false, false, false, false, false] rfl rfl (any_of HT_.out (by kernel_rfl)) (fun _ _ _ h => h) (Or.inl ⟨by rfl, ?_⟩) ?_ ?_
     rotate_left
     ·intro w'
      go_simp
      with_reducible rfl
     rotate_left
     ·simp only [Act.put, List.setIfInBounds_toArray, List.set_cons_zero, List.set_cons_succ, i64_w, i32_w]
      rfl
     refine pure_ (i := 1) (N := some 34) (v := ?_) (a' := ?_) #[true, true, false, false, false, false, false, false, false, false, false, false, false, false] rfl rfl (any_of HT_.out (by kernel_rfl)) (fun _ _ _ h => h) (Or.inl ⟨by rfl, ?_⟩) ?_ ?_
     rotate_left
     ·intro w'
      go_simp
      with_reducible rfl
     rotate_left
     ·simp only [Act.put, List.setIfInBounds_toArray, List.set_cons_zero, List.set_cons_succ, i64_w, i32_w]
      rfl
     refine inv_at [2, 3, 4, 5, 6, 7, 8, 9, 10, 11, 12, 13] (fun a0_ b a w' => ∃ (g9 : Nat) (v9 : Value) (m9_ : Value), a = putSel a0_ b [(2, 35, .pointer (some ⟨gw, 0, none⟩)), (3, 36, .pointer (some ⟨gw, 0, none⟩)), (4, 37, .slice Au xs.length cu), (5, 38, .pointer (some ⟨gx, 0, none⟩)), (6, 39, .int .u8 a0), (7, 40, .pointer (some ⟨gx, 1, none⟩)), (8, 41, .int .u8 a1), (9, 42, m9_), (10, 43, v9), (11, 44, .pointer (some ⟨gw, 0, none⟩)), (12, 45, .pointer (some ⟨gw, 0, none⟩))] ∧ (b 10 = false → Only (fun k => k = gw ∨ okW k) W w') ∧ (b 10 = false → w'.heap[gw]? = some (.cells #[.slice Au xs.length cu] 66 (0, 0))) ∧ (b 10 = false → (Kd.int .u8).R 5 w' (gw + 1) okW (.slice Au xs.length cu) (xs)) ∧ (b 9 = true → b 10 = false → (Kd.int .u8).C w' (some ⟨g9, 0, none⟩) 2 [a0, a1]) ∧ (b 10 = true → b 13 = false → (Kd.int .u8).R 5 w' (gw + 1) okW (v9) (xs ++ [a0, a1]) ∧ w'.heap[gw]? = some (.cells #[.slice Au xs.length cu] 66 (0, 0)) ∧ Only (fun k => k = gw ∨ okW k) W w') ∧ (b 13 = true → ∃ u, w'.heap[gw]? = some (.cells #[u] 66 (0, 0)) ∧ (Kd.int .u8).R 5 w' (gw + 1) okW (u) (xs ++ [a0, a1]) ∧ Only (fun k => k = gw ∨ okW k) W w') ∧ (b 9 = true → (m9_ : Value) = .slice (some ⟨g9, 0, none⟩) 2 2)) HT_.out HW_.out (by kernel_rfl) (by kernel_rfl) ?_ ?_ ?_
     ·exact ⟨0, .bool false, .bool false, by simp only [putSel, Bool.false_eq_true, if_false], fun _ => (Only.refl _ _).drewN 1, fun _ => HC.out, fun _ => HR.out, fun h_ => absurd h_ (by decide), fun h_ => absurd h_ (by decide), fun h_ => absurd h_ (by decide), fun h_ => absurd h_ (by decide)⟩
     ·skip
      clear B C R
      refine steps_cons ?_ ?_
      ·rintro b a w' ⟨g9, v9, m9_, ha, Q_B, Q_C, Q_R, Q_D, Q_S1, Q_S2, Q_X9_⟩ hb_ hon hoff
       refine ⟨_, rfl, fun K hK => ?_⟩
       have e34 : a.tmps[34]? = some (.pointer (some ⟨gw, 0, none⟩)) := by rw [ha]; exact (putSel_off rfl).trans rfl
       replace ha := Aside0.mk ha
       have B := Aside0.mk (Q_B (hoff 10 (by kernel_rfl)))
       have C := Aside0.mk (Q_C (hoff 10 (by kernel_rfl)))
       have R := Aside0.mk (Q_R (hoff 10 (by kernel_rfl)))
       refine value_ (w1 := w') (v := .pointer (some ⟨gw, 0, none⟩)) (by rfl) rfl ?_ ?_
       ·go_simp
        (try simp only [i64_w])
        try rfl
       refine hK.out _ _ ⟨g9, v9, m9_, (by rw [ha.out]; exact putSel_upk 0 hb_ rfl rfl rfl), Q_B, Q_C, Q_R, Q_D, fun h0_ _ => absurd ((hoff 10 (by kernel_rfl)).symm.trans h0_) (by decide), fun h0_ => absurd ((hoff 13 (by kernel_rfl)).symm.trans h0_) (by decide), Q_X9_⟩
      refine steps_cons ?_ ?_
      ·rintro b a w' ⟨g9, v9, m9_, ha, Q_B, Q_C, Q_R, Q_D, Q_S1, Q_S2, Q_X9_⟩ hb_ hon hoff
       refine ⟨_, rfl, fun K hK => ?_⟩
       have e35 : a.tmps[35]? = some (.pointer (some ⟨gw, 0, none⟩)) := by rw [ha]; exact putSel_on (e := (2, 35, .pointer (some ⟨gw, 0, none⟩))) 0 rfl rfl (hon 2 (by kernel_rfl)) rfl
       replace ha := Aside0.mk ha
       have B := Aside0.mk (Q_B (hoff 10 (by kernel_rfl)))
       have C := Aside0.mk (Q_C (hoff 10 (by kernel_rfl)))
       have R := Aside0.mk (Q_R (hoff 10 (by kernel_rfl)))
       refine value_ (w1 := w') (v := .pointer (some ⟨gw, 0, none⟩)) (by rfl) rfl ?_ ?_
       ·go_simp
        (try simp only [i64_w])
        try rfl
       refine hK.out _ _ ⟨g9, v9, m9_, (by rw [ha.out]; exact putSel_upk 1 hb_ rfl rfl rfl), Q_B, Q_C, Q_R, Q_D, fun h0_ _ => absurd ((hoff 10 (by kernel_rfl)).symm.trans h0_) (by decide), fun h0_ => absurd ((hoff 13 (by kernel_rfl)).symm.trans h0_) (by decide), Q_X9_⟩
      refine steps_cons ?_ ?_
      ·rintro b a w' ⟨g9, v9, m9_, ha, Q_B, Q_C, Q_R, Q_D, Q_S1, Q_S2, Q_X9_⟩ hb_ hon hoff
       refine ⟨_, rfl, fun K hK => ?_⟩
       have e36 : a.tmps[36]? = some (.pointer (some ⟨gw, 0, none⟩)) := by rw [ha]; exact putSel_on (e := (3, 36, .pointer (some ⟨gw, 0, none⟩))) 1 rfl rfl (hon 3 (by kernel_rfl)) rfl
       replace ha := Aside0.mk ha
       have B := Aside0.mk (Q_B (hoff 10 (by kernel_rfl)))
       have C := Aside0.mk (Q_C (hoff 10 (by kernel_rfl)))
       have R := Aside0.mk (Q_R (hoff 10 (by kernel_rfl)))
       have hs := blk_cell C.out 0
       refine value_ (w1 := w') (v := .slice Au xs.length cu) (by rfl) rfl ?_ ?_
       ·go_simp
        (try simp only [i64_w])
        try rfl
       refine hK.out _ _ ⟨g9, v9, m9_, (by rw [ha.out]; exact putSel_upk 2 hb_ rfl rfl rfl), Q_B, Q_C, Q_R, Q_D, fun h0_ _ => absurd ((hoff 10 (by kernel_rfl)).symm.trans h0_) (by decide), fun h0_ => absurd ((hoff 13 (by kernel_rfl)).symm.trans h0_) (by decide), Q_X9_⟩
      refine steps_cons ?_ ?_
      ·rintro b a w' ⟨g9, v9, m9_, ha, Q_B, Q_C, Q_R, Q_D, Q_S1, Q_S2, Q_X9_⟩ hb_ hon hoff
       refine ⟨_, rfl, fun K hK => ?_⟩
       have e9 : a.tmps[9]? = some (.pointer (some ⟨gx, 0, none⟩)) := by rw [ha]; exact (putSel_off rfl).trans rfl
       replace ha := Aside0.mk ha
       have B := Aside0.mk (Q_B (hoff 10 (by kernel_rfl)))
       have C := Aside0.mk (Q_C (hoff 10 (by kernel_rfl)))
       have R := Aside0.mk (Q_R (hoff 10 (by kernel_rfl)))
       refine value_ (w1 := w') (v := .pointer (some ⟨gx, 0, none⟩)) (by rfl) rfl ?_ ?_
       ·go_simp
        (try simp only [i64_w])
        try rfl
       refine hK.out _ _ ⟨g9, v9, m9_, (by rw [ha.out]; exact putSel_upk 3 hb_ rfl rfl rfl), Q_B, Q_C, Q_R, fun h0_ _ => absurd ((hoff 9 (by kernel_rfl)).symm.trans h0_) (by decide), fun h0_ _ => absurd ((hoff 10 (by kernel_rfl)).symm.trans h0_) (by decide), fun h0_ => absurd ((hoff 13 (by kernel_rfl)).symm.trans h0_) (by decide), fun h0_ => absurd ((hoff 9 (by kernel_rfl)).symm.trans h0_) (by decide)⟩
      refine steps_cons ?_ ?_
      ·rintro b a w' ⟨g9, v9, m9_, ha, Q_B, Q_C, Q_R, Q_D, Q_S1, Q_S2, Q_X9_⟩ hb_ hon hoff
       refine ⟨_, rfl, fun K hK => ?_⟩
       have e38 : a.tmps[38]? = some (.pointer (some ⟨gx, 0, none⟩)) := by rw [ha]; exact putSel_on (e := (5, 38, .pointer (some ⟨gx, 0, none⟩))) 3 rfl rfl (hon 5 (by kernel_rfl)) rfl
       replace ha := Aside0.mk ha
       have B := Aside0.mk (Q_B (hoff 10 (by kernel_rfl)))
       have C := Aside0.mk (Q_C (hoff 10 (by kernel_rfl)))
       have R := Aside0.mk (Q_R (hoff 10 (by kernel_rfl)))
       have hs : w'.cell? ⟨gx, 0, none⟩ = some (.int .u8 a0) := (blk_cell (B.out.blk HXB.out HNX.out) 0).trans HY0.out
       refine value_ (w1 := w') (v := .int .u8 a0) (by rfl) rfl ?_ ?_
       ·go_simp
        (try simp only [i64_w])
        try rfl
       refine hK.out _ _ ⟨g9, v9, m9_, (by rw [ha.out]; exact putSel_upk 4 hb_ rfl rfl rfl), Q_B, Q_C, Q_R, fun h0_ _ => absurd ((hoff 9 (by kernel_rfl)).symm.trans h0_) (by decide), fun h0_ _ => absurd ((hoff 10 (by kernel_rfl)).symm.trans h0_) (by decide), fun h0_ => absurd ((hoff 13 (by kernel_rfl)).symm.trans h0_) (by decide), fun h0_ => absurd ((hoff 9 (by kernel_rfl)).symm.trans h0_) (by decide)⟩
      refine steps_cons ?_ ?_
      ·rintro b a w' ⟨g9, v9, m9_, ha, Q_B, Q_C, Q_R, Q_D, Q_S1, Q_S2, Q_X9_⟩ hb_ hon hoff
       refine ⟨_, rfl, fun K hK => ?_⟩
       have e9 : a.tmps[9]? = some (.pointer (some ⟨gx, 0, none⟩)) := by rw [ha]; exact (putSel_off rfl).trans rfl
       replace ha := Aside0.mk ha
       have B := Aside0.mk (Q_B (hoff 10 (by kernel_rfl)))
       have C := Aside0.mk (Q_C (hoff 10 (by kernel_rfl)))
       have R := Aside0.mk (Q_R (hoff 10 (by kernel_rfl)))
       refine value_ (w1 := w') (v := .pointer (some ⟨gx, 1, none⟩)) (by rfl) rfl ?_ ?_
       ·go_simp
        (try simp only [i64_w])
        try rfl
       refine hK.out _ _ ⟨g9, v9, m9_, (by rw [ha.out]; exact putSel_upk 5 hb_ rfl rfl rfl), Q_B, Q_C, Q_R, fun h0_ _ => absurd ((hoff 9 (by kernel_rfl)).symm.trans h0_) (by decide), fun h0_ _ => absurd ((hoff 10 (by kernel_rfl)).symm.trans h0_) (by decide), fun h0_ => absurd ((hoff 13 (by kernel_rfl)).symm.trans h0_) (by decide), fun h0_ => absurd ((hoff 9 (by kernel_rfl)).symm.trans h0_) (by decide)⟩
      refine steps_cons ?_ ?_
      ·rintro b a w' ⟨g9, v9, m9_, ha, Q_B, Q_C, Q_R, Q_D, Q_S1, Q_S2, Q_X9_⟩ hb_ hon hoff
       refine ⟨_, rfl, fun K hK => ?_⟩
       have e40 : a.tmps[40]? = some (.pointer (some ⟨gx, 1, none⟩)) := by rw [ha]; exact putSel_on (e := (7, 40, .pointer (some ⟨gx, 1, none⟩))) 5 rfl rfl (hon 7 (by kernel_rfl)) rfl
       replace ha := Aside0.mk ha
       have B := Aside0.mk (Q_B (hoff 10 (by kernel_rfl)))
       have C := Aside0.mk (Q_C (hoff 10 (by kernel_rfl)))
       have R := Aside0.mk (Q_R (hoff 10 (by kernel_rfl)))
       have hs : w'.cell? ⟨gx, 1, none⟩ = some (.int .u8 a1) := (blk_cell (B.out.blk HXB.out HNX.out) 1).trans HY1.out
       refine value_ (w1 := w') (v := .int .u8 a1) (by rfl) rfl ?_ ?_
       ·go_simp
        (try simp only [i64_w])
        try rfl
       refine hK.out _ _ ⟨g9, v9, m9_, (by rw [ha.out]; exact putSel_upk 6 hb_ rfl rfl rfl), Q_B, Q_C, Q_R, fun h0_ _ => absurd ((hoff 9 (by kernel_rfl)).symm.trans h0_) (by decide), fun h0_ _ => absurd ((hoff 10 (by kernel_rfl)).symm.trans h0_) (by decide), fun h0_ => absurd ((hoff 13 (by kernel_rfl)).symm.trans h0_) (by decide), fun h0_ => absurd ((hoff 9 (by kernel_rfl)).symm.trans h0_) (by decide)⟩
      refine steps_cons ?_ ?_
      ·rintro b a w' ⟨g9, v9, m9_, ha, Q_B, Q_C, Q_R, Q_D, Q_S1, Q_S2, Q_X9_⟩ hb_ hon hoff
       refine ⟨_, rfl, fun K hK => ?_⟩
       have e39 : a.tmps[39]? = some (.int .u8 a0) := by rw [ha]; exact putSel_on (e := (6, 39, .int .u8 a0)) 4 rfl rfl (hon 6 (by kernel_rfl)) rfl
       have e41 : a.tmps[41]? = some (.int .u8 a1) := by rw [ha]; exact putSel_on (e := (8, 41, .int .u8 a1)) 6 rfl rfl (hon 8 (by kernel_rfl)) rfl
       replace ha := Aside0.mk ha
       have B := Aside0.mk (Q_B (hoff 10 (by kernel_rfl)))
       have C := Aside0.mk (Q_C (hoff 10 (by kernel_rfl)))
       have R := Aside0.mk (Q_R (hoff 10 (by kernel_rfl)))
       refine value_ (w1 := w'.alloc (.cells #[.int .u8 a0, .int .u8 a1] 5)) (v := .slice (some ⟨w'.heap.size, 0, none⟩) 2 2) (by rfl) rfl (by go_simp; try rfl) ?_
       refine hK.out _ _ ⟨w'.heap.size, v9, (.slice (some ⟨w'.heap.size, 0, none⟩) 2 2), (by rw [ha.out]; exact putSel_upk 7 hb_ rfl rfl rfl), fun _ => B.out.alloc _, fun _ => blk_alloc C.out _, fun _ => Kd.R_alloc R.out _, fun _ _ => (by have := blk_lt C.out; exact row_lit (Kd.int .u8) rfl w' 5 [.int .u8 a0, .int .u8 a1] [a0, a1] rfl (by simp) (fun j v p hv hp => by rcases j with _ | _ | j <;> simp at hv hp <;> (subst hv; subst hp; rfl))), fun h0_ _ => absurd ((hoff 10 (by kernel_rfl)).symm.trans h0_) (by decide), fun h0_ => absurd ((hoff 13 (by kernel_rfl)).symm.trans h0_) (by decide), fun _ => rfl⟩
      refine steps_cons ?_ ?_
      ·rintro b a w' ⟨g9, v9, m9_, ha, Q_B, Q_C, Q_R, Q_D, Q_S1, Q_S2, Q_X9_⟩ hb_ hon hoff
       refine ⟨_, rfl, fun K hK => ?_⟩
       have e37 : a.tmps[37]? = some (.slice Au xs.length cu) := by rw [ha]; exact putSel_on (e := (4, 37, .slice Au xs.length cu)) 2 rfl rfl (hon 4 (by kernel_rfl)) rfl
       have e42 : a.tmps[42]? = some (m9_) := by rw [ha]; exact putSel_on (e := (9, 42, m9_)) 7 rfl rfl (hon 9 (by kernel_rfl)) rfl
       rw [Q_X9_ (hon 9 (by kernel_rfl))] at e42
       replace ha := Aside0.mk ha
       have B := Aside0.mk (Q_B hb_)
       have C := Aside0.mk (Q_C hb_)
       have R := Aside0.mk (Q_R hb_)
       have D := Aside0.mk (Q_D (hon 9 (by kernel_rfl)) hb_)
       refine Kd.R_append_rows_step (Kd.int .u8) (Rr := (Kd.int .u8).K w') (w0 := w') (W := w') (gw + 1) (by rfl) _ _ 22 5 _ 1 rfl Try.underlying22 info_u8 rfl (by decide) (by decide) (.slice Au xs.length cu) xs [a0, a1] (some ⟨g9, 0, none⟩) 2 2 okW (fun _ => False) (by simp [Act.eval, Array.getD_eq_getD_getElem?, e37]) (by simp [Act.eval, Array.getD_eq_getD_getElem?, e42]) R.out (D.out) (fun _ _ h => h) (fun _ h => h.elim) (fun k hk => HOK.out k (by have := B.out.size; omega)) (Below.refl _ _) (by have := blk_lt C.out; omega) (by have := HXL.out; simp; omega) ?_
       intro v1 w1 hR1 hB1 hG1 _
       refine hK.out _ _ ⟨g9, v1, m9_, (by rw [ha.out]; exact putSel_upk 8 hb_ rfl rfl rfl), fun h0_ => absurd ((up_self b 10).symm.trans h0_) (by decide), fun h0_ => absurd ((up_self b 10).symm.trans h0_) (by decide), fun h0_ => absurd ((up_self b 10).symm.trans h0_) (by decide), fun _ h1_ => absurd ((up_self b 10).symm.trans h1_) (by decide), fun _ _ => ⟨hR1, blk_grown C.out hG1 (fun e => HGO.out (R.out.1 _ e.symm)), B.out.grown hG1 (fun k _ e => Or.inr (R.out.1 k e))⟩, fun h0_ => absurd ((hoff 13 (by kernel_rfl)).symm.trans h0_) (by decide), Q_X9_⟩
      refine steps_cons ?_ ?_
      ·rintro b a w' ⟨g9, v9, m9_, ha, Q_B, Q_C, Q_R, Q_D, Q_S1, Q_S2, Q_X9_⟩ hb_ hon hoff
       refine ⟨_, rfl, fun K hK => ?_⟩
       have e33 : a.tmps[33]? = some (.pointer (some ⟨gw, 0, none⟩)) := by rw [ha]; exact (putSel_off rfl).trans rfl
       replace ha := Aside0.mk ha
       have S1 := Aside0.mk (Q_S1 (hon 10 (by kernel_rfl)) (hoff 13 (by kernel_rfl)))
       refine value_ (w1 := w') (v := .pointer (some ⟨gw, 0, none⟩)) (by rfl) rfl ?_ ?_
       ·go_simp
        (try simp only [i64_w])
        try rfl
       refine hK.out _ _ ⟨g9, v9, m9_, (by rw [ha.out]; exact putSel_upk 9 hb_ rfl rfl rfl), fun h0_ => absurd ((hon 10 (by kernel_rfl)).symm.trans h0_) (by decide), fun h0_ => absurd ((hon 10 (by kernel_rfl)).symm.trans h0_) (by decide), fun h0_ => absurd ((hon 10 (by kernel_rfl)).symm.trans h0_) (by decide), fun _ h1_ => absurd ((hon 10 (by kernel_rfl)).symm.trans h1_) (by decide), Q_S1, fun h0_ => absurd ((hoff 13 (by kernel_rfl)).symm.trans h0_) (by decide), Q_X9_⟩
      refine steps_cons ?_ ?_
      ·rintro b a w' ⟨g9, v9, m9_, ha, Q_B, Q_C, Q_R, Q_D, Q_S1, Q_S2, Q_X9_⟩ hb_ hon hoff
       refine ⟨_, rfl, fun K hK => ?_⟩
       have e44 : a.tmps[44]? = some (.pointer (some ⟨gw, 0, none⟩)) := by rw [ha]; exact putSel_on (e := (11, 44, .pointer (some ⟨gw, 0, none⟩))) 9 rfl rfl (hon 11 (by kernel_rfl)) rfl
       replace ha := Aside0.mk ha
       have S1 := Aside0.mk (Q_S1 (hon 10 (by kernel_rfl)) (hoff 13 (by kernel_rfl)))
       refine value_ (w1 := w') (v := .pointer (some ⟨gw, 0, none⟩)) (by rfl) rfl ?_ ?_
       ·go_simp
        (try simp only [i64_w])
        try rfl
       refine hK.out _ _ ⟨g9, v9, m9_, (by rw [ha.out]; exact putSel_upk 10 hb_ rfl rfl rfl), fun h0_ => absurd ((hon 10 (by kernel_rfl)).symm.trans h0_) (by decide), fun h0_ => absurd ((hon 10 (by kernel_rfl)).symm.trans h0_) (by decide), fun h0_ => absurd ((hon 10 (by kernel_rfl)).symm.trans h0_) (by decide), fun _ h1_ => absurd ((hon 10 (by kernel_rfl)).symm.trans h1_) (by decide), Q_S1, fun h0_ => absurd ((hoff 13 (by kernel_rfl)).symm.trans h0_) (by decide), Q_X9_⟩
      refine steps_cons ?_ ?_
      ·rintro b a w' ⟨g9, v9, m9_, ha, Q_B, Q_C, Q_R, Q_D, Q_S1, Q_S2, Q_X9_⟩ hb_ hon hoff
       refine ⟨_, rfl, fun K hK => ?_⟩
       have e45 : a.tmps[45]? = some (.pointer (some ⟨gw, 0, none⟩)) := by rw [ha]; exact putSel_on (e := (12, 45, .pointer (some ⟨gw, 0, none⟩))) 10 rfl rfl (hon 12 (by kernel_rfl)) rfl
       have e43 : a.tmps[43]? = some (v9) := by rw [ha]; exact putSel_on (e := (10, 43, v9)) 8 rfl rfl (hon 10 (by kernel_rfl)) rfl
       replace ha := Aside0.mk ha
       have S1 := Aside0.mk (Q_S1 (hon 10 (by kernel_rfl)) hb_)
       obtain ⟨hR1, hC1, hF1⟩ := S1.out
       obtain ⟨A8, c8, hv9⟩ := Kd.R_slice hR1
       have hs := blk_cell hC1 0
       have hf := blk_frozen hC1 0
       refine skip_ (w1 := w'.setCell ⟨gw, 0, none⟩ v9) (by rfl) rfl (by generalize (xs ++ [a0, a1]).length = zl at hv9; rw [hv9] at e43 ⊢; go_simp; try rfl) ?_
       refine hK.out _ _ ⟨g9, v9, m9_, (by rw [ha.out]; exact putSel_none (v := undef) rfl), fun h0_ => absurd ((hon 10 (by kernel_rfl)).symm.trans h0_) (by decide), fun h0_ => absurd ((hon 10 (by kernel_rfl)).symm.trans h0_) (by decide), fun h0_ => absurd ((hon 10 (by kernel_rfl)).symm.trans h0_) (by decide), fun _ h1_ => absurd ((hon 10 (by kernel_rfl)).symm.trans h1_) (by decide), fun _ h1_ => absurd ((up_self b 13).symm.trans h1_) (by decide), fun _ => ⟨v9, blk_put hC1 0 v9 rfl, Kd.R_far hR1 (p := ⟨gw, 0, none⟩) (fun k hk (e : k = gw) => HGO.out (e ▸ hk)) v9, hF1.setCell (fun _ => Or.inl rfl) v9⟩, Q_X9_⟩
      exact steps_nil
     rintro b a w' hall ⟨g9, v9, m9_, ha, Q_B, Q_C, Q_R, Q_D, Q_S1, Q_S2, Q_X9_⟩
     clear B C R
     have hb2_ := hall 2 (by kernel_rfl)
     have hb3_ := hall 3 (by kernel_rfl)
     have hb4_ := hall 4 (by kernel_rfl)
     have hb5_ := hall 5 (by kernel_rfl)
     have hb6_ := hall 6 (by kernel_rfl)
     have hb7_ := hall 7 (by kernel_rfl)
     have hb8_ := hall 8 (by kernel_rfl)
     have hb9_ := hall 9 (by kernel_rfl)
     have hb10_ := hall 10 (by kernel_rfl)
     have hb11_ := hall 11 (by kernel_rfl)
     have hb12_ := hall 12 (by kernel_rfl)
     have hb13_ := hall 13 (by kernel_rfl)
     subst ha
     obtain rfl := Q_X9_ hb9_
     simp only [putSel, hb2_, hb3_, hb4_, hb5_, hb6_, hb7_, hb8_, hb9_, hb10_, hb11_, hb12_, hb13_, if_true, Act.put, List.setIfInBounds_toArray, List.set_cons_zero, List.set_cons_succ]
     clear Q_B
     clear Q_C
     clear Q_R
     clear Q_D
     clear Q_S1
     have S2 := Aside0.mk (Q_S2 hb13_)
     clear Q_S2
     clear hall hb2_ hb3_ hb4_ hb5_ hb6_ hb7_ hb8_ hb9_ hb10_ hb11_ hb12_ hb13_
     obtain ⟨u, hg, hR, hF⟩ := S2.out
     clear S2 HC HR HY0 HY1 HXB HNX
     have HS := Lib.hid (show WSo okW w' gw (xs ++ [a0, a1]) from ⟨u, hg, hR⟩)
     have HF := Lib.hid hF
     clear hg hR hF
     clear u
     obtain ⟨q, hq⟩ : ∃ q, IntKind.u16.wrap (4 + (n : Int)) = q := ⟨_, rfl⟩
     have HQ := Lib.hid (show IntKind.u16.wrap (wrap64 (4 + (n : Int))) = q by rw [show wrap64 (4 + (n : Int)) = 4 + (n : Int) by unfold wrap64; have := HVL.out; omega, hq])
     rw [hq] at HA2
     clear hq
     have HXL3 := Lib.hid (show (xs ++ [a0, a1]).length + 2 * [q].length ≤ 140737488355328 by have := HXL.out; simp only [List.length_append, List.length_cons, List.length_nil]; omega)
     go_wp2_with fail
     rw [HQ.out]
     refine (wtwo_lit_o w' gw okW (fun k hk => HOK.out k (Nat.le_trans HF.out.size hk)) HGO.out (xs ++ [a0, a1]) [q] [.int .u16 q] 1 rfl rfl HS.out HXL3.out).mono ?_
     rintro e w4 ⟨rfl, hS4, hO4⟩
     have HF4 := Lib.hid (HF.out.trans hO4 (fun k _ h => h))
     have hxl : (xs ++ [a0, a1] ++ twoL [q]).length ≤ 65540 := by have := HXL.out; simp [twoL_length]; omega
     have HXL4 := Lib.hid hxl
     generalize xs ++ [a0, a1] ++ twoL [q] = ys at *
     obtain ⟨u, hg, hR⟩ := hS4
     obtain ⟨Au4, cu4, rfl⟩ := Kd.R_slice hR
     have k0 : w4.cell? ⟨gw, 0, none⟩ = some (.slice Au4 ys.length cu4) := blk_cell hg 0
     have HG4 := Lib.hid hg
     have HR4 := Lib.hid hR
     have HVC4 := Lib.hid (HVC.out w4 HF4.out)
     clear hO4 hxl hg hR HS HF HQ HVC HXL HXL3
     go_wp2_with (at_builtin; go_must (refine Kd.R_append_row (Value.int .u8) (0 : Int) (w0 := w4) (W := w4) (gw + 1) rfl _ _ 22 5 _ 1 rfl Try.underlying22 info_u8 rfl (by decide) (.slice Au4 ys.length cu4) ys v Av n cv okW rfl rfl (fun k hk => HOK.out k (Nat.le_trans HF4.out.size hk)) HR4.out HVC4.out (Below.refl _ _) (by have := blk_lt HG4.out; omega) (by have := HXL4.out; have := HVL.out; have := HNV.out; omega) ?_); (intro v1 w1 hR1 hB1 hG1 _; have HR1 := Lib.hid hR1; have HB1 := Lib.hid hB1; have HGR := Lib.hid hG1; clear hR1 hB1 hG1; refine RowKit.Hid.out ?_))
     refine Lib.hid ?_
     obtain ⟨A7, c7, hv1⟩ := Kd.R_slice HR1.out
     subst hv1
     have hg1 := blk_grown HG4.out HGR.out (fun e => HGO.out (HR4.out.1 _ e.symm))
     have hs := blk_cell hg1 0
     have hf := blk_frozen hg1 0
     have HF5 := Lib.hid ((HF4.out.grown HGR.out (fun k _ e => Or.inr (HR4.out.1 k e))).setCell (p := ⟨gw, 0, none⟩) (fun _ => Or.inl rfl) (.slice A7 (ys ++ v).length c7))
     have HR5 := Lib.hid (Kd.R_far HR1.out (p := ⟨gw, 0, none⟩) (fun k hk (e : k = gw) => HGO.out (e ▸ hk)) (.slice A7 (ys ++ v).length c7))
     have HC5 := Lib.hid (blk_put hg1 0 (.slice A7 (ys ++ v).length c7) rfl)
     have HXL5 := Lib.hid (show (ys ++ v).length ≤ 131071 by have := HXL4.out; have := HVL.out; have := HNV.out; rw [List.length_append]; omega)
     clear hg1 HR1 HB1 HGR HG4 HR4 HVC4 HF4 HXL4 k0 HNV
     generalize hzl : (ys ++ v).length = zl at *
     go_upto_region 16 with (fail)
     generalize w1.setCell ⟨gw, 0, none⟩ (.slice A7 zl c7) = W5 at *
     subst hzl
     generalize ys ++ v = xs at *
     have HC := HC5
     have HR := HR5
     have HXL := HXL5
     have HM := HPL
     have HOK5 := Lib.hid (show ∀ k, W5.heap.size ≤ k → okW k from fun k hk => HOK.out k (Nat.le_trans HF5.out.size hk))
     clear HC5 HR5 HXL5 HPL hs hf HOK
     have B := True.intro
     have C := True.intro
     have R := True.intro
     refine start_ (n := 15) (S := fun w' => True) (ds := []) #[false, false, false, false, false, false, false, false, false, false, false, false, false, false, false] (by kernel_rfl) rfl rfl trivial (fun hHeld => ?_)
     refine with_tabW encBtab16 encBbits16 (fun HT_ HW_ => ?_)
     refine pure_ (i := 0) (N := some 62) (v := ?_) (a' := ?_) #[true, false, false, false, false, false, false, false, false, false, false, false, false, false, false] rfl rfl (any_of HT_.out (by kernel_rfl)) (fun _ _ _ h => h) (Or.inl ⟨by rfl, ?_⟩) ?_ ?_
     rotate_left
     ·intro w'
      go_simp
      with_reducible rfl
     rotate_left
     ·simp only [Act.put, List.setIfInBounds_toArray, List.set_cons_zero, List.set_cons_succ, i64_w, i32_w]
      rfl
     refine pure_ (i := 1) (N := some 63) (v := ?_) (a' := ?_) #[true, true, false, false, false, false, false, false, false, false, false, false, false, false, false] rfl rfl (any_of HT_.out (by kernel_rfl)) (fun _ _ _ h => h) (Or.inl ⟨by rfl, ?_⟩) ?_ ?_
     rotate_left
     ·intro w'
      go_simp
      with_reducible rfl
     rotate_left
     ·simp only [Act.put, List.setIfInBounds_toArray, List.set_cons_zero, List.set_cons_succ, i64_w, i32_w]
      rfl
     refine pure_ (i := 5) (N := some 67) (v := ?_) (a' := ?_) #[true, true, false, false, false, true, false, false, false, false, false, false, false, false, false] rfl rfl (any_of HT_.out (by kernel_rfl)) (fun _ _ _ h => h) (Or.inl ⟨by rfl, ?_⟩) ?_ ?_
     rotate_left
     ·intro w'
      go_simp
      with_reducible rfl
     rotate_left
     ·simp only [Act.put, List.setIfInBounds_toArray, List.set_cons_zero, List.set_cons_succ, i64_w, i32_w]
      rfl
     refine pure_ (i := 8) (N := some 70) (v := ?_) (a' := ?_) #[true, true, false, false, false, true, false, false, true, false, false, false, false, false, false] rfl rfl (any_of HT_.out (by kernel_rfl)) (fun _ _ _ h => h) (Or.inl ⟨by rfl, ?_⟩) ?_ ?_
     rotate_left
     ·intro w'
      go_simp
      with_reducible rfl
     rotate_left
     ·simp only [Act.put, List.setIfInBounds_toArray, List.set_cons_zero, List.set_cons_succ, i64_w, i32_w]
      rfl
     refine inv_at [2, 3, 4, 6, 7, 9, 10, 11, 12, 13, 14] (fun a0_ b a w' => ∃ (v9 : Value), a = putSel a0_ b [(2, 64, .pointer (some ⟨gw, 0, none⟩)), (3, 65, .pointer (some ⟨gw, 0, none⟩)), (4, 66, .slice A7 xs.length c7), (6, 68, .int .i64 (n : Int)), (7, 69, .int .i64 (pn : Int)), (9, 71, .int .i64 (n : Int)), (10, 72, .int .i64 (pad : Int)), (11, 73, v9), (12, 74, .pointer (some ⟨gw, 0, none⟩)), (13, 75, .pointer (some ⟨gw, 0, none⟩))] ∧ (b 11 = false → Only (fun k => k = gw ∨ okW k) W5 w') ∧ (b 11 = false → w'.heap[gw]? = some (.cells #[.slice A7 xs.length c7] 66 (0, 0))) ∧ (b 11 = false → (Kd.int .u8).R 5 w' (gw + 1) okW (.slice A7 xs.length c7) (xs)) ∧ (b 11 = true → b 14 = false → (Kd.int .u8).R 5 w' (gw + 1) okW (v9) (xs ++ List.replicate pad 0) ∧ w'.heap[gw]? = some (.cells #[.slice A7 xs.length c7] 66 (0, 0)) ∧ Only (fun k => k = gw ∨ okW k) W5 w') ∧ (b 14 = true → ∃ u, w'.heap[gw]? = some (.cells #[u] 66 (0, 0)) ∧ (Kd.int .u8).R 5 w' (gw + 1) okW (u) (xs ++ List.replicate pad 0) ∧ Only (fun k => k = gw ∨ okW k) W5 w')) HT_.out HW_.out (by kernel_rfl) (by kernel_rfl) ?_ ?_ ?_
     ·exact ⟨.bool false, by simp only [putSel, Bool.false_eq_true, if_false], fun _ => (Only.refl _ _).drewN 1, fun _ => HC.out, fun _ => HR.out, fun h_ => absurd h_ (by decide), fun h_ => absurd h_ (by decide)⟩
     ·skip
      clear B C R
      refine steps_cons ?_ ?_
      ·rintro b a w' ⟨v9, ha, Q_B, Q_C, Q_R, Q_S1, Q_S2⟩ hb_ hon hoff
       refine ⟨_, rfl, fun K hK => ?_⟩
       have e63 : a.tmps[63]? = some (.pointer (some ⟨gw, 0, none⟩)) := by rw [ha]; exact (putSel_off rfl).trans rfl
       replace ha := Aside0.mk ha
       have B := Aside0.mk (Q_B (hoff 11 (by kernel_rfl)))
       have C := Aside0.mk (Q_C (hoff 11 (by kernel_rfl)))
       have R := Aside0.mk (Q_R (hoff 11 (by kernel_rfl)))
       refine value_ (w1 := w') (v := .pointer (some ⟨gw, 0, none⟩)) (by rfl) rfl ?_ ?_
       ·go_simp
        (try simp only [i64_w])
        try rfl
       refine hK.out _ _ ⟨v9, (by rw [ha.out]; exact putSel_upk 0 hb_ rfl rfl rfl), Q_B, Q_C, Q_R, fun h0_ _ => absurd ((hoff 11 (by kernel_rfl)).symm.trans h0_) (by decide), fun h0_ => absurd ((hoff 14 (by kernel_rfl)).symm.trans h0_) (by decide)⟩
      refine steps_cons ?_ ?_
      ·rintro b a w' ⟨v9, ha, Q_B, Q_C, Q_R, Q_S1, Q_S2⟩ hb_ hon hoff
       refine ⟨_, rfl, fun K hK => ?_⟩
       have e64 : a.tmps[64]? = some (.pointer (some ⟨gw, 0, none⟩)) := by rw [ha]; exact putSel_on (e := (2, 64, .pointer (some ⟨gw, 0, none⟩))) 0 rfl rfl (hon 2 (by kernel_rfl)) rfl
       replace ha := Aside0.mk ha
       have B := Aside0.mk (Q_B (hoff 11 (by kernel_rfl)))
       have C := Aside0.mk (Q_C (hoff 11 (by kernel_rfl)))
       have R := Aside0.mk (Q_R (hoff 11 (by kernel_rfl)))
       refine value_ (w1 := w') (v := .pointer (some ⟨gw, 0, none⟩)) (by rfl) rfl ?_ ?_
       ·go_simp
        (try simp only [i64_w])
        try rfl
       refine hK.out _ _ ⟨v9, (by rw [ha.out]; exact putSel_upk 1 hb_ rfl rfl rfl), Q_B, Q_C, Q_R, fun h0_ _ => absurd ((hoff 11 (by kernel_rfl)).symm.trans h0_) (by decide), fun h0_ => absurd ((hoff 14 (by kernel_rfl)).symm.trans h0_) (by decide)⟩
      refine steps_cons ?_ ?_
      ·rintro b a w' ⟨v9, ha, Q_B, Q_C, Q_R, Q_S1, Q_S2⟩ hb_ hon hoff
       refine ⟨_, rfl, fun K hK => ?_⟩
       have e65 : a.tmps[65]? = some (.pointer (some ⟨gw, 0, none⟩)) := by rw [ha]; exact putSel_on (e := (3, 65, .pointer (some ⟨gw, 0, none⟩))) 1 rfl rfl (hon 3 (by kernel_rfl)) rfl
       replace ha := Aside0.mk ha
       have B := Aside0.mk (Q_B (hoff 11 (by kernel_rfl)))
       have C := Aside0.mk (Q_C (hoff 11 (by kernel_rfl)))
       have R := Aside0.mk (Q_R (hoff 11 (by kernel_rfl)))
       have hs := blk_cell C.out 0
       refine value_ (w1 := w') (v := .slice A7 xs.length c7) (by rfl) rfl ?_ ?_
       ·go_simp
        (try simp only [i64_w])
        try rfl
       refine hK.out _ _ ⟨v9, (by rw [ha.out]; exact putSel_upk 2 hb_ rfl rfl rfl), Q_B, Q_C, Q_R, fun h0_ _ => absurd ((hoff 11 (by kernel_rfl)).symm.trans h0_) (by decide), fun h0_ => absurd ((hoff 14 (by kernel_rfl)).symm.trans h0_) (by decide)⟩
      refine steps_cons ?_ ?_
      ·rintro b a w' ⟨v9, ha, Q_B, Q_C, Q_R, Q_S1, Q_S2⟩ hb_ hon hoff
       refine ⟨_, rfl, fun K hK => ?_⟩
       have e67 : a.tmps[67]? = some (.slice Av n cv) := by rw [ha]; exact (putSel_off rfl).trans rfl
       replace ha := Aside0.mk ha
       have B := Aside0.mk (Q_B (hoff 11 (by kernel_rfl)))
       have C := Aside0.mk (Q_C (hoff 11 (by kernel_rfl)))
       have R := Aside0.mk (Q_R (hoff 11 (by kernel_rfl)))
       refine value_ (w1 := w') (v := .int .i64 (n : Int)) (by rfl) rfl ?_ ?_
       ·go_simp
        (try simp only [i64_w])
        try rfl
       refine hK.out _ _ ⟨v9, (by rw [ha.out]; exact putSel_upk 3 hb_ rfl rfl rfl), Q_B, Q_C, Q_R, fun h0_ _ => absurd ((hoff 11 (by kernel_rfl)).symm.trans h0_) (by decide), fun h0_ => absurd ((hoff 14 (by kernel_rfl)).symm.trans h0_) (by decide)⟩
      refine steps_cons ?_ ?_
      ·rintro b a w' ⟨v9, ha, Q_B, Q_C, Q_R, Q_S1, Q_S2⟩ hb_ hon hoff
       refine ⟨_, rfl, fun K hK => ?_⟩
       have e68 : a.tmps[68]? = some (.int .i64 (n : Int)) := by rw [ha]; exact putSel_on (e := (6, 68, .int .i64 (n : Int))) 3 rfl rfl (hon 6 (by kernel_rfl)) rfl
       replace ha := Aside0.mk ha
       have B := Aside0.mk (Q_B (hoff 11 (by kernel_rfl)))
       have C := Aside0.mk (Q_C (hoff 11 (by kernel_rfl)))
       have R := Aside0.mk (Q_R (hoff 11 (by kernel_rfl)))
       refine goes_ Try.func27 (by kernel_rfl) rfl #[.int .i64 (n : Int)] (by rfl) rfl rfl (by first | (simp only [List.map_toArray, List.map_cons, List.map_nil, Act.eval, Array.getD_eq_getD_getElem?, Option.getD_some, e68]; done) | (simp only [List.map_toArray, List.map_cons, List.map_nil, Act.eval, Array.getD_eq_getD_getElem?, Option.getD_some, e68]; rfl)) ?_
       refine (HPD.out w').mono ?_
       rintro e w1 ⟨rfl, hD1⟩
       refine ⟨_, rfl, ?_⟩
       refine hK.out _ _ ⟨v9, (by rw [ha.out]; exact putSel_upk 4 hb_ rfl rfl rfl), fun _ => B.out.trans (Only.of_below (S := fun _ => False) (drawn_below hD1)) (fun k _ h => h.elim), fun _ => blk_below C.out (drawn_below hD1), fun _ => R_only R.out (Only.of_below (S := fun _ => False) (drawn_below hD1)) (fun _ _ _ h => h), fun h0_ _ => absurd ((hoff 11 (by kernel_rfl)).symm.trans h0_) (by decide), fun h0_ => absurd ((hoff 14 (by kernel_rfl)).symm.trans h0_) (by decide)⟩
      refine steps_cons ?_ ?_
      ·rintro b a w' ⟨v9, ha, Q_B, Q_C, Q_R, Q_S1, Q_S2⟩ hb_ hon hoff
       refine ⟨_, rfl, fun K hK => ?_⟩
       have e70 : a.tmps[70]? = some (.slice Av n cv) := by rw [ha]; exact (putSel_off rfl).trans rfl
       replace ha := Aside0.mk ha
       have B := Aside0.mk (Q_B (hoff 11 (by kernel_rfl)))
       have C := Aside0.mk (Q_C (hoff 11 (by kernel_rfl)))
       have R := Aside0.mk (Q_R (hoff 11 (by kernel_rfl)))
       refine value_ (w1 := w') (v := .int .i64 (n : Int)) (by rfl) rfl ?_ ?_
       ·go_simp
        (try simp only [i64_w])
        try rfl
       refine hK.out _ _ ⟨v9, (by rw [ha.out]; exact putSel_upk 5 hb_ rfl rfl rfl), Q_B, Q_C, Q_R, fun h0_ _ => absurd ((hoff 11 (by kernel_rfl)).symm.trans h0_) (by decide), fun h0_ => absurd ((hoff 14 (by kernel_rfl)).symm.trans h0_) (by decide)⟩
      refine steps_cons ?_ ?_
      ·rintro b a w' ⟨v9, ha, Q_B, Q_C, Q_R, Q_S1, Q_S2⟩ hb_ hon hoff
       refine ⟨_, rfl, fun K hK => ?_⟩
       have e69 : a.tmps[69]? = some (.int .i64 (pn : Int)) := by rw [ha]; exact putSel_on (e := (7, 69, .int .i64 (pn : Int))) 4 rfl rfl (hon 7 (by kernel_rfl)) rfl
       have e71 : a.tmps[71]? = some (.int .i64 (n : Int)) := by rw [ha]; exact putSel_on (e := (9, 71, .int .i64 (n : Int))) 5 rfl rfl (hon 9 (by kernel_rfl)) rfl
       replace ha := Aside0.mk ha
       have B := Aside0.mk (Q_B (hoff 11 (by kernel_rfl)))
       have C := Aside0.mk (Q_C (hoff 11 (by kernel_rfl)))
       have R := Aside0.mk (Q_R (hoff 11 (by kernel_rfl)))
       have hs := HSUB.out
       refine value_ (w1 := w') (v := .int .i64 (pad : Int)) (by rfl) rfl (by go_simp; simp only [i64_w]; exact hs) ?_
       refine hK.out _ _ ⟨v9, (by rw [ha.out]; exact putSel_upk 6 hb_ rfl rfl rfl), fun _ => B.out, fun _ => C.out, fun _ => R.out, fun h0_ _ => absurd ((hoff 11 (by kernel_rfl)).symm.trans h0_) (by decide), fun h0_ => absurd ((hoff 14 (by kernel_rfl)).symm.trans h0_) (by decide)⟩
      refine steps_cons ?_ ?_
      ·rintro b a w' ⟨v9, ha, Q_B, Q_C, Q_R, Q_S1, Q_S2⟩ hb_ hon hoff
       refine ⟨_, rfl, fun K hK => ?_⟩
       have e66 : a.tmps[66]? = some (.slice A7 xs.length c7) := by rw [ha]; exact putSel_on (e := (4, 66, .slice A7 xs.length c7)) 2 rfl rfl (hon 4 (by kernel_rfl)) rfl
       have e72 : a.tmps[72]? = some (.int .i64 (pad : Int)) := by rw [ha]; exact putSel_on (e := (10, 72, .int .i64 (pad : Int))) 6 rfl rfl (hon 10 (by kernel_rfl)) rfl
       replace ha := Aside0.mk ha
       have B := Aside0.mk (Q_B hb_)
       have C := Aside0.mk (Q_C hb_)
       have R := Aside0.mk (Q_R hb_)
       refine Kd.R_append_zeros_step (kx := .i64) (Kd.int .u8) (w0 := w') (W := w') (gw + 1) (by rfl) _ _ 22 3 5 (.int .u8 0) 1 rfl Try.underlying22 Try.underlying3 info_u8 rfl (by decide) (by decide) (.slice A7 xs.length c7) xs 0 (pad : Int) okW (by simp [Act.eval, Array.getD_eq_getD_getElem?, e66]) (by simp [Act.eval, Array.getD_eq_getD_getElem?, e72]) rfl (fun k hk => HOK5.out k (by have := B.out.size; omega)) R.out (by omega) (Below.refl _ _) (by have := blk_lt C.out; omega) (by have := HXL.out; have := HM.out; omega) ?_
       intro v1 w1 hR1 hB1 hG1 _
       rw [Int.toNat_natCast] at hR1
       refine hK.out _ _ ⟨v1, (by rw [ha.out]; exact putSel_upk 7 hb_ rfl rfl rfl), fun h0_ => absurd ((up_self b 11).symm.trans h0_) (by decide), fun h0_ => absurd ((up_self b 11).symm.trans h0_) (by decide), fun h0_ => absurd ((up_self b 11).symm.trans h0_) (by decide), fun _ _ => ⟨hR1, blk_grown C.out hG1 (fun e => HGO.out (R.out.1 _ e.symm)), B.out.grown hG1 (fun k _ e => Or.inr (R.out.1 k e))⟩, fun h0_ => absurd ((hoff 14 (by kernel_rfl)).symm.trans h0_) (by decide)⟩
      refine steps_cons ?_ ?_
      ·rintro b a w' ⟨v9, ha, Q_B, Q_C, Q_R, Q_S1, Q_S2⟩ hb_ hon hoff
       refine ⟨_, rfl, fun K hK => ?_⟩
       have e62 : a.tmps[62]? = some (.pointer (some ⟨gw, 0, none⟩)) := by rw [ha]; exact (putSel_off rfl).trans rfl
       replace ha := Aside0.mk ha
       have S1 := Aside0.mk (Q_S1 (hon 11 (by kernel_rfl)) (hoff 14 (by kernel_rfl)))
       refine value_ (w1 := w') (v := .pointer (some ⟨gw, 0, none⟩)) (by rfl) rfl ?_ ?_
       ·go_simp
        (try simp only [i64_w])
        try rfl
       refine hK.out _ _ ⟨v9, (by rw [ha.out]; exact putSel_upk 8 hb_ rfl rfl rfl), fun h0_ => absurd ((hon 11 (by kernel_rfl)).symm.trans h0_) (by decide), fun h0_ => absurd ((hon 11 (by kernel_rfl)).symm.trans h0_) (by decide), fun h0_ => absurd ((hon 11 (by kernel_rfl)).symm.trans h0_) (by decide), Q_S1, fun h0_ => absurd ((hoff 14 (by kernel_rfl)).symm.trans h0_) (by decide)⟩
      refine steps_cons ?_ ?_
      ·rintro b a w' ⟨v9, ha, Q_B, Q_C, Q_R, Q_S1, Q_S2⟩ hb_ hon hoff
       refine ⟨_, rfl, fun K hK => ?_⟩
       have e74 : a.tmps[74]? = some (.pointer (some ⟨gw, 0, none⟩)) := by rw [ha]; exact putSel_on (e := (12, 74, .pointer (some ⟨gw, 0, none⟩))) 8 rfl rfl (hon 12 (by kernel_rfl)) rfl
       replace ha := Aside0.mk ha
       have S1 := Aside0.mk (Q_S1 (hon 11 (by kernel_rfl)) (hoff 14 (by kernel_rfl)))
       refine value_ (w1 := w') (v := .pointer (some ⟨gw, 0, none⟩)) (by rfl) rfl ?_ ?_
       ·go_simp
        (try simp only [i64_w])
        try rfl
       refine hK.out _ _ ⟨v9, (by rw [ha.out]; exact putSel_upk 9 hb_ rfl rfl rfl), fun h0_ => absurd ((hon 11 (by kernel_rfl)).symm.trans h0_) (by decide), fun h0_ => absurd ((hon 11 (by kernel_rfl)).symm.trans h0_) (by decide), fun h0_ => absurd ((hon 11 (by kernel_rfl)).symm.trans h0_) (by decide), Q_S1, fun h0_ => absurd ((hoff 14 (by kernel_rfl)).symm.trans h0_) (by decide)⟩
      refine steps_cons ?_ ?_
      ·rintro b a w' ⟨v9, ha, Q_B, Q_C, Q_R, Q_S1, Q_S2⟩ hb_ hon hoff
       refine ⟨_, rfl, fun K hK => ?_⟩
       have e75 : a.tmps[75]? = some (.pointer (some ⟨gw, 0, none⟩)) := by rw [ha]; exact putSel_on (e := (13, 75, .pointer (some ⟨gw, 0, none⟩))) 9 rfl rfl (hon 13 (by kernel_rfl)) rfl
       have e73 : a.tmps[73]? = some (v9) := by rw [ha]; exact putSel_on (e := (11, 73, v9)) 7 rfl rfl (hon 11 (by kernel_rfl)) rfl
       replace ha := Aside0.mk ha
       have S1 := Aside0.mk (Q_S1 (hon 11 (by kernel_rfl)) hb_)
       obtain ⟨hR1, hC1, hF1⟩ := S1.out
       obtain ⟨A8, c8, hv9⟩ := Kd.R_slice hR1
       have hs := blk_cell hC1 0
       have hf := blk_frozen hC1 0
       refine skip_ (w1 := w'.setCell ⟨gw, 0, none⟩ v9) (by rfl) rfl (by generalize (xs ++ List.replicate pad 0).length = zl at hv9; rw [hv9] at e73 ⊢; go_simp; try rfl) ?_
       refine hK.out _ _ ⟨v9, (by rw [ha.out]; exact putSel_none (v := undef) rfl), fun h0_ => absurd ((hon 11 (by kernel_rfl)).symm.trans h0_) (by decide), fun h0_ => absurd ((hon 11 (by kernel_rfl)).symm.trans h0_) (by decide), fun h0_ => absurd ((hon 11 (by kernel_rfl)).symm.trans h0_) (by decide), fun _ h1_ => absurd ((up_self b 14).symm.trans h1_) (by decide), fun _ => ⟨v9, blk_put hC1 0 v9 rfl, Kd.R_far hR1 (p := ⟨gw, 0, none⟩) (fun k hk (e : k = gw) => HGO.out (e ▸ hk)) v9, hF1.setCell (fun _ => Or.inl rfl) v9⟩⟩
      exact steps_nil
     rintro b a w' hall ⟨v9, ha, Q_B, Q_C, Q_R, Q_S1, Q_S2⟩
     clear B C R
     have hb2_ := hall 2 (by kernel_rfl)
     have hb3_ := hall 3 (by kernel_rfl)
     have hb4_ := hall 4 (by kernel_rfl)
     have hb6_ := hall 6 (by kernel_rfl)
     have hb7_ := hall 7 (by kernel_rfl)
     have hb9_ := hall 9 (by kernel_rfl)
     have hb10_ := hall 10 (by kernel_rfl)
     have hb11_ := hall 11 (by kernel_rfl)
     have hb12_ := hall 12 (by kernel_rfl)
     have hb13_ := hall 13 (by kernel_rfl)
     have hb14_ := hall 14 (by kernel_rfl)
     subst ha
     simp only [putSel, hb2_, hb3_, hb4_, hb6_, hb7_, hb9_, hb10_, hb11_, hb12_, hb13_, hb14_, if_true, Act.put, List.setIfInBounds_toArray, List.set_cons_zero, List.set_cons_succ]
     clear Q_B
     clear Q_C
     clear Q_R
     clear Q_S1
     have S2 := Aside0.mk (Q_S2 hb14_)
     clear Q_S2
     clear hall hb2_ hb3_ hb4_ hb6_ hb7_ hb9_ hb10_ hb11_ hb12_ hb13_ hb14_
     obtain ⟨u, hg, hR, hF⟩ := S2.out
     clear S2 HC HR HSUB HPD
     obtain ⟨A9, c9, rfl⟩ := Kd.R_slice hR
     have HB9 := Lib.hid (HBW.out.trans ((HF5.out.trans hF (fun k _ h => h)).below HBW.out.size HBO.out))
     have HR9 := Lib.hid (Kd.R_mono (ok' := fun k => k ≠ gw) hR (fun k hk (e : k = gw) => HGO.out (e ▸ hk)))
     have HC9 := Lib.hid hg
     have k0 : w'.cell? ⟨gw, 0, none⟩ = some (.slice A9 (xs ++ List.replicate pad 0).length c9) := blk_cell hg 0
     have hxl : (xs ++ List.replicate pad (0 : Int)).length ≤ 131074 := by have := HXL.out; have := HM.out; simp; omega
     clear hg hR hF HF5 HOK5 HXL HM HGO HBO HBW
     generalize hacc : xs ++ List.replicate pad (0 : Int) = acc2 at *
     obtain ⟨nl, hnl⟩ : ∃ nl, acc2.length = nl := ⟨_, rfl⟩
     rw [hnl] at k0 hxl
     have HNL := Lib.hid hnl
     have hA3 := HA2.out
     rw [hnl] at hA3
     by_cases hb : 65536 < nl
     ·rw [if_pos hb] at hA3
      subst hA3
      clear HA2 HR9 HC9 hnl HNL hacc
      go_wp2
      go_ret2
      exact ⟨_, rfl, Kd.R_nil _ _ _ _ _, HB9.out⟩
     ·rw [if_neg hb] at hA3
      have HA3 := Lib.hid hA3
      clear HA2 hA3 hacc hnl
      go_wp2
      go_roundw
      case rel => exact ⟨i + 1, acc2, by omega, by go_num, HA3, (by have := HNL.out; show _ ≤ _; omega), ⟨_, HC9.out, HR9.out⟩, HB9⟩
      case measure => simp [intOf]; omega
    ·obtain rfl : i = l.length := by omega
     have hA := HA.out
     rw [List.drop_length, runE] at hA
     subst hA
     obtain ⟨u, hg, hR⟩ := HW.out
     obtain ⟨Au, cu, rfl⟩ := Kd.R_slice hR
     have k0 : wr.cell? ⟨gw, 0, none⟩ = some (.slice Au acc.length cu) := blk_cell hg 0
     have HR := Lib.hid (Kd.R_mono (ok' := fun _ => True) (Kd.R_lower hR (base' := w.heap.size) (by have := HGW.out; omega)) (fun _ _ => trivial))
     clear HRE HW0 HBW HVAL HLC HA hg hR HW HAL
     generalize hnl : acc.length = nl at *
     go_wp2
     go_ret2
     exact ⟨_, rfl, HR.out, HB.out⟩
end Go.Proofs.Ytjmadnpicidbeaa.Ch
end
section
namespace Go.Proofs.Ytjmadnpicidbeaa.Ch
open Go.RowKit Go.Proofs.YtjmadnpicidbeaaW.PrintWords Go.Proofs.YtjmadnpicidbeaaW.PrintLast Go.Proofs.Ytjmadnpicidbeaa.Base Go.Proofs.Ytjmadnpicidbeaa.PCh Go.Proofs.Ytjmadnpicidbeaa.ParDec Go.Proofs.Ytjmadnpicidbeaa.ParEnc
set_option maxRecDepth 100000
set_option linter.unusedVariables false
set_option linter.unusedSimpArgs false
def awX : Chk := ⟨0, 3, 1, 2, 3, 0, 0, 0, 0, 0, [], [], [], [104, 105], []⟩
def awL : List UInt8 := [0, 3, 0, 18, 0, 0, 0, 1, 0, 2, 0, 3, 0, 0, 0, 0, 104, 105, 0, 0]
theorem aw_bare : bareD awX = awX := by
 unfold bareD
 rw [show flD awX.f0 awX.f1 = 3 from by rfl]
 rfl
theorem aw_value : valueD awX = [0, 0, 0, 1, 0, 2, 0, 3, 0, 0, 0, 0, 104, 105] := by
 unfold valueD
 rw [if_pos (show awX.f0 = 0 from rfl)]
 rfl
theorem aw_check : checkD awX = 0 := by
 unfold checkD
 rw [aw_bare, if_neg (by simp), if_neg (by simp [awX]), if_neg (by simp [awX]), if_neg (by simp [awX]), if_neg (by simp [awX, encP, runB]), aw_value, if_neg (by simp)]
theorem aw_enc : encD [awX] = (ints awL, 0) := by
 unfold encD chkAll
 rw [if_pos aw_check, chkAll, if_pos rfl, runE]
 have h : [] ++ chunkL awX = ints awL := by
  unfold chunkL
  rw [aw_value]
  rfl
 rw [h, if_neg (by decide), runE]
theorem aw_dec : decC awL = (awX, 20, 0) := by rfl
theorem aw_ok : OkB awX := ⟨fun b hb => by
 simp only [awX, List.mem_cons, List.not_mem_nil, or_false] at hb
 rcases hb with rfl | rfl <;> (unfold inB; omega), fun p hp => by cases hp⟩
theorem byte_of_int {w : World} {A : Option Addr} {l : List UInt8} (h : (Kd.int .u8).C w A (ints l).length (ints l)) : byte.C w A l.length l := by
 obtain ⟨h1, h2, h3⟩ := h
 rw [ints_length] at h2 h3
 refine ⟨rfl, h2, fun hn => ?_⟩
 obtain ⟨ad, e, hc⟩ := h3 hn
 refine ⟨ad, e, fun j p hj => ?_⟩
 exact hc j (p.toNat : Int) (by unfold ints; rw [List.getElem?_map, hj]; rfl)
theorem chk_row1 {w : World} {g : Nat} {x : Chk} {L : Lay} (hb : w.heap[g]? = some (.cells (CV x L) 30 (0, 0))) (hx : CR w x L) : Kd.C k30 w (some ⟨g, 0, none⟩) 1 [x] := by
 refine ⟨rfl, by simp, fun _ => ⟨_, rfl, fun j p hj => ?_⟩⟩
 rcases j with _ | j
 ·simp only [List.getElem?_cons_zero, Option.some.injEq] at hj
  subst hj
  refine ⟨(CV x L).toList, rfl, hx.K, fun i u hu => ?_⟩
  rw [Nat.zero_mul, Nat.zero_add]
  exact cells_of_blk hb i u hu
 ·simp at hj
theorem CR.of_M {w : World} {base : Nat} {ok : Nat → Prop} {x : Chk} {cs : List Value} (h : k30.M w base ok x cs) : ∃ L, cs = (CV x L).toList ∧ CR w x L := by
 obtain ⟨v10, v11, v12, v13, v14, rfl, h10, h11, h12, h13, h14⟩ := k30_openM h
 obtain ⟨A10, c10, rfl, l10, g10⟩ := Kd.R_reads h10
 obtain ⟨A11, c11, rfl, l11, g11⟩ := Kd.R_reads h11
 obtain ⟨A12, c12, rfl, l12, g12⟩ := Kd.R_reads h12
 obtain ⟨A13, c13, rfl, l13, g13⟩ := Kd.R_reads h13
 obtain ⟨A14, c14, rfl, l14, g14⟩ := Kd.R_reads h14
 exact ⟨⟨A10, c10, A11, c11, A12, c12, A13, c13, A14, c14⟩, rfl, ⟨l10, g10, l11, g11, l12, g12, l13, g13, l14, g14⟩⟩
theorem checkD_lists {x : Chk} (h : checkD x = 0) : x.f10.length ≤ 4096 ∧ x.f11.length ≤ 4096 ∧ x.f12.length ≤ 4096 := by
 unfold checkD at h
 split at h
 ·cases h
 ·split at h
  ·cases h
  ·split at h
   ·cases h
   ·split at h
    ·cases h
    ·omega
theorem check_any (w : World) (x : Chk) (L : Lay) (hx : CR w x L) (hl : x.f13.length ≤ 140737488355232) : Calls Try.prog 16 #[.agg (CV x L)] w fun e w' => e = .returned (.int .i64 (checkD x)) ∧ Below w.heap.size w w' :=
 check_calls w x L hx (fun W hW _ h10 h11 h12 _ => (value_calls W.heap.size W x L (Nat.le_refl _) (fun W' hB => hW.below hB) h10 h11 h12 hl).mono fun e w' h => h.P)
theorem encode_any (w : World) (A : Option Addr) (c : Nat) (l : List Chk) (hC : Kd.C k30 w A l.length l) (hl : ∀ x ∈ l, x.f13.length ≤ 140737488355232) :
  Calls Try.prog 15 #[.slice A l.length c] w fun e w' => ∃ v, e = .returned (.tuple #[v, .int .i64 (encD l).2]) ∧ (Kd.int .u8).R 5 w' w.heap.size (fun _ => True) v (encD l).1 ∧ Below w.heap.size w w' :=
 encode_chunks w A c l hC (fun x hx W L hW => check_any W x L hW (hl x hx)) (fun x hx hc W L hb hW => by
  have h := checkD_lists hc
  exact value_calls w.heap.size W x L hb hW h.1 h.2.1 h.2.2 (hl x hx))
theorem aw_encode (w : World) (g : Nat) (L : Lay) (hb : w.heap[g]? = some (.cells (CV awX L) 30 (0, 0))) (hx : CR w awX L) :
  Calls Try.prog 15 #[.slice (some ⟨g, 0, none⟩) 1 1] w fun e w' => ∃ A c, e = .returned (.tuple #[.slice A 20 c, .int .i64 0]) ∧ 20 ≤ c ∧ byte.C w' A awL.length awL ∧ Below w.heap.size w w' := by
 refine (encode_any w (some ⟨g, 0, none⟩) 1 [awX] (chk_row1 hb hx) (fun x hxm => by rw [List.mem_singleton.1 hxm]; decide)).mono fun e w' h => ?_
 ·obtain ⟨v, rfl, hR, hB⟩ := h
  rw [aw_enc] at hR ⊢
  obtain ⟨A, c, rfl, hle, hC⟩ := Kd.R_reads hR
  exact ⟨A, c, rfl, hle, byte_of_int hC, hB⟩
theorem aw_decode (w : World) (A : Option Addr) (c : Nat) (hC : byte.C w A awL.length awL) (hc : 20 ≤ c) :
  Calls Try.prog 10 #[.slice A 20 c] w fun e w' => ∃ L, e = .returned (.tuple #[.agg (CV awX L), .int .i64 20, .int .i64 0]) ∧ CR w' awX L ∧ Below w.heap.size w w' := by
 refine (decC_calls w A awL c hC hc (by decide)).mono fun e w' h => ?_
 obtain ⟨cs, rfl, hM, hB⟩ := h
 rw [aw_dec] at hM ⊢
 obtain ⟨L, hcs, hx⟩ := CR.of_M hM
 obtain rfl : cs = CV awX L := Array.toList_inj.1 hcs
 exact ⟨L, rfl, hx, hB⟩
set_option maxHeartbeats 2000000 in
theorem awake_calls (w : World) : Calls Try.prog 13 #[] w fun e w' => e = .returned (.bool true) ∧ Below w.heap.size w w' := by
 have kc := fun (w : World) (C : Array Value) (n c : Nat) => Lib.run_convert_bytes_const (P := Try.prog) w 22 5 C n c Try.underlying22 Try.underlying5
 have HI := Lib.hid (show (Try.prog.info? 30).map (·.size) = some (#[.int .u8 0, .int .u8 3, .int .u32 1, .int .u16 2, .int .u16 3, .int .u32 0, .int .u32 0, .int .u32 0, .int .u16 0, .int .u16 0, .slice none 0 0, .slice none 0 0, .slice none 0 0, .slice (some ⟨w.heap.size, 0, none⟩) 2 2, .slice none 0 0] : Array Value).size by kernel_rfl)
 have HW1 := Lib.hid (show (w.alloc (.cells #[.int .u8 104, .int .u8 105] 5 (2, 3))).heap.size = w.heap.size + 1 by simp)
 have HB1 := Lib.hid (below_alloc (Below.refl w.heap.size w) (.cells #[.int .u8 104, .int .u8 105] 5 (2, 3)))
 have HX1 := Lib.hid (show CR (w.alloc (.cells #[.int .u8 104, .int .u8 105] 5 (2, 3))) awX ⟨none, 0, none, 0, none, 0, some ⟨w.heap.size, 0, none⟩, 2, none, 0⟩ from ⟨Nat.le_refl _, Kd.C_nil _ _, Nat.le_refl _, Kd.C_nil _ _, Nat.le_refl _, Kd.C_nil _ _, Nat.le_refl _, row_lit (Kd.int .u8) rfl w _ [.int .u8 104, .int .u8 105] [104, 105] rfl (by simp) (fun j v p hv hp => by rcases j with _ | _ | j <;> simp at hv hp <;> (subst hv; subst hp; rfl)) (fr := (2, 3)), Nat.le_refl _, Kd.C_nil _ _⟩)
 go_enter Try.func13, Try.ntmps13
 go_wp2_with (first | (with_reducible refine gate_dst (N := 1) rfl ?_; go_must (refine wpList_box rfl rfl 1 rfl rfl (.tmp 9) rfl #[.int .u8 0, .int .u8 3, .int .u32 1, .int .u16 2, .int .u16 3, .int .u32 0, .int .u32 0, .int .u32 0, .int .u16 0, .int .u16 0, .slice none 0 0, .slice none 0 0, .slice none 0 0, .slice (some ⟨w.heap.size, 0, none⟩) 2 2, .slice none 0 0] rfl rfl (by simp) HI.out (by simp [Value.oneCell']) ?_); refine RowKit.Hid.out ?_))
 refine Lib.hid ?_
 have HW2 := Lib.hid (blk_new (w.alloc (.cells #[.int .u8 104, .int .u8 105] 5 (2, 3))) (.cells #[.int .u8 0, .int .u8 3, .int .u32 1, .int .u16 2, .int .u16 3, .int .u32 0, .int .u32 0, .int .u32 0, .int .u16 0, .int .u16 0, .slice none 0 0, .slice none 0 0, .slice none 0 0, .slice (some ⟨w.heap.size, 0, none⟩) 2 2, .slice none 0 0] 30))
 replace HX1 := Lib.hid (CR.below HX1.out (below_alloc (Below.refl _ _) (.cells #[.int .u8 0, .int .u8 3, .int .u32 1, .int .u16 2, .int .u16 3, .int .u32 0, .int .u32 0, .int .u32 0, .int .u16 0, .int .u16 0, .slice none 0 0, .slice none 0 0, .slice none 0 0, .slice (some ⟨w.heap.size, 0, none⟩) 2 2, .slice none 0 0] 30)))
 replace HB1 := Lib.hid (below_alloc HB1.out (.cells #[.int .u8 0, .int .u8 3, .int .u32 1, .int .u16 2, .int .u16 3, .int .u32 0, .int .u32 0, .int .u32 0, .int .u16 0, .int .u16 0, .slice none 0 0, .slice none 0 0, .slice none 0 0, .slice (some ⟨w.heap.size, 0, none⟩) 2 2, .slice none 0 0] 30))
 rw [HW1.out] at HW2
 have HW3 := Lib.hid (show ((w.alloc (.cells #[.int .u8 104, .int .u8 105] 5 (2, 3))).alloc (.cells #[.int .u8 0, .int .u8 3, .int .u32 1, .int .u16 2, .int .u16 3, .int .u32 0, .int .u32 0, .int .u32 0, .int .u16 0, .int .u16 0, .slice none 0 0, .slice none 0 0, .slice none 0 0, .slice (some ⟨w.heap.size, 0, none⟩) 2 2, .slice none 0 0] 30)).heap.size = w.heap.size + 2 by simp)
 clear HW1 kc
 generalize ((w.alloc (.cells #[.int .u8 104, .int .u8 105] 5 (2, 3))).alloc (.cells #[.int .u8 0, .int .u8 3, .int .u32 1, .int .u16 2, .int .u16 3, .int .u32 0, .int .u32 0, .int .u32 0, .int .u16 0, .int .u16 0, .slice none 0 0, .slice none 0 0, .slice none 0 0, .slice (some ⟨w.heap.size, 0, none⟩) 2 2, .slice none 0 0] 30)) = W at *
 go_wp2_with (first | (with_reducible refine gate_dst (N := 11) rfl ?_; go_must (refine wpList_load_cells rfl 30 (.tmp 1) rfl rfl #[.int .u8 0, .int .u8 3, .int .u32 1, .int .u16 2, .int .u16 3, .int .u32 0, .int .u32 0, .int .u32 0, .int .u16 0, .int .u16 0, .slice none 0 0, .slice none 0 0, .slice none 0 0, .slice (some ⟨w.heap.size, 0, none⟩) 2 2, .slice none 0 0] _ (cells_of_blk HW2.out) Try.underlying30 rfl HI.out ?_)))
 refine (aw_encode (W.alloc (.cells #[.int .u8 0, .int .u8 3, .int .u32 1, .int .u16 2, .int .u16 3, .int .u32 0, .int .u32 0, .int .u32 0, .int .u16 0, .int .u16 0, .slice none 0 0, .slice none 0 0, .slice none 0 0, .slice (some ⟨w.heap.size, 0, none⟩) 2 2, .slice none 0 0] 30)) W.heap.size ⟨none, 0, none, 0, none, 0, some ⟨w.heap.size, 0, none⟩, 2, none, 0⟩ (blk_new _ _) (CR.below HX1.out (below_alloc (Below.refl _ _) _))).mono ?_
 rintro e w1 ⟨A, c, rfl, hc, hC, hB⟩
 replace HW2 := Lib.hid (blk_below (blk_alloc HW2.out (.cells #[.int .u8 0, .int .u8 3, .int .u32 1, .int .u16 2, .int .u16 3, .int .u32 0, .int .u32 0, .int .u32 0, .int .u16 0, .int .u16 0, .slice none 0 0, .slice none 0 0, .slice none 0 0, .slice (some ⟨w.heap.size, 0, none⟩) 2 2, .slice none 0 0] 30)) hB)
 replace HX1 := Lib.hid ((HX1.out.below (below_alloc (Below.refl _ _) (.cells #[.int .u8 0, .int .u8 3, .int .u32 1, .int .u16 2, .int .u16 3, .int .u32 0, .int .u32 0, .int .u32 0, .int .u16 0, .int .u16 0, .slice none 0 0, .slice none 0 0, .slice none 0 0, .slice (some ⟨w.heap.size, 0, none⟩) 2 2, .slice none 0 0] 30))).below hB)
 replace HB1 := Lib.hid (below_then (below_alloc HB1.out (.cells #[.int .u8 0, .int .u8 3, .int .u32 1, .int .u16 2, .int .u16 3, .int .u32 0, .int .u32 0, .int .u32 0, .int .u16 0, .int .u16 0, .slice none 0 0, .slice none 0 0, .slice none 0 0, .slice (some ⟨w.heap.size, 0, none⟩) 2 2, .slice none 0 0] 30)) (below_alloc HB1.out (.cells #[.int .u8 0, .int .u8 3, .int .u32 1, .int .u16 2, .int .u16 3, .int .u32 0, .int .u32 0, .int .u32 0, .int .u16 0, .int .u16 0, .slice none 0 0, .slice none 0 0, .slice none 0 0, .slice (some ⟨w.heap.size, 0, none⟩) 2 2, .slice none 0 0] 30)).size hB)
 have HC := Lib.hid hC
 have HCL := Lib.hid hc
 clear hB hC hc HW3
 go_wp2_with fail
 refine (aw_decode w1 A c HC.out HCL.out).mono ?_
 rintro e w2 ⟨L, rfl, hx, hB⟩
 have HZ := Lib.hid (show (#[.int .u8 0, .int .u8 0, .int .u32 0, .int .u16 0, .int .u16 0, .int .u32 0, .int .u32 0, .int .u32 0, .int .u16 0, .int .u16 0, .slice none 0 0, .slice none 0 0, .slice none 0 0, .slice none 0 0, .slice none 0 0] : Array Value).size = (CV awX L).size from rfl)
 have HO := Lib.hid (CV_one awX L)
 have HI2 := Lib.hid (show (Try.prog.info? 30).map (·.size) = some (CV awX L).size by kernel_rfl)
 go_wp2_with (first | (with_reducible refine gate_dst (N := 4) rfl ?_; go_must (refine wpList_box rfl rfl 4 rfl rfl (.tmp 19) rfl (CV awX L) rfl rfl HZ.out HI2.out HO.out ?_); refine RowKit.Hid.out ?_))
 refine Lib.hid ?_
 have HW4 := Lib.hid (blk_new w2 (.cells (CV awX L) 30))
 replace HW2 := Lib.hid (blk_alloc (blk_below HW2.out hB) (.cells (CV awX L) 30))
 replace HX1 := Lib.hid ((HX1.out.below hB).below (below_alloc (Below.refl _ _) (.cells (CV awX L) 30)))
 have HX2 := Lib.hid (hx.below (below_alloc (Below.refl _ _) (.cells (CV awX L) 30)))
 replace HB1 := Lib.hid (below_alloc (below_then HB1.out HB1.out.size hB) (.cells (CV awX L) 30))
 replace HC := Lib.hid (Kd.C_below (Kd.C_below HC.out hB) (below_alloc (Below.refl _ _) (.cells (CV awX L) 30)))
 clear hB hx HZ HO HI2 HI
 generalize w2.alloc (.cells (CV awX L) 30) = w3 at *
 generalize w2.heap.size = g4 at *
 have u0 := (blk_cell (blk_alloc HW2.out (.cells #[.int .u8 0, .int .u8 3, .int .u8 0, .int .u8 18, .int .u8 0, .int .u8 0, .int .u8 0, .int .u8 1, .int .u8 0, .int .u8 2, .int .u8 0, .int .u8 3, .int .u8 0, .int .u8 0, .int .u8 0, .int .u8 0, .int .u8 104, .int .u8 105, .int .u8 0, .int .u8 0] 5)) 0).trans (show (#[.int .u8 0, .int .u8 3, .int .u32 1, .int .u16 2, .int .u16 3, .int .u32 0, .int .u32 0, .int .u32 0, .int .u16 0, .int .u16 0, .slice none 0 0, .slice none 0 0, .slice none 0 0, .slice (some ⟨w.heap.size, 0, none⟩) 2 2, .slice none 0 0] : Array Value)[0]? = some (.int .u8 0) from rfl)
 have u1 := (blk_cell (blk_alloc HW2.out (.cells #[.int .u8 0, .int .u8 3, .int .u8 0, .int .u8 18, .int .u8 0, .int .u8 0, .int .u8 0, .int .u8 1, .int .u8 0, .int .u8 2, .int .u8 0, .int .u8 3, .int .u8 0, .int .u8 0, .int .u8 0, .int .u8 0, .int .u8 104, .int .u8 105, .int .u8 0, .int .u8 0] 5)) 1).trans (show (#[.int .u8 0, .int .u8 3, .int .u32 1, .int .u16 2, .int .u16 3, .int .u32 0, .int .u32 0, .int .u32 0, .int .u16 0, .int .u16 0, .slice none 0 0, .slice none 0 0, .slice none 0 0, .slice (some ⟨w.heap.size, 0, none⟩) 2 2, .slice none 0 0] : Array Value)[1]? = some (.int .u8 3) from rfl)
 have u2 := (blk_cell (blk_alloc HW2.out (.cells #[.int .u8 0, .int .u8 3, .int .u8 0, .int .u8 18, .int .u8 0, .int .u8 0, .int .u8 0, .int .u8 1, .int .u8 0, .int .u8 2, .int .u8 0, .int .u8 3, .int .u8 0, .int .u8 0, .int .u8 0, .int .u8 0, .int .u8 104, .int .u8 105, .int .u8 0, .int .u8 0] 5)) 2).trans (show (#[.int .u8 0, .int .u8 3, .int .u32 1, .int .u16 2, .int .u16 3, .int .u32 0, .int .u32 0, .int .u32 0, .int .u16 0, .int .u16 0, .slice none 0 0, .slice none 0 0, .slice none 0 0, .slice (some ⟨w.heap.size, 0, none⟩) 2 2, .slice none 0 0] : Array Value)[2]? = some (.int .u32 1) from rfl)
 have u3 := (blk_cell (blk_alloc HW2.out (.cells #[.int .u8 0, .int .u8 3, .int .u8 0, .int .u8 18, .int .u8 0, .int .u8 0, .int .u8 0, .int .u8 1, .int .u8 0, .int .u8 2, .int .u8 0, .int .u8 3, .int .u8 0, .int .u8 0, .int .u8 0, .int .u8 0, .int .u8 104, .int .u8 105, .int .u8 0, .int .u8 0] 5)) 3).trans (show (#[.int .u8 0, .int .u8 3, .int .u32 1, .int .u16 2, .int .u16 3, .int .u32 0, .int .u32 0, .int .u32 0, .int .u16 0, .int .u16 0, .slice none 0 0, .slice none 0 0, .slice none 0 0, .slice (some ⟨w.heap.size, 0, none⟩) 2 2, .slice none 0 0] : Array Value)[3]? = some (.int .u16 2) from rfl)
 have u4 := (blk_cell (blk_alloc HW2.out (.cells #[.int .u8 0, .int .u8 3, .int .u8 0, .int .u8 18, .int .u8 0, .int .u8 0, .int .u8 0, .int .u8 1, .int .u8 0, .int .u8 2, .int .u8 0, .int .u8 3, .int .u8 0, .int .u8 0, .int .u8 0, .int .u8 0, .int .u8 104, .int .u8 105, .int .u8 0, .int .u8 0] 5)) 4).trans (show (#[.int .u8 0, .int .u8 3, .int .u32 1, .int .u16 2, .int .u16 3, .int .u32 0, .int .u32 0, .int .u32 0, .int .u16 0, .int .u16 0, .slice none 0 0, .slice none 0 0, .slice none 0 0, .slice (some ⟨w.heap.size, 0, none⟩) 2 2, .slice none 0 0] : Array Value)[4]? = some (.int .u16 3) from rfl)
 have u5 := (blk_cell (blk_alloc HW2.out (.cells #[.int .u8 0, .int .u8 3, .int .u8 0, .int .u8 18, .int .u8 0, .int .u8 0, .int .u8 0, .int .u8 1, .int .u8 0, .int .u8 2, .int .u8 0, .int .u8 3, .int .u8 0, .int .u8 0, .int .u8 0, .int .u8 0, .int .u8 104, .int .u8 105, .int .u8 0, .int .u8 0] 5)) 5).trans (show (#[.int .u8 0, .int .u8 3, .int .u32 1, .int .u16 2, .int .u16 3, .int .u32 0, .int .u32 0, .int .u32 0, .int .u16 0, .int .u16 0, .slice none 0 0, .slice none 0 0, .slice none 0 0, .slice (some ⟨w.heap.size, 0, none⟩) 2 2, .slice none 0 0] : Array Value)[5]? = some (.int .u32 0) from rfl)
 have u6 := (blk_cell (blk_alloc HW2.out (.cells #[.int .u8 0, .int .u8 3, .int .u8 0, .int .u8 18, .int .u8 0, .int .u8 0, .int .u8 0, .int .u8 1, .int .u8 0, .int .u8 2, .int .u8 0, .int .u8 3, .int .u8 0, .int .u8 0, .int .u8 0, .int .u8 0, .int .u8 104, .int .u8 105, .int .u8 0, .int .u8 0] 5)) 6).trans (show (#[.int .u8 0, .int .u8 3, .int .u32 1, .int .u16 2, .int .u16 3, .int .u32 0, .int .u32 0, .int .u32 0, .int .u16 0, .int .u16 0, .slice none 0 0, .slice none 0 0, .slice none 0 0, .slice (some ⟨w.heap.size, 0, none⟩) 2 2, .slice none 0 0] : Array Value)[6]? = some (.int .u32 0) from rfl)
 have u7 := (blk_cell (blk_alloc HW2.out (.cells #[.int .u8 0, .int .u8 3, .int .u8 0, .int .u8 18, .int .u8 0, .int .u8 0, .int .u8 0, .int .u8 1, .int .u8 0, .int .u8 2, .int .u8 0, .int .u8 3, .int .u8 0, .int .u8 0, .int .u8 0, .int .u8 0, .int .u8 104, .int .u8 105, .int .u8 0, .int .u8 0] 5)) 7).trans (show (#[.int .u8 0, .int .u8 3, .int .u32 1, .int .u16 2, .int .u16 3, .int .u32 0, .int .u32 0, .int .u32 0, .int .u16 0, .int .u16 0, .slice none 0 0, .slice none 0 0, .slice none 0 0, .slice (some ⟨w.heap.size, 0, none⟩) 2 2, .slice none 0 0] : Array Value)[7]? = some (.int .u32 0) from rfl)
 have u8 := (blk_cell (blk_alloc HW2.out (.cells #[.int .u8 0, .int .u8 3, .int .u8 0, .int .u8 18, .int .u8 0, .int .u8 0, .int .u8 0, .int .u8 1, .int .u8 0, .int .u8 2, .int .u8 0, .int .u8 3, .int .u8 0, .int .u8 0, .int .u8 0, .int .u8 0, .int .u8 104, .int .u8 105, .int .u8 0, .int .u8 0] 5)) 8).trans (show (#[.int .u8 0, .int .u8 3, .int .u32 1, .int .u16 2, .int .u16 3, .int .u32 0, .int .u32 0, .int .u32 0, .int .u16 0, .int .u16 0, .slice none 0 0, .slice none 0 0, .slice none 0 0, .slice (some ⟨w.heap.size, 0, none⟩) 2 2, .slice none 0 0] : Array Value)[8]? = some (.int .u16 0) from rfl)
 have u9 := (blk_cell (blk_alloc HW2.out (.cells #[.int .u8 0, .int .u8 3, .int .u8 0, .int .u8 18, .int .u8 0, .int .u8 0, .int .u8 0, .int .u8 1, .int .u8 0, .int .u8 2, .int .u8 0, .int .u8 3, .int .u8 0, .int .u8 0, .int .u8 0, .int .u8 0, .int .u8 104, .int .u8 105, .int .u8 0, .int .u8 0] 5)) 9).trans (show (#[.int .u8 0, .int .u8 3, .int .u32 1, .int .u16 2, .int .u16 3, .int .u32 0, .int .u32 0, .int .u32 0, .int .u16 0, .int .u16 0, .slice none 0 0, .slice none 0 0, .slice none 0 0, .slice (some ⟨w.heap.size, 0, none⟩) 2 2, .slice none 0 0] : Array Value)[9]? = some (.int .u16 0) from rfl)
 have u10 := (blk_cell (blk_alloc HW2.out (.cells #[.int .u8 0, .int .u8 3, .int .u8 0, .int .u8 18, .int .u8 0, .int .u8 0, .int .u8 0, .int .u8 1, .int .u8 0, .int .u8 2, .int .u8 0, .int .u8 3, .int .u8 0, .int .u8 0, .int .u8 0, .int .u8 0, .int .u8 104, .int .u8 105, .int .u8 0, .int .u8 0] 5)) 10).trans (show (#[.int .u8 0, .int .u8 3, .int .u32 1, .int .u16 2, .int .u16 3, .int .u32 0, .int .u32 0, .int .u32 0, .int .u16 0, .int .u16 0, .slice none 0 0, .slice none 0 0, .slice none 0 0, .slice (some ⟨w.heap.size, 0, none⟩) 2 2, .slice none 0 0] : Array Value)[10]? = some (.slice none 0 0) from rfl)
 have u11 := (blk_cell (blk_alloc HW2.out (.cells #[.int .u8 0, .int .u8 3, .int .u8 0, .int .u8 18, .int .u8 0, .int .u8 0, .int .u8 0, .int .u8 1, .int .u8 0, .int .u8 2, .int .u8 0, .int .u8 3, .int .u8 0, .int .u8 0, .int .u8 0, .int .u8 0, .int .u8 104, .int .u8 105, .int .u8 0, .int .u8 0] 5)) 11).trans (show (#[.int .u8 0, .int .u8 3, .int .u32 1, .int .u16 2, .int .u16 3, .int .u32 0, .int .u32 0, .int .u32 0, .int .u16 0, .int .u16 0, .slice none 0 0, .slice none 0 0, .slice none 0 0, .slice (some ⟨w.heap.size, 0, none⟩) 2 2, .slice none 0 0] : Array Value)[11]? = some (.slice none 0 0) from rfl)
 have u12 := (blk_cell (blk_alloc HW2.out (.cells #[.int .u8 0, .int .u8 3, .int .u8 0, .int .u8 18, .int .u8 0, .int .u8 0, .int .u8 0, .int .u8 1, .int .u8 0, .int .u8 2, .int .u8 0, .int .u8 3, .int .u8 0, .int .u8 0, .int .u8 0, .int .u8 0, .int .u8 104, .int .u8 105, .int .u8 0, .int .u8 0] 5)) 12).trans (show (#[.int .u8 0, .int .u8 3, .int .u32 1, .int .u16 2, .int .u16 3, .int .u32 0, .int .u32 0, .int .u32 0, .int .u16 0, .int .u16 0, .slice none 0 0, .slice none 0 0, .slice none 0 0, .slice (some ⟨w.heap.size, 0, none⟩) 2 2, .slice none 0 0] : Array Value)[12]? = some (.slice none 0 0) from rfl)
 have u13 := (blk_cell (blk_alloc HW2.out (.cells #[.int .u8 0, .int .u8 3, .int .u8 0, .int .u8 18, .int .u8 0, .int .u8 0, .int .u8 0, .int .u8 1, .int .u8 0, .int .u8 2, .int .u8 0, .int .u8 3, .int .u8 0, .int .u8 0, .int .u8 0, .int .u8 0, .int .u8 104, .int .u8 105, .int .u8 0, .int .u8 0] 5)) 13).trans (show (#[.int .u8 0, .int .u8 3, .int .u32 1, .int .u16 2, .int .u16 3, .int .u32 0, .int .u32 0, .int .u32 0, .int .u16 0, .int .u16 0, .slice none 0 0, .slice none 0 0, .slice none 0 0, .slice (some ⟨w.heap.size, 0, none⟩) 2 2, .slice none 0 0] : Array Value)[13]? = some (.slice (some ⟨w.heap.size, 0, none⟩) 2 2) from rfl)
 have u14 := (blk_cell (blk_alloc HW2.out (.cells #[.int .u8 0, .int .u8 3, .int .u8 0, .int .u8 18, .int .u8 0, .int .u8 0, .int .u8 0, .int .u8 1, .int .u8 0, .int .u8 2, .int .u8 0, .int .u8 3, .int .u8 0, .int .u8 0, .int .u8 0, .int .u8 0, .int .u8 104, .int .u8 105, .int .u8 0, .int .u8 0] 5)) 14).trans (show (#[.int .u8 0, .int .u8 3, .int .u32 1, .int .u16 2, .int .u16 3, .int .u32 0, .int .u32 0, .int .u32 0, .int .u16 0, .int .u16 0, .slice none 0 0, .slice none 0 0, .slice none 0 0, .slice (some ⟨w.heap.size, 0, none⟩) 2 2, .slice none 0 0] : Array Value)[14]? = some (.slice none 0 0) from rfl)
 have v0 := (blk_cell (blk_alloc HW4.out (.cells #[.int .u8 0, .int .u8 3, .int .u8 0, .int .u8 18, .int .u8 0, .int .u8 0, .int .u8 0, .int .u8 1, .int .u8 0, .int .u8 2, .int .u8 0, .int .u8 3, .int .u8 0, .int .u8 0, .int .u8 0, .int .u8 0, .int .u8 104, .int .u8 105, .int .u8 0, .int .u8 0] 5)) 0).trans (show (CV awX L)[0]? = some (.int .u8 0) from rfl)
 have v1 := (blk_cell (blk_alloc HW4.out (.cells #[.int .u8 0, .int .u8 3, .int .u8 0, .int .u8 18, .int .u8 0, .int .u8 0, .int .u8 0, .int .u8 1, .int .u8 0, .int .u8 2, .int .u8 0, .int .u8 3, .int .u8 0, .int .u8 0, .int .u8 0, .int .u8 0, .int .u8 104, .int .u8 105, .int .u8 0, .int .u8 0] 5)) 1).trans (show (CV awX L)[1]? = some (.int .u8 3) from rfl)
 have v2 := (blk_cell (blk_alloc HW4.out (.cells #[.int .u8 0, .int .u8 3, .int .u8 0, .int .u8 18, .int .u8 0, .int .u8 0, .int .u8 0, .int .u8 1, .int .u8 0, .int .u8 2, .int .u8 0, .int .u8 3, .int .u8 0, .int .u8 0, .int .u8 0, .int .u8 0, .int .u8 104, .int .u8 105, .int .u8 0, .int .u8 0] 5)) 2).trans (show (CV awX L)[2]? = some (.int .u32 1) from rfl)
 have v3 := (blk_cell (blk_alloc HW4.out (.cells #[.int .u8 0, .int .u8 3, .int .u8 0, .int .u8 18, .int .u8 0, .int .u8 0, .int .u8 0, .int .u8 1, .int .u8 0, .int .u8 2, .int .u8 0, .int .u8 3, .int .u8 0, .int .u8 0, .int .u8 0, .int .u8 0, .int .u8 104, .int .u8 105, .int .u8 0, .int .u8 0] 5)) 3).trans (show (CV awX L)[3]? = some (.int .u16 2) from rfl)
 have v4 := (blk_cell (blk_alloc HW4.out (.cells #[.int .u8 0, .int .u8 3, .int .u8 0, .int .u8 18, .int .u8 0, .int .u8 0, .int .u8 0, .int .u8 1, .int .u8 0, .int .u8 2, .int .u8 0, .int .u8 3, .int .u8 0, .int .u8 0, .int .u8 0, .int .u8 0, .int .u8 104, .int .u8 105, .int .u8 0, .int .u8 0] 5)) 4).trans (show (CV awX L)[4]? = some (.int .u16 3) from rfl)
 have v5 := (blk_cell (blk_alloc HW4.out (.cells #[.int .u8 0, .int .u8 3, .int .u8 0, .int .u8 18, .int .u8 0, .int .u8 0, .int .u8 0, .int .u8 1, .int .u8 0, .int .u8 2, .int .u8 0, .int .u8 3, .int .u8 0, .int .u8 0, .int .u8 0, .int .u8 0, .int .u8 104, .int .u8 105, .int .u8 0, .int .u8 0] 5)) 5).trans (show (CV awX L)[5]? = some (.int .u32 0) from rfl)
 have v6 := (blk_cell (blk_alloc HW4.out (.cells #[.int .u8 0, .int .u8 3, .int .u8 0, .int .u8 18, .int .u8 0, .int .u8 0, .int .u8 0, .int .u8 1, .int .u8 0, .int .u8 2, .int .u8 0, .int .u8 3, .int .u8 0, .int .u8 0, .int .u8 0, .int .u8 0, .int .u8 104, .int .u8 105, .int .u8 0, .int .u8 0] 5)) 6).trans (show (CV awX L)[6]? = some (.int .u32 0) from rfl)
 have v7 := (blk_cell (blk_alloc HW4.out (.cells #[.int .u8 0, .int .u8 3, .int .u8 0, .int .u8 18, .int .u8 0, .int .u8 0, .int .u8 0, .int .u8 1, .int .u8 0, .int .u8 2, .int .u8 0, .int .u8 3, .int .u8 0, .int .u8 0, .int .u8 0, .int .u8 0, .int .u8 104, .int .u8 105, .int .u8 0, .int .u8 0] 5)) 7).trans (show (CV awX L)[7]? = some (.int .u32 0) from rfl)
 have v8 := (blk_cell (blk_alloc HW4.out (.cells #[.int .u8 0, .int .u8 3, .int .u8 0, .int .u8 18, .int .u8 0, .int .u8 0, .int .u8 0, .int .u8 1, .int .u8 0, .int .u8 2, .int .u8 0, .int .u8 3, .int .u8 0, .int .u8 0, .int .u8 0, .int .u8 0, .int .u8 104, .int .u8 105, .int .u8 0, .int .u8 0] 5)) 8).trans (show (CV awX L)[8]? = some (.int .u16 0) from rfl)
 have v9 := (blk_cell (blk_alloc HW4.out (.cells #[.int .u8 0, .int .u8 3, .int .u8 0, .int .u8 18, .int .u8 0, .int .u8 0, .int .u8 0, .int .u8 1, .int .u8 0, .int .u8 2, .int .u8 0, .int .u8 3, .int .u8 0, .int .u8 0, .int .u8 0, .int .u8 0, .int .u8 104, .int .u8 105, .int .u8 0, .int .u8 0] 5)) 9).trans (show (CV awX L)[9]? = some (.int .u16 0) from rfl)
 have v10 := (blk_cell (blk_alloc HW4.out (.cells #[.int .u8 0, .int .u8 3, .int .u8 0, .int .u8 18, .int .u8 0, .int .u8 0, .int .u8 0, .int .u8 1, .int .u8 0, .int .u8 2, .int .u8 0, .int .u8 3, .int .u8 0, .int .u8 0, .int .u8 0, .int .u8 0, .int .u8 104, .int .u8 105, .int .u8 0, .int .u8 0] 5)) 10).trans (show (CV awX L)[10]? = some (.slice L.A10 0 L.c10) from rfl)
 have v11 := (blk_cell (blk_alloc HW4.out (.cells #[.int .u8 0, .int .u8 3, .int .u8 0, .int .u8 18, .int .u8 0, .int .u8 0, .int .u8 0, .int .u8 1, .int .u8 0, .int .u8 2, .int .u8 0, .int .u8 3, .int .u8 0, .int .u8 0, .int .u8 0, .int .u8 0, .int .u8 104, .int .u8 105, .int .u8 0, .int .u8 0] 5)) 11).trans (show (CV awX L)[11]? = some (.slice L.A11 0 L.c11) from rfl)
 have v12 := (blk_cell (blk_alloc HW4.out (.cells #[.int .u8 0, .int .u8 3, .int .u8 0, .int .u8 18, .int .u8 0, .int .u8 0, .int .u8 0, .int .u8 1, .int .u8 0, .int .u8 2, .int .u8 0, .int .u8 3, .int .u8 0, .int .u8 0, .int .u8 0, .int .u8 0, .int .u8 104, .int .u8 105, .int .u8 0, .int .u8 0] 5)) 12).trans (show (CV awX L)[12]? = some (.slice L.A12 0 L.c12) from rfl)
 have v13 := (blk_cell (blk_alloc HW4.out (.cells #[.int .u8 0, .int .u8 3, .int .u8 0, .int .u8 18, .int .u8 0, .int .u8 0, .int .u8 0, .int .u8 1, .int .u8 0, .int .u8 2, .int .u8 0, .int .u8 3, .int .u8 0, .int .u8 0, .int .u8 0, .int .u8 0, .int .u8 104, .int .u8 105, .int .u8 0, .int .u8 0] 5)) 13).trans (show (CV awX L)[13]? = some (.slice L.A13 2 L.c13) from rfl)
 have v14 := (blk_cell (blk_alloc HW4.out (.cells #[.int .u8 0, .int .u8 3, .int .u8 0, .int .u8 18, .int .u8 0, .int .u8 0, .int .u8 0, .int .u8 1, .int .u8 0, .int .u8 2, .int .u8 0, .int .u8 3, .int .u8 0, .int .u8 0, .int .u8 0, .int .u8 0, .int .u8 104, .int .u8 105, .int .u8 0, .int .u8 0] 5)) 14).trans (show (CV awX L)[14]? = some (.slice L.A14 0 L.c14) from rfl)
 have r1 : (convert 22 9 (.slice A 20 c)).run Try.prog w3 = .ok (.string (bstr awL)) w3 := run_bstr HC.out
 have r2 : (convert 22 9 (.slice (some ⟨w3.heap.size, 0, none⟩) 20 20)).run Try.prog (w3.alloc (.cells #[.int .u8 0, .int .u8 3, .int .u8 0, .int .u8 18, .int .u8 0, .int .u8 0, .int .u8 0, .int .u8 1, .int .u8 0, .int .u8 2, .int .u8 0, .int .u8 3, .int .u8 0, .int .u8 0, .int .u8 0, .int .u8 0, .int .u8 104, .int .u8 105, .int .u8 0, .int .u8 0] 5)) = .ok (.string (bstr awL)) (w3.alloc (.cells #[.int .u8 0, .int .u8 3, .int .u8 0, .int .u8 18, .int .u8 0, .int .u8 0, .int .u8 0, .int .u8 1, .int .u8 0, .int .u8 2, .int .u8 0, .int .u8 3, .int .u8 0, .int .u8 0, .int .u8 0, .int .u8 0, .int .u8 104, .int .u8 105, .int .u8 0, .int .u8 0] 5)) := run_bstr (n := 20) (row_lit byte rfl w3 5 (#[.int .u8 0, .int .u8 3, .int .u8 0, .int .u8 18, .int .u8 0, .int .u8 0, .int .u8 0, .int .u8 1, .int .u8 0, .int .u8 2, .int .u8 0, .int .u8 3, .int .u8 0, .int .u8 0, .int .u8 0, .int .u8 0, .int .u8 104, .int .u8 105, .int .u8 0, .int .u8 0]).toList awL rfl (by decide) (lit_byte w3 awL rfl))
 have HR := Lib.hid (fun (W : World) (h : Below w3.heap.size w3 W) => rsame_calls W awX awX ⟨none, 0, none, 0, none, 0, some ⟨w.heap.size, 0, none⟩, 2, none, 0⟩ L (HX1.out.below h) (HX2.out.below h) aw_ok aw_ok)
 generalize bstr awL = sb at *
 clear HW2 HW4 HX1 HX2 HC HCL
 have hbb := below_alloc (Below.refl w3.heap.size w3) (.cells #[.int .u8 0, .int .u8 3, .int .u8 0, .int .u8 18, .int .u8 0, .int .u8 0, .int .u8 0, .int .u8 1, .int .u8 0, .int .u8 2, .int .u8 0, .int .u8 3, .int .u8 0, .int .u8 0, .int .u8 0, .int .u8 0, .int .u8 104, .int .u8 105, .int .u8 0, .int .u8 0] 5)
 have HBB := Lib.hid hbb
 replace HB1 := Lib.hid (below_alloc HB1.out (.cells #[.int .u8 0, .int .u8 3, .int .u8 0, .int .u8 18, .int .u8 0, .int .u8 0, .int .u8 0, .int .u8 1, .int .u8 0, .int .u8 2, .int .u8 0, .int .u8 3, .int .u8 0, .int .u8 0, .int .u8 0, .int .u8 0, .int .u8 104, .int .u8 105, .int .u8 0, .int .u8 0] 5))
 clear hbb
 go_wp2_with fail
 refine (HR.out _ HBB.out).mono ?_
 rintro e w5 ⟨rfl, hB⟩
 rw [show decide True = true from rfl]
 replace HB1 := Lib.hid (below_then HB1.out HB1.out.size hB)
 clear HR r1 r2
 go_wp2
 go_ret
 exact ⟨rfl, HB1.out⟩
end Go.Proofs.Ytjmadnpicidbeaa.Ch
end
section
namespace Go.Proofs.Ytjmadnpicidbeaa.Ch
open Go.RowKit Go.Proofs.YtjmadnpicidbeaaW.PrintWords Go.Proofs.YtjmadnpicidbeaaW.PrintLast Go.Proofs.Ytjmadnpicidbeaa.Base Go.Proofs.Ytjmadnpicidbeaa.PCh Go.Proofs.Ytjmadnpicidbeaa.ParDec Go.Proofs.Ytjmadnpicidbeaa.ParEnc
set_option maxRecDepth 100000
set_option linter.unusedVariables false
set_option linter.unusedSimpArgs false
theorem z16 : in16 0 := by unfold in16; omega
theorem z32 : in32 0 := by unfold in32; omega
theorem inB_intsL (l : List UInt8) : ∀ b ∈ intsL l, inB b := fun b hb => by
 unfold intsL at hb
 obtain ⟨x, _, rfl⟩ := List.mem_map.1 hb
 have := x.toNat_lt
 unfold inB
 omega
theorem intsL_len (l : List UInt8) : (intsL l).length = l.length := List.length_map ..
theorem nog : ∀ g ∈ ([] : List GapS), okG g := fun _ h => by cases h
theorem noi {P : Int → Prop} : ∀ g ∈ ([] : List Int), P g := fun _ h => by cases h
theorem nop : ∀ p ∈ ([] : List PrmS), okQ p := fun _ h => by cases h
theorem bare_mk {x : Chk} (p : Nat → Bool) (hp : hasF x.f0 = p) (hfl : flD x.f0 x.f1 = x.f1) (h : x = ⟨x.f0, x.f1, if p 2 then x.f2 else 0, if p 3 then x.f3 else 0, if p 4 then x.f4 else 0, if p 5 then x.f5 else 0, if p 6 then x.f6 else 0, if p 7 then x.f7 else 0, if p 8 then x.f8 else 0, if p 9 then x.f9 else 0, if p 10 then x.f10 else [], if p 11 then x.f11 else [], if p 12 then x.f12 else [], if p 13 then x.f13 else [], if p 14 then x.f14 else []⟩) : x = bareD x := by
 unfold bareD keepF
 rw [hp, hfl]
 exact h
theorem read_ok {kd fl : Int} {v : List UInt8} {d : Chk} (h : readD kd fl v = .ok d) (hk : inB kd) (hf : inB fl) (hff : flD kd fl = fl) (hv : v.length ≤ 65531) : OkC d ∧ ChkOk d ∧ d.f0 = kd ∧ d.f1 = fl ∧ (valueD d).length ≤ v.length := by
 unfold readD at h
 by_cases k0 : kd = 0
 ·rw [if_pos k0] at h
  unfold readData at h
  split at h
  ·cases h
  split at h
  ·cases h
  rename_i h12 h12'
  injection h with h
  have hl : (valueD d).length ≤ v.length := by
   subst h
   unfold valueD
   rw [if_pos k0]
   unfold valData
   simp only [List.length_append, fourL_length, twoL_length, List.length_cons, List.length_nil, intsL_len, List.length_drop]
   omega
  subst h
  refine ⟨⟨hk, hf, be4_in _, be_in16 _, be_in16 _, be4_in _, z32, z32, z16, z16, nog, nog, noi, inB_intsL _, nop, by rw [intsL_len, List.length_drop]; omega⟩, ⟨bare_mk (fun i => i == 2 || i == 3 || i == 4 || i == 5 || i == 13) (by funext i; unfold hasF; rw [if_pos k0]) hff rfl, fun _ e => ?_, fun e => ?_, Nat.zero_le _, Nat.zero_le _, Nat.zero_le _, rfl, by omega⟩, rfl, rfl, hl⟩
  ·have e := congrArg List.length e
   rw [intsL_len, List.length_drop] at e
   have e : v.length - 12 = 0 := e
   omega
  ·dsimp only at e; omega
 rw [if_neg k0] at h
 by_cases k1 : kd = 1 ∨ kd = 2
 ·rw [if_pos k1] at h
  unfold readInit at h
  split at h
  ·cases h
  split at h
  ·cases h
  rename_i h16 ps hps
  injection h with h
  obtain ⟨p1, p2, p3⟩ := prmsD_all hps
  rw [List.length_drop] at p3
  have hl : (valueD d).length ≤ v.length := by
   subst h
   unfold valueD
   rw [if_neg k0, if_pos k1]
   simp only [List.length_append, fourL_length, twoL_length, List.length_cons, List.length_nil]
   omega
  subst h
  refine ⟨⟨hk, hf, be4_in _, z16, z16, z32, be4_in _, be4_in _, be_in16 _, be_in16 _, nog, nog, noi, noi, p1, Nat.zero_le _⟩, ⟨bare_mk (fun i => i == 2 || i == 6 || i == 7 || i == 8 || i == 9 || i == 14) (by funext i; unfold hasF; rw [if_neg k0, if_pos k1]) hff rfl, fun e => absurd e k0, fun e => ?_, Nat.zero_le _, Nat.zero_le _, Nat.zero_le _, p2, by omega⟩, rfl, rfl, hl⟩
  dsimp only at e; omega
 rw [if_neg k1] at h
 have lists : ∀ nr, kd = (if nr then 16 else 3) → readLists nr kd fl v = .ok d → OkC d ∧ ChkOk d ∧ d.f0 = kd ∧ d.f1 = fl ∧ (valueD d).length ≤ v.length := by
  intro nr hkd h
  unfold readLists at h
  split at h
  ·cases h
  rename_i t1 t2 G N D hL
  injection h with h
  unfold listsD at hL
  by_cases l1 : v.length < (if nr then 16 else 12)
  ·rw [if_pos l1] at hL; cases hL
  rw [if_neg l1] at hL
  by_cases l2 : 4096 < be ((v.drop 8).take 2) ∨ 4096 < (if nr then be ((v.drop 10).take 2) else 0) ∨ 4096 < be ((v.drop (if nr then 12 else 10)).take 2)
  ·rw [if_pos l2] at hL; cases hL
  rw [if_neg l2] at hL
  by_cases l3 : v.length ≠ (if nr then 16 else 12) + 4 * (be ((v.drop 8).take 2) + (if nr then be ((v.drop 10).take 2) else 0) + be ((v.drop (if nr then 12 else 10)).take 2))
  ·rw [if_pos l3] at hL; cases hL
  rw [if_neg l3] at hL
  injection hL with hL
  injection hL with e1 hL
  injection hL with e2 hL
  injection hL with e3 hL
  injection hL with e4 e5
  have g3 : G.length = be ((v.drop 8).take 2) := by rw [← e3, gapsD_length]
  have g4 : N.length = if nr then be ((v.drop 10).take 2) else 0 := by rw [← e4, gapsD_length]
  have g5 : D.length = be ((v.drop (if nr then 12 else 10)).take 2) := by rw [← e5, dupsD_length]
  rw [← g3, ← g4, ← g5] at l2 l3
  have hl : (valueD d).length ≤ v.length := by
   subst h
   unfold valueD
   cases nr
   ·have e3 : kd = 3 := hkd
    rw [if_neg k0, if_neg k1, if_pos e3]
    simp only [List.length_append, fourL_length, twoL_length, gapL_length, List.length_cons, List.length_nil]
    simp only [Bool.false_eq_true, if_false] at l3
    omega
   ·have e16 : kd = 16 := hkd
    rw [if_neg k0, if_neg k1, if_neg (show ¬ kd = 3 by omega), if_pos e16]
    simp only [List.length_append, fourL_length, twoL_length, gapL_length, List.length_cons, List.length_nil]
    simp only [if_true] at l3
    omega
  have i1 : in32 (t1 : Int) := by rw [← e1]; exact be4_in _
  have i2 : in32 (t2 : Int) := by rw [← e2]; exact be4_in _
  have i3 : ∀ g ∈ G, okG g := by rw [← e3]; exact gapsD_ok _ _
  have i4 : ∀ g ∈ N, okG g := by rw [← e4]; exact gapsD_ok _ _
  have i5 : ∀ g ∈ D, in32 g := by rw [← e5]; exact dupsD_ok _ _
  have hN : nr = false → N = [] := fun e => by rw [e] at g4; exact List.length_eq_zero_iff.1 g4
  subst h
  refine ⟨⟨hk, hf, i1, z16, z16, z32, z32, i2, z16, z16, i3, i4, i5, noi, nop, Nat.zero_le _⟩, ⟨?_, fun e => absurd e k0, fun e => ?_, by dsimp only; omega, by dsimp only; omega, by dsimp only; omega, rfl, by omega⟩, rfl, rfl, hl⟩
  ·cases nr
   ·rw [hN rfl]
    exact bare_mk (fun i => i == 2 || i == 7 || i == 10 || i == 12) (by funext i; unfold hasF; dsimp only; rw [hkd]; rfl) hff rfl
   ·exact bare_mk (fun i => i == 2 || i == 7 || i == 10 || i == 11 || i == 12) (by funext i; unfold hasF; dsimp only; rw [hkd]; rfl) hff rfl
  ·cases nr <;> simp at hkd <;> dsimp only at e <;> omega
 by_cases k3 : kd = 3
 ·rw [if_pos k3] at h
  exact lists false k3 h
 rw [if_neg k3] at h
 by_cases k16 : kd = 16
 ·rw [if_pos k16] at h
  exact lists true k16 h
 rw [if_neg k16] at h
 have prms : ∀ bt, (kd = 4 ∨ kd = 5 ∨ kd = 6 ∨ kd = 9) → (kd = 4 ∨ kd = 5 → bt = true) → readPrms bt kd fl v = .ok d → OkC d ∧ ChkOk d ∧ d.f0 = kd ∧ d.f1 = fl ∧ (valueD d).length ≤ v.length := by
  intro bt k4 hbt h
  unfold readPrms at h
  split at h
  ·cases h
  split at h
  ·cases h
  rename_i ps hps hbb
  injection h with h
  obtain ⟨p1, p2, p3⟩ := prmsD_all hps
  have hl : (valueD d).length ≤ v.length := by
   subst h
   unfold valueD
   rw [if_neg k0, if_neg k1, if_neg k3, if_neg k16, if_pos k4]
   exact p3
  subst h
  refine ⟨⟨hk, hf, z32, z16, z16, z32, z32, z32, z16, z16, nog, nog, noi, noi, p1, Nat.zero_le _⟩, ⟨bare_mk (fun i => i == 14) (by funext i; unfold hasF; rw [if_neg k0, if_neg k1, if_neg k16, if_neg k3, if_pos k4]) hff rfl, fun e => absurd e k0, fun e => ?_, Nat.zero_le _, Nat.zero_le _, Nat.zero_le _, p2, by omega⟩, rfl, rfl, hl⟩
  rw [hbt e] at hbb
  simpa using hbb
 by_cases k4 : kd = 4 ∨ kd = 5
 ·rw [if_pos k4] at h
  exact prms true (by omega) (fun _ => rfl) h
 rw [if_neg k4] at h
 by_cases k6 : kd = 6 ∨ kd = 9
 ·rw [if_pos k6] at h
  exact prms false (by omega) (fun e => absurd e k4) h
 rw [if_neg k6] at h
 have k46 : ¬(kd = 4 ∨ kd = 5 ∨ kd = 6 ∨ kd = 9) := by omega
 by_cases k7 : kd = 7
 ·rw [if_pos k7] at h
  unfold readShut at h
  split at h
  ·rename_i h4
   injection h with h
   have hl : (valueD d).length ≤ v.length := by
    subst h
    unfold valueD
    rw [if_neg k0, if_neg k1, if_neg k3, if_neg k16, if_neg k46, if_pos k7]
    rw [fourL_length]
    exact Nat.le_of_eq h4.symm
   subst h
   refine ⟨⟨hk, hf, be_in32 _ (by omega), z16, z16, z32, z32, z32, z16, z16, nog, nog, noi, noi, nop, Nat.zero_le _⟩, ⟨bare_mk (fun i => i == 2) (by funext i; unfold hasF; rw [if_neg k0, if_neg k1, if_neg k16, if_neg k3, if_neg k46, if_pos k7]) hff rfl, fun e => absurd e k0, fun e => absurd e k4, Nat.zero_le _, Nat.zero_le _, Nat.zero_le _, rfl, by omega⟩, rfl, rfl, hl⟩
  ·cases h
 rw [if_neg k7] at h
 by_cases k8 : kd = 8 ∨ kd = 11 ∨ kd = 14
 ·rw [if_pos k8] at h
  unfold readNone at h
  split at h
  ·rename_i h4
   injection h with h
   have hl : (valueD d).length ≤ v.length := by
    subst h
    unfold valueD chk0
    rw [if_neg k0, if_neg k1, if_neg k3, if_neg k16, if_neg k46, if_neg k7, if_pos k8]
    exact Nat.zero_le _
   subst h
   refine ⟨⟨hk, hf, z32, z16, z16, z32, z32, z32, z16, z16, nog, nog, noi, noi, nop, Nat.zero_le _⟩, ⟨bare_mk (fun i => false) (by funext i; unfold hasF chk0; dsimp only; rw [if_neg k0, if_neg k1, if_neg k16, if_neg k3, if_neg k46, if_neg k7, if_pos k8]) hff rfl, fun e => absurd e k0, fun e => absurd e k4, Nat.zero_le _, Nat.zero_le _, Nat.zero_le _, rfl, by omega⟩, rfl, rfl, hl⟩
  ·cases h
 rw [if_neg k8] at h
 unfold readBody at h
 injection h with h
 have hl : (valueD d).length ≤ v.length := by
  subst h
  unfold valueD
  rw [if_neg k0, if_neg k1, if_neg k3, if_neg k16, if_neg k46, if_neg k7, if_neg k8]
  rw [intsL_len]
  exact Nat.le_refl _
 subst h
 refine ⟨⟨hk, hf, z32, z16, z16, z32, z32, z32, z16, z16, nog, nog, noi, inB_intsL _, nop, by rw [intsL_len]; omega⟩, ⟨bare_mk (fun i => i == 13) (by funext i; unfold hasF; rw [if_neg k0, if_neg k1, if_neg k16, if_neg k3, if_neg k46, if_neg k7, if_neg k8]) hff rfl, fun e => absurd e k0, fun e => absurd e k4, Nat.zero_le _, Nat.zero_le _, Nat.zero_le _, rfl, by omega⟩, rfl, rfl, hl⟩
theorem dec_may {b : List UInt8} (h : (decC b).2.2 = 0) : OkC (decC b).1 ∧ checkD (decC b).1 = 0 := by
 unfold decC at h ⊢
 by_cases h4 : b.length < 4
 ·rw [if_pos h4] at h; cases h
 rw [if_neg h4] at h ⊢
 by_cases h5 : be ((b.drop 2).take 2) < 4 ∨ b.length < be ((b.drop 2).take 2)
 ·rw [if_pos h5] at h; cases h
 rw [if_neg h5] at h ⊢
 have hbn := be_in16 (b.drop 2)
 unfold in16 at hbn
 have u0 := (b.getD 0 0).toNat_lt
 have u1 := (b.getD 1 0).toNat_lt
 obtain ⟨f1, f2⟩ := flD_in ((b.getD 0 0).toNat : Int) ((b.getD 1 0).toNat : Int) (by omega) (by omega)
 cases hr : readD ((b.getD 0 0).toNat : Int) (flD ((b.getD 0 0).toNat : Int) ((b.getD 1 0).toNat : Int)) ((b.take (be ((b.drop 2).take 2))).drop 4) with
 | error c =>
  rw [hr] at h
  exact absurd h (readD_err hr)
 | ok d =>
  have hl : ((b.take (be ((b.drop 2).take 2))).drop 4).length ≤ 65531 := by
   rw [List.length_drop, List.length_take]
   omega
  obtain ⟨r1, r2, _⟩ := read_ok hr (by unfold inB; omega) f1 f2 hl
  exact ⟨r1, check_ok.2 r2⟩
theorem all_may (b : List UInt8) : ∀ (n at_ : Nat) (acc : List Chk), (∀ x ∈ acc, OkC x) → ∀ x ∈ (allD n b at_ acc).1, OkC x := by
 intro n
 induction n with
 | zero => intro at_ acc h; exact h
 | succ n ih =>
  intro at_ acc h
  unfold allD
  by_cases hl : at_ < b.length
  ·rw [if_pos hl]
   by_cases he : (decC (b.drop at_)).2.2 ≠ 0
   ·rw [if_pos he]; intro x hx; cases hx
   ·rw [if_neg he]
    refine ih _ _ (fun x hx => ?_)
    rcases List.mem_append.1 hx with hx | hx
    ·exact h x hx
    ·rw [List.mem_singleton.1 hx]
     exact (dec_may (by omega)).1
  ·rw [if_neg hl]; exact h
end Go.Proofs.Ytjmadnpicidbeaa.Ch
end
section
namespace Go.Proofs.Ytjmadnpicidbeaa.Ch
open Go.RowKit Go.Proofs.YtjmadnpicidbeaaW.PrintWords Go.Proofs.YtjmadnpicidbeaaW.PrintLast Go.Proofs.Ytjmadnpicidbeaa.Base Go.Proofs.Ytjmadnpicidbeaa.PCh Go.Proofs.Ytjmadnpicidbeaa.ParDec
set_option maxRecDepth 100000
set_option linter.unusedVariables false
set_option linter.unusedSimpArgs false
set_option maxHeartbeats 4000000 in
theorem rall_calls (w : World) (A : Option Addr) (b : List UInt8) (c : Nat) (hb : byte.C w A b.length b) (hc : b.length ≤ c) (hv : b.length ≤ 1048576) :
  Calls Try.prog 22 #[.slice A b.length c] w fun e w' => ∃ v, e = .returned (.tuple #[v, .int .i64 (allL b).2.1, .int .i64 (allL b).2.2]) ∧ Kd.R k30 30 w' w.heap.size (fun _ => True) v (allL b).1 ∧ Below w.heap.size w w' := by
 have HBC := Lib.hid (fun (W : World) (h : Below w.heap.size w W) => Kd.C_below hb h)
 obtain ⟨E, hE⟩ : ∃ E, allL b = E := ⟨_, rfl⟩
 rw [hE]
 have HE := Lib.hid (show allD (b.length + 1) b 0 [] = E from hE)
 clear hE hb
 go_enter Try.func22, Try.ntmps22
 go_wp2
 go_loopw [5, 6] (fun v5 v6 wr => ∃ (at_ n : Nat) (xs : List Chk), at_ ≤ b.length ∧ v6 = .int .i64 (at_ : Int) ∧ Hid (b.length < n + at_ ∧ xs.length ≤ at_) ∧ Hid (allD n b at_ xs = E) ∧ Hid (Kd.R k30 30 wr w.heap.size (fun _ => True) v5 xs) ∧ Hid (Below w.heap.size w wr)) (fun _ v6 _ => b.length - (intOf v6).toNat)
 case atStart => exact ⟨0, b.length + 1, [], Nat.zero_le _, rfl, ⟨by omega, Nat.le_refl _⟩, HE.out, Kd.R_nil _ _ _ _ _, Below.refl _ _⟩
 case round =>
  obtain ⟨at_, n, xs, hat, rfl, HN, HA, HR, HB⟩ := hrel
  by_cases hlt : at_ < b.length
  ·obtain ⟨n, rfl⟩ : ∃ m, n = m + 1 := ⟨n - 1, by have := HN.out.1; omega⟩
   have hA := HA.out
   rw [allD, if_pos hlt] at hA
   obtain ⟨A', hdr, hdC, hdl⟩ := drop_bytes (HBC.out _ HB.out) hc at_ (at_ : Int) rfl (Nat.le_of_lt hlt)
   have hzl : (b.drop at_).length ≤ 140737488355232 := by rw [List.length_drop]; omega
   have HD := Lib.hid (rdec_calls wr A' (b.drop at_) (c - at_) hdC hdl (by omega))
   have hdn : (decC (b.drop at_)).2.2 = 0 → ∃ k : Nat, (decC (b.drop at_)).2.1 = (k : Int) ∧ 4 ≤ k ∧ k ≤ b.length - at_ := fun h => by
    obtain ⟨k, h1, h2, h3⟩ := decC_len h
    exact ⟨k, h1, h2, by rw [List.length_drop] at h3; exact h3⟩
   unfold DecCP at HD
   have HDN := Lib.hid hdn
   have HA2 := Lib.hid hA
   clear hA hdC hdl hzl hdn HA
   generalize decC (b.drop at_) = D at *
   obtain ⟨d, k, er⟩ := D
   dsimp only at HD HDN HA2
   generalize (b.drop at_).length = zl at *
   go_wp2_with fail
   refine HD.out.mono ?_
   rintro e w1 ⟨cs, rfl, hM, hB⟩
   obtain ⟨cl, rfl⟩ : ∃ cl : List Value, cs = cl.toArray := ⟨cs.toList, by simp⟩
   rw [List.toList_toArray] at hM
   obtain ⟨v10, v11, v12, v13, v14, hcs, h10, h11, h12, h13, h14⟩ := k30_openM hM
   obtain ⟨A10, c10, rfl⟩ := Kd.R_slice h10
   obtain ⟨A11, c11, rfl⟩ := Kd.R_slice h11
   obtain ⟨A12, c12, rfl⟩ := Kd.R_slice h12
   obtain ⟨A13, c13, rfl⟩ := Kd.R_slice h13
   obtain ⟨A14, c14, rfl⟩ := Kd.R_slice h14
   have HB2 := Lib.hid (below_then HB.out HB.out.size hB)
   have HR2 := Lib.hid (R_only HR.out (Only.of_below (S := fun _ => False) hB) (fun _ _ _ h => h))
   have HS := Lib.hid hB.size
   subst hcs
   have HM := Lib.hid hM
   clear h10 h11 h12 h13 h14 hM hB HD
   have HBO := Lib.hid (fun k h => Kd.R_lt HR.out k h)
   by_cases her : er = 0
   ·subst her
    obtain ⟨k', hk', hk4, hkl⟩ := HDN.out rfl
    subst hk'
    have hA := HA2.out
    rw [if_neg (by simp), Int.toNat_natCast] at hA
    have HA3 := Lib.hid hA
    clear hA HA2 HDN
    have hwr : wrap64 ((at_ : Int) + (k' : Int)) = ((at_ + k' : Nat) : Int) := by unfold wrap64; omega
    go_upto_region 7 with (fail)
    refine wp_gen (fun W' => W'.heap[w1.heap.size]? = some (.cells ([.int .u8 d.f0, .int .u8 d.f1, .int .u32 d.f2, .int .u16 d.f3, .int .u16 d.f4, .int .u32 d.f5, .int .u32 d.f6, .int .u32 d.f7, .int .u16 d.f8, .int .u16 d.f9, .slice A10 d.f10.length c10, .slice A11 d.f11.length c11, .slice A12 d.f12.length c12, .slice A13 d.f13.length c13, .slice A14 d.f14.length c14] : List Value).toArray 30 (0, 0)) ∧ Kd.R k30 30 W' w.heap.size (fun _ => True) u5 xs ∧ k30.M W' w.heap.size (fun k => wr.heap.size ≤ k) d ([.int .u8 d.f0, .int .u8 d.f1, .int .u32 d.f2, .int .u16 d.f3, .int .u16 d.f4, .int .u32 d.f5, .int .u32 d.f6, .int .u32 d.f7, .int .u16 d.f8, .int .u16 d.f9, .slice A10 d.f10.length c10, .slice A11 d.f11.length c11, .slice A12 d.f12.length c12, .slice A13 d.f13.length c13, .slice A14 d.f14.length c14]) ∧ Below w.heap.size w W') ⟨blk_new _ _, Kd.R_alloc HR2.out _, k30.M_mono (fun k hk => hk.2.1) (k30.M_bound (M_only HM.out (Only.of_below (S := fun _ => False) (below_alloc (Below.refl _ _) _)) (fun _ _ _ h => h))) |> k30.M_lower HB.out.size, below_alloc HB2.out _⟩ ?_
    clear HR2 HM HB2 HB HR
    rintro W2 ⟨hblk, hR2, hM2, hB2⟩
    have HM2 := Lib.hid hM2
    have HR3 := Lib.hid hR2
    have HB3 := Lib.hid hB2
    have HBL := Lib.hid hblk
    clear hR2 hM2 hB2 hblk
    go_wp2_with (first | (with_reducible refine gate_dst (N := 27) rfl ?_; go_must (refine wpList_load_row rfl 30 (.tmp 7) rfl _ rfl 30 _ (0, 0) _ HBL.out Try.underlying30 rfl (by kernel_rfl) ?_)) | (at_builtin; go_must (refine Kd.R_append k30 (w0 := w) (W := W2) w.heap.size rfl _ _ 41 30 (.agg zerV) 152 rfl Try.underlying41 info_chk rfl (by decide) (by decide) u5 xs d ([.int .u8 d.f0, .int .u8 d.f1, .int .u32 d.f2, .int .u16 d.f3, .int .u16 d.f4, .int .u32 d.f5, .int .u32 d.f6, .int .u32 d.f7, .int .u16 d.f8, .int .u16 d.f9, .slice A10 d.f10.length c10, .slice A11 d.f11.length c11, .slice A12 d.f12.length c12, .slice A13 d.f13.length c13, .slice A14 d.f14.length c14]) (fun _ => True) (fun k => wr.heap.size ≤ k) rfl rfl HM2.out (fun k hk => ⟨trivial, fun he => by have := HBO.out k he.symm; omega⟩) (fun _ _ => trivial) HR3.out HB3.out HB3.out.size (by have := HN.out.2; omega) ?_); (intro v1 w2 hR1 hB1 hG1 _; have HR1 := Lib.hid hR1; have HB1 := Lib.hid hB1; clear hR1 hB1 hG1)))
    go_roundw
    case rel => exact ⟨at_ + k', n, xs ++ [d], by omega, by rw [← hwr]; first | rfl | go_num, ⟨by have := HN.out.1; show _ < _; omega, by have := HN.out.2; show _ ≤ _; rw [List.length_append]; simp; omega⟩, HA3, HR1, HB1⟩
    case measure => simp [intOf]; omega
   ·have hA := HA2.out
    rw [if_pos her] at hA
    subst hA
    have q : (er != 0) = true := by simp [her]
    clear HA2 HDN her
    go_wp2
    go_ret3
    exact ⟨_, rfl, Kd.R_nil _ _ _ _ _, below_alloc HB2.out _⟩
  ·obtain rfl : at_ = b.length := by omega
   have hA := HA.out
   have hn : ∃ m, n = m + 1 := ⟨n - 1, by have := HN.out.1; omega⟩
   obtain ⟨n, rfl⟩ := hn
   rw [allD, if_neg (Nat.lt_irrefl _)] at hA
   subst hA
   clear HA HE
   go_wp2
   go_ret3
   exact ⟨_, rfl, HR.out, HB.out⟩
theorem inB_ints (l : List UInt8) : ∀ b ∈ intsL l, inB b := fun b hb => by
 unfold intsL at hb
 obtain ⟨x, _, rfl⟩ := List.mem_map.1 hb
 have := x.toNat_lt
 unfold inB
 omega
theorem prmsD_ok {v : List UInt8} {ps : List PrmS} (h : prmsD v = .ok ps) : ∀ p ∈ ps, ∀ b ∈ p.f1, inB b := by
 unfold prmsD at h
 by_cases e : (decD v).2.2 = 0
 ·rw [if_pos e] at h
  injection h with h
  subst h
  exact fun p hp b hb => ((dec_ok v e).2.1 p hp).2.2.2 b hb
 ·rw [if_neg e] at h
  cases h
theorem readD_okB {kd fl : Int} {v : List UInt8} {d : Chk} (h : readD kd fl v = .ok d) : OkB d := by
 have nb : ∀ b ∈ ([] : List Int), inB b := fun _ h => by cases h
 have np : ∀ p ∈ ([] : List PrmS), ∀ b ∈ p.f1, inB b := fun _ h => by cases h
 unfold readD readData readInit readLists readPrms readShut readNone readBody at h
 repeat' split at h
 all_goals first | (cases h; done) | (injection h with h; subst h; first | exact ⟨nb, np⟩ | exact ⟨inB_ints _, np⟩ | (rename_i e; exact ⟨nb, prmsD_ok e⟩) | (rename_i e _; exact ⟨nb, prmsD_ok e⟩))
theorem dec_okB (b : List UInt8) : OkB (decC b).1 := by
 have n0 : OkB (chk0 0 0) := ⟨fun _ h => (by cases h), fun _ h => (by cases h)⟩
 unfold decC
 split
 ·exact n0
 ·split
  ·exact n0
  ·split
   ·exact n0
   ·rename_i e
    exact readD_okB e
theorem all_okB (b : List UInt8) : ∀ (n at_ : Nat) (acc : List Chk), (∀ x ∈ acc, OkB x) → ∀ x ∈ (allD n b at_ acc).1, OkB x := by
 intro n
 induction n with
 | zero => intro at_ acc h; exact h
 | succ n ih =>
  intro at_ acc h
  unfold allD
  split
  ·split
   ·intro x hx; cases hx
   ·refine ih _ _ ?_
    intro x hx
    rcases List.mem_append.1 hx with hx | hx
    ·exact h x hx
    ·rw [List.mem_singleton.1 hx]
     exact dec_okB _
  ·exact h
def allsT6 : Bool × List (List Nat × List Nat) := (true, [([], []), ([], []), ([0, 1], [0, 1]), ([2], [2]), ([], []), ([], []), ([4, 5], [4, 5]), ([6], [6]), ([3, 7], [3, 7]), ([8], [8])])
def allsB6 : List Nat := [0, 0, 3, 7, 0, 0, 48, 112, 255, 511]
theorem allstab6 : Go.Proofs.YtjmadnpicidbeaaW.PrintLast.rtab .any (Go.Proofs.YtjmadnpicidbeaaW.PrintLast.opsOf Try.f23 6) = allsT6 := by kernel_rfl
theorem allsbits6 : Go.Proofs.YtjmadnpicidbeaaW.PrintLast.waitsOk allsT6.2 allsB6 = true := by kernel_rfl
set_option maxHeartbeats 4000000 in
theorem allsame_calls (w : World) (A B' : Option Addr) (c d : Nat) (xs ys : List Chk) (hx : Kd.C k30 w A xs.length xs) (hy : Kd.C k30 w B' ys.length ys) (ox : ∀ x ∈ xs, OkB x) (oy : ∀ y ∈ ys, OkB y) :
  Calls Try.prog 23 #[.slice A xs.length c, .slice B' ys.length d] w fun e w' => e = .returned (.bool (decide (xs = ys))) ∧ Below w.heap.size w w' := by
 have hmx := hx.2.1
 have hmy := hy.2.1
 have HX := Lib.hid (fun (W : World) (h : Below w.heap.size w W) => Kd.C_below hx h)
 have HY := Lib.hid (fun (W : World) (h : Below w.heap.size w W) => Kd.C_below hy h)
 have HOX := Lib.hid ox
 have HOY := Lib.hid oy
 clear hx hy ox oy
 by_cases hl : xs.length = ys.length
 ·have q : ((xs.length : Int) != (ys.length : Int)) = false := by simp [hl]
  have HL := Lib.hid hl
  clear hl
  go_enter Try.func23, Try.ntmps23
  go_wp2
  go_loopw [5] (fun v5 wr => ∃ i : Nat, i ≤ xs.length ∧ v5 = .int .i64 (i : Int) ∧ Hid (decide (xs = ys) = decide (xs.drop i = ys.drop i)) ∧ Hid (Below w.heap.size w wr)) (fun v5 _ => xs.length - (intOf v5).toNat)
  case atStart => exact ⟨0, Nat.zero_le _, rfl, rfl, Below.refl _ _⟩
  case round =>
   obtain ⟨i, hi, rfl, HS, HB⟩ := hrel
   by_cases hlt : i < xs.length
   ·have hlt' : i < ys.length := by have := HL.out; omega
    obtain ⟨ax, x, L, rfl, hdx, hxm, hcx, hxr⟩ := chk_at (HX.out _ HB.out) i hlt
    obtain ⟨ay, y, M, rfl, hdy, hym, hcy, hyr⟩ := chk_at (HY.out _ HB.out) i hlt'
    have hd := HS.out
    rw [hdx, hdy] at hd
    have HSM := Lib.hid (fun (W : World) (h : Below wr.heap.size wr W) => rsame_calls W x y L M (hxr.below h) (hyr.below h) (HOX.out x hxm) (HOY.out y hym))
    have HXS := Lib.hid (show (Try.prog.info? 30).map (·.size) = some (CV x L).size by kernel_rfl)
    have HYS := Lib.hid (show (Try.prog.info? 30).map (·.size) = some (CV y M).size by kernel_rfl)
    have HLX := Lib.hid hcx
    have HLY := Lib.hid hcy
    have s2 : (x :: xs.drop (i + 1) = y :: ys.drop (i + 1)) = (x = y ∧ xs.drop (i + 1) = ys.drop (i + 1)) := by simp
    have HD := Lib.hid hd
    have HS2 := Lib.hid s2
    clear hd s2 hcx hcy hxr hyr hdx hdy hxm hym
    by_cases hxy : x = y
    ·have HDD := Lib.hid (show decide (xs = ys) = decide (xs.drop (i + 1) = ys.drop (i + 1)) by rw [HD.out]; exact decide_eq_decide.2 (by rw [HS2.out]; simp [hxy]))
     rw [decide_eq_true hxy] at HSM
     clear HD HS2 hxy HS
     generalize CV x L = CX at *
     generalize CV y M = CY at *
     obtain ⟨q, hq⟩ : ∃ q, q = true := ⟨_, rfl⟩
     rw [← hq] at HSM
     have HQ := Lib.hid hq
     clear hq
     have HN2 := HB
     go_upto_region 6 with (fail)
     generalize wr = W at *
     have B := True.intro
     refine start_ (n := 10) (S := fun w' => True) (ds := []) #[false, false, false, false, false, false, false, false, false, false] (by kernel_rfl) rfl rfl trivial (fun hHeld => ?_)
     refine with_tabW allstab6 allsbits6 (fun HT_ HW_ => ?_)
     refine pure_ (i := 0) (N := some 17) (v := ?_) (a' := ?_) #[true, false, false, false, false, false, false, false, false, false] rfl rfl (any_of HT_.out (by kernel_rfl)) (fun _ _ _ h => h) (Or.inl ⟨by rfl, ?_⟩) ?_ ?_
     rotate_left
     ·intro w'
      go_simp
      with_reducible rfl
     rotate_left
     ·simp only [Act.put, List.setIfInBounds_toArray, List.set_cons_zero, List.set_cons_succ, i64_w, i32_w]
      rfl
     refine pure_ (i := 1) (N := some 18) (v := ?_) (a' := ?_) #[true, true, false, false, false, false, false, false, false, false] rfl rfl (any_of HT_.out (by kernel_rfl)) (fun _ _ _ h => h) (Or.inl ⟨by rfl, ?_⟩) ?_ ?_
     rotate_left
     ·intro w'
      go_simp
      with_reducible rfl
     rotate_left
     ·simp only [Act.put, List.setIfInBounds_toArray, List.set_cons_zero, List.set_cons_succ, i64_w, i32_w]
      rfl
     refine pure_ (i := 4) (N := some 21) (v := ?_) (a' := ?_) #[true, true, false, false, true, false, false, false, false, false] rfl rfl (any_of HT_.out (by kernel_rfl)) (fun _ _ _ h => h) (Or.inl ⟨by rfl, ?_⟩) ?_ ?_
     rotate_left
     ·intro w'
      go_simp
      with_reducible rfl
     rotate_left
     ·simp only [Act.put, List.setIfInBounds_toArray, List.set_cons_zero, List.set_cons_succ, i64_w, i32_w]
      rfl
     refine pure_ (i := 5) (N := some 22) (v := ?_) (a' := ?_) #[true, true, false, false, true, true, false, false, false, false] rfl rfl (any_of HT_.out (by kernel_rfl)) (fun _ _ _ h => h) (Or.inl ⟨by rfl, ?_⟩) ?_ ?_
     rotate_left
     ·intro w'
      go_simp
      with_reducible rfl
     rotate_left
     ·simp only [Act.put, List.setIfInBounds_toArray, List.set_cons_zero, List.set_cons_succ, i64_w, i32_w]
      rfl
     refine inv_at [2, 3, 6, 7, 8, 9] (fun a0_ b a w' => a = putSel a0_ b [(2, 19, .pointer (some (ax.add (i * 15)))), (3, 20, .agg CX), (6, 23, .pointer (some (ay.add (i * 15)))), (7, 24, .agg CY), (8, 25, .bool q), (9, 26, .bool (!q))] ∧ (Below W.heap.size W w')) HT_.out HW_.out (by kernel_rfl) (by kernel_rfl) ?_ ?_ ?_
     ·exact ⟨by simp only [putSel, Bool.false_eq_true, if_false], below_drew (Below.refl _ _)⟩
     ·skip
      clear B
      refine steps_cons ?_ ?_
      ·rintro b a w' ⟨ha, Q_B⟩ hb_ hon hoff
       refine ⟨_, rfl, fun K hK => ?_⟩
       have e17 : a.tmps[17]? = some (.slice (some ax) xs.length c) := by rw [ha]; exact (putSel_off rfl).trans rfl
       have e18 : a.tmps[18]? = some (.int .i64 (i : Int)) := by rw [ha]; exact (putSel_off rfl).trans rfl
       replace ha := Aside0.mk ha
       have B := Aside0.mk Q_B
       refine value_ (w1 := w') (v := .pointer (some (ax.add (i * 15)))) (by rfl) rfl ?_ ?_
       ·go_simp
        (try simp only [i64_w])
        try rfl
       refine hK.out _ _ ⟨(by rw [ha.out]; exact putSel_upk 0 hb_ rfl rfl rfl), Q_B⟩
      refine steps_cons ?_ ?_
      ·rintro b a w' ⟨ha, Q_B⟩ hb_ hon hoff
       refine ⟨_, rfl, fun K hK => ?_⟩
       have e19 : a.tmps[19]? = some (.pointer (some (ax.add (i * 15)))) := by rw [ha]; exact putSel_on (e := (2, 19, .pointer (some (ax.add (i * 15))))) 0 rfl rfl (hon 2 (by kernel_rfl)) rfl
       replace ha := Aside0.mk ha
       have B := Aside0.mk Q_B
       refine value_ (w1 := w') (v := .agg CX) (by rfl) rfl (exec_load_cells 30 (.tmp 19) rfl (eval_of e19) CX _ (fun j v hv => pw_cell_below B.out (HLX.out j v hv)) Try.underlying30 rfl HXS.out) ?_
       refine hK.out _ _ ⟨(by rw [ha.out]; exact putSel_upk 1 hb_ rfl rfl rfl), B.out⟩
      refine steps_cons ?_ ?_
      ·rintro b a w' ⟨ha, Q_B⟩ hb_ hon hoff
       refine ⟨_, rfl, fun K hK => ?_⟩
       have e21 : a.tmps[21]? = some (.slice (some ay) ys.length d) := by rw [ha]; exact (putSel_off rfl).trans rfl
       have e22 : a.tmps[22]? = some (.int .i64 (i : Int)) := by rw [ha]; exact (putSel_off rfl).trans rfl
       replace ha := Aside0.mk ha
       have B := Aside0.mk Q_B
       refine value_ (w1 := w') (v := .pointer (some (ay.add (i * 15)))) (by rfl) rfl ?_ ?_
       ·go_simp
        (try simp only [i64_w])
        try rfl
       refine hK.out _ _ ⟨(by rw [ha.out]; exact putSel_upk 2 hb_ rfl rfl rfl), Q_B⟩
      refine steps_cons ?_ ?_
      ·rintro b a w' ⟨ha, Q_B⟩ hb_ hon hoff
       refine ⟨_, rfl, fun K hK => ?_⟩
       have e23 : a.tmps[23]? = some (.pointer (some (ay.add (i * 15)))) := by rw [ha]; exact putSel_on (e := (6, 23, .pointer (some (ay.add (i * 15))))) 2 rfl rfl (hon 6 (by kernel_rfl)) rfl
       replace ha := Aside0.mk ha
       have B := Aside0.mk Q_B
       refine value_ (w1 := w') (v := .agg CY) (by rfl) rfl (exec_load_cells 30 (.tmp 23) rfl (eval_of e23) CY _ (fun j v hv => pw_cell_below B.out (HLY.out j v hv)) Try.underlying30 rfl HYS.out) ?_
       refine hK.out _ _ ⟨(by rw [ha.out]; exact putSel_upk 3 hb_ rfl rfl rfl), B.out⟩
      refine steps_cons ?_ ?_
      ·rintro b a w' ⟨ha, Q_B⟩ hb_ hon hoff
       refine ⟨_, rfl, fun K hK => ?_⟩
       have e20 : a.tmps[20]? = some (.agg CX) := by rw [ha]; exact putSel_on (e := (3, 20, .agg CX)) 1 rfl rfl (hon 3 (by kernel_rfl)) rfl
       have e24 : a.tmps[24]? = some (.agg CY) := by rw [ha]; exact putSel_on (e := (7, 24, .agg CY)) 3 rfl rfl (hon 7 (by kernel_rfl)) rfl
       replace ha := Aside0.mk ha
       have B := Aside0.mk Q_B
       refine goes_ Try.func12 (by kernel_rfl) rfl #[.agg CX, .agg CY] (by rfl) rfl rfl (by first | (simp only [List.map_toArray, List.map_cons, List.map_nil, Act.eval, Array.getD_eq_getD_getElem?, Option.getD_some, e20, e24]; done) | (simp only [List.map_toArray, List.map_cons, List.map_nil, Act.eval, Array.getD_eq_getD_getElem?, Option.getD_some, e20, e24]; rfl)) ?_
       refine (HSM.out w' B.out).mono ?_
       rintro e w1 ⟨rfl, hB1⟩
       refine ⟨_, rfl, ?_⟩
       refine hK.out _ _ ⟨(by rw [ha.out]; exact putSel_upk 4 hb_ rfl rfl rfl), below_then B.out B.out.size hB1⟩
      refine steps_cons ?_ ?_
      ·rintro b a w' ⟨ha, Q_B⟩ hb_ hon hoff
       refine ⟨_, rfl, fun K hK => ?_⟩
       have e25 : a.tmps[25]? = some (.bool q) := by rw [ha]; exact putSel_on (e := (8, 25, .bool q)) 4 rfl rfl (hon 8 (by kernel_rfl)) rfl
       replace ha := Aside0.mk ha
       have B := Aside0.mk Q_B
       refine value_ (w1 := w') (v := .bool (!q)) (by rfl) rfl ?_ ?_
       ·go_simp
        (try simp only [i64_w])
        try rfl
       refine hK.out _ _ ⟨(by rw [ha.out]; exact putSel_upk 5 hb_ rfl rfl rfl), Q_B⟩
      exact steps_nil
     rintro b a w' hall ⟨ha, Q_B⟩
     clear B
     have hb2_ := hall 2 (by kernel_rfl)
     have hb3_ := hall 3 (by kernel_rfl)
     have hb6_ := hall 6 (by kernel_rfl)
     have hb7_ := hall 7 (by kernel_rfl)
     have hb8_ := hall 8 (by kernel_rfl)
     have hb9_ := hall 9 (by kernel_rfl)
     subst ha
     simp only [putSel, hb2_, hb3_, hb6_, hb7_, hb8_, hb9_, if_true, Act.put, List.setIfInBounds_toArray, List.set_cons_zero, List.set_cons_succ]
     have B := Aside0.mk Q_B
     clear Q_B
     clear hall hb2_ hb3_ hb6_ hb7_ hb8_ hb9_
     have HB2 := Lib.hid (below_then HB.out HB.out.size B.out)
     rw [HQ.out]
     clear B HSM HLX HLY HQ HN2
     go_wp2
     go_roundw
     case rel => exact ⟨i + 1, by omega, by go_num, HDD, HB2⟩
     case measure => simp [intOf]; omega
    ·have HDD := Lib.hid (show decide (xs = ys) = false by rw [HD.out]; exact decide_eq_false (fun e => hxy (HS2.out.mp e).1))
     rw [decide_eq_false hxy] at HSM
     clear HD HS2 hxy HS
     generalize CV x L = CX at *
     generalize CV y M = CY at *
     obtain ⟨q, hq⟩ : ∃ q, q = false := ⟨_, rfl⟩
     rw [← hq] at HSM
     have HQ := Lib.hid hq
     clear hq
     go_upto_region 6 with (fail)
     generalize wr = W at *
     have B := True.intro
     refine start_ (n := 10) (S := fun w' => True) (ds := []) #[false, false, false, false, false, false, false, false, false, false] (by kernel_rfl) rfl rfl trivial (fun hHeld => ?_)
     refine with_tabW allstab6 allsbits6 (fun HT_ HW_ => ?_)
     refine pure_ (i := 0) (N := some 17) (v := ?_) (a' := ?_) #[true, false, false, false, false, false, false, false, false, false] rfl rfl (any_of HT_.out (by kernel_rfl)) (fun _ _ _ h => h) (Or.inl ⟨by rfl, ?_⟩) ?_ ?_
     rotate_left
     ·intro w'
      go_simp
      with_reducible rfl
     rotate_left
     ·simp only [Act.put, List.setIfInBounds_toArray, List.set_cons_zero, List.set_cons_succ, i64_w, i32_w]
      rfl
     refine pure_ (i := 1) (N := some 18) (v := ?_) (a' := ?_) #[true, true, false, false, false, false, false, false, false, false] rfl rfl (any_of HT_.out (by kernel_rfl)) (fun _ _ _ h => h) (Or.inl ⟨by rfl, ?_⟩) ?_ ?_
     rotate_left
     ·intro w'
      go_simp
      with_reducible rfl
     rotate_left
     ·simp only [Act.put, List.setIfInBounds_toArray, List.set_cons_zero, List.set_cons_succ, i64_w, i32_w]
      rfl
     refine pure_ (i := 4) (N := some 21) (v := ?_) (a' := ?_) #[true, true, false, false, true, false, false, false, false, false] rfl rfl (any_of HT_.out (by kernel_rfl)) (fun _ _ _ h => h) (Or.inl ⟨by rfl, ?_⟩) ?_ ?_
     rotate_left
     ·intro w'
      go_simp
      with_reducible rfl
     rotate_left
     ·simp only [Act.put, List.setIfInBounds_toArray, List.set_cons_zero, List.set_cons_succ, i64_w, i32_w]
      rfl
     refine pure_ (i := 5) (N := some 22) (v := ?_) (a' := ?_) #[true, true, false, false, true, true, false, false, false, false] rfl rfl (any_of HT_.out (by kernel_rfl)) (fun _ _ _ h => h) (Or.inl ⟨by rfl, ?_⟩) ?_ ?_
     rotate_left
     ·intro w'
      go_simp
      with_reducible rfl
     rotate_left
     ·simp only [Act.put, List.setIfInBounds_toArray, List.set_cons_zero, List.set_cons_succ, i64_w, i32_w]
      rfl
     refine inv_at [2, 3, 6, 7, 8, 9] (fun a0_ b a w' => a = putSel a0_ b [(2, 19, .pointer (some (ax.add (i * 15)))), (3, 20, .agg CX), (6, 23, .pointer (some (ay.add (i * 15)))), (7, 24, .agg CY), (8, 25, .bool q), (9, 26, .bool (!q))] ∧ (Below W.heap.size W w')) HT_.out HW_.out (by kernel_rfl) (by kernel_rfl) ?_ ?_ ?_
     ·exact ⟨by simp only [putSel, Bool.false_eq_true, if_false], below_drew (Below.refl _ _)⟩
     ·skip
      clear B
      refine steps_cons ?_ ?_
      ·rintro b a w' ⟨ha, Q_B⟩ hb_ hon hoff
       refine ⟨_, rfl, fun K hK => ?_⟩
       have e17 : a.tmps[17]? = some (.slice (some ax) xs.length c) := by rw [ha]; exact (putSel_off rfl).trans rfl
       have e18 : a.tmps[18]? = some (.int .i64 (i : Int)) := by rw [ha]; exact (putSel_off rfl).trans rfl
       replace ha := Aside0.mk ha
       have B := Aside0.mk Q_B
       refine value_ (w1 := w') (v := .pointer (some (ax.add (i * 15)))) (by rfl) rfl ?_ ?_
       ·go_simp
        (try simp only [i64_w])
        try rfl
       refine hK.out _ _ ⟨(by rw [ha.out]; exact putSel_upk 0 hb_ rfl rfl rfl), Q_B⟩
      refine steps_cons ?_ ?_
      ·rintro b a w' ⟨ha, Q_B⟩ hb_ hon hoff
       refine ⟨_, rfl, fun K hK => ?_⟩
       have e19 : a.tmps[19]? = some (.pointer (some (ax.add (i * 15)))) := by rw [ha]; exact putSel_on (e := (2, 19, .pointer (some (ax.add (i * 15))))) 0 rfl rfl (hon 2 (by kernel_rfl)) rfl
       replace ha := Aside0.mk ha
       have B := Aside0.mk Q_B
       refine value_ (w1 := w') (v := .agg CX) (by rfl) rfl (exec_load_cells 30 (.tmp 19) rfl (eval_of e19) CX _ (fun j v hv => pw_cell_below B.out (HLX.out j v hv)) Try.underlying30 rfl HXS.out) ?_
       refine hK.out _ _ ⟨(by rw [ha.out]; exact putSel_upk 1 hb_ rfl rfl rfl), B.out⟩
      refine steps_cons ?_ ?_
      ·rintro b a w' ⟨ha, Q_B⟩ hb_ hon hoff
       refine ⟨_, rfl, fun K hK => ?_⟩
       have e21 : a.tmps[21]? = some (.slice (some ay) ys.length d) := by rw [ha]; exact (putSel_off rfl).trans rfl
       have e22 : a.tmps[22]? = some (.int .i64 (i : Int)) := by rw [ha]; exact (putSel_off rfl).trans rfl
       replace ha := Aside0.mk ha
       have B := Aside0.mk Q_B
       refine value_ (w1 := w') (v := .pointer (some (ay.add (i * 15)))) (by rfl) rfl ?_ ?_
       ·go_simp
        (try simp only [i64_w])
        try rfl
       refine hK.out _ _ ⟨(by rw [ha.out]; exact putSel_upk 2 hb_ rfl rfl rfl), Q_B⟩
      refine steps_cons ?_ ?_
      ·rintro b a w' ⟨ha, Q_B⟩ hb_ hon hoff
       refine ⟨_, rfl, fun K hK => ?_⟩
       have e23 : a.tmps[23]? = some (.pointer (some (ay.add (i * 15)))) := by rw [ha]; exact putSel_on (e := (6, 23, .pointer (some (ay.add (i * 15))))) 2 rfl rfl (hon 6 (by kernel_rfl)) rfl
       replace ha := Aside0.mk ha
       have B := Aside0.mk Q_B
       refine value_ (w1 := w') (v := .agg CY) (by rfl) rfl (exec_load_cells 30 (.tmp 23) rfl (eval_of e23) CY _ (fun j v hv => pw_cell_below B.out (HLY.out j v hv)) Try.underlying30 rfl HYS.out) ?_
       refine hK.out _ _ ⟨(by rw [ha.out]; exact putSel_upk 3 hb_ rfl rfl rfl), B.out⟩
      refine steps_cons ?_ ?_
      ·rintro b a w' ⟨ha, Q_B⟩ hb_ hon hoff
       refine ⟨_, rfl, fun K hK => ?_⟩
       have e20 : a.tmps[20]? = some (.agg CX) := by rw [ha]; exact putSel_on (e := (3, 20, .agg CX)) 1 rfl rfl (hon 3 (by kernel_rfl)) rfl
       have e24 : a.tmps[24]? = some (.agg CY) := by rw [ha]; exact putSel_on (e := (7, 24, .agg CY)) 3 rfl rfl (hon 7 (by kernel_rfl)) rfl
       replace ha := Aside0.mk ha
       have B := Aside0.mk Q_B
       refine goes_ Try.func12 (by kernel_rfl) rfl #[.agg CX, .agg CY] (by rfl) rfl rfl (by first | (simp only [List.map_toArray, List.map_cons, List.map_nil, Act.eval, Array.getD_eq_getD_getElem?, Option.getD_some, e20, e24]; done) | (simp only [List.map_toArray, List.map_cons, List.map_nil, Act.eval, Array.getD_eq_getD_getElem?, Option.getD_some, e20, e24]; rfl)) ?_
       refine (HSM.out w' B.out).mono ?_
       rintro e w1 ⟨rfl, hB1⟩
       refine ⟨_, rfl, ?_⟩
       refine hK.out _ _ ⟨(by rw [ha.out]; exact putSel_upk 4 hb_ rfl rfl rfl), below_then B.out B.out.size hB1⟩
      refine steps_cons ?_ ?_
      ·rintro b a w' ⟨ha, Q_B⟩ hb_ hon hoff
       refine ⟨_, rfl, fun K hK => ?_⟩
       have e25 : a.tmps[25]? = some (.bool q) := by rw [ha]; exact putSel_on (e := (8, 25, .bool q)) 4 rfl rfl (hon 8 (by kernel_rfl)) rfl
       replace ha := Aside0.mk ha
       have B := Aside0.mk Q_B
       refine value_ (w1 := w') (v := .bool (!q)) (by rfl) rfl ?_ ?_
       ·go_simp
        (try simp only [i64_w])
        try rfl
       refine hK.out _ _ ⟨(by rw [ha.out]; exact putSel_upk 5 hb_ rfl rfl rfl), Q_B⟩
      exact steps_nil
     rintro b a w' hall ⟨ha, Q_B⟩
     clear B
     have hb2_ := hall 2 (by kernel_rfl)
     have hb3_ := hall 3 (by kernel_rfl)
     have hb6_ := hall 6 (by kernel_rfl)
     have hb7_ := hall 7 (by kernel_rfl)
     have hb8_ := hall 8 (by kernel_rfl)
     have hb9_ := hall 9 (by kernel_rfl)
     subst ha
     simp only [putSel, hb2_, hb3_, hb6_, hb7_, hb8_, hb9_, if_true, Act.put, List.setIfInBounds_toArray, List.set_cons_zero, List.set_cons_succ]
     have B := Aside0.mk Q_B
     clear Q_B
     clear hall hb2_ hb3_ hb6_ hb7_ hb8_ hb9_
     have HB2 := Lib.hid (below_then HB.out HB.out.size B.out)
     rw [HQ.out]
     clear B HSM HLX HLY HQ
     go_wp2
     go_ret
     exact ⟨by rw [HDD.out]; try rfl, HB2.out⟩
   ·obtain rfl : i = xs.length := by omega
    have HD := Lib.hid (show decide (xs = ys) = true by rw [HS.out, List.drop_length, HL.out, List.drop_length]; rfl)
    go_wp2
    go_ret
    exact ⟨by rw [HD.out]; try rfl, HB.out⟩
 ·have HD := Lib.hid (show decide (xs = ys) = false from decide_eq_false (fun e => hl (congrArg List.length e)))
  have hl2 : ¬ (xs.length : Int) = (ys.length : Int) := by omega
  go_enter Try.func23, Try.ntmps23
  go_wp2
  go_ret
  exact ⟨by rw [HD.out]; try rfl, Below.refl _ _⟩
end Go.Proofs.Ytjmadnpicidbeaa.Ch
end
section
namespace Go.Proofs.Ytjmadnpicidbeaa.Ch
open Go.RowKit Go.Proofs.YtjmadnpicidbeaaW.PrintWords Go.Proofs.YtjmadnpicidbeaaW.PrintLast Go.Proofs.Ytjmadnpicidbeaa.Base Go.Proofs.Ytjmadnpicidbeaa.PCh Go.Proofs.Ytjmadnpicidbeaa.ParDec Go.Proofs.Ytjmadnpicidbeaa.ParEnc
set_option maxRecDepth 100000
set_option linter.unusedVariables false
set_option linter.unusedSimpArgs false
theorem not8' (a : UInt8) : bits .xor .u8 255 (a.toNat : Int) = ((~~~a).toNat : Int) := by
 have h : ∀ n : Nat, n < 256 → bits .xor .u8 255 (n : Int) = ((~~~(UInt8.ofNat n)).toNat : Int) := by decide +kernel
 have := h a.toNat a.toNat_lt
 rwa [UInt8.ofNat_toNat] at this
theorem getD_set_ne' {α : Type} (l : List α) (i j : Nat) (x d : α) (h : i ≠ j) : (l.set i x).getD j d = l.getD j d := by
 simp [List.getD_eq_getElem?_getD, List.getElem?_set_ne h]
theorem intR_cell {W : World} {base g n cap t : Nat} {ok : Nat → Prop} {xs : List Int} (h : (Kd.int .u8).R t W base ok (.slice (some ⟨g, 0, none⟩) n cap) xs) (i : Nat) (hi : i < n) :
  W.cell? ⟨g, i, none⟩ = some (.int .u8 (xs.getD i 0)) ∧ W.frozen? ⟨g, i, none⟩ = false := by
 have := Kd.R_celln (0 : Int) h (i : Int) (by omega) (by omega)
 simpa [rdOf] using this
theorem intR_put {W : World} {base g n cap t : Nat} {ok : Nat → Prop} {xs : List Int} (h : (Kd.int .u8).R t W base ok (.slice (some ⟨g, 0, none⟩) n cap) xs) (i : Nat) (z : Int) :
  (Kd.int .u8).R t (W.setCell ⟨g, i, none⟩ (.int .u8 z)) base ok (.slice (some ⟨g, 0, none⟩) n cap) (xs.set i z) := by
 have := Kd.R_putn h (i : Int) z
 rw [Int.toNat_natCast] at this
 exact this
theorem R_base {α : Type} {d : Kd α} {w : World} {e base : Nat} {v : Value} {q : List α} (h : d.R e w base (fun _ => True) v q) : d.R e w base (fun k => base ≤ k) v q := Kd.R_mono (Kd.R_bound h) fun _ hk => hk.2.1
set_option maxHeartbeats 8000000 in
theorem own_row {w : World} (A : Option Addr) (c : Nat) (b : List UInt8) (hb : byte.C w A b.length b) (hc : b.length ≤ c) (hu0 : (b.map fun _ => 1).sum + 1 ≤ 1048576) :
  Calls Try.prog 8 #[.slice A b.length c] w fun e w' => e = .returned (.bool true) ∧ Below w.heap.size w w' := by
 have hu : b.length ≤ 1048576 := by rw [sum_ones] at hu0; omega
 have hO : byte.R 5 (w.alloc (.cells #[] 5)) w.heap.size (fun _ => True) (.slice (some ⟨w.heap.size, 0, none⟩) 0 0) [] := Kd.R_of_own (own_lit_of (enc := fun b : UInt8 => Value.int .u8 (b.toNat : Int)) w w.heap.size 5 [] (Nat.le_refl _) (by simp)) (fun _ _ => trivial)
 have HO := Lib.hid hO
 have HA := Lib.hid (fun (W : World) (A1 : Option Addr) (c1 : Nat) (h : byte.C W A1 b.length b) (hle : b.length ≤ c1) => all_calls2 W A1 b c1 h hle hu)
 have HRA := Lib.hid (fun (W : World) (h : byte.C W A b.length b) => rall_calls W A b c h hc hu)
 have hok := all_okB b (b.length + 1) 0 [] (fun _ h => by cases h)
 have hmay := all_may b (b.length + 1) 0 [] (fun _ h => by cases h)
 rw [show (allD (b.length + 1) b 0 []) = allL b from rfl] at hok hmay
 generalize allL b = D at *
 obtain ⟨cs, n, er⟩ := D
 dsimp only at HA HRA hok hmay
 have HOK := Lib.hid hok
 have HMAY := Lib.hid hmay
 have HB := Lib.hid hb
 have HBL := Lib.hid hu
 clear hb hok hmay hO hu hu0
 have hcc : (er != er) = false := by simp
 go_enter Try.func8, Try.ntmps8
 go_wp2_with (at_builtin; go_must (refine Kd.R_append_row (fun b : UInt8 => .int .u8 (b.toNat : Int)) (0 : UInt8) (w0 := w) w.heap.size rfl _ _ 22 5 _ 1 rfl Try.underlying22 info_u8 rfl (by decide) _ [] b A b.length c (fun _ => True) rfl rfl (fun _ _ => trivial) HO.out (Kd.C_alloc HB.out _) ((Below.refl _ _).alloc (Nat.le_refl _) _) (by simp) (by have := HBL.out; simp; omega) ?_); intro v1 w1 hR1 hB1 _ _)
 rw [List.nil_append] at hR1
 have hR : byte.R 5 w1 w.heap.size (fun _ => True) v1 b := hR1
 clear hR1
 obtain ⟨A1, c1, rfl, hle1, hC1⟩ := Kd.R_reads hR
 have hlt : ∀ ad, A1 = some ad → ad.block < w1.heap.size := fun ad e => by
  subst e
  exact R_lt_block hR
 refine (HA.out w1 A1 c1 hC1 hle1).mono ?_
 rintro e w2 ⟨v2, rfl, hP, hB2⟩
 obtain ⟨A2, c2, rfl⟩ := Kd.R_slice hP
 have HR2 := Lib.hid (Kd.R_below hR hB2)
 have HP := Lib.hid (R_base hP)
 have HB2 := Lib.hid (below_then hB1 hB1.size hB2)
 have HS1 := Lib.hid hB1.size
 clear hC1 hR hP hB1 hB2 HA HO
 have hbl := HBL.out
 go_wp2
 go_loopw [25] (fun v25 w' => ∃ (k : Nat) (xs : List UInt8), k ≤ b.length ∧ v25 = .int .i64 k ∧ Hid (xs.length = b.length) ∧ Hid (∀ j, k ≤ j → xs.getD j 0 = b.getD j 0) ∧ Hid (byte.R 5 w' w.heap.size (fun _ => True) (.slice A1 b.length c1) xs) ∧ Hid (Kd.R k30 30 w' w1.heap.size (fun k => w1.heap.size ≤ k) (.slice A2 cs.length c2) cs) ∧ Hid (Below w.heap.size w w')) (fun v25 _ => b.length - (intOf v25).toNat)
 case atStart => exact ⟨0, b, by omega, rfl, rfl, fun _ _ => rfl, HR2, HP, HB2⟩
 case round =>
  clear HR2 HP HB2
  obtain ⟨k, xs, hk, rfl, HX, HJ, HR, HP, HBW⟩ := hrel
  by_cases hkl : k < b.length
  ·obtain ⟨g, cap, hge, hg, hg1⟩ := (Kd.R_own HR.out).elim fun _ h => h.form (by rw [HX.out]; omega)
   injection hge with hA hlen hcap
   subst hA
   have hgw : g < w1.heap.size := hlt _ rfl
   clear hlen hcap hg1 hlt
   obtain ⟨hcl, hfr⟩ := byte_cell HR.out k hkl
   obtain ⟨ad, rfl, hcb⟩ := byte_at (Kd.C_below HB.out HBW.out) k hkl
   rw [HJ.out k (Nat.le_refl _)] at hcl
   have hn := not8' (b.getD k 0)
   have HJN : Hid (∀ j, k + 1 ≤ j → (xs.set k (~~~(b.getD k 0))).getD j 0 = b.getD j 0) := fun j hj => by rw [getD_set_ne' _ _ _ _ _ (by omega)]; exact HJ.out j (by omega)
   generalize hz : ((~~~(b.getD k 0)).toNat : Int) = z at *
   have HZ := Lib.hid hz
   clear hz
   generalize ((b.getD k 0).toNat : Int) = y at *
   have hyy : (y != y) = false := by simp
   have HGW := Lib.hid hgw
   go_wp2
   go_quiet (fail)
   go_wp2
   go_roundw
   case rel => exact ⟨k + 1, xs.set k (~~~(b.getD k 0)), by omega, by go_num, by show _ = _; rw [List.length_set]; exact HX.out, HJN, byte_put (Kd.R_drewN HR.out nq) k _ _ (hn.trans HZ.out.symm), Kd.R_far (Kd.R_drewN HP.out nq) (p := ⟨g, k, none⟩) (fun k' hk' => by show k' ≠ g; have := HGW.out; omega) _, (pw_below_drewN HBW.out nq).setCell (p := ⟨g, k, none⟩) hg _⟩
   case measure => simp [intOf]; omega
  ·obtain rfl : k = b.length := by omega
   have HPC := Lib.hid (fun (W : World) (h : Below wr.heap.size wr W) => Kd.C_below (Kd.R_reads' HP.out).2.2 h)
   have HBW2 := HBW
   have HRW := Lib.hid (HRA.out wr (Kd.C_below HB.out HBW.out))
   clear hlt HR HP HJ HX HBW
   go_wp2_with fail
   refine HRW.out.mono ?_
   rintro e w3 ⟨v3, rfl, hQ3, hB3⟩
   obtain ⟨A3, c3, rfl, hle3, hC3⟩ := Kd.R_reads hQ3
   have HB3 := Lib.hid (below_then HBW2.out HBW2.out.size hB3)
   have HPC3 := Lib.hid (HPC.out w3 hB3)
   have HQC := Lib.hid (fun (W : World) (h : Below w3.heap.size w3 W) => Kd.C_below hC3 h)
   have HSM := Lib.hid (fun (W : World) (h : Below w3.heap.size w3 W) => allsame_calls W A2 A3 c2 c3 cs cs (Kd.C_below HPC3.out h) (HQC.out W h) HOK.out HOK.out)
   rw [decide_eq_true (rfl : cs = cs)] at HSM
   clear hQ3 hB3 hC3 hle3 HRW HPC HBW2 HRA
   go_wp2_with fail
   refine (HSM.out w3 (Below.refl _ _)).mono ?_
   rintro e w4 ⟨rfl, hB4⟩
   have HB4 := Lib.hid (below_then HB3.out HB3.out.size hB4)
   have HN4 := Lib.hid hB4
   clear hB4
   go_wp2_with fail
   refine (awake_calls w4).mono ?_
   rintro e w5 ⟨rfl, hB5⟩
   have HB5 := Lib.hid (below_then HB4.out HB4.out.size hB5)
   have HN5 := Lib.hid (below_then HN4.out HN4.out.size hB5)
   clear hB5 HB4 HN4 HB3
   have HEN := Lib.hid (encode_any w5 A2 c2 cs (Kd.C_below HPC3.out HN5.out) (fun x hx => Nat.le_trans (HMAY.out x hx).l13 (by decide)))
   generalize encD cs = E at *
   go_wp2_with fail
   refine HEN.out.mono ?_
   rintro e w6 ⟨v6, rfl, hR6, hB6⟩
   obtain ⟨A6, c6, rfl⟩ := Kd.R_slice hR6
   have HR6 := Lib.hid (R_base hR6)
   have HB6 := Lib.hid hB6
   have hm6 : E.1.length ≤ 9223372036854775807 := (Kd.R_reads' hR6).2.2.2.1
   clear hR6 hB6 HEN
   obtain ⟨eb, ec⟩ := E
   dsimp only at HR6 hm6 ⊢
   go_wp2
   go_loopw [72] (fun v72 w' => ∃ (k : Nat) (xs : List Int), k ≤ eb.length ∧ v72 = .int .i64 k ∧ Hid (xs.length = eb.length) ∧ Hid ((Kd.int .u8).R 5 w' w5.heap.size (fun k => w5.heap.size ≤ k) (.slice A6 eb.length c6) xs) ∧ Hid (Below w5.heap.size w5 w')) (fun v72 _ => eb.length - (intOf v72).toNat)
   case atStart => exact ⟨0, eb, by omega, rfl, rfl, HR6, HB6⟩
   case round =>
    clear HR6 HB6
    obtain ⟨k, xs, hk, rfl, HX, HR, HBW⟩ := hrel
    by_cases hkl : k < eb.length
    ·obtain ⟨g, cap, hge, hg, hg1⟩ := (Kd.R_own HR.out).elim fun _ h => h.form (by rw [HX.out]; omega)
     injection hge with hA hlen hcap
     subst hA
     clear hlen hcap hg1
     obtain ⟨hcl, hfr⟩ := intR_cell HR.out k hkl
     go_wp2
     go_roundw
     case rel => exact ⟨k + 1, xs.set k 0, by omega, by go_num, by show _ = _; rw [List.length_set]; exact HX.out, intR_put HR.out k 0, HBW.out.setCell (p := ⟨g, k, none⟩) hg _⟩
     case measure => simp [intOf]; omega
    ·obtain rfl : k = eb.length := by omega
     have HS2 := Lib.hid (HSM.out wr (below_then HN5.out HN5.out.size HBW.out))
     have HBE := Lib.hid (below_then HB5.out HB5.out.size HBW.out)
     clear HR HBW
     go_wp2_with fail
     refine HS2.out.mono ?_
     rintro e w9 ⟨rfl, hB9⟩
     go_wp2
     go_ret
     exact ⟨rfl, below_then HBE.out HBE.out.size hB9⟩
end Go.Proofs.Ytjmadnpicidbeaa.Ch
end
section
namespace Go.Proofs.Ytjmadnpicidbeaa.chunkOwn
open Go.ChangeShapes Go.WideShapes Go.ChangeAt Go.RowKit Go.Proofs.Ytjmadnpicidbeaa.Base
open Go.ChangeMaps (open_string shut_string)
set_option linter.unusedVariables false
set_option maxRecDepth 100000 in
theorem contract (H : Type) (enc : TypeId × Value → H) (W : World) (base : Nat) (args : Array Value) (ds gs : List (DataW H)) (before : List MemPlace)
  (hval : ∀ (j : Nat) t v, Try.f8.params[j]? = some t → args[j]? = some v → Value.okWide Try.prog W .any base t v)
  (hW : DataW.Whole enc Try.prog Try.f8.params.toList Rows.chunkOwnSpec.vars false W args.toList ds gs before)
  (hsz0 : (DataW.weightsEach Try.prog (Try.f8.params.toList ++ (Rows.OpenSpec.upto Rows.chunkOwnSpec).bare.plain.varTypes Try.prog) (ds ++ gs)).all (· ≤ reachBytes) = true)
  (hL : laidMetH Try.prog Rows.chunkOwnUptoRow.laid W) (hk : Rows.uptoSmall H (ds ++ gs) = true) :
  Calls Try.prog 8 args W fun e W' => ∃ v, e = .returned v ∧ Rows.chunkOwnSpec.post enc Try.prog Try.f8 false true false false W args v W' := by
 have hW' := hW
 obtain ⟨p, q, hA0, hV, rfl, hfz, hnd⟩ := hW
 have hA : DataW.TrodAll enc Try.prog W 0 (fun _ => true) true Try.f8.params.toList args.toList ds p := hA0
 rw [Try.params8] at hA hval
 obtain ⟨v0, vs0, d0, ds0, p0, q0, hargs, rfl, rfl, h0, r0⟩ := trodAll_cons hA
 obtain ⟨rfl, rfl, rfl⟩ := trodAll_nil r0
 obtain rfl : args = #[v0] := by cases args; simp_all
 obtain ⟨rfl, rfl⟩ := trodVars_none hV
 have hsz := hsz0
 rw [Try.params8] at hsz
 obtain ⟨a0, len0, cap0, rfl⟩ := okWide_slice Try.underlying22 (hval 0 22 v0 rfl rfl)
 have k0 := h0
 have lt0 : ∀ x ∈ p0, x.block < W.heap.size := by obtain ⟨m, hm⟩ := k0; exact DataW.trod_lt m _ _ _ hm
 obtain ⟨l0, rfl, hc0, hb0, hw0⟩ := Opens.arg Opens.bytes h0
 clear hA0 hsz hsz0
 refine (Ch.own_row a0 cap0 l0 hb0 hc0 (Nat.le_trans hw0 (bulk_part hk (j := 0) rfl))).mono fun e W' ⟨he, bel⟩ => ?_
 subst he
 exact ⟨_, rfl, _, _, _, [], _, [], hW', trodAll_mk1 (shut_bool Try.underlying4 _), (trodAll_cons_mk (Below.trod laidOut (by kernel_rfl) (of_decide_eq_true (by kernel_rfl)) k0 bel lt0) trodAll_mk0), rfl, bel.frame _, fun h => by cases h⟩
noncomputable def laidWorld (os : Os) : World := World.holding Try.prog os ⟨#[], #[], []⟩
theorem laid_met (os : Os) : laidMet Try.prog Rows.chunkOwnUptoRow.laid ((laidWorld os).forCall (fun _ _ => 0) ⟨#[], #[.slice none 0 0], []⟩).memory :=
 laidMet_of_run' 8 (by kernel_rfl) (by kernel_rfl)
theorem reads (os : Os) {H : Type} (enc : TypeId × Value → H) : ∃ places, DataW.whole enc Try.prog ((laidWorld os).forCall (fun _ _ => 0) ⟨#[], #[.slice none 0 0], []⟩).memory Try.f8.params.toList Rows.chunkOwnSpec.vars false (#[.slice none 0 0] : Array Value).toList 8 = some ([.nil], [], places) :=
 ⟨[], by kernel_rfl⟩
set_option maxRecDepth 100000 in
theorem lifted (os : Os) (started : os.Started) (H : Type) (enc : TypeId × Value → H) (F : Stop.Interp) :
  ReturnsInHanded {} Try.checked os 8 .any ((Rows.OpenSpec.upto Rows.chunkOwnSpec).preRow enc Try.prog Try.f8 Rows.chunkOwnUptoRow.domain false Rows.chunkOwnUptoRow.laid) (((Rows.OpenSpec.upto Rows.chunkOwnSpec).at F).post enc Try.prog Try.f8 false true false false) := by
 obtain ⟨places, hx⟩ := reads os enc
 refine returnsInHanded_of_row (C := Try.checked) (s := (Rows.OpenSpec.upto Rows.chunkOwnSpec)) own started (by kernel_rfl) Try.func8
  (witness_row_at (enc := enc) (C := Try.checked) false (laidWorld os) #[.slice none 0 0] rfl (by kernel_rfl) (by kernel_rfl) (by kernel_rfl)
   (OpenSpec.preRow_of_cond 8 hx (by kernel_rfl) (fun k hk => by cases hk; kernel_rfl) (by kernel_rfl) (laid_met os))) ?_
 intro W base args ds gs before hval hW _ hcond hsz hL _ _
 exact contract H enc W base args ds gs before hval hW hsz hL (hcond _ rfl)
theorem said : Rows.ChunkOwnUptoSaid :=
 OpenClaim.holds_of_cond 8 Try.f8 rfl rfl rfl rfl rfl rfl rfl ⟨rfl, rfl, rfl, rfl, rfl⟩ rfl rfl rfl rfl rfl (by kernel_rfl) Try.func8 (by kernel_rfl)
  (of_decide_eq_true (by kernel_rfl)) (by unfold Func.isWrapper; first | (rw [if_pos (by decide +kernel)]; kernel_rfl) | (rw [if_neg (by decide +kernel)]; exact ⟨rfl, rfl⟩))
  (fun os started H enc _ F => by rw [OpenClaim.pre_eq_preRow]; exact lifted os started H enc F)
theorem chunkOwn_holds : Rows.ChunkOwnUptoSaid := said
#print axioms chunkOwn_holds
end Go.Proofs.Ytjmadnpicidbeaa.chunkOwn
end
