/- The texts of one proof, merged: part 5. -/
import Derived.Test.YtjmadnpicidbeaaAa4
section
namespace Go.Proofs.Ytjmadnpicidbeaa.Ch
open Go.RowKit Go.Proofs.YtjmadnpicidbeaaW.PrintWords Go.Proofs.YtjmadnpicidbeaaW.PrintLast Go.Proofs.Ytjmadnpicidbeaa.Base Go.Proofs.Ytjmadnpicidbeaa.PCh Go.Proofs.Ytjmadnpicidbeaa.ParDec
set_option maxRecDepth 100000
set_option linter.unusedVariables false
set_option linter.unusedSimpArgs false
theorem ret_pass {f : Func} (hf : f.results = #[ResultVar.cell 4 30, ResultVar.tmp 5]) {a : Act} {w W1 : World} {r : Except Int Chk} {code : Int} {cs old : Array Value} {gr b0 : Nat} (hd : a.defers = []) (t4 : a.tmps.getD 4 undef = .pointer (some ⟨gr, 0, none⟩)) (t5 : a.tmps.getD 5 undef = .int .i64 code) (hg : W1.heap[gr]? = some (.cells old 30 (0, 0))) (hs : cs.size = 15) (ho : cs.all (·.oneCell') = true) (hB : Below w.heap.size w W1) (hl : w.heap.size ≤ gr) (hlt : gr < b0)
    (hP : match r with
      | .error c => code = c
      | .ok d => code = 0 ∧ k30.M W1 b0 (fun _ => True) d cs.toList) : bodyPost Try.prog f (RReadP w r) Exit.ret a (W1.setRow gr cs) := by
  refine bodyPost_ret (row_results f hf a.tmps _ gr cs code t4 t5 (setRow_heap _ _ _ _ _ _ hg) hs) hd ⟨cs, code, rfl, hs, ho, below_setRow hB hl cs, ?_⟩
  cases r with
  | error c => exact hP
  | ok d => exact ⟨hP.1, k30.M_lower (by omega) (M_only hP.2 (setRow_only _ _ _) (fun k hk _ h => by omega))⟩
def ParR (b0 : Nat) (r : Except Int Chk) (cs : Array Value) (code : Int) (W1 : World) : Prop :=
  cs.size = 15 ∧ cs.all (·.oneCell') = true ∧ (match r with
    | .error c => code = c
    | .ok d => code = 0 ∧ k30.M W1 b0 (fun _ => True) d cs.toList)
theorem ParR.of {W W1 : World} {b0 : Nat} {r : Except Int Chk} {cs : Array Value} {code : Int} (hs : cs.size = 15) (ho : cs.all (·.oneCell') = true) (hb : b0 ≤ W.heap.size) (hP : match r with
    | .error c => code = c
    | .ok d => code = 0 ∧ k30.M W1 W.heap.size (fun _ => True) d cs.toList) : ParR b0 r cs code W1 := by
  refine ⟨hs, ho, ?_⟩
  cases r with
  | error c => exact hP
  | ok d => exact ⟨hP.1, k30.M_lower hb hP.2⟩
set_option maxHeartbeats 4000000 in
theorem rread_p4 (w : World) (A : Option Addr) (c : Nat) (v : List UInt8) (fl : Int) (hb : byte.C w A v.length v) (hc : v.length ≤ c) (hv : v.length ≤ 140737488355232) :
    Calls Try.prog 29 #[.agg (freshV 4 fl), .slice A v.length c] w (RReadP w (readPrms true 4 0 v)) := by
  have HP := Lib.hid (fun (W : World) (h : Below w.heap.size w W) => rparams_calls W A c v 4 (0) 0 0 0 0 0 (Kd.C_below hb h) hc hv)
  have HE := Lib.hid (show prmR 4 (0) 0 0 0 0 0 v = readPrms true 4 (0) v by
    unfold prmR readPrms
    cases prmsD v with
    | error c => rfl
    | ok ps => cases hbb : beatB ps <;> simp [hbb])
  have X := Bx.new w (freshV 4 fl)
  clear hb
  go_enter Try.func29, Try.ntmps29
  go_upto_region 1 with (fail)
  refine wp_gen (Bx w (freshV 4 fl)) X ?_
  clear X
  intro W X
  have k0 : W.cell? ⟨w.heap.size, 0, none⟩ = some (.int .u8 4) := X.cell 0
  have k1 : W.cell? ⟨w.heap.size, 1, none⟩ = some (.int .u8 fl) := X.cell 1
  have f1 := X.frozen 1
  go_upto_region 26 with (fail)
  refine wp_gen (Bx w (freshV 4 (0))) (X.set 1 _) ?_
  clear X k0 k1 f1 W
  intro W X
  have HWZ := Lib.hid X.x3
  go_wp2_with (first | (with_reducible refine gate_dst (N := 87) rfl ?_; go_must (refine wpList_load_row rfl 30 (.tmp 2) rfl _ rfl 30 _ (0, 0) _ X.x0 Try.underlying30 rfl (by kernel_rfl) ?_)))
  refine (HP.out W X.x2).mono ?_
  rintro e w1 ⟨cs, code, rfl, hsz, hone, hB, hP⟩
  rw [HE.out] at hP
  have Y := X.below hB
  have HPP := Lib.hid hP
  have hsz2 : (Try.prog.info? 30).map (·.size) = some cs.size := by rw [hsz]; kernel_rfl
  have HSZ := Lib.hid hsz
  have HSZ2 := Lib.hid hsz2
  have HOLD := Lib.hid (show zerV.size = cs.size by rw [hsz]; rfl)
  clear hP hB hsz hsz2
  go_wp2_with (with_reducible refine gate_store (p := 4) rfl ?_; go_must (refine wpList_store_row rfl 30 (.tmp 4) (.tmp 90) rfl _ cs rfl rfl 30 zerV Y.x1 HSZ2.out HOLD.out hone ?_))
  exact ret_pass rfl rfl rfl rfl Y.x1 HSZ.out hone Y.x2 (Nat.le_succ _) (by have := HWZ.out; omega) HPP.out
set_option maxHeartbeats 4000000 in
theorem rread_p5 (w : World) (A : Option Addr) (c : Nat) (v : List UInt8) (fl : Int) (hb : byte.C w A v.length v) (hc : v.length ≤ c) (hv : v.length ≤ 140737488355232) :
    Calls Try.prog 29 #[.agg (freshV 5 fl), .slice A v.length c] w (RReadP w (readPrms true 5 0 v)) := by
  have HP := Lib.hid (fun (W : World) (h : Below w.heap.size w W) => rparams_calls W A c v 5 (0) 0 0 0 0 0 (Kd.C_below hb h) hc hv)
  have HE := Lib.hid (show prmR 5 (0) 0 0 0 0 0 v = readPrms true 5 (0) v by
    unfold prmR readPrms
    cases prmsD v with
    | error c => rfl
    | ok ps => cases hbb : beatB ps <;> simp [hbb])
  have X := Bx.new w (freshV 5 fl)
  clear hb
  go_enter Try.func29, Try.ntmps29
  go_upto_region 1 with (fail)
  refine wp_gen (Bx w (freshV 5 fl)) X ?_
  clear X
  intro W X
  have k0 : W.cell? ⟨w.heap.size, 0, none⟩ = some (.int .u8 5) := X.cell 0
  have k1 : W.cell? ⟨w.heap.size, 1, none⟩ = some (.int .u8 fl) := X.cell 1
  have f1 := X.frozen 1
  go_upto_region 26 with (fail)
  refine wp_gen (Bx w (freshV 5 (0))) (X.set 1 _) ?_
  clear X k0 k1 f1 W
  intro W X
  have HWZ := Lib.hid X.x3
  go_wp2_with (first | (with_reducible refine gate_dst (N := 87) rfl ?_; go_must (refine wpList_load_row rfl 30 (.tmp 2) rfl _ rfl 30 _ (0, 0) _ X.x0 Try.underlying30 rfl (by kernel_rfl) ?_)))
  refine (HP.out W X.x2).mono ?_
  rintro e w1 ⟨cs, code, rfl, hsz, hone, hB, hP⟩
  rw [HE.out] at hP
  have Y := X.below hB
  have HPP := Lib.hid hP
  have hsz2 : (Try.prog.info? 30).map (·.size) = some cs.size := by rw [hsz]; kernel_rfl
  have HSZ := Lib.hid hsz
  have HSZ2 := Lib.hid hsz2
  have HOLD := Lib.hid (show zerV.size = cs.size by rw [hsz]; rfl)
  clear hP hB hsz hsz2
  go_wp2_with (with_reducible refine gate_store (p := 4) rfl ?_; go_must (refine wpList_store_row rfl 30 (.tmp 4) (.tmp 90) rfl _ cs rfl rfl 30 zerV Y.x1 HSZ2.out HOLD.out hone ?_))
  exact ret_pass rfl rfl rfl rfl Y.x1 HSZ.out hone Y.x2 (Nat.le_succ _) (by have := HWZ.out; omega) HPP.out
set_option maxHeartbeats 4000000 in
theorem rread_p9 (w : World) (A : Option Addr) (c : Nat) (v : List UInt8) (fl : Int) (hb : byte.C w A v.length v) (hc : v.length ≤ c) (hv : v.length ≤ 140737488355232) :
    Calls Try.prog 29 #[.agg (freshV 9 fl), .slice A v.length c] w (RReadP w (readPrms false 9 0 v)) := by
  have HP := Lib.hid (fun (W : World) (h : Below w.heap.size w W) => rparams_calls W A c v 9 (0) 0 0 0 0 0 (Kd.C_below hb h) hc hv)
  have HE := Lib.hid (show prmR 9 (0) 0 0 0 0 0 v = readPrms false 9 (0) v by
    unfold prmR readPrms
    cases prmsD v with
    | error c => rfl
    | ok ps => cases hbb : beatB ps <;> simp [hbb])
  have X := Bx.new w (freshV 9 fl)
  clear hb
  go_enter Try.func29, Try.ntmps29
  go_upto_region 1 with (fail)
  refine wp_gen (Bx w (freshV 9 fl)) X ?_
  clear X
  intro W X
  have k0 : W.cell? ⟨w.heap.size, 0, none⟩ = some (.int .u8 9) := X.cell 0
  have k1 : W.cell? ⟨w.heap.size, 1, none⟩ = some (.int .u8 fl) := X.cell 1
  have f1 := X.frozen 1
  go_upto_region 26 with (fail)
  refine wp_gen (Bx w (freshV 9 (0))) (X.set 1 _) ?_
  clear X k0 k1 f1 W
  intro W X
  have HWZ := Lib.hid X.x3
  go_wp2_with (first | (with_reducible refine gate_dst (N := 87) rfl ?_; go_must (refine wpList_load_row rfl 30 (.tmp 2) rfl _ rfl 30 _ (0, 0) _ X.x0 Try.underlying30 rfl (by kernel_rfl) ?_)))
  refine (HP.out W X.x2).mono ?_
  rintro e w1 ⟨cs, code, rfl, hsz, hone, hB, hP⟩
  rw [HE.out] at hP
  have Y := X.below hB
  have HPP := Lib.hid hP
  have hsz2 : (Try.prog.info? 30).map (·.size) = some cs.size := by rw [hsz]; kernel_rfl
  have HSZ := Lib.hid hsz
  have HSZ2 := Lib.hid hsz2
  have HOLD := Lib.hid (show zerV.size = cs.size by rw [hsz]; rfl)
  clear hP hB hsz hsz2
  go_wp2_with (with_reducible refine gate_store (p := 4) rfl ?_; go_must (refine wpList_store_row rfl 30 (.tmp 4) (.tmp 90) rfl _ cs rfl rfl 30 zerV Y.x1 HSZ2.out HOLD.out hone ?_))
  exact ret_pass rfl rfl rfl rfl Y.x1 HSZ.out hone Y.x2 (Nat.le_succ _) (by have := HWZ.out; omega) HPP.out
set_option maxHeartbeats 4000000 in
theorem rread_p6 (w : World) (A : Option Addr) (c : Nat) (v : List UInt8) (fl : Int) (hb : byte.C w A v.length v) (hc : v.length ≤ c) (hv : v.length ≤ 140737488355232) (h0 : 0 ≤ fl) :
    Calls Try.prog 29 #[.agg (freshV 6 fl), .slice A v.length c] w (RReadP w (readPrms false 6 (fl % 2) v)) := by
  have HP := Lib.hid (fun (W : World) (h : Below w.heap.size w W) => rparams_calls W A c v 6 (fl % 2) 0 0 0 0 0 (Kd.C_below hb h) hc hv)
  have HE := Lib.hid (show prmR 6 (fl % 2) 0 0 0 0 0 v = readPrms false 6 (fl % 2) v by
    unfold prmR readPrms
    cases prmsD v with
    | error c => rfl
    | ok ps => cases hbb : beatB ps <;> simp [hbb])
  have X := Bx.new w (freshV 6 fl)
  clear hb
  go_enter Try.func29, Try.ntmps29
  go_upto_region 1 with (fail)
  refine wp_gen (Bx w (freshV 6 fl)) X ?_
  clear X
  intro W X
  have k0 : W.cell? ⟨w.heap.size, 0, none⟩ = some (.int .u8 6) := X.cell 0
  have k1 : W.cell? ⟨w.heap.size, 1, none⟩ = some (.int .u8 fl) := X.cell 1
  have f1 := X.frozen 1
  go_upto_region 29 with (fail)
  refine wp_gen (Bx w (freshV 6 (fl % 2))) (X.set 1 _) ?_
  clear X k0 k1 f1 W
  intro W X
  have HWZ := Lib.hid X.x3
  go_wp2_with (first | (with_reducible refine gate_dst (N := 98) rfl ?_; go_must (refine wpList_load_row rfl 30 (.tmp 2) rfl _ rfl 30 _ (0, 0) _ X.x0 Try.underlying30 rfl (by kernel_rfl) ?_)))
  refine (HP.out W X.x2).mono ?_
  rintro e w1 ⟨cs, code, rfl, hsz, hone, hB, hP⟩
  rw [HE.out] at hP
  have Y := X.below hB
  have HPP := Lib.hid hP
  have hsz2 : (Try.prog.info? 30).map (·.size) = some cs.size := by rw [hsz]; kernel_rfl
  have HSZ := Lib.hid hsz
  have HSZ2 := Lib.hid hsz2
  have HOLD := Lib.hid (show zerV.size = cs.size by rw [hsz]; rfl)
  clear hP hB hsz hsz2
  go_wp2_with (with_reducible refine gate_store (p := 4) rfl ?_; go_must (refine wpList_store_row rfl 30 (.tmp 4) (.tmp 101) rfl _ cs rfl rfl 30 zerV Y.x1 HSZ2.out HOLD.out hone ?_))
  exact ret_pass rfl rfl rfl rfl Y.x1 HSZ.out hone Y.x2 (Nat.le_succ _) (by have := HWZ.out; omega) HPP.out
def rdIT17 : Bool × List (List Nat × List Nat) := (true, [([], []), ([], []), ([1], [1]), ([0, 2], [0, 2]), ([3], [3]), ([3], [3]), ([4, 3, 0, 1, 2, 3, 4, 5], [4]), ([5, 6, 0, 1, 2, 3, 4, 5, 6], [5])])
def rdIB17 : List Nat := [0, 0, 2, 7, 15, 15, 63, 127]
theorem rdItab17 : Go.Proofs.YtjmadnpicidbeaaW.PrintLast.rtab .any (Go.Proofs.YtjmadnpicidbeaaW.PrintLast.opsOf Try.f29 17) = rdIT17 := by kernel_rfl
theorem rdIbits17 : Go.Proofs.YtjmadnpicidbeaaW.PrintLast.waitsOk rdIT17.2 rdIB17 = true := by kernel_rfl
set_option maxHeartbeats 4000000 in
theorem rread_init (w : World) (A : Option Addr) (c : Nat) (v : List UInt8) (kd fl : Int) (hk : kd = 1 ∨ kd = 2) (hb : byte.C w A v.length v) (hc : v.length ≤ c) (hv : v.length ≤ 140737488355232) :
    Calls Try.prog 29 #[.agg (freshV kd fl), .slice A v.length c] w (RReadP w (readInit kd 0 v)) := by
  have HG := Lib.hid (fun (W : World) (h : Below w.heap.size w W) (at_ n : Nat) (z y : Int) (hz : z = (at_ : Int)) (hy : y = (n : Int)) (hn : n ≤ 4) (hh : at_ + n ≤ v.length) => get_calls W A v c (Kd.C_below hb h) hc (by omega) at_ n z y hz hy hn hh)
  have HBC := Lib.hid (fun (W : World) (h : Below w.heap.size w W) => Kd.C_below hb h)
  have HO := fresh_one kd fl
  have HK := Lib.hid (show ¬ (kd = 4 ∨ kd = 5) by omega)
  have q0 : (kd == 0) = false := by rcases hk with h | h <;> simp [h]
  have hq : (kd == 1) = true ∨ ((kd == 1) = false ∧ (kd == 2) = true) := by rcases hk with h | h <;> simp [h]
  clear hk
  have X := Bx.new w (freshV kd fl)
  clear hb
  go_enter Try.func29, Try.ntmps29
  go_upto_region 1 with (fail)
  refine wp_gen (Bx w (freshV kd fl)) X ?_
  clear X
  intro W X
  have k0 : W.cell? ⟨w.heap.size, 0, none⟩ = some (.int .u8 kd) := X.cell 0
  by_cases hlt : v.length < 16
  · have HR := Lib.hid (show readInit kd 0 v = .error 61 by unfold readInit; rw [if_pos hlt])
    rcases hq with q1 | ⟨q1, q2⟩
    all_goals
      go_wp2_with (with_reducible refine gate_dst (N := 48) rfl ?_; go_must (refine wpList_ret_row 48 rfl rfl rfl (.tmp 2) (.tmp 4) rfl rfl rfl _ _ _ _ rfl rfl rfl X.x0 X.x1 rfl rfl HO ?_))
      exact ret_bad rfl rfl rfl rfl X.x1 HR.out rfl HO X.x2 (Nat.le_succ _)
  rcases hq with q1 | ⟨q1, q2⟩
  all_goals
    have k1 : W.cell? ⟨w.heap.size, 1, none⟩ = some (.int .u8 fl) := X.cell 1
    have f1 := X.frozen 1
    go_upto_region 16 with (fail)
    refine wp_gen (Bx w (freshV kd 0)) (X.set 1 _) ?_
    clear X k0 k1 f1 HO W
    intro W X
    have k2 : W.cell? ⟨w.heap.size, 2, none⟩ = some (.int .u32 0) := X.cell 2
    have f2 := X.frozen 2
    have k6 : W.cell? ⟨w.heap.size, 6, none⟩ = some (.int .u32 0) := X.cell 6
    have f6 := X.frozen 6
    have k7 : W.cell? ⟨w.heap.size, 7, none⟩ = some (.int .u32 0) := X.cell 7
    have f7 := X.frozen 7
    have k8 : W.cell? ⟨w.heap.size, 8, none⟩ = some (.int .u16 0) := X.cell 8
    have f8 := X.frozen 8
    have k9 : W.cell? ⟨w.heap.size, 9, none⟩ = some (.int .u16 0) := X.cell 9
    have f9 := X.frozen 9
    go_wp2_with fail
    refine (HG.out _ X.x2 0 4 _ _ rfl rfl (by decide) (by omega)).mono ?_
    rintro e w1 ⟨rfl, ⟨m0, rfl⟩⟩
    go_wp2_with fail
    refine (HG.out _ (pw_below_drewN X.x2 _) 4 4 _ _ rfl rfl (by decide) (by omega)).mono ?_
    rintro e w1 ⟨rfl, ⟨m1, rfl⟩⟩
    go_wp2_with fail
    refine (HG.out _ (pw_below_drewN X.x2 _) 8 2 _ _ rfl rfl (by decide) (by omega)).mono ?_
    rintro e w1 ⟨rfl, ⟨m2, rfl⟩⟩
    go_wp2_with fail
    refine (HG.out _ (pw_below_drewN X.x2 _) 10 2 _ _ rfl rfl (by decide) (by omega)).mono ?_
    rintro e w1 ⟨rfl, ⟨m3, rfl⟩⟩
    go_wp2_with fail
    refine (HG.out _ (pw_below_drewN X.x2 _) 12 4 _ _ rfl rfl (by decide) (by omega)).mono ?_
    rintro e w1 ⟨rfl, ⟨m4, rfl⟩⟩
    go_upto_region 17 with (fail)
    simp only [u16_be]
    have HR := Lib.hid (show prmR kd 0 (be ((v.drop 12).take 4) : Nat) (be (v.take 4) : Nat) (be ((v.drop 4).take 4) : Nat) (be ((v.drop 8).take 2) : Nat) (be ((v.drop 10).take 2) : Nat) (v.drop 16) = readInit kd 0 v by
      unfold prmR readInit
      rw [if_neg hlt]
      cases prmsD (v.drop 16) with
      | error c => rfl
      | ok ps => exact if_neg (fun e => HK.out e.1))
    refine wp_gen (Bx w (pcV kd 0 (be ((v.drop 12).take 4) : Nat) (be (v.take 4) : Nat) (be ((v.drop 4).take 4) : Nat) (be ((v.drop 8).take 2) : Nat) (be ((v.drop 10).take 2) : Nat))) ((((((X.drewN _).set 6 _).set 7 _).set 8 _).set 9 _).set 2 _) ?_
    clear X k2 f2 k6 f6 k7 f7 k8 f8 k9 f9 W
    intro W X
    obtain ⟨A9, hdr, hdC, hdl⟩ := drop_bytes (HBC.out W X.x2) hc 16 16 rfl (by omega)
    have hzl : (v.drop 16).length ≤ 140737488355232 := by rw [List.length_drop]; omega
    have HP := Lib.hid (fun (W' : World) (h : Below W.heap.size W W') (t2 t6 t7 t8 t9 : Int) => rparams_calls W' A9 (c - 16) (v.drop 16) kd 0 t2 t6 t7 t8 t9 (Kd.C_below hdC h) hdl hzl)
    clear hdC hdl HG HBC hzl hlt HK
    generalize (v.drop 16).length = zl at *
    generalize c - 16 = zc at *
    generalize v.drop 16 = v16 at *
    generalize ((be ((v.drop 12).take 4) : Nat) : Int) = t2 at *
    generalize ((be (v.take 4) : Nat) : Int) = t6 at *
    generalize ((be ((v.drop 4).take 4) : Nat) : Int) = t7 at *
    generalize ((be ((v.drop 8).take 2) : Nat) : Int) = t8 at *
    generalize ((be ((v.drop 10).take 2) : Nat) : Int) = t9 at *
    have B := True.intro
    refine start_ (n := 8) (S := fun w' => True) (ds := []) #[false, false, false, false, false, false, false, false] (by kernel_rfl) rfl rfl trivial (fun hHeld => ?_)
    refine with_tabW rdItab17 rdIbits17 (fun HT_ HW_ => ?_)
    refine pure_ (i := 1) (N := some 68) (v := ?_) (a' := ?_) #[false, true, false, false, false, false, false, false] rfl rfl (any_of HT_.out (by kernel_rfl)) (fun _ _ _ h => h) (Or.inl ⟨by rfl, ?_⟩) ?_ ?_
    rotate_left
    · intro w'
      go_simp
      with_reducible rfl
    rotate_left
    · simp only [Act.put, List.setIfInBounds_toArray, List.set_cons_zero, List.set_cons_succ, i64_w, i32_w]
      rfl
    refine inv_at [0, 2, 3, 4, 5, 6, 7] (fun a0_ b a w' => ∃ (cs : Array Value) (code : Int) (m3_ : Value) (m4_ : Value) (m5_ : Value) (m7_ : Value), a = putSel a0_ b [(0, 67, .agg (pcV kd 0 t2 t6 t7 t8 t9)), (2, 69, .slice A9 zl zc), (3, 70, m3_), (4, 71, m4_), (5, 72, m5_), (7, 5, m7_)] ∧ (b 3 = false → Bx w (pcV kd 0 t2 t6 t7 t8 t9) w' ∧ Below W.heap.size W w') ∧ (b 3 = true → b 6 = false → Bx w (pcV kd 0 t2 t6 t7 t8 t9) w' ∧ ParR (w.heap.size + 2) (prmR kd 0 t2 t6 t7 t8 t9 v16) cs code w') ∧ (b 6 = true → ∃ w9, w' = w9.setRow (w.heap.size + 1) cs ∧ (Bx w (pcV kd 0 t2 t6 t7 t8 t9) w9 ∧ ParR (w.heap.size + 2) (prmR kd 0 t2 t6 t7 t8 t9 v16) cs code w9)) ∧ (b 3 = true → (m3_ : Value) = .tuple #[.agg cs, .int .i64 code]) ∧ (b 4 = true → (m4_ : Value) = .agg cs) ∧ (b 5 = true → (m5_ : Value) = .int .i64 code) ∧ (b 7 = true → (m7_ : Value) = .int .i64 code)) HT_.out HW_.out (by kernel_rfl) (by kernel_rfl) ?_ ?_ ?_
    · exact ⟨#[], 0, .bool false, .bool false, .bool false, .bool false, by simp only [putSel, Bool.false_eq_true, if_false], fun _ => ⟨X.drewN 1, pw_below_drewN (Below.refl _ _) 1⟩, fun h_ => absurd h_ (by decide), fun h_ => absurd h_ (by decide), fun h_ => absurd h_ (by decide), fun h_ => absurd h_ (by decide), fun h_ => absurd h_ (by decide), fun h_ => absurd h_ (by decide)⟩
    · skip
      clear B
      refine steps_cons ?_ ?_
      · rintro b a w' ⟨cs, code, m3_, m4_, m5_, m7_, ha, Q_B, Q_C, Q_S, Q_X3_, Q_X4_, Q_X5_, Q_X7_⟩ hb_ hon hoff
        refine ⟨_, rfl, fun K hK => ?_⟩
        have e2 : a.tmps[2]? = some (.pointer (some ⟨w.heap.size, 0, none⟩)) := by rw [ha]; exact (putSel_off rfl).trans rfl
        replace ha := Aside0.mk ha
        have B := Aside0.mk (Q_B (hoff 3 (by kernel_rfl)))
        refine value_ (w1 := w') (v := .agg (pcV kd 0 t2 t6 t7 t8 t9)) (by rfl) rfl (exec_load_row 30 (.tmp 2) rfl (eval_of e2) B.out.1.x0 Try.underlying30 rfl (by kernel_rfl)) ?_
        refine hK.out _ _ ⟨cs, code, m3_, m4_, m5_, m7_, (by rw [ha.out]; exact putSel_upk 0 hb_ rfl rfl rfl), fun _ => B.out, fun h0_ _ => absurd ((hoff 3 (by kernel_rfl)).symm.trans h0_) (by decide), fun h0_ => absurd ((hoff 6 (by kernel_rfl)).symm.trans h0_) (by decide), fun h0_ => absurd ((hoff 3 (by kernel_rfl)).symm.trans h0_) (by decide), fun h0_ => absurd ((hoff 4 (by kernel_rfl)).symm.trans h0_) (by decide), fun h0_ => absurd ((hoff 5 (by kernel_rfl)).symm.trans h0_) (by decide), fun h0_ => absurd ((hoff 7 (by kernel_rfl)).symm.trans h0_) (by decide)⟩
      refine steps_cons ?_ ?_
      · rintro b a w' ⟨cs, code, m3_, m4_, m5_, m7_, ha, Q_B, Q_C, Q_S, Q_X3_, Q_X4_, Q_X5_, Q_X7_⟩ hb_ hon hoff
        refine ⟨_, rfl, fun K hK => ?_⟩
        have e68 : a.tmps[68]? = some (.slice A v.length c) := by rw [ha]; exact (putSel_off rfl).trans rfl
        replace ha := Aside0.mk ha
        have B := Aside0.mk (Q_B (hoff 3 (by kernel_rfl)))
        refine value_ (w1 := w') (v := .slice A9 zl zc) (by rfl) rfl ?_ ?_
        · go_simp
          (try simp only [i64_w])
          try rfl
        refine hK.out _ _ ⟨cs, code, m3_, m4_, m5_, m7_, (by rw [ha.out]; exact putSel_upk 1 hb_ rfl rfl rfl), Q_B, fun h0_ _ => absurd ((hoff 3 (by kernel_rfl)).symm.trans h0_) (by decide), fun h0_ => absurd ((hoff 6 (by kernel_rfl)).symm.trans h0_) (by decide), fun h0_ => absurd ((hoff 3 (by kernel_rfl)).symm.trans h0_) (by decide), fun h0_ => absurd ((hoff 4 (by kernel_rfl)).symm.trans h0_) (by decide), fun h0_ => absurd ((hoff 5 (by kernel_rfl)).symm.trans h0_) (by decide), fun h0_ => absurd ((hoff 7 (by kernel_rfl)).symm.trans h0_) (by decide)⟩
      refine steps_cons ?_ ?_
      · rintro b a w' ⟨cs, code, m3_, m4_, m5_, m7_, ha, Q_B, Q_C, Q_S, Q_X3_, Q_X4_, Q_X5_, Q_X7_⟩ hb_ hon hoff
        refine ⟨_, rfl, fun K hK => ?_⟩
        have e67 : a.tmps[67]? = some (.agg (pcV kd 0 t2 t6 t7 t8 t9)) := by rw [ha]; exact putSel_on (e := (0, 67, .agg (pcV kd 0 t2 t6 t7 t8 t9))) 0 rfl rfl (hon 0 (by kernel_rfl)) rfl
        have e69 : a.tmps[69]? = some (.slice A9 zl zc) := by rw [ha]; exact putSel_on (e := (2, 69, .slice A9 zl zc)) 1 rfl rfl (hon 2 (by kernel_rfl)) rfl
        replace ha := Aside0.mk ha
        have B := Aside0.mk (Q_B hb_)
        refine goes_ Try.func53 (by kernel_rfl) rfl #[.agg (pcV kd 0 t2 t6 t7 t8 t9), .slice A9 zl zc] (by rfl) rfl rfl (by first | (simp only [List.map_toArray, List.map_cons, List.map_nil, Act.eval, Array.getD_eq_getD_getElem?, Option.getD_some, e67, e69]; done) | (simp only [List.map_toArray, List.map_cons, List.map_nil, Act.eval, Array.getD_eq_getD_getElem?, Option.getD_some, e67, e69]; rfl)) ?_
        refine (HP.out w' B.out.2 t2 t6 t7 t8 t9).mono ?_
        rintro e w1 ⟨cs1, code1, rfl, hsz1, hone1, hB1, hP1⟩
        refine ⟨_, rfl, ?_⟩
        refine hK.out _ _ ⟨cs1, code1, (.tuple #[.agg cs1, .int .i64 code1]), m4_, m5_, m7_, (by rw [ha.out]; exact putSel_upk 2 hb_ rfl rfl rfl), fun h0_ => absurd ((up_self b 3).symm.trans h0_) (by decide), fun _ _ => ⟨B.out.1.below hB1, ParR.of hsz1 hone1 B.out.1.x3 hP1⟩, fun h0_ => absurd ((hoff 6 (by kernel_rfl)).symm.trans h0_) (by decide), fun _ => rfl, fun h0_ => absurd ((hoff 4 (by kernel_rfl)).symm.trans h0_) (by decide), fun h0_ => absurd ((hoff 5 (by kernel_rfl)).symm.trans h0_) (by decide), fun h0_ => absurd ((hoff 7 (by kernel_rfl)).symm.trans h0_) (by decide)⟩
      refine steps_cons ?_ ?_
      · rintro b a w' ⟨cs, code, m3_, m4_, m5_, m7_, ha, Q_B, Q_C, Q_S, Q_X3_, Q_X4_, Q_X5_, Q_X7_⟩ hb_ hon hoff
        refine ⟨_, rfl, fun K hK => ?_⟩
        have e70 : a.tmps[70]? = some (m3_) := by rw [ha]; exact putSel_on (e := (3, 70, m3_)) 2 rfl rfl (hon 3 (by kernel_rfl)) rfl
        rw [Q_X3_ (hon 3 (by kernel_rfl))] at e70
        replace ha := Aside0.mk ha
        have C := Aside0.mk (Q_C (hon 3 (by kernel_rfl)) (hoff 6 (by kernel_rfl)))
        refine value_ (w1 := w') (v := .agg cs) (by rfl) rfl ?_ ?_
        · go_simp
          (try simp only [i64_w])
          try rfl
        refine hK.out _ _ ⟨cs, code, m3_, (.agg cs), m5_, m7_, (by rw [ha.out]; exact putSel_upk 3 hb_ rfl rfl rfl), fun h0_ => absurd ((hon 3 (by kernel_rfl)).symm.trans h0_) (by decide), Q_C, fun h0_ => absurd ((hoff 6 (by kernel_rfl)).symm.trans h0_) (by decide), Q_X3_, fun _ => rfl, Q_X5_, fun h0_ => absurd ((hoff 7 (by kernel_rfl)).symm.trans h0_) (by decide)⟩
      refine steps_cons ?_ ?_
      · rintro b a w' ⟨cs, code, m3_, m4_, m5_, m7_, ha, Q_B, Q_C, Q_S, Q_X3_, Q_X4_, Q_X5_, Q_X7_⟩ hb_ hon hoff
        refine ⟨_, rfl, fun K hK => ?_⟩
        have e70 : a.tmps[70]? = some (m3_) := by rw [ha]; exact putSel_on (e := (3, 70, m3_)) 2 rfl rfl (hon 3 (by kernel_rfl)) rfl
        rw [Q_X3_ (hon 3 (by kernel_rfl))] at e70
        replace ha := Aside0.mk ha
        have C := Aside0.mk (Q_C (hon 3 (by kernel_rfl)) (hoff 6 (by kernel_rfl)))
        refine value_ (w1 := w') (v := .int .i64 code) (by rfl) rfl ?_ ?_
        · go_simp
          (try simp only [i64_w])
          try rfl
        refine hK.out _ _ ⟨cs, code, m3_, m4_, (.int .i64 code), m7_, (by rw [ha.out]; exact putSel_upk 4 hb_ rfl rfl rfl), fun h0_ => absurd ((hon 3 (by kernel_rfl)).symm.trans h0_) (by decide), Q_C, fun h0_ => absurd ((hoff 6 (by kernel_rfl)).symm.trans h0_) (by decide), Q_X3_, Q_X4_, fun _ => rfl, fun h0_ => absurd ((hoff 7 (by kernel_rfl)).symm.trans h0_) (by decide)⟩
      refine steps_cons ?_ ?_
      · rintro b a w' ⟨cs, code, m3_, m4_, m5_, m7_, ha, Q_B, Q_C, Q_S, Q_X3_, Q_X4_, Q_X5_, Q_X7_⟩ hb_ hon hoff
        refine ⟨_, rfl, fun K hK => ?_⟩
        have e4 : a.tmps[4]? = some (.pointer (some ⟨w.heap.size + 1, 0, none⟩)) := by rw [ha]; exact (putSel_off rfl).trans rfl
        have e71 : a.tmps[71]? = some (m4_) := by rw [ha]; exact putSel_on (e := (4, 71, m4_)) 3 rfl rfl (hon 4 (by kernel_rfl)) rfl
        rw [Q_X4_ (hon 4 (by kernel_rfl))] at e71
        replace ha := Aside0.mk ha
        have C := Aside0.mk (Q_C (hon 3 (by kernel_rfl)) hb_)
        refine skip_ (w1 := w'.setRow (w.heap.size + 1) cs) (by rfl) rfl (exec_store_row 30 (.tmp 4) (.tmp 71) rfl (eval_of e4) (eval_of e71) C.out.1.x1 (by rw [C.out.2.1]; kernel_rfl) (by rw [C.out.2.1]; rfl) C.out.2.2.1) ?_
        refine hK.out _ _ ⟨cs, code, m3_, m4_, m5_, m7_, (by rw [ha.out]; exact putSel_none (v := undef) rfl), fun h0_ => absurd ((hon 3 (by kernel_rfl)).symm.trans h0_) (by decide), fun _ h1_ => absurd ((up_self b 6).symm.trans h1_) (by decide), fun _ => ⟨w', rfl, C.out⟩, Q_X3_, Q_X4_, Q_X5_, fun h0_ => absurd ((hoff 7 (by kernel_rfl)).symm.trans h0_) (by decide)⟩
      refine steps_cons ?_ ?_
      · rintro b a w' ⟨cs, code, m3_, m4_, m5_, m7_, ha, Q_B, Q_C, Q_S, Q_X3_, Q_X4_, Q_X5_, Q_X7_⟩ hb_ hon hoff
        refine ⟨_, rfl, fun K hK => ?_⟩
        have e72 : a.tmps[72]? = some (m5_) := by rw [ha]; exact putSel_on (e := (5, 72, m5_)) 4 rfl rfl (hon 5 (by kernel_rfl)) rfl
        rw [Q_X5_ (hon 5 (by kernel_rfl))] at e72
        replace ha := Aside0.mk ha
        have S := Aside0.mk (Q_S (hon 6 (by kernel_rfl)))
        refine value_ (w1 := w') (v := .int .i64 code) (by rfl) rfl ?_ ?_
        · go_simp
          (try simp only [i64_w])
          try rfl
        refine hK.out _ _ ⟨cs, code, m3_, m4_, m5_, (.int .i64 code), (by rw [ha.out]; exact putSel_upk 5 hb_ rfl rfl rfl), fun h0_ => absurd ((hon 3 (by kernel_rfl)).symm.trans h0_) (by decide), fun _ h1_ => absurd ((hon 6 (by kernel_rfl)).symm.trans h1_) (by decide), Q_S, Q_X3_, Q_X4_, Q_X5_, fun _ => rfl⟩
      exact steps_nil
    rintro b a w' hall ⟨cs, code, m3_, m4_, m5_, m7_, ha, Q_B, Q_C, Q_S, Q_X3_, Q_X4_, Q_X5_, Q_X7_⟩
    clear B
    have hb0_ := hall 0 (by kernel_rfl)
    have hb2_ := hall 2 (by kernel_rfl)
    have hb3_ := hall 3 (by kernel_rfl)
    have hb4_ := hall 4 (by kernel_rfl)
    have hb5_ := hall 5 (by kernel_rfl)
    have hb6_ := hall 6 (by kernel_rfl)
    have hb7_ := hall 7 (by kernel_rfl)
    subst ha
    obtain rfl := Q_X3_ hb3_
    obtain rfl := Q_X4_ hb4_
    obtain rfl := Q_X5_ hb5_
    obtain rfl := Q_X7_ hb7_
    simp only [putSel, hb0_, hb2_, hb3_, hb4_, hb5_, hb6_, hb7_, if_true, Act.put, List.setIfInBounds_toArray, List.set_cons_zero, List.set_cons_succ]
    clear Q_B
    clear Q_C
    have S := Aside0.mk (Q_S hb6_)
    clear Q_S
    clear hall hb0_ hb2_ hb3_ hb4_ hb5_ hb6_ hb7_
    obtain ⟨w9, rfl, X9, hs9, ho9, hP9⟩ := S.out
    rw [HR.out] at hP9
    go_wp2
    exact ret_pass rfl rfl rfl rfl X9.x1 hs9 ho9 X9.x2 (Nat.le_succ _) (Nat.le_refl _) hP9
end Go.Proofs.Ytjmadnpicidbeaa.Ch
end
section
namespace Go.Proofs.Ytjmadnpicidbeaa.Ch
open Go.RowKit Go.Proofs.YtjmadnpicidbeaaW.PrintWords Go.Proofs.YtjmadnpicidbeaaW.PrintLast Go.Proofs.Ytjmadnpicidbeaa.Base Go.Proofs.Ytjmadnpicidbeaa.PCh Go.Proofs.Ytjmadnpicidbeaa.ParDec
set_option maxRecDepth 100000
set_option linter.unusedVariables false
set_option linter.unusedSimpArgs false
def rlssackT20 : Bool × List (List Nat × List Nat) := (true, [([], []), ([0], [0]), ([], []), ([], []), ([], []), ([], []), ([4, 5], [4, 5]), ([], []), ([6, 7], [6, 7]), ([8], [8]), ([3, 9], [3, 9]), ([2, 10], [2, 10]), ([11], [11]), ([1, 12, 11], [1, 12]), ([0, 1, 2, 3, 4, 5, 6, 7, 8, 9, 10, 11, 12, 13], []), ([14, 13, 13, 0, 1, 2, 3, 4, 5, 6, 7, 8, 9, 10, 11, 12, 13], [13, 14])])
def rlssackB20 : List Nat := [0, 1, 0, 0, 0, 0, 48, 0, 240, 496, 1016, 2044, 4092, 8191, 16383, 32767]
theorem rlssacktab20 : Go.Proofs.YtjmadnpicidbeaaW.PrintLast.rtab .any (Go.Proofs.YtjmadnpicidbeaaW.PrintLast.opsOf Try.f54 20) = rlssackT20 := by kernel_rfl
theorem rlssackbits20 : Go.Proofs.YtjmadnpicidbeaaW.PrintLast.waitsOk rlssackT20.2 rlssackB20 = true := by kernel_rfl
set_option maxHeartbeats 4000000 in
theorem rlists_sack (w : World) (A : Option Addr) (c : Nat) (v : List UInt8) (hb : byte.C w A v.length v) (hc : v.length ≤ c) (hv : v.length ≤ 140737488355232) :
    Calls Try.prog 54 #[.agg (freshV 3 0), .slice A v.length c] w (RReadP w (readLists false 3 0 v)) := by
  have HG := Lib.hid (fun (W : World) (h : Below w.heap.size w W) (at_ n : Nat) (z y : Int) (hz : z = (at_ : Int)) (hy : y = (n : Int)) (hn : n ≤ 4) (hh : at_ + n ≤ v.length) => get_calls W A v c (Kd.C_below hb h) hc (by omega) at_ n z y hz hy hn hh)
  have HBK := Lib.hid (fun (W : World) (h : Below w.heap.size w W) (at_ n : Nat) (z y : Int) (hz : z = (at_ : Int)) (hy : y = (n : Int)) (hn : n ≤ 4096) (hh : at_ + 4 * n ≤ v.length) => blocks_calls W A v c (Kd.C_below hb h) hc (by omega) at_ n z y hz hy hn hh)
  have HO := fresh_one 3 0
  have X := Bx.new w (freshV 3 0)
  clear hb
  go_enter Try.func54, Try.ntmps54
  go_upto_region 1 with (fail)
  refine wp_gen (Bx w (freshV 3 0)) X ?_
  clear X
  intro W X
  have k0 : W.cell? ⟨w.heap.size, 0, none⟩ = some (.int .u8 3) := X.cell 0
  by_cases hlt : v.length < 12
  · have HR := Lib.hid (show readLists false 3 0 v = .error 61 by unfold readLists listsD; rw [if_pos (by simp; omega)])
    go_wp2_with (with_reducible refine gate_dst (N := 20) rfl ?_; go_must (refine wpList_ret_row 20 rfl rfl rfl (.tmp 2) (.tmp 4) rfl rfl rfl _ _ _ _ rfl rfl rfl X.x0 X.x1 rfl rfl HO ?_))
    exact ret_bad rfl rfl rfl rfl X.x1 HR.out rfl HO X.x2 (Nat.le_succ _)
  have hbg := be_two_lt (v.drop 8)
  have hbn := be_two_lt (v.drop 10)
  have hbd := be_two_lt (v.drop 10)
  go_wp2_with fail
  refine (HG.out _ X.x2 8 2 _ _ rfl rfl (by decide) (by omega)).mono ?_
  rintro e w1 ⟨rfl, ⟨m0, rfl⟩⟩
  go_wp2_with fail
  refine (HG.out _ (pw_below_drewN X.x2 _) 10 2 _ _ rfl rfl (by decide) (by omega)).mono ?_
  rintro e w1 ⟨rfl, ⟨m1, rfl⟩⟩
  go_upto_region 10 with (fail)
  have HLD := Lib.hid (show listsD false v = _ from by unfold listsD; rw [if_neg (by simp; omega)])
  simp only [if_true, if_false, Bool.false_eq_true] at HLD
  obtain ⟨ng, hng⟩ : ∃ ng, be ((v.drop 8).take 2) = ng := ⟨_, rfl⟩
  obtain ⟨nd, hnd⟩ : ∃ nd, be ((v.drop 10).take 2) = nd := ⟨_, rfl⟩
  rw [hng] at HLD hbg ⊢
  rw [hnd] at HLD hbd ⊢
  clear hng hnd hbn
  have hnot : ¬ (4096 < ng ∨ 4096 < 0 ∨ 4096 < nd) → True := fun _ => trivial
  clear hnot
  by_cases hbig : 4096 < ng ∨ 4096 < 0 ∨ 4096 < nd
  · rw [if_pos hbig] at HLD
    have HR := Lib.hid (show readLists false 3 0 v = .error 3 by unfold readLists; rw [HLD.out])
    have X := X.drewN (m0 + m1)
    go_wp2_with (with_reducible refine gate_dst (N := 42) rfl ?_; go_must (refine wpList_ret_row 42 rfl rfl rfl (.tmp 2) (.tmp 4) rfl rfl rfl _ _ _ _ rfl rfl rfl X.x0 X.x1 rfl rfl HO ?_))
    all_goals first | (exfalso; omega) | exact ret_bad rfl rfl rfl rfl X.x1 HR.out rfl HO X.x2 (Nat.le_succ _)
  rw [if_neg hbig] at HLD
  by_cases hlen : v.length ≠ 12 + 4 * (ng + 0 + nd)
  · rw [if_pos hlen] at HLD
    have HR := Lib.hid (show readLists false 3 0 v = .error 61 by unfold readLists; rw [HLD.out])
    have q1 : decide ((4096 : Int) < (ng : Int)) = false := by simp; omega
    have q3 : decide ((4096 : Int) < (nd : Int)) = false := by simp; omega
    have HLN := Lib.hid hlen
    have X := X.drewN (m0 + m1)
    go_wp2_with (with_reducible refine gate_dst (N := 54) rfl ?_; go_must (refine wpList_ret_row 54 rfl rfl rfl (.tmp 2) (.tmp 4) rfl rfl rfl _ _ _ _ rfl rfl rfl X.x0 X.x1 rfl rfl HO ?_))
    all_goals first | (exfalso; omega) | exact ret_bad rfl rfl rfl rfl X.x1 HR.out rfl HO X.x2 (Nat.le_succ _)
  rw [if_neg hlen] at HLD
  have hlen3 : v.length = 12 + 4 * (ng + 0 + nd) := Decidable.byContradiction fun h => hlen h
  have HL3 := Lib.hid hlen3
  have hg4 : ng ≤ 4096 := by omega
  have hd4 : nd ≤ 4096 := by omega
  have q4 : ((v.length : Int) != 12 + 4 * ((ng : Int) + (nd : Int))) = false := by simp; omega
  clear hlen hlen3 hbig hbg hbd
  go_wp2_with fail
  refine (HG.out _ (pw_below_drewN X.x2 _) 0 4 _ _ rfl rfl (by decide) (by omega)).mono ?_
  rintro e w1 ⟨rfl, ⟨m8, rfl⟩⟩
  have k2 : W.cell? ⟨w.heap.size, 2, none⟩ = some (.int .u32 0) := X.cell 2
  have f2 := X.frozen 2
  have k7 : W.cell? ⟨w.heap.size, 7, none⟩ = some (.int .u32 0) := X.cell 7
  have f7 := X.frozen 7
  go_wp2_with fail
  refine (HG.out _ (pw_below_drewN X.x2 _) 4 4 _ _ rfl rfl (by decide) (by omega)).mono ?_
  rintro e w1 ⟨rfl, ⟨m9, rfl⟩⟩
  go_upto_region 15 with (fail)
  refine wp_gen (Bx w (#[.int .u8 3, .int .u8 0, .int .u32 ((be (v.take 4) : Nat) : Int), .int .u16 0, .int .u16 0, .int .u32 0, .int .u32 0, .int .u32 ((be ((v.drop 4).take 4) : Nat) : Int), .int .u16 0, .int .u16 0, .slice none 0 0, .slice none 0 0, .slice none 0 0, .slice none 0 0, .slice none 0 0])) (((X.drewN _).set 2 _).set 7 _) ?_
  clear X k2 k7 f2 f7 k0 HO W
  intro W X
  obtain ⟨t1, ht1⟩ : ∃ t1 : Int, ((be (v.take 4) : Nat) : Int) = t1 := ⟨_, rfl⟩
  obtain ⟨t2, ht2⟩ : ∃ t2 : Int, ((be ((v.drop 4).take 4) : Nat) : Int) = t2 := ⟨_, rfl⟩
  rw [ht1, ht2] at X
  have HT1 := Lib.hid ht1
  have HT2 := Lib.hid ht2
  clear ht1 ht2
  have HWZ := Lib.hid X.x3
  go_wp2_with fail
  refine (HBK.out _ X.x2 12 ng _ _ rfl rfl hg4 (by have := HL3.out; omega)).mono ?_
  rintro e w1 ⟨vg, rfl, hG, hB⟩
  obtain ⟨Ag, cg, rfl⟩ := Kd.R_slice hG
  have Y := X.below hB
  replace hG := Kd.R_lower hG HWZ.out
  have k10 : w1.cell? ⟨w.heap.size, 10, none⟩ = some (.slice none 0 0) := Y.cell 10
  have f10 := Y.frozen 10
  clear X hB
  go_upto_region 16 with (fail)
  have OV1 : (Value.slice Ag (gapsD ng (v.drop 12)).length cg).oneCell' = true := rfl
  generalize Value.slice Ag (gapsD ng (v.drop 12)).length cg = vg at *
  refine wp_gen (fun W' => Bx w (#[.int .u8 3, .int .u8 0, .int .u32 t1, .int .u16 0, .int .u16 0, .int .u32 0, .int .u32 0, .int .u32 t2, .int .u16 0, .int .u16 0, vg, .slice none 0 0, .slice none 0 0, .slice none 0 0, .slice none 0 0]) W' ∧ Kd.R k83 83 W' (w.heap.size + 2) (fun _ => True) vg (gapsD ng (v.drop 12))) ⟨Y.set 10 _, R_only hG ((Only.refl (· = w.heap.size) _).setCell (fun _ => rfl) _) (fun k hk _ h => by omega)⟩ ?_
  clear Y hG k10 f10 HWZ W
  rintro W ⟨X, hG0⟩
  have RG := Lib.hid hG0
  clear hG0
  have HWZ := Lib.hid X.x3
  go_wp2_with fail
  refine (HBK.out _ X.x2 (12 + 4 * ng) 0 _ _ (by omega) rfl (by decide) (by have := HL3.out; omega)).mono ?_
  rintro e w2 ⟨vn, rfl, hN, hB⟩
  obtain ⟨An, cn, rfl⟩ := Kd.R_slice hN
  have Y := X.below hB
  replace hN := Kd.R_lower hN HWZ.out
  have hG := R_only RG.out (Only.of_below (S := fun _ => False) hB) (fun _ _ _ h => h)
  have k11 : w2.cell? ⟨w.heap.size, 11, none⟩ = some (.slice none 0 0) := Y.cell 11
  have f11 := Y.frozen 11
  clear X hB RG
  go_upto_region 17 with (fail)
  have OV2 : (Value.slice An (gapsD 0 (v.drop (12 + 4 * ng))).length cn).oneCell' = true := rfl
  generalize Value.slice An (gapsD 0 (v.drop (12 + 4 * ng))).length cn = vn at *
  refine wp_gen (fun W' => Bx w (#[.int .u8 3, .int .u8 0, .int .u32 t1, .int .u16 0, .int .u16 0, .int .u32 0, .int .u32 0, .int .u32 t2, .int .u16 0, .int .u16 0, vg, vn, .slice none 0 0, .slice none 0 0, .slice none 0 0]) W' ∧ Kd.R k83 83 W' (w.heap.size + 2) (fun _ => True) vg (gapsD ng (v.drop 12)) ∧ Kd.R k83 83 W' (w.heap.size + 2) (fun _ => True) vn (gapsD 0 (v.drop (12 + 4 * ng)))) ⟨Y.set 11 _, R_only hG ((Only.refl (· = w.heap.size) _).setCell (fun _ => rfl) _) (fun k hk _ h => by omega), R_only hN ((Only.refl (· = w.heap.size) _).setCell (fun _ => rfl) _) (fun k hk _ h => by omega)⟩ ?_
  clear Y hG hN k11 f11 HWZ W
  rintro W0 ⟨X, hG, hN⟩
  have HX := Lib.hid X
  have RG := Lib.hid hG
  have RN := Lib.hid hN
  clear X hG hN HBK
  obtain ⟨vv0, hvv0⟩ : ∃ vv0, v.drop (12 + 4 * (ng + 0)) = vv0 := ⟨_, rfl⟩
  have hvl : vv0.length = 4 * nd := by rw [← hvv0, List.length_drop]; have := HL3.out; omega
  have HVV := Lib.hid hvv0
  have HGL2 := Lib.hid (show w.heap.size < W0.heap.size by have := HX.out.x3; omega)
  go_wp2
  go_loopw [11] (fun v11 wr => ∃ (i : Nat) (xs : List Int) (vd : Value), i ≤ nd ∧ v11 = .int .i64 (i : Int) ∧ Hid ((Kd.int .u32).R 24 wr W0.heap.size (fun _ => True) vd xs) ∧ Hid (xs ++ dupsD (nd - i) (vv0.drop (4 * i)) = dupsD nd vv0) ∧ Hid (wr.heap[w.heap.size]? = some (.cells (#[.int .u8 3, .int .u8 0, .int .u32 t1, .int .u16 0, .int .u16 0, .int .u32 0, .int .u32 0, .int .u32 t2, .int .u16 0, .int .u16 0, vg, vn, vd, .slice none 0 0, .slice none 0 0]) 30 (0, 0))) ∧ Hid (Only (· = w.heap.size) W0 wr)) (fun v11 _ => nd - (intOf v11).toNat)
  case atStart => exact ⟨0, [], .slice none 0 0, Nat.zero_le _, rfl, Kd.R_nil _ _ _ _ _, rfl, HX.out.x0, Only.refl _ _⟩
  case round =>
    obtain ⟨i, xs, vd, hi, rfl, HR, HE, HC, HO⟩ := hrel
    obtain ⟨Av, cv, rfl⟩ := Kd.R_slice HR.out
    have hxl : xs.length ≤ 4096 := by
      have := congrArg List.length HE.out
      rw [List.length_append, dupsD_length, dupsD_length] at this
      omega
    have HXL := Lib.hid hxl
    by_cases hlt2 : i < nd
    · have hE := HE.out
      rw [show nd - i = (nd - (i + 1)) + 1 by omega, dupsD] at hE
      have e4 : (vv0.drop (4 * i)).drop 4 = vv0.drop (4 * (i + 1)) := by rw [List.drop_drop]; congr 1
      have hE2 : (xs ++ [(be ((vv0.drop (4 * i)).take 4) : Int)]) ++ dupsD (nd - (i + 1)) (vv0.drop (4 * (i + 1))) = dupsD nd vv0 := by rw [List.append_assoc, ← e4]; exact hE
      have e5 : v.drop (12 + 4 * ((ng + 0) + i)) = vv0.drop (4 * i) := by rw [← HVV.out, List.drop_drop]; congr 1; omega
      have HF := Lib.hid (fun (W : World) (hO : Only (· = w.heap.size) W0 W) (z : Int) (hz : z = ((12 + 4 * ((ng + 0) + i) : Nat) : Int)) => HG.out W (HX.out.x2.trans (hO.below HX.out.x2.size (fun k h => by omega))) (12 + 4 * ((ng + 0) + i)) 4 z 4 hz rfl (by decide) (by have := HL3.out; omega))
      rw [e5] at HF
      generalize be ((vv0.drop (4 * i)).take 4) = q at *
      have HE2 := Lib.hid hE2
      obtain ⟨s1, hs1⟩ : ∃ s1 : Int, wrap64 ((ng : Int) + 0) = s1 := ⟨_, rfl⟩
      obtain ⟨s3, hs3⟩ : ∃ s3 : Int, wrap64 (s1 + (i : Int)) = s3 := ⟨_, rfl⟩
      obtain ⟨s4, hs4⟩ : ∃ s4 : Int, wrap64 (4 * s3) = s4 := ⟨_, rfl⟩
      obtain ⟨s5, hs5⟩ : ∃ s5 : Int, wrap64 (12 + s4) = s5 := ⟨_, rfl⟩
      have hs6 : s5 = ((12 + 4 * ((ng + 0) + i) : Nat) : Int) := by
        have r1 : s1 = (((ng + 0) : Nat) : Int) := by rw [← hs1]; unfold wrap64; omega
        have r3 : s3 = (((ng + 0) + i : Nat) : Int) := by rw [← hs3, r1]; unfold wrap64; omega
        have r4 : s4 = ((4 * ((ng + 0) + i) : Nat) : Int) := by rw [← hs4, r3]; unfold wrap64; omega
        rw [← hs5, r4]; unfold wrap64; omega
      replace HF := Lib.hid (fun (W : World) (hO : Only (· = w.heap.size) W0 W) => HF.out W hO s5 hs6)
      have HA1 := Lib.hid hs1
      have HA3 := Lib.hid hs3
      have HA4 := Lib.hid hs4
      have HA5 := Lib.hid hs5
      clear hE hE2 e4 e5 HE hvl hxl hs1 hs3 hs4 hs5 hs6 HVV hvv0 HLD
      go_upto_region 20 with (fail)
      have B := True.intro
      have C := True.intro
      have R := True.intro
      refine start_ (n := 16) (S := fun w' => True) (ds := []) #[false, false, false, false, false, false, false, false, false, false, false, false, false, false, false, false] (by kernel_rfl) rfl rfl trivial (fun hHeld => ?_)
      refine with_tabW rlssacktab20 rlssackbits20 (fun HT_ HW_ => ?_)
      refine pure_ (i := 2) (N := some 81) (v := ?_) (a' := ?_) #[false, false, true, false, false, false, false, false, false, false, false, false, false, false, false, false] rfl rfl (any_of HT_.out (by kernel_rfl)) (fun _ _ _ h => h) (Or.inl ⟨by rfl, ?_⟩) ?_ ?_
      rotate_left
      · intro w'
        go_simp
        with_reducible rfl
      rotate_left
      · simp only [Act.put, List.setIfInBounds_toArray, List.set_cons_zero, List.set_cons_succ, i64_w, i32_w]
        rfl
      refine pure_ (i := 3) (N := some 82) (v := ?_) (a' := ?_) #[false, false, true, true, false, false, false, false, false, false, false, false, false, false, false, false] rfl rfl (any_of HT_.out (by kernel_rfl)) (fun _ _ _ h => h) (Or.inl ⟨by rfl, ?_⟩) ?_ ?_
      rotate_left
      · intro w'
        go_simp
        with_reducible rfl
      rotate_left
      · simp only [Act.put, List.setIfInBounds_toArray, List.set_cons_zero, List.set_cons_succ, i64_w, i32_w]
        rfl
      refine pure_ (i := 4) (N := some 83) (v := ?_) (a' := ?_) #[false, false, true, true, true, false, false, false, false, false, false, false, false, false, false, false] rfl rfl (any_of HT_.out (by kernel_rfl)) (fun _ _ _ h => h) (Or.inl ⟨by rfl, ?_⟩) ?_ ?_
      rotate_left
      · intro w'
        go_simp
        with_reducible rfl
      rotate_left
      · simp only [Act.put, List.setIfInBounds_toArray, List.set_cons_zero, List.set_cons_succ, i64_w, i32_w]
        rfl
      refine pure_ (i := 5) (N := some 84) (v := ?_) (a' := ?_) #[false, false, true, true, true, true, false, false, false, false, false, false, false, false, false, false] rfl rfl (any_of HT_.out (by kernel_rfl)) (fun _ _ _ h => h) (Or.inl ⟨by rfl, ?_⟩) ?_ ?_
      rotate_left
      · intro w'
        go_simp
        with_reducible rfl
      rotate_left
      · simp only [Act.put, List.setIfInBounds_toArray, List.set_cons_zero, List.set_cons_succ, i64_w, i32_w]
        rfl
      refine pure_ (i := 7) (N := some 86) (v := ?_) (a' := ?_) #[false, false, true, true, true, true, false, true, false, false, false, false, false, false, false, false] rfl rfl (any_of HT_.out (by kernel_rfl)) (fun _ _ _ h => h) (Or.inl ⟨by rfl, ?_⟩) ?_ ?_
      rotate_left
      · intro w'
        go_simp
        with_reducible rfl
      rotate_left
      · simp only [Act.put, List.setIfInBounds_toArray, List.set_cons_zero, List.set_cons_succ, i64_w, i32_w]
        rfl
      refine inv_at [0, 1, 6, 8, 9, 10, 11, 12, 13, 14, 15] (fun a0_ b a w' => ∃ (g9 : Nat) (v9 : Value) (m12_ : Value), a = putSel a0_ b [(0, 79, .pointer (some ⟨w.heap.size, 12, none⟩)), (1, 80, .slice Av xs.length cv), (6, 85, .int .i64 s1), (8, 87, .int .i64 s3), (9, 88, .int .i64 s4), (10, 89, .int .i64 s5), (11, 90, .int .u32 (q : Int)), (12, 91, m12_), (13, 92, v9), (14, 93, .pointer (some ⟨w.heap.size, 12, none⟩))] ∧ (b 13 = false → Only (· = w.heap.size) W0 w') ∧ (b 13 = false → w'.heap[w.heap.size]? = some (.cells (#[.int .u8 3, .int .u8 0, .int .u32 t1, .int .u16 0, .int .u16 0, .int .u32 0, .int .u32 0, .int .u32 t2, .int .u16 0, .int .u16 0, vg, vn, .slice Av xs.length cv, .slice none 0 0, .slice none 0 0]) 30 (0, 0))) ∧ (b 13 = false → (Kd.int .u32).R 24 w' W0.heap.size (fun _ => True) (.slice Av xs.length cv) (xs)) ∧ (b 12 = true → b 13 = false → ∃ w2, w' = w2.alloc (.cells #[.int .u32 (q : Int)] 24) ∧ g9 = w2.heap.size ∧ Only (· = w.heap.size) W0 w2 ∧ w2.heap[w.heap.size]? = some (.cells (#[.int .u8 3, .int .u8 0, .int .u32 t1, .int .u16 0, .int .u16 0, .int .u32 0, .int .u32 0, .int .u32 t2, .int .u16 0, .int .u16 0, vg, vn, .slice Av xs.length cv, .slice none 0 0, .slice none 0 0]) 30 (0, 0)) ∧ (Kd.int .u32).R 24 w2 W0.heap.size (fun _ => True) (.slice Av xs.length cv) (xs)) ∧ (b 13 = true → b 15 = false → (Kd.int .u32).R 24 w' W0.heap.size (fun _ => True) (v9) (xs ++ [(q : Int)]) ∧ w'.heap[w.heap.size]? = some (.cells (#[.int .u8 3, .int .u8 0, .int .u32 t1, .int .u16 0, .int .u16 0, .int .u32 0, .int .u32 0, .int .u32 t2, .int .u16 0, .int .u16 0, vg, vn, .slice Av xs.length cv, .slice none 0 0, .slice none 0 0]) 30 (0, 0)) ∧ Only (· = w.heap.size) W0 w') ∧ (b 15 = true → (Kd.int .u32).R 24 w' W0.heap.size (fun _ => True) (v9) (xs ++ [(q : Int)]) ∧ w'.heap[w.heap.size]? = some (.cells (#[.int .u8 3, .int .u8 0, .int .u32 t1, .int .u16 0, .int .u16 0, .int .u32 0, .int .u32 0, .int .u32 t2, .int .u16 0, .int .u16 0, vg, vn, v9, .slice none 0 0, .slice none 0 0]) 30 (0, 0)) ∧ Only (· = w.heap.size) W0 w') ∧ (b 12 = true → (m12_ : Value) = .slice (some ⟨g9, 0, none⟩) 1 1)) HT_.out HW_.out (by kernel_rfl) (by kernel_rfl) ?_ ?_ ?_
      · exact ⟨0, undef, .bool false, by simp only [putSel, Bool.false_eq_true, if_false], fun _ => HO.out.drew, fun _ => HC.out, fun _ => HR.out, fun h_ => absurd h_ (by decide), fun h_ => absurd h_ (by decide), fun h_ => absurd h_ (by decide), fun h_ => absurd h_ (by decide)⟩
      · skip
        clear B C R
        refine steps_cons ?_ ?_
        · rintro b a w' ⟨g9, v9, m12_, ha, Q_B, Q_C, Q_R, Q_W2, Q_S1, Q_S2, Q_X12_⟩ hb_ hon hoff
          refine ⟨_, rfl, fun K hK => ?_⟩
          have e2 : a.tmps[2]? = some (.pointer (some ⟨w.heap.size, 0, none⟩)) := by rw [ha]; exact (putSel_off rfl).trans rfl
          replace ha := Aside0.mk ha
          have B := Aside0.mk (Q_B (hoff 13 (by kernel_rfl)))
          have C := Aside0.mk (Q_C (hoff 13 (by kernel_rfl)))
          have R := Aside0.mk (Q_R (hoff 13 (by kernel_rfl)))
          refine value_ (w1 := w') (v := .pointer (some ⟨w.heap.size, 12, none⟩)) (by rfl) rfl ?_ ?_
          · go_simp
            (try simp only [i64_w])
            try rfl
          refine hK.out _ _ ⟨g9, v9, m12_, (by rw [ha.out]; exact putSel_upk 0 hb_ rfl rfl rfl), Q_B, Q_C, Q_R, Q_W2, fun h0_ _ => absurd ((hoff 13 (by kernel_rfl)).symm.trans h0_) (by decide), fun h0_ => absurd ((hoff 15 (by kernel_rfl)).symm.trans h0_) (by decide), Q_X12_⟩
        refine steps_cons ?_ ?_
        · rintro b a w' ⟨g9, v9, m12_, ha, Q_B, Q_C, Q_R, Q_W2, Q_S1, Q_S2, Q_X12_⟩ hb_ hon hoff
          refine ⟨_, rfl, fun K hK => ?_⟩
          have e79 : a.tmps[79]? = some (.pointer (some ⟨w.heap.size, 12, none⟩)) := by rw [ha]; exact putSel_on (e := (0, 79, .pointer (some ⟨w.heap.size, 12, none⟩))) 0 rfl rfl (hon 0 (by kernel_rfl)) rfl
          replace ha := Aside0.mk ha
          have B := Aside0.mk (Q_B (hoff 13 (by kernel_rfl)))
          have C := Aside0.mk (Q_C (hoff 13 (by kernel_rfl)))
          have R := Aside0.mk (Q_R (hoff 13 (by kernel_rfl)))
          have hs := blk_cell C.out 12
          refine value_ (w1 := w') (v := .slice Av xs.length cv) (by rfl) rfl ?_ ?_
          · go_simp
            (try simp only [i64_w])
            try rfl
          refine hK.out _ _ ⟨g9, v9, m12_, (by rw [ha.out]; exact putSel_upk 1 hb_ rfl rfl rfl), Q_B, Q_C, Q_R, Q_W2, fun h0_ _ => absurd ((hoff 13 (by kernel_rfl)).symm.trans h0_) (by decide), fun h0_ => absurd ((hoff 15 (by kernel_rfl)).symm.trans h0_) (by decide), Q_X12_⟩
        refine steps_cons ?_ ?_
        · rintro b a w' ⟨g9, v9, m12_, ha, Q_B, Q_C, Q_R, Q_W2, Q_S1, Q_S2, Q_X12_⟩ hb_ hon hoff
          refine ⟨_, rfl, fun K hK => ?_⟩
          have e83 : a.tmps[83]? = some (.int .i64 (ng : Int)) := by rw [ha]; exact (putSel_off rfl).trans rfl
          have e84 : a.tmps[84]? = some (.int .i64 0) := by rw [ha]; exact (putSel_off rfl).trans rfl
          replace ha := Aside0.mk ha
          have B := Aside0.mk (Q_B (hoff 13 (by kernel_rfl)))
          have C := Aside0.mk (Q_C (hoff 13 (by kernel_rfl)))
          have R := Aside0.mk (Q_R (hoff 13 (by kernel_rfl)))
          have hs := HA1.out
          refine value_ (w1 := w') (v := .int .i64 s1) (by rfl) rfl (by go_simp; simp only [i64_w]; exact hs) ?_
          refine hK.out _ _ ⟨g9, v9, m12_, (by rw [ha.out]; exact putSel_upk 2 hb_ rfl rfl rfl), fun _ => B.out, fun _ => C.out, fun _ => R.out, fun h0_ _ => absurd ((hoff 12 (by kernel_rfl)).symm.trans h0_) (by decide), fun h0_ _ => absurd ((hoff 13 (by kernel_rfl)).symm.trans h0_) (by decide), fun h0_ => absurd ((hoff 15 (by kernel_rfl)).symm.trans h0_) (by decide), fun h0_ => absurd ((hoff 12 (by kernel_rfl)).symm.trans h0_) (by decide)⟩
        refine steps_cons ?_ ?_
        · rintro b a w' ⟨g9, v9, m12_, ha, Q_B, Q_C, Q_R, Q_W2, Q_S1, Q_S2, Q_X12_⟩ hb_ hon hoff
          refine ⟨_, rfl, fun K hK => ?_⟩
          have e85 : a.tmps[85]? = some (.int .i64 s1) := by rw [ha]; exact putSel_on (e := (6, 85, .int .i64 s1)) 2 rfl rfl (hon 6 (by kernel_rfl)) rfl
          have e86 : a.tmps[86]? = some (.int .i64 (i : Int)) := by rw [ha]; exact (putSel_off rfl).trans rfl
          replace ha := Aside0.mk ha
          have B := Aside0.mk (Q_B (hoff 13 (by kernel_rfl)))
          have C := Aside0.mk (Q_C (hoff 13 (by kernel_rfl)))
          have R := Aside0.mk (Q_R (hoff 13 (by kernel_rfl)))
          have hs := HA3.out
          refine value_ (w1 := w') (v := .int .i64 s3) (by rfl) rfl (by go_simp; simp only [i64_w]; exact hs) ?_
          refine hK.out _ _ ⟨g9, v9, m12_, (by rw [ha.out]; exact putSel_upk 3 hb_ rfl rfl rfl), fun _ => B.out, fun _ => C.out, fun _ => R.out, fun h0_ _ => absurd ((hoff 12 (by kernel_rfl)).symm.trans h0_) (by decide), fun h0_ _ => absurd ((hoff 13 (by kernel_rfl)).symm.trans h0_) (by decide), fun h0_ => absurd ((hoff 15 (by kernel_rfl)).symm.trans h0_) (by decide), fun h0_ => absurd ((hoff 12 (by kernel_rfl)).symm.trans h0_) (by decide)⟩
        refine steps_cons ?_ ?_
        · rintro b a w' ⟨g9, v9, m12_, ha, Q_B, Q_C, Q_R, Q_W2, Q_S1, Q_S2, Q_X12_⟩ hb_ hon hoff
          refine ⟨_, rfl, fun K hK => ?_⟩
          have e87 : a.tmps[87]? = some (.int .i64 s3) := by rw [ha]; exact putSel_on (e := (8, 87, .int .i64 s3)) 3 rfl rfl (hon 8 (by kernel_rfl)) rfl
          replace ha := Aside0.mk ha
          have B := Aside0.mk (Q_B (hoff 13 (by kernel_rfl)))
          have C := Aside0.mk (Q_C (hoff 13 (by kernel_rfl)))
          have R := Aside0.mk (Q_R (hoff 13 (by kernel_rfl)))
          have hs := HA4.out
          refine value_ (w1 := w') (v := .int .i64 s4) (by rfl) rfl (by go_simp; simp only [i64_w]; exact hs) ?_
          refine hK.out _ _ ⟨g9, v9, m12_, (by rw [ha.out]; exact putSel_upk 4 hb_ rfl rfl rfl), fun _ => B.out, fun _ => C.out, fun _ => R.out, fun h0_ _ => absurd ((hoff 12 (by kernel_rfl)).symm.trans h0_) (by decide), fun h0_ _ => absurd ((hoff 13 (by kernel_rfl)).symm.trans h0_) (by decide), fun h0_ => absurd ((hoff 15 (by kernel_rfl)).symm.trans h0_) (by decide), fun h0_ => absurd ((hoff 12 (by kernel_rfl)).symm.trans h0_) (by decide)⟩
        refine steps_cons ?_ ?_
        · rintro b a w' ⟨g9, v9, m12_, ha, Q_B, Q_C, Q_R, Q_W2, Q_S1, Q_S2, Q_X12_⟩ hb_ hon hoff
          refine ⟨_, rfl, fun K hK => ?_⟩
          have e82 : a.tmps[82]? = some (.int .i64 12) := by rw [ha]; exact (putSel_off rfl).trans rfl
          have e88 : a.tmps[88]? = some (.int .i64 s4) := by rw [ha]; exact putSel_on (e := (9, 88, .int .i64 s4)) 4 rfl rfl (hon 9 (by kernel_rfl)) rfl
          replace ha := Aside0.mk ha
          have B := Aside0.mk (Q_B (hoff 13 (by kernel_rfl)))
          have C := Aside0.mk (Q_C (hoff 13 (by kernel_rfl)))
          have R := Aside0.mk (Q_R (hoff 13 (by kernel_rfl)))
          have hs := HA5.out
          refine value_ (w1 := w') (v := .int .i64 s5) (by rfl) rfl (by go_simp; simp only [i64_w]; exact hs) ?_
          refine hK.out _ _ ⟨g9, v9, m12_, (by rw [ha.out]; exact putSel_upk 5 hb_ rfl rfl rfl), fun _ => B.out, fun _ => C.out, fun _ => R.out, fun h0_ _ => absurd ((hoff 12 (by kernel_rfl)).symm.trans h0_) (by decide), fun h0_ _ => absurd ((hoff 13 (by kernel_rfl)).symm.trans h0_) (by decide), fun h0_ => absurd ((hoff 15 (by kernel_rfl)).symm.trans h0_) (by decide), fun h0_ => absurd ((hoff 12 (by kernel_rfl)).symm.trans h0_) (by decide)⟩
        refine steps_cons ?_ ?_
        · rintro b a w' ⟨g9, v9, m12_, ha, Q_B, Q_C, Q_R, Q_W2, Q_S1, Q_S2, Q_X12_⟩ hb_ hon hoff
          refine ⟨_, rfl, fun K hK => ?_⟩
          have e81 : a.tmps[81]? = some (.slice A v.length c) := by rw [ha]; exact (putSel_off rfl).trans rfl
          have e89 : a.tmps[89]? = some (.int .i64 s5) := by rw [ha]; exact putSel_on (e := (10, 89, .int .i64 s5)) 5 rfl rfl (hon 10 (by kernel_rfl)) rfl
          replace ha := Aside0.mk ha
          have B := Aside0.mk (Q_B (hoff 13 (by kernel_rfl)))
          have C := Aside0.mk (Q_C (hoff 13 (by kernel_rfl)))
          have R := Aside0.mk (Q_R (hoff 13 (by kernel_rfl)))
          refine goes_ Try.func28 (by kernel_rfl) rfl #[.slice A v.length c, .int .i64 s5, .int .i64 4] (by rfl) rfl rfl (by first | (simp only [List.map_toArray, List.map_cons, List.map_nil, Act.eval, Array.getD_eq_getD_getElem?, Option.getD_some, e81, e89]; done) | (simp only [List.map_toArray, List.map_cons, List.map_nil, Act.eval, Array.getD_eq_getD_getElem?, Option.getD_some, e81, e89]; rfl)) ?_
          refine (HF.out w' B.out).mono ?_
          rintro e w1 ⟨rfl, hD1⟩
          refine ⟨_, rfl, ?_⟩
          refine hK.out _ _ ⟨g9, v9, m12_, (by rw [ha.out]; exact putSel_upk 6 hb_ rfl rfl rfl), fun _ => B.out.trans (Only.of_below (S := fun _ => False) (drawn_below hD1)) (fun _ _ h => h.elim), fun _ => blk_below C.out (drawn_below hD1), fun _ => R_only R.out (Only.of_below (S := fun _ => False) (drawn_below hD1)) (fun _ _ _ h => h), fun h0_ _ => absurd ((hoff 12 (by kernel_rfl)).symm.trans h0_) (by decide), fun h0_ _ => absurd ((hoff 13 (by kernel_rfl)).symm.trans h0_) (by decide), fun h0_ => absurd ((hoff 15 (by kernel_rfl)).symm.trans h0_) (by decide), fun h0_ => absurd ((hoff 12 (by kernel_rfl)).symm.trans h0_) (by decide)⟩
        refine steps_cons ?_ ?_
        · rintro b a w' ⟨g9, v9, m12_, ha, Q_B, Q_C, Q_R, Q_W2, Q_S1, Q_S2, Q_X12_⟩ hb_ hon hoff
          refine ⟨_, rfl, fun K hK => ?_⟩
          have e90 : a.tmps[90]? = some (.int .u32 (q : Int)) := by rw [ha]; exact putSel_on (e := (11, 90, .int .u32 (q : Int))) 6 rfl rfl (hon 11 (by kernel_rfl)) rfl
          replace ha := Aside0.mk ha
          have B := Aside0.mk (Q_B (hoff 13 (by kernel_rfl)))
          have C := Aside0.mk (Q_C (hoff 13 (by kernel_rfl)))
          have R := Aside0.mk (Q_R (hoff 13 (by kernel_rfl)))
          refine value_ (w1 := w'.alloc (.cells #[.int .u32 (q : Int)] 24)) (v := .slice (some ⟨w'.heap.size, 0, none⟩) 1 1) (by rfl) rfl (by go_simp; try rfl) ?_
          refine hK.out _ _ ⟨w'.heap.size, v9, (.slice (some ⟨w'.heap.size, 0, none⟩) 1 1), (by rw [ha.out]; exact putSel_upk 7 hb_ rfl rfl rfl), fun _ => B.out.alloc _, fun _ => blk_alloc C.out _, fun _ => Kd.R_alloc R.out _, fun _ _ => ⟨w', rfl, rfl, B.out, C.out, R.out⟩, fun h0_ _ => absurd ((hoff 13 (by kernel_rfl)).symm.trans h0_) (by decide), fun h0_ => absurd ((hoff 15 (by kernel_rfl)).symm.trans h0_) (by decide), fun _ => rfl⟩
        refine steps_cons ?_ ?_
        · rintro b a w' ⟨g9, v9, m12_, ha, Q_B, Q_C, Q_R, Q_W2, Q_S1, Q_S2, Q_X12_⟩ hb_ hon hoff
          refine ⟨_, rfl, fun K hK => ?_⟩
          have e80 : a.tmps[80]? = some (.slice Av xs.length cv) := by rw [ha]; exact putSel_on (e := (1, 80, .slice Av xs.length cv)) 1 rfl rfl (hon 1 (by kernel_rfl)) rfl
          have e91 : a.tmps[91]? = some (m12_) := by rw [ha]; exact putSel_on (e := (12, 91, m12_)) 7 rfl rfl (hon 12 (by kernel_rfl)) rfl
          rw [Q_X12_ (hon 12 (by kernel_rfl))] at e91
          replace ha := Aside0.mk ha
          have B := Aside0.mk (Q_B hb_)
          have C := Aside0.mk (Q_C hb_)
          have R := Aside0.mk (Q_R hb_)
          have W2 := Aside0.mk (Q_W2 (hon 12 (by kernel_rfl)) hb_)
          obtain ⟨w2, rfl, hg9, hB2, hC2, hR2⟩ := W2.out
          rw [hg9] at e91
          refine Kd.R_append_step (Kd.int .u32) (w0 := w2) (W := w2) W0.heap.size (by rfl) _ _ 27 24 _ 4 rfl Try.underlying27 info24 rfl (by decide) (by decide) (.slice Av xs.length cv) xs (q : Int) [.int .u32 (q : Int)] (fun _ => True) (fun _ => False) (by simp [Act.eval, Array.getD_eq_getD_getElem?, e80]) (by simp [Act.eval, Array.getD_eq_getD_getElem?, e91]) rfl (fun _ h => h.elim) (fun _ _ => trivial) hR2 (Below.refl _ _) hB2.size (by have := HXL.out; omega) ?_
          intro v1 w1 hR1 hB1 hG1 hat1
          have hC3 := (hB1.block w.heap.size HGL2.out).trans hC2
          have hO3 := only_then3 hB2 hB1
          refine hK.out _ _ ⟨g9, v1, m12_, (by rw [ha.out]; exact putSel_upk 8 hb_ rfl rfl rfl), fun h0_ => absurd ((up_self b 13).symm.trans h0_) (by decide), fun h0_ => absurd ((up_self b 13).symm.trans h0_) (by decide), fun h0_ => absurd ((up_self b 13).symm.trans h0_) (by decide), fun _ h1_ => absurd ((up_self b 13).symm.trans h1_) (by decide), fun _ _ => ⟨hR1, hC3, hO3⟩, fun h0_ => absurd ((hoff 15 (by kernel_rfl)).symm.trans h0_) (by decide), Q_X12_⟩
        refine steps_cons ?_ ?_
        · rintro b a w' ⟨g9, v9, m12_, ha, Q_B, Q_C, Q_R, Q_W2, Q_S1, Q_S2, Q_X12_⟩ hb_ hon hoff
          refine ⟨_, rfl, fun K hK => ?_⟩
          have e2 : a.tmps[2]? = some (.pointer (some ⟨w.heap.size, 0, none⟩)) := by rw [ha]; exact (putSel_off rfl).trans rfl
          replace ha := Aside0.mk ha
          have S1 := Aside0.mk (Q_S1 (hon 13 (by kernel_rfl)) (hoff 15 (by kernel_rfl)))
          refine value_ (w1 := w') (v := .pointer (some ⟨w.heap.size, 12, none⟩)) (by rfl) rfl ?_ ?_
          · go_simp
            (try simp only [i64_w])
            try rfl
          refine hK.out _ _ ⟨g9, v9, m12_, (by rw [ha.out]; exact putSel_upk 9 hb_ rfl rfl rfl), fun h0_ => absurd ((hon 13 (by kernel_rfl)).symm.trans h0_) (by decide), fun h0_ => absurd ((hon 13 (by kernel_rfl)).symm.trans h0_) (by decide), fun h0_ => absurd ((hon 13 (by kernel_rfl)).symm.trans h0_) (by decide), fun _ h1_ => absurd ((hon 13 (by kernel_rfl)).symm.trans h1_) (by decide), Q_S1, fun h0_ => absurd ((hoff 15 (by kernel_rfl)).symm.trans h0_) (by decide), Q_X12_⟩
        refine steps_cons ?_ ?_
        · rintro b a w' ⟨g9, v9, m12_, ha, Q_B, Q_C, Q_R, Q_W2, Q_S1, Q_S2, Q_X12_⟩ hb_ hon hoff
          refine ⟨_, rfl, fun K hK => ?_⟩
          have e93 : a.tmps[93]? = some (.pointer (some ⟨w.heap.size, 12, none⟩)) := by rw [ha]; exact putSel_on (e := (14, 93, .pointer (some ⟨w.heap.size, 12, none⟩))) 9 rfl rfl (hon 14 (by kernel_rfl)) rfl
          have e92 : a.tmps[92]? = some (v9) := by rw [ha]; exact putSel_on (e := (13, 92, v9)) 8 rfl rfl (hon 13 (by kernel_rfl)) rfl
          replace ha := Aside0.mk ha
          have S1 := Aside0.mk (Q_S1 (hon 13 (by kernel_rfl)) hb_)
          obtain ⟨hR1, hC1, hO1⟩ := S1.out
          obtain ⟨A7, c7, hv9⟩ := Kd.R_slice hR1
          have hs := blk_cell hC1 12
          have hf := blk_frozen hC1 12
          refine skip_ (w1 := w'.setCell ⟨w.heap.size, 12, none⟩ v9) (by rfl) rfl (by generalize (xs ++ [(q : Int)]).length = zl at hv9; rw [hv9] at e92 ⊢; go_simp; try rfl) ?_
          refine hK.out _ _ ⟨g9, v9, m12_, (by rw [ha.out]; exact putSel_none (v := undef) rfl), fun h0_ => absurd ((hon 13 (by kernel_rfl)).symm.trans h0_) (by decide), fun h0_ => absurd ((hon 13 (by kernel_rfl)).symm.trans h0_) (by decide), fun h0_ => absurd ((hon 13 (by kernel_rfl)).symm.trans h0_) (by decide), fun _ h1_ => absurd ((hon 13 (by kernel_rfl)).symm.trans h1_) (by decide), fun _ h1_ => absurd ((up_self b 15).symm.trans h1_) (by decide), fun _ => ⟨R_only hR1 ((Only.refl (· = w.heap.size) w').setCell (fun _ => rfl) v9) (fun k hk _ e => by have := HGL2.out; omega), blk_put hC1 12 v9 rfl, hO1.setCell (fun _ => rfl) v9⟩, Q_X12_⟩
        exact steps_nil
      rintro b a w' hall ⟨g9, v9, m12_, ha, Q_B, Q_C, Q_R, Q_W2, Q_S1, Q_S2, Q_X12_⟩
      clear B C R
      have hb0_ := hall 0 (by kernel_rfl)
      have hb1_ := hall 1 (by kernel_rfl)
      have hb6_ := hall 6 (by kernel_rfl)
      have hb8_ := hall 8 (by kernel_rfl)
      have hb9_ := hall 9 (by kernel_rfl)
      have hb10_ := hall 10 (by kernel_rfl)
      have hb11_ := hall 11 (by kernel_rfl)
      have hb12_ := hall 12 (by kernel_rfl)
      have hb13_ := hall 13 (by kernel_rfl)
      have hb14_ := hall 14 (by kernel_rfl)
      have hb15_ := hall 15 (by kernel_rfl)
      subst ha
      obtain rfl := Q_X12_ hb12_
      simp only [putSel, hb0_, hb1_, hb6_, hb8_, hb9_, hb10_, hb11_, hb12_, hb13_, hb14_, hb15_, if_true, Act.put, List.setIfInBounds_toArray, List.set_cons_zero, List.set_cons_succ]
      clear Q_B
      clear Q_C
      clear Q_R
      clear Q_W2
      clear Q_S1
      have S2 := Aside0.mk (Q_S2 hb15_)
      clear Q_S2
      clear hall hb0_ hb1_ hb6_ hb8_ hb9_ hb10_ hb11_ hb12_ hb13_ hb14_ hb15_
      obtain ⟨hR9, hC9, hO9⟩ := S2.out
      have HR9 := Lib.hid hR9
      have HC9 := Lib.hid hC9
      have HO9 := Lib.hid hO9
      clear hR9 hC9 hO9 S2 HF HR HC HO HA1 HA3 HA4 HA5
      go_wp2
      go_roundw
      case rel => exact ⟨i + 1, xs ++ [(q : Int)], v9, by omega, by go_num, HR9, HE2, HC9, HO9⟩
      case measure => simp [intOf]; omega
    · obtain rfl : i = nd := by omega
      have hE := HE.out
      rw [Nat.sub_self, dupsD, List.append_nil] at hE
      have HE2 := Lib.hid hE
      have X : Bx w (#[.int .u8 3, .int .u8 0, .int .u32 t1, .int .u16 0, .int .u16 0, .int .u32 0, .int .u32 0, .int .u32 t2, .int .u16 0, .int .u16 0, vg, vn, .slice Av xs.length cv, .slice none 0 0, .slice none 0 0]) wr := ⟨HC.out, HO.out.blk HX.out.x1 (by omega), HX.out.x2.trans (HO.out.below HX.out.x2.size (fun k h => by omega)), Nat.le_trans HX.out.x3 HO.out.size⟩
      have HR9 := Lib.hid (show readLists false 3 0 v = .ok ⟨3, 0, t1, 0, 0, 0, 0, t2, 0, 0, gapsD ng (v.drop 12), gapsD 0 (v.drop (12 + 4 * ng)), xs, [], []⟩ by unfold readLists; rw [HLD.out]; rw [HVV.out, ← HE2.out, ← HT1.out, ← HT2.out])
      have HO1 : (#[.int .u8 3, .int .u8 0, .int .u32 t1, .int .u16 0, .int .u16 0, .int .u32 0, .int .u32 0, .int .u32 t2, .int .u16 0, .int .u16 0, vg, vn, .slice Av xs.length cv, .slice none 0 0, .slice none 0 0] : Array Value).all (·.oneCell') = true := by
        simp [Value.oneCell'] at OV1 OV2 ⊢
        exact ⟨OV1, OV2⟩
      clear hE HE hvl hxl hvv0 HG HLD HVV OV1 OV2
      go_wp2_with (with_reducible refine gate_dst (N := 94) rfl ?_; go_must (refine wpList_ret_row 94 rfl rfl rfl (.tmp 2) (.tmp 4) rfl rfl rfl _ _ _ _ rfl rfl rfl X.x0 X.x1 rfl rfl HO1 ?_))
      refine ret_good rfl rfl rfl rfl X.x1 HR9.out rfl HO1 X.x2 (Nat.le_succ _) (k30_mkM _ _ _ _ ?_ ?_ ?_ (Kd.R_nil _ _ _ _ _) (Kd.R_nil _ _ _ _ _))
      · exact Kd.R_lower (R_only (R_only RG.out HO.out (fun k hk _ h => by omega)) (setRow_only _ _ _) (fun k hk _ h => by omega)) (by omega)
      · exact Kd.R_lower (R_only (R_only RN.out HO.out (fun k hk _ h => by omega)) (setRow_only _ _ _) (fun k hk _ h => by omega)) (by omega)
      · exact Kd.R_lower (R_only HR.out (setRow_only _ _ _) (fun k hk _ h => by have := HX.out.x3; omega)) (by have := HX.out.x3; omega)
def rlsnrT20 : Bool × List (List Nat × List Nat) := (true, [([], []), ([0], [0]), ([], []), ([], []), ([], []), ([], []), ([4, 5], [4, 5]), ([], []), ([6, 7], [6, 7]), ([8], [8]), ([3, 9], [3, 9]), ([2, 10], [2, 10]), ([11], [11]), ([1, 12, 11], [1, 12]), ([0, 1, 2, 3, 4, 5, 6, 7, 8, 9, 10, 11, 12, 13], []), ([14, 13, 13, 0, 1, 2, 3, 4, 5, 6, 7, 8, 9, 10, 11, 12, 13], [13, 14])])
def rlsnrB20 : List Nat := [0, 1, 0, 0, 0, 0, 48, 0, 240, 496, 1016, 2044, 4092, 8191, 16383, 32767]
theorem rlsnrtab20 : Go.Proofs.YtjmadnpicidbeaaW.PrintLast.rtab .any (Go.Proofs.YtjmadnpicidbeaaW.PrintLast.opsOf Try.f54 20) = rlsnrT20 := by kernel_rfl
theorem rlsnrbits20 : Go.Proofs.YtjmadnpicidbeaaW.PrintLast.waitsOk rlsnrT20.2 rlsnrB20 = true := by kernel_rfl
set_option maxHeartbeats 4000000 in
theorem rlists_nr (w : World) (A : Option Addr) (c : Nat) (v : List UInt8) (hb : byte.C w A v.length v) (hc : v.length ≤ c) (hv : v.length ≤ 140737488355232) :
    Calls Try.prog 54 #[.agg (freshV 16 0), .slice A v.length c] w (RReadP w (readLists true 16 0 v)) := by
  have HG := Lib.hid (fun (W : World) (h : Below w.heap.size w W) (at_ n : Nat) (z y : Int) (hz : z = (at_ : Int)) (hy : y = (n : Int)) (hn : n ≤ 4) (hh : at_ + n ≤ v.length) => get_calls W A v c (Kd.C_below hb h) hc (by omega) at_ n z y hz hy hn hh)
  have HBK := Lib.hid (fun (W : World) (h : Below w.heap.size w W) (at_ n : Nat) (z y : Int) (hz : z = (at_ : Int)) (hy : y = (n : Int)) (hn : n ≤ 4096) (hh : at_ + 4 * n ≤ v.length) => blocks_calls W A v c (Kd.C_below hb h) hc (by omega) at_ n z y hz hy hn hh)
  have HO := fresh_one 16 0
  have X := Bx.new w (freshV 16 0)
  clear hb
  go_enter Try.func54, Try.ntmps54
  go_upto_region 1 with (fail)
  refine wp_gen (Bx w (freshV 16 0)) X ?_
  clear X
  intro W X
  have k0 : W.cell? ⟨w.heap.size, 0, none⟩ = some (.int .u8 16) := X.cell 0
  by_cases hlt : v.length < 16
  · have HR := Lib.hid (show readLists true 16 0 v = .error 61 by unfold readLists listsD; rw [if_pos (by simp; omega)])
    go_wp2_with (with_reducible refine gate_dst (N := 20) rfl ?_; go_must (refine wpList_ret_row 20 rfl rfl rfl (.tmp 2) (.tmp 4) rfl rfl rfl _ _ _ _ rfl rfl rfl X.x0 X.x1 rfl rfl HO ?_))
    exact ret_bad rfl rfl rfl rfl X.x1 HR.out rfl HO X.x2 (Nat.le_succ _)
  have hbg := be_two_lt (v.drop 8)
  have hbn := be_two_lt (v.drop 10)
  have hbd := be_two_lt (v.drop 12)
  go_wp2_with fail
  refine (HG.out _ X.x2 8 2 _ _ rfl rfl (by decide) (by omega)).mono ?_
  rintro e w1 ⟨rfl, ⟨m0, rfl⟩⟩
  go_wp2_with fail
  refine (HG.out _ (pw_below_drewN X.x2 _) 10 2 _ _ rfl rfl (by decide) (by omega)).mono ?_
  rintro e w1 ⟨rfl, ⟨m1, rfl⟩⟩
  go_wp2_with fail
  refine (HG.out _ (pw_below_drewN X.x2 _) 12 2 _ _ rfl rfl (by decide) (by omega)).mono ?_
  rintro e w1 ⟨rfl, ⟨m2, rfl⟩⟩
  go_upto_region 10 with (fail)
  have HLD := Lib.hid (show listsD true v = _ from by unfold listsD; rw [if_neg (by simp; omega)])
  simp only [if_true, if_false, Bool.false_eq_true] at HLD
  obtain ⟨ng, hng⟩ : ∃ ng, be ((v.drop 8).take 2) = ng := ⟨_, rfl⟩
  obtain ⟨nd, hnd⟩ : ∃ nd, be ((v.drop 12).take 2) = nd := ⟨_, rfl⟩
  obtain ⟨nn, hnn⟩ : ∃ nn, be ((v.drop 10).take 2) = nn := ⟨_, rfl⟩
  rw [hnn] at HLD hbn ⊢
  clear hnn
  rw [hng] at HLD hbg ⊢
  rw [hnd] at HLD hbd ⊢
  clear hng hnd
  have hnot : ¬ (4096 < ng ∨ 4096 < nn ∨ 4096 < nd) → True := fun _ => trivial
  clear hnot
  by_cases hbig : 4096 < ng ∨ 4096 < nn ∨ 4096 < nd
  · rw [if_pos hbig] at HLD
    have HR := Lib.hid (show readLists true 16 0 v = .error 3 by unfold readLists; rw [HLD.out])
    have X := X.drewN (m0 + m1 + m2)
    go_wp2_with (with_reducible refine gate_dst (N := 42) rfl ?_; go_must (refine wpList_ret_row 42 rfl rfl rfl (.tmp 2) (.tmp 4) rfl rfl rfl _ _ _ _ rfl rfl rfl X.x0 X.x1 rfl rfl HO ?_))
    all_goals first | (exfalso; omega) | exact ret_bad rfl rfl rfl rfl X.x1 HR.out rfl HO X.x2 (Nat.le_succ _)
  rw [if_neg hbig] at HLD
  by_cases hlen : v.length ≠ 16 + 4 * (ng + nn + nd)
  · rw [if_pos hlen] at HLD
    have HR := Lib.hid (show readLists true 16 0 v = .error 61 by unfold readLists; rw [HLD.out])
    have q1 : decide ((4096 : Int) < (ng : Int)) = false := by simp; omega
    have q3 : decide ((4096 : Int) < (nd : Int)) = false := by simp; omega
    have HLN := Lib.hid hlen
    have X := X.drewN (m0 + m1 + m2)
    go_wp2_with (with_reducible refine gate_dst (N := 54) rfl ?_; go_must (refine wpList_ret_row 54 rfl rfl rfl (.tmp 2) (.tmp 4) rfl rfl rfl _ _ _ _ rfl rfl rfl X.x0 X.x1 rfl rfl HO ?_))
    all_goals first | (exfalso; omega) | exact ret_bad rfl rfl rfl rfl X.x1 HR.out rfl HO X.x2 (Nat.le_succ _)
  rw [if_neg hlen] at HLD
  have hlen3 : v.length = 16 + 4 * (ng + nn + nd) := Decidable.byContradiction fun h => hlen h
  have HL3 := Lib.hid hlen3
  have hg4 : ng ≤ 4096 := by omega
  have hd4 : nd ≤ 4096 := by omega
  have q4 : ((v.length : Int) != 16 + 4 * ((ng : Int) + (nn : Int) + (nd : Int))) = false := by simp; omega
  have hn4 : nn ≤ 4096 := by omega
  clear hlen hlen3 hbig hbg hbd hbn
  go_wp2_with fail
  refine (HG.out _ (pw_below_drewN X.x2 _) 0 4 _ _ rfl rfl (by decide) (by omega)).mono ?_
  rintro e w1 ⟨rfl, ⟨m8, rfl⟩⟩
  have k2 : W.cell? ⟨w.heap.size, 2, none⟩ = some (.int .u32 0) := X.cell 2
  have f2 := X.frozen 2
  have k7 : W.cell? ⟨w.heap.size, 7, none⟩ = some (.int .u32 0) := X.cell 7
  have f7 := X.frozen 7
  go_wp2_with fail
  refine (HG.out _ (pw_below_drewN X.x2 _) 4 4 _ _ rfl rfl (by decide) (by omega)).mono ?_
  rintro e w1 ⟨rfl, ⟨m9, rfl⟩⟩
  go_upto_region 15 with (fail)
  refine wp_gen (Bx w (#[.int .u8 16, .int .u8 0, .int .u32 ((be (v.take 4) : Nat) : Int), .int .u16 0, .int .u16 0, .int .u32 0, .int .u32 0, .int .u32 ((be ((v.drop 4).take 4) : Nat) : Int), .int .u16 0, .int .u16 0, .slice none 0 0, .slice none 0 0, .slice none 0 0, .slice none 0 0, .slice none 0 0])) (((X.drewN _).set 2 _).set 7 _) ?_
  clear X k2 k7 f2 f7 k0 HO W
  intro W X
  obtain ⟨t1, ht1⟩ : ∃ t1 : Int, ((be (v.take 4) : Nat) : Int) = t1 := ⟨_, rfl⟩
  obtain ⟨t2, ht2⟩ : ∃ t2 : Int, ((be ((v.drop 4).take 4) : Nat) : Int) = t2 := ⟨_, rfl⟩
  rw [ht1, ht2] at X
  have HT1 := Lib.hid ht1
  have HT2 := Lib.hid ht2
  clear ht1 ht2
  have HWZ := Lib.hid X.x3
  go_wp2_with fail
  refine (HBK.out _ X.x2 16 ng _ _ rfl rfl hg4 (by have := HL3.out; omega)).mono ?_
  rintro e w1 ⟨vg, rfl, hG, hB⟩
  obtain ⟨Ag, cg, rfl⟩ := Kd.R_slice hG
  have Y := X.below hB
  replace hG := Kd.R_lower hG HWZ.out
  have k10 : w1.cell? ⟨w.heap.size, 10, none⟩ = some (.slice none 0 0) := Y.cell 10
  have f10 := Y.frozen 10
  clear X hB
  go_upto_region 16 with (fail)
  have OV1 : (Value.slice Ag (gapsD ng (v.drop 16)).length cg).oneCell' = true := rfl
  generalize Value.slice Ag (gapsD ng (v.drop 16)).length cg = vg at *
  refine wp_gen (fun W' => Bx w (#[.int .u8 16, .int .u8 0, .int .u32 t1, .int .u16 0, .int .u16 0, .int .u32 0, .int .u32 0, .int .u32 t2, .int .u16 0, .int .u16 0, vg, .slice none 0 0, .slice none 0 0, .slice none 0 0, .slice none 0 0]) W' ∧ Kd.R k83 83 W' (w.heap.size + 2) (fun _ => True) vg (gapsD ng (v.drop 16))) ⟨Y.set 10 _, R_only hG ((Only.refl (· = w.heap.size) _).setCell (fun _ => rfl) _) (fun k hk _ h => by omega)⟩ ?_
  clear Y hG k10 f10 HWZ W
  rintro W ⟨X, hG0⟩
  have RG := Lib.hid hG0
  clear hG0
  have HWZ := Lib.hid X.x3
  go_wp2_with fail
  refine (HBK.out _ X.x2 (16 + 4 * ng) nn _ _ (by omega) rfl hn4 (by have := HL3.out; omega)).mono ?_
  rintro e w2 ⟨vn, rfl, hN, hB⟩
  obtain ⟨An, cn, rfl⟩ := Kd.R_slice hN
  have Y := X.below hB
  replace hN := Kd.R_lower hN HWZ.out
  have hG := R_only RG.out (Only.of_below (S := fun _ => False) hB) (fun _ _ _ h => h)
  have k11 : w2.cell? ⟨w.heap.size, 11, none⟩ = some (.slice none 0 0) := Y.cell 11
  have f11 := Y.frozen 11
  clear X hB RG
  go_upto_region 17 with (fail)
  have OV2 : (Value.slice An (gapsD nn (v.drop (16 + 4 * ng))).length cn).oneCell' = true := rfl
  generalize Value.slice An (gapsD nn (v.drop (16 + 4 * ng))).length cn = vn at *
  refine wp_gen (fun W' => Bx w (#[.int .u8 16, .int .u8 0, .int .u32 t1, .int .u16 0, .int .u16 0, .int .u32 0, .int .u32 0, .int .u32 t2, .int .u16 0, .int .u16 0, vg, vn, .slice none 0 0, .slice none 0 0, .slice none 0 0]) W' ∧ Kd.R k83 83 W' (w.heap.size + 2) (fun _ => True) vg (gapsD ng (v.drop 16)) ∧ Kd.R k83 83 W' (w.heap.size + 2) (fun _ => True) vn (gapsD nn (v.drop (16 + 4 * ng)))) ⟨Y.set 11 _, R_only hG ((Only.refl (· = w.heap.size) _).setCell (fun _ => rfl) _) (fun k hk _ h => by omega), R_only hN ((Only.refl (· = w.heap.size) _).setCell (fun _ => rfl) _) (fun k hk _ h => by omega)⟩ ?_
  clear Y hG hN k11 f11 HWZ W
  rintro W0 ⟨X, hG, hN⟩
  have HX := Lib.hid X
  have RG := Lib.hid hG
  have RN := Lib.hid hN
  clear X hG hN HBK
  obtain ⟨vv0, hvv0⟩ : ∃ vv0, v.drop (16 + 4 * (ng + nn)) = vv0 := ⟨_, rfl⟩
  have hvl : vv0.length = 4 * nd := by rw [← hvv0, List.length_drop]; have := HL3.out; omega
  have HVV := Lib.hid hvv0
  have HGL2 := Lib.hid (show w.heap.size < W0.heap.size by have := HX.out.x3; omega)
  go_wp2
  go_loopw [11] (fun v11 wr => ∃ (i : Nat) (xs : List Int) (vd : Value), i ≤ nd ∧ v11 = .int .i64 (i : Int) ∧ Hid ((Kd.int .u32).R 24 wr W0.heap.size (fun _ => True) vd xs) ∧ Hid (xs ++ dupsD (nd - i) (vv0.drop (4 * i)) = dupsD nd vv0) ∧ Hid (wr.heap[w.heap.size]? = some (.cells (#[.int .u8 16, .int .u8 0, .int .u32 t1, .int .u16 0, .int .u16 0, .int .u32 0, .int .u32 0, .int .u32 t2, .int .u16 0, .int .u16 0, vg, vn, vd, .slice none 0 0, .slice none 0 0]) 30 (0, 0))) ∧ Hid (Only (· = w.heap.size) W0 wr)) (fun v11 _ => nd - (intOf v11).toNat)
  case atStart => exact ⟨0, [], .slice none 0 0, Nat.zero_le _, rfl, Kd.R_nil _ _ _ _ _, rfl, HX.out.x0, Only.refl _ _⟩
  case round =>
    obtain ⟨i, xs, vd, hi, rfl, HR, HE, HC, HO⟩ := hrel
    obtain ⟨Av, cv, rfl⟩ := Kd.R_slice HR.out
    have hxl : xs.length ≤ 4096 := by
      have := congrArg List.length HE.out
      rw [List.length_append, dupsD_length, dupsD_length] at this
      omega
    have HXL := Lib.hid hxl
    by_cases hlt2 : i < nd
    · have hE := HE.out
      rw [show nd - i = (nd - (i + 1)) + 1 by omega, dupsD] at hE
      have e4 : (vv0.drop (4 * i)).drop 4 = vv0.drop (4 * (i + 1)) := by rw [List.drop_drop]; congr 1
      have hE2 : (xs ++ [(be ((vv0.drop (4 * i)).take 4) : Int)]) ++ dupsD (nd - (i + 1)) (vv0.drop (4 * (i + 1))) = dupsD nd vv0 := by rw [List.append_assoc, ← e4]; exact hE
      have e5 : v.drop (16 + 4 * ((ng + nn) + i)) = vv0.drop (4 * i) := by rw [← HVV.out, List.drop_drop]; congr 1; omega
      have HF := Lib.hid (fun (W : World) (hO : Only (· = w.heap.size) W0 W) (z : Int) (hz : z = ((16 + 4 * ((ng + nn) + i) : Nat) : Int)) => HG.out W (HX.out.x2.trans (hO.below HX.out.x2.size (fun k h => by omega))) (16 + 4 * ((ng + nn) + i)) 4 z 4 hz rfl (by decide) (by have := HL3.out; omega))
      rw [e5] at HF
      generalize be ((vv0.drop (4 * i)).take 4) = q at *
      have HE2 := Lib.hid hE2
      obtain ⟨s1, hs1⟩ : ∃ s1 : Int, wrap64 ((ng : Int) + (nn : Int)) = s1 := ⟨_, rfl⟩
      obtain ⟨s3, hs3⟩ : ∃ s3 : Int, wrap64 (s1 + (i : Int)) = s3 := ⟨_, rfl⟩
      obtain ⟨s4, hs4⟩ : ∃ s4 : Int, wrap64 (4 * s3) = s4 := ⟨_, rfl⟩
      obtain ⟨s5, hs5⟩ : ∃ s5 : Int, wrap64 (16 + s4) = s5 := ⟨_, rfl⟩
      have hs6 : s5 = ((16 + 4 * ((ng + nn) + i) : Nat) : Int) := by
        have r1 : s1 = (((ng + nn) : Nat) : Int) := by rw [← hs1]; unfold wrap64; omega
        have r3 : s3 = (((ng + nn) + i : Nat) : Int) := by rw [← hs3, r1]; unfold wrap64; omega
        have r4 : s4 = ((4 * ((ng + nn) + i) : Nat) : Int) := by rw [← hs4, r3]; unfold wrap64; omega
        rw [← hs5, r4]; unfold wrap64; omega
      replace HF := Lib.hid (fun (W : World) (hO : Only (· = w.heap.size) W0 W) => HF.out W hO s5 hs6)
      have HA1 := Lib.hid hs1
      have HA3 := Lib.hid hs3
      have HA4 := Lib.hid hs4
      have HA5 := Lib.hid hs5
      clear hE hE2 e4 e5 HE hvl hxl hs1 hs3 hs4 hs5 hs6 HVV hvv0 HLD
      go_upto_region 20 with (fail)
      have B := True.intro
      have C := True.intro
      have R := True.intro
      refine start_ (n := 16) (S := fun w' => True) (ds := []) #[false, false, false, false, false, false, false, false, false, false, false, false, false, false, false, false] (by kernel_rfl) rfl rfl trivial (fun hHeld => ?_)
      refine with_tabW rlsnrtab20 rlsnrbits20 (fun HT_ HW_ => ?_)
      refine pure_ (i := 2) (N := some 81) (v := ?_) (a' := ?_) #[false, false, true, false, false, false, false, false, false, false, false, false, false, false, false, false] rfl rfl (any_of HT_.out (by kernel_rfl)) (fun _ _ _ h => h) (Or.inl ⟨by rfl, ?_⟩) ?_ ?_
      rotate_left
      · intro w'
        go_simp
        with_reducible rfl
      rotate_left
      · simp only [Act.put, List.setIfInBounds_toArray, List.set_cons_zero, List.set_cons_succ, i64_w, i32_w]
        rfl
      refine pure_ (i := 3) (N := some 82) (v := ?_) (a' := ?_) #[false, false, true, true, false, false, false, false, false, false, false, false, false, false, false, false] rfl rfl (any_of HT_.out (by kernel_rfl)) (fun _ _ _ h => h) (Or.inl ⟨by rfl, ?_⟩) ?_ ?_
      rotate_left
      · intro w'
        go_simp
        with_reducible rfl
      rotate_left
      · simp only [Act.put, List.setIfInBounds_toArray, List.set_cons_zero, List.set_cons_succ, i64_w, i32_w]
        rfl
      refine pure_ (i := 4) (N := some 83) (v := ?_) (a' := ?_) #[false, false, true, true, true, false, false, false, false, false, false, false, false, false, false, false] rfl rfl (any_of HT_.out (by kernel_rfl)) (fun _ _ _ h => h) (Or.inl ⟨by rfl, ?_⟩) ?_ ?_
      rotate_left
      · intro w'
        go_simp
        with_reducible rfl
      rotate_left
      · simp only [Act.put, List.setIfInBounds_toArray, List.set_cons_zero, List.set_cons_succ, i64_w, i32_w]
        rfl
      refine pure_ (i := 5) (N := some 84) (v := ?_) (a' := ?_) #[false, false, true, true, true, true, false, false, false, false, false, false, false, false, false, false] rfl rfl (any_of HT_.out (by kernel_rfl)) (fun _ _ _ h => h) (Or.inl ⟨by rfl, ?_⟩) ?_ ?_
      rotate_left
      · intro w'
        go_simp
        with_reducible rfl
      rotate_left
      · simp only [Act.put, List.setIfInBounds_toArray, List.set_cons_zero, List.set_cons_succ, i64_w, i32_w]
        rfl
      refine pure_ (i := 7) (N := some 86) (v := ?_) (a' := ?_) #[false, false, true, true, true, true, false, true, false, false, false, false, false, false, false, false] rfl rfl (any_of HT_.out (by kernel_rfl)) (fun _ _ _ h => h) (Or.inl ⟨by rfl, ?_⟩) ?_ ?_
      rotate_left
      · intro w'
        go_simp
        with_reducible rfl
      rotate_left
      · simp only [Act.put, List.setIfInBounds_toArray, List.set_cons_zero, List.set_cons_succ, i64_w, i32_w]
        rfl
      refine inv_at [0, 1, 6, 8, 9, 10, 11, 12, 13, 14, 15] (fun a0_ b a w' => ∃ (g9 : Nat) (v9 : Value) (m12_ : Value), a = putSel a0_ b [(0, 79, .pointer (some ⟨w.heap.size, 12, none⟩)), (1, 80, .slice Av xs.length cv), (6, 85, .int .i64 s1), (8, 87, .int .i64 s3), (9, 88, .int .i64 s4), (10, 89, .int .i64 s5), (11, 90, .int .u32 (q : Int)), (12, 91, m12_), (13, 92, v9), (14, 93, .pointer (some ⟨w.heap.size, 12, none⟩))] ∧ (b 13 = false → Only (· = w.heap.size) W0 w') ∧ (b 13 = false → w'.heap[w.heap.size]? = some (.cells (#[.int .u8 16, .int .u8 0, .int .u32 t1, .int .u16 0, .int .u16 0, .int .u32 0, .int .u32 0, .int .u32 t2, .int .u16 0, .int .u16 0, vg, vn, .slice Av xs.length cv, .slice none 0 0, .slice none 0 0]) 30 (0, 0))) ∧ (b 13 = false → (Kd.int .u32).R 24 w' W0.heap.size (fun _ => True) (.slice Av xs.length cv) (xs)) ∧ (b 12 = true → b 13 = false → ∃ w2, w' = w2.alloc (.cells #[.int .u32 (q : Int)] 24) ∧ g9 = w2.heap.size ∧ Only (· = w.heap.size) W0 w2 ∧ w2.heap[w.heap.size]? = some (.cells (#[.int .u8 16, .int .u8 0, .int .u32 t1, .int .u16 0, .int .u16 0, .int .u32 0, .int .u32 0, .int .u32 t2, .int .u16 0, .int .u16 0, vg, vn, .slice Av xs.length cv, .slice none 0 0, .slice none 0 0]) 30 (0, 0)) ∧ (Kd.int .u32).R 24 w2 W0.heap.size (fun _ => True) (.slice Av xs.length cv) (xs)) ∧ (b 13 = true → b 15 = false → (Kd.int .u32).R 24 w' W0.heap.size (fun _ => True) (v9) (xs ++ [(q : Int)]) ∧ w'.heap[w.heap.size]? = some (.cells (#[.int .u8 16, .int .u8 0, .int .u32 t1, .int .u16 0, .int .u16 0, .int .u32 0, .int .u32 0, .int .u32 t2, .int .u16 0, .int .u16 0, vg, vn, .slice Av xs.length cv, .slice none 0 0, .slice none 0 0]) 30 (0, 0)) ∧ Only (· = w.heap.size) W0 w') ∧ (b 15 = true → (Kd.int .u32).R 24 w' W0.heap.size (fun _ => True) (v9) (xs ++ [(q : Int)]) ∧ w'.heap[w.heap.size]? = some (.cells (#[.int .u8 16, .int .u8 0, .int .u32 t1, .int .u16 0, .int .u16 0, .int .u32 0, .int .u32 0, .int .u32 t2, .int .u16 0, .int .u16 0, vg, vn, v9, .slice none 0 0, .slice none 0 0]) 30 (0, 0)) ∧ Only (· = w.heap.size) W0 w') ∧ (b 12 = true → (m12_ : Value) = .slice (some ⟨g9, 0, none⟩) 1 1)) HT_.out HW_.out (by kernel_rfl) (by kernel_rfl) ?_ ?_ ?_
      · exact ⟨0, undef, .bool false, by simp only [putSel, Bool.false_eq_true, if_false], fun _ => HO.out.drew, fun _ => HC.out, fun _ => HR.out, fun h_ => absurd h_ (by decide), fun h_ => absurd h_ (by decide), fun h_ => absurd h_ (by decide), fun h_ => absurd h_ (by decide)⟩
      · skip
        clear B C R
        refine steps_cons ?_ ?_
        · rintro b a w' ⟨g9, v9, m12_, ha, Q_B, Q_C, Q_R, Q_W2, Q_S1, Q_S2, Q_X12_⟩ hb_ hon hoff
          refine ⟨_, rfl, fun K hK => ?_⟩
          have e2 : a.tmps[2]? = some (.pointer (some ⟨w.heap.size, 0, none⟩)) := by rw [ha]; exact (putSel_off rfl).trans rfl
          replace ha := Aside0.mk ha
          have B := Aside0.mk (Q_B (hoff 13 (by kernel_rfl)))
          have C := Aside0.mk (Q_C (hoff 13 (by kernel_rfl)))
          have R := Aside0.mk (Q_R (hoff 13 (by kernel_rfl)))
          refine value_ (w1 := w') (v := .pointer (some ⟨w.heap.size, 12, none⟩)) (by rfl) rfl ?_ ?_
          · go_simp
            (try simp only [i64_w])
            try rfl
          refine hK.out _ _ ⟨g9, v9, m12_, (by rw [ha.out]; exact putSel_upk 0 hb_ rfl rfl rfl), Q_B, Q_C, Q_R, Q_W2, fun h0_ _ => absurd ((hoff 13 (by kernel_rfl)).symm.trans h0_) (by decide), fun h0_ => absurd ((hoff 15 (by kernel_rfl)).symm.trans h0_) (by decide), Q_X12_⟩
        refine steps_cons ?_ ?_
        · rintro b a w' ⟨g9, v9, m12_, ha, Q_B, Q_C, Q_R, Q_W2, Q_S1, Q_S2, Q_X12_⟩ hb_ hon hoff
          refine ⟨_, rfl, fun K hK => ?_⟩
          have e79 : a.tmps[79]? = some (.pointer (some ⟨w.heap.size, 12, none⟩)) := by rw [ha]; exact putSel_on (e := (0, 79, .pointer (some ⟨w.heap.size, 12, none⟩))) 0 rfl rfl (hon 0 (by kernel_rfl)) rfl
          replace ha := Aside0.mk ha
          have B := Aside0.mk (Q_B (hoff 13 (by kernel_rfl)))
          have C := Aside0.mk (Q_C (hoff 13 (by kernel_rfl)))
          have R := Aside0.mk (Q_R (hoff 13 (by kernel_rfl)))
          have hs := blk_cell C.out 12
          refine value_ (w1 := w') (v := .slice Av xs.length cv) (by rfl) rfl ?_ ?_
          · go_simp
            (try simp only [i64_w])
            try rfl
          refine hK.out _ _ ⟨g9, v9, m12_, (by rw [ha.out]; exact putSel_upk 1 hb_ rfl rfl rfl), Q_B, Q_C, Q_R, Q_W2, fun h0_ _ => absurd ((hoff 13 (by kernel_rfl)).symm.trans h0_) (by decide), fun h0_ => absurd ((hoff 15 (by kernel_rfl)).symm.trans h0_) (by decide), Q_X12_⟩
        refine steps_cons ?_ ?_
        · rintro b a w' ⟨g9, v9, m12_, ha, Q_B, Q_C, Q_R, Q_W2, Q_S1, Q_S2, Q_X12_⟩ hb_ hon hoff
          refine ⟨_, rfl, fun K hK => ?_⟩
          have e83 : a.tmps[83]? = some (.int .i64 (ng : Int)) := by rw [ha]; exact (putSel_off rfl).trans rfl
          have e84 : a.tmps[84]? = some (.int .i64 (nn : Int)) := by rw [ha]; exact (putSel_off rfl).trans rfl
          replace ha := Aside0.mk ha
          have B := Aside0.mk (Q_B (hoff 13 (by kernel_rfl)))
          have C := Aside0.mk (Q_C (hoff 13 (by kernel_rfl)))
          have R := Aside0.mk (Q_R (hoff 13 (by kernel_rfl)))
          have hs := HA1.out
          refine value_ (w1 := w') (v := .int .i64 s1) (by rfl) rfl (by go_simp; simp only [i64_w]; exact hs) ?_
          refine hK.out _ _ ⟨g9, v9, m12_, (by rw [ha.out]; exact putSel_upk 2 hb_ rfl rfl rfl), fun _ => B.out, fun _ => C.out, fun _ => R.out, fun h0_ _ => absurd ((hoff 12 (by kernel_rfl)).symm.trans h0_) (by decide), fun h0_ _ => absurd ((hoff 13 (by kernel_rfl)).symm.trans h0_) (by decide), fun h0_ => absurd ((hoff 15 (by kernel_rfl)).symm.trans h0_) (by decide), fun h0_ => absurd ((hoff 12 (by kernel_rfl)).symm.trans h0_) (by decide)⟩
        refine steps_cons ?_ ?_
        · rintro b a w' ⟨g9, v9, m12_, ha, Q_B, Q_C, Q_R, Q_W2, Q_S1, Q_S2, Q_X12_⟩ hb_ hon hoff
          refine ⟨_, rfl, fun K hK => ?_⟩
          have e85 : a.tmps[85]? = some (.int .i64 s1) := by rw [ha]; exact putSel_on (e := (6, 85, .int .i64 s1)) 2 rfl rfl (hon 6 (by kernel_rfl)) rfl
          have e86 : a.tmps[86]? = some (.int .i64 (i : Int)) := by rw [ha]; exact (putSel_off rfl).trans rfl
          replace ha := Aside0.mk ha
          have B := Aside0.mk (Q_B (hoff 13 (by kernel_rfl)))
          have C := Aside0.mk (Q_C (hoff 13 (by kernel_rfl)))
          have R := Aside0.mk (Q_R (hoff 13 (by kernel_rfl)))
          have hs := HA3.out
          refine value_ (w1 := w') (v := .int .i64 s3) (by rfl) rfl (by go_simp; simp only [i64_w]; exact hs) ?_
          refine hK.out _ _ ⟨g9, v9, m12_, (by rw [ha.out]; exact putSel_upk 3 hb_ rfl rfl rfl), fun _ => B.out, fun _ => C.out, fun _ => R.out, fun h0_ _ => absurd ((hoff 12 (by kernel_rfl)).symm.trans h0_) (by decide), fun h0_ _ => absurd ((hoff 13 (by kernel_rfl)).symm.trans h0_) (by decide), fun h0_ => absurd ((hoff 15 (by kernel_rfl)).symm.trans h0_) (by decide), fun h0_ => absurd ((hoff 12 (by kernel_rfl)).symm.trans h0_) (by decide)⟩
        refine steps_cons ?_ ?_
        · rintro b a w' ⟨g9, v9, m12_, ha, Q_B, Q_C, Q_R, Q_W2, Q_S1, Q_S2, Q_X12_⟩ hb_ hon hoff
          refine ⟨_, rfl, fun K hK => ?_⟩
          have e87 : a.tmps[87]? = some (.int .i64 s3) := by rw [ha]; exact putSel_on (e := (8, 87, .int .i64 s3)) 3 rfl rfl (hon 8 (by kernel_rfl)) rfl
          replace ha := Aside0.mk ha
          have B := Aside0.mk (Q_B (hoff 13 (by kernel_rfl)))
          have C := Aside0.mk (Q_C (hoff 13 (by kernel_rfl)))
          have R := Aside0.mk (Q_R (hoff 13 (by kernel_rfl)))
          have hs := HA4.out
          refine value_ (w1 := w') (v := .int .i64 s4) (by rfl) rfl (by go_simp; simp only [i64_w]; exact hs) ?_
          refine hK.out _ _ ⟨g9, v9, m12_, (by rw [ha.out]; exact putSel_upk 4 hb_ rfl rfl rfl), fun _ => B.out, fun _ => C.out, fun _ => R.out, fun h0_ _ => absurd ((hoff 12 (by kernel_rfl)).symm.trans h0_) (by decide), fun h0_ _ => absurd ((hoff 13 (by kernel_rfl)).symm.trans h0_) (by decide), fun h0_ => absurd ((hoff 15 (by kernel_rfl)).symm.trans h0_) (by decide), fun h0_ => absurd ((hoff 12 (by kernel_rfl)).symm.trans h0_) (by decide)⟩
        refine steps_cons ?_ ?_
        · rintro b a w' ⟨g9, v9, m12_, ha, Q_B, Q_C, Q_R, Q_W2, Q_S1, Q_S2, Q_X12_⟩ hb_ hon hoff
          refine ⟨_, rfl, fun K hK => ?_⟩
          have e82 : a.tmps[82]? = some (.int .i64 16) := by rw [ha]; exact (putSel_off rfl).trans rfl
          have e88 : a.tmps[88]? = some (.int .i64 s4) := by rw [ha]; exact putSel_on (e := (9, 88, .int .i64 s4)) 4 rfl rfl (hon 9 (by kernel_rfl)) rfl
          replace ha := Aside0.mk ha
          have B := Aside0.mk (Q_B (hoff 13 (by kernel_rfl)))
          have C := Aside0.mk (Q_C (hoff 13 (by kernel_rfl)))
          have R := Aside0.mk (Q_R (hoff 13 (by kernel_rfl)))
          have hs := HA5.out
          refine value_ (w1 := w') (v := .int .i64 s5) (by rfl) rfl (by go_simp; simp only [i64_w]; exact hs) ?_
          refine hK.out _ _ ⟨g9, v9, m12_, (by rw [ha.out]; exact putSel_upk 5 hb_ rfl rfl rfl), fun _ => B.out, fun _ => C.out, fun _ => R.out, fun h0_ _ => absurd ((hoff 12 (by kernel_rfl)).symm.trans h0_) (by decide), fun h0_ _ => absurd ((hoff 13 (by kernel_rfl)).symm.trans h0_) (by decide), fun h0_ => absurd ((hoff 15 (by kernel_rfl)).symm.trans h0_) (by decide), fun h0_ => absurd ((hoff 12 (by kernel_rfl)).symm.trans h0_) (by decide)⟩
        refine steps_cons ?_ ?_
        · rintro b a w' ⟨g9, v9, m12_, ha, Q_B, Q_C, Q_R, Q_W2, Q_S1, Q_S2, Q_X12_⟩ hb_ hon hoff
          refine ⟨_, rfl, fun K hK => ?_⟩
          have e81 : a.tmps[81]? = some (.slice A v.length c) := by rw [ha]; exact (putSel_off rfl).trans rfl
          have e89 : a.tmps[89]? = some (.int .i64 s5) := by rw [ha]; exact putSel_on (e := (10, 89, .int .i64 s5)) 5 rfl rfl (hon 10 (by kernel_rfl)) rfl
          replace ha := Aside0.mk ha
          have B := Aside0.mk (Q_B (hoff 13 (by kernel_rfl)))
          have C := Aside0.mk (Q_C (hoff 13 (by kernel_rfl)))
          have R := Aside0.mk (Q_R (hoff 13 (by kernel_rfl)))
          refine goes_ Try.func28 (by kernel_rfl) rfl #[.slice A v.length c, .int .i64 s5, .int .i64 4] (by rfl) rfl rfl (by first | (simp only [List.map_toArray, List.map_cons, List.map_nil, Act.eval, Array.getD_eq_getD_getElem?, Option.getD_some, e81, e89]; done) | (simp only [List.map_toArray, List.map_cons, List.map_nil, Act.eval, Array.getD_eq_getD_getElem?, Option.getD_some, e81, e89]; rfl)) ?_
          refine (HF.out w' B.out).mono ?_
          rintro e w1 ⟨rfl, hD1⟩
          refine ⟨_, rfl, ?_⟩
          refine hK.out _ _ ⟨g9, v9, m12_, (by rw [ha.out]; exact putSel_upk 6 hb_ rfl rfl rfl), fun _ => B.out.trans (Only.of_below (S := fun _ => False) (drawn_below hD1)) (fun _ _ h => h.elim), fun _ => blk_below C.out (drawn_below hD1), fun _ => R_only R.out (Only.of_below (S := fun _ => False) (drawn_below hD1)) (fun _ _ _ h => h), fun h0_ _ => absurd ((hoff 12 (by kernel_rfl)).symm.trans h0_) (by decide), fun h0_ _ => absurd ((hoff 13 (by kernel_rfl)).symm.trans h0_) (by decide), fun h0_ => absurd ((hoff 15 (by kernel_rfl)).symm.trans h0_) (by decide), fun h0_ => absurd ((hoff 12 (by kernel_rfl)).symm.trans h0_) (by decide)⟩
        refine steps_cons ?_ ?_
        · rintro b a w' ⟨g9, v9, m12_, ha, Q_B, Q_C, Q_R, Q_W2, Q_S1, Q_S2, Q_X12_⟩ hb_ hon hoff
          refine ⟨_, rfl, fun K hK => ?_⟩
          have e90 : a.tmps[90]? = some (.int .u32 (q : Int)) := by rw [ha]; exact putSel_on (e := (11, 90, .int .u32 (q : Int))) 6 rfl rfl (hon 11 (by kernel_rfl)) rfl
          replace ha := Aside0.mk ha
          have B := Aside0.mk (Q_B (hoff 13 (by kernel_rfl)))
          have C := Aside0.mk (Q_C (hoff 13 (by kernel_rfl)))
          have R := Aside0.mk (Q_R (hoff 13 (by kernel_rfl)))
          refine value_ (w1 := w'.alloc (.cells #[.int .u32 (q : Int)] 24)) (v := .slice (some ⟨w'.heap.size, 0, none⟩) 1 1) (by rfl) rfl (by go_simp; try rfl) ?_
          refine hK.out _ _ ⟨w'.heap.size, v9, (.slice (some ⟨w'.heap.size, 0, none⟩) 1 1), (by rw [ha.out]; exact putSel_upk 7 hb_ rfl rfl rfl), fun _ => B.out.alloc _, fun _ => blk_alloc C.out _, fun _ => Kd.R_alloc R.out _, fun _ _ => ⟨w', rfl, rfl, B.out, C.out, R.out⟩, fun h0_ _ => absurd ((hoff 13 (by kernel_rfl)).symm.trans h0_) (by decide), fun h0_ => absurd ((hoff 15 (by kernel_rfl)).symm.trans h0_) (by decide), fun _ => rfl⟩
        refine steps_cons ?_ ?_
        · rintro b a w' ⟨g9, v9, m12_, ha, Q_B, Q_C, Q_R, Q_W2, Q_S1, Q_S2, Q_X12_⟩ hb_ hon hoff
          refine ⟨_, rfl, fun K hK => ?_⟩
          have e80 : a.tmps[80]? = some (.slice Av xs.length cv) := by rw [ha]; exact putSel_on (e := (1, 80, .slice Av xs.length cv)) 1 rfl rfl (hon 1 (by kernel_rfl)) rfl
          have e91 : a.tmps[91]? = some (m12_) := by rw [ha]; exact putSel_on (e := (12, 91, m12_)) 7 rfl rfl (hon 12 (by kernel_rfl)) rfl
          rw [Q_X12_ (hon 12 (by kernel_rfl))] at e91
          replace ha := Aside0.mk ha
          have B := Aside0.mk (Q_B hb_)
          have C := Aside0.mk (Q_C hb_)
          have R := Aside0.mk (Q_R hb_)
          have W2 := Aside0.mk (Q_W2 (hon 12 (by kernel_rfl)) hb_)
          obtain ⟨w2, rfl, hg9, hB2, hC2, hR2⟩ := W2.out
          rw [hg9] at e91
          refine Kd.R_append_step (Kd.int .u32) (w0 := w2) (W := w2) W0.heap.size (by rfl) _ _ 27 24 _ 4 rfl Try.underlying27 info24 rfl (by decide) (by decide) (.slice Av xs.length cv) xs (q : Int) [.int .u32 (q : Int)] (fun _ => True) (fun _ => False) (by simp [Act.eval, Array.getD_eq_getD_getElem?, e80]) (by simp [Act.eval, Array.getD_eq_getD_getElem?, e91]) rfl (fun _ h => h.elim) (fun _ _ => trivial) hR2 (Below.refl _ _) hB2.size (by have := HXL.out; omega) ?_
          intro v1 w1 hR1 hB1 hG1 hat1
          have hC3 := (hB1.block w.heap.size HGL2.out).trans hC2
          have hO3 := only_then3 hB2 hB1
          refine hK.out _ _ ⟨g9, v1, m12_, (by rw [ha.out]; exact putSel_upk 8 hb_ rfl rfl rfl), fun h0_ => absurd ((up_self b 13).symm.trans h0_) (by decide), fun h0_ => absurd ((up_self b 13).symm.trans h0_) (by decide), fun h0_ => absurd ((up_self b 13).symm.trans h0_) (by decide), fun _ h1_ => absurd ((up_self b 13).symm.trans h1_) (by decide), fun _ _ => ⟨hR1, hC3, hO3⟩, fun h0_ => absurd ((hoff 15 (by kernel_rfl)).symm.trans h0_) (by decide), Q_X12_⟩
        refine steps_cons ?_ ?_
        · rintro b a w' ⟨g9, v9, m12_, ha, Q_B, Q_C, Q_R, Q_W2, Q_S1, Q_S2, Q_X12_⟩ hb_ hon hoff
          refine ⟨_, rfl, fun K hK => ?_⟩
          have e2 : a.tmps[2]? = some (.pointer (some ⟨w.heap.size, 0, none⟩)) := by rw [ha]; exact (putSel_off rfl).trans rfl
          replace ha := Aside0.mk ha
          have S1 := Aside0.mk (Q_S1 (hon 13 (by kernel_rfl)) (hoff 15 (by kernel_rfl)))
          refine value_ (w1 := w') (v := .pointer (some ⟨w.heap.size, 12, none⟩)) (by rfl) rfl ?_ ?_
          · go_simp
            (try simp only [i64_w])
            try rfl
          refine hK.out _ _ ⟨g9, v9, m12_, (by rw [ha.out]; exact putSel_upk 9 hb_ rfl rfl rfl), fun h0_ => absurd ((hon 13 (by kernel_rfl)).symm.trans h0_) (by decide), fun h0_ => absurd ((hon 13 (by kernel_rfl)).symm.trans h0_) (by decide), fun h0_ => absurd ((hon 13 (by kernel_rfl)).symm.trans h0_) (by decide), fun _ h1_ => absurd ((hon 13 (by kernel_rfl)).symm.trans h1_) (by decide), Q_S1, fun h0_ => absurd ((hoff 15 (by kernel_rfl)).symm.trans h0_) (by decide), Q_X12_⟩
        refine steps_cons ?_ ?_
        · rintro b a w' ⟨g9, v9, m12_, ha, Q_B, Q_C, Q_R, Q_W2, Q_S1, Q_S2, Q_X12_⟩ hb_ hon hoff
          refine ⟨_, rfl, fun K hK => ?_⟩
          have e93 : a.tmps[93]? = some (.pointer (some ⟨w.heap.size, 12, none⟩)) := by rw [ha]; exact putSel_on (e := (14, 93, .pointer (some ⟨w.heap.size, 12, none⟩))) 9 rfl rfl (hon 14 (by kernel_rfl)) rfl
          have e92 : a.tmps[92]? = some (v9) := by rw [ha]; exact putSel_on (e := (13, 92, v9)) 8 rfl rfl (hon 13 (by kernel_rfl)) rfl
          replace ha := Aside0.mk ha
          have S1 := Aside0.mk (Q_S1 (hon 13 (by kernel_rfl)) hb_)
          obtain ⟨hR1, hC1, hO1⟩ := S1.out
          obtain ⟨A7, c7, hv9⟩ := Kd.R_slice hR1
          have hs := blk_cell hC1 12
          have hf := blk_frozen hC1 12
          refine skip_ (w1 := w'.setCell ⟨w.heap.size, 12, none⟩ v9) (by rfl) rfl (by generalize (xs ++ [(q : Int)]).length = zl at hv9; rw [hv9] at e92 ⊢; go_simp; try rfl) ?_
          refine hK.out _ _ ⟨g9, v9, m12_, (by rw [ha.out]; exact putSel_none (v := undef) rfl), fun h0_ => absurd ((hon 13 (by kernel_rfl)).symm.trans h0_) (by decide), fun h0_ => absurd ((hon 13 (by kernel_rfl)).symm.trans h0_) (by decide), fun h0_ => absurd ((hon 13 (by kernel_rfl)).symm.trans h0_) (by decide), fun _ h1_ => absurd ((hon 13 (by kernel_rfl)).symm.trans h1_) (by decide), fun _ h1_ => absurd ((up_self b 15).symm.trans h1_) (by decide), fun _ => ⟨R_only hR1 ((Only.refl (· = w.heap.size) w').setCell (fun _ => rfl) v9) (fun k hk _ e => by have := HGL2.out; omega), blk_put hC1 12 v9 rfl, hO1.setCell (fun _ => rfl) v9⟩, Q_X12_⟩
        exact steps_nil
      rintro b a w' hall ⟨g9, v9, m12_, ha, Q_B, Q_C, Q_R, Q_W2, Q_S1, Q_S2, Q_X12_⟩
      clear B C R
      have hb0_ := hall 0 (by kernel_rfl)
      have hb1_ := hall 1 (by kernel_rfl)
      have hb6_ := hall 6 (by kernel_rfl)
      have hb8_ := hall 8 (by kernel_rfl)
      have hb9_ := hall 9 (by kernel_rfl)
      have hb10_ := hall 10 (by kernel_rfl)
      have hb11_ := hall 11 (by kernel_rfl)
      have hb12_ := hall 12 (by kernel_rfl)
      have hb13_ := hall 13 (by kernel_rfl)
      have hb14_ := hall 14 (by kernel_rfl)
      have hb15_ := hall 15 (by kernel_rfl)
      subst ha
      obtain rfl := Q_X12_ hb12_
      simp only [putSel, hb0_, hb1_, hb6_, hb8_, hb9_, hb10_, hb11_, hb12_, hb13_, hb14_, hb15_, if_true, Act.put, List.setIfInBounds_toArray, List.set_cons_zero, List.set_cons_succ]
      clear Q_B
      clear Q_C
      clear Q_R
      clear Q_W2
      clear Q_S1
      have S2 := Aside0.mk (Q_S2 hb15_)
      clear Q_S2
      clear hall hb0_ hb1_ hb6_ hb8_ hb9_ hb10_ hb11_ hb12_ hb13_ hb14_ hb15_
      obtain ⟨hR9, hC9, hO9⟩ := S2.out
      have HR9 := Lib.hid hR9
      have HC9 := Lib.hid hC9
      have HO9 := Lib.hid hO9
      clear hR9 hC9 hO9 S2 HF HR HC HO HA1 HA3 HA4 HA5
      go_wp2
      go_roundw
      case rel => exact ⟨i + 1, xs ++ [(q : Int)], v9, by omega, by go_num, HR9, HE2, HC9, HO9⟩
      case measure => simp [intOf]; omega
    · obtain rfl : i = nd := by omega
      have hE := HE.out
      rw [Nat.sub_self, dupsD, List.append_nil] at hE
      have HE2 := Lib.hid hE
      have X : Bx w (#[.int .u8 16, .int .u8 0, .int .u32 t1, .int .u16 0, .int .u16 0, .int .u32 0, .int .u32 0, .int .u32 t2, .int .u16 0, .int .u16 0, vg, vn, .slice Av xs.length cv, .slice none 0 0, .slice none 0 0]) wr := ⟨HC.out, HO.out.blk HX.out.x1 (by omega), HX.out.x2.trans (HO.out.below HX.out.x2.size (fun k h => by omega)), Nat.le_trans HX.out.x3 HO.out.size⟩
      have HR9 := Lib.hid (show readLists true 16 0 v = .ok ⟨16, 0, t1, 0, 0, 0, 0, t2, 0, 0, gapsD ng (v.drop 16), gapsD nn (v.drop (16 + 4 * ng)), xs, [], []⟩ by unfold readLists; rw [HLD.out]; rw [HVV.out, ← HE2.out, ← HT1.out, ← HT2.out])
      have HO1 : (#[.int .u8 16, .int .u8 0, .int .u32 t1, .int .u16 0, .int .u16 0, .int .u32 0, .int .u32 0, .int .u32 t2, .int .u16 0, .int .u16 0, vg, vn, .slice Av xs.length cv, .slice none 0 0, .slice none 0 0] : Array Value).all (·.oneCell') = true := by
        simp [Value.oneCell'] at OV1 OV2 ⊢
        exact ⟨OV1, OV2⟩
      clear hE HE hvl hxl hvv0 HG HLD HVV OV1 OV2
      go_wp2_with (with_reducible refine gate_dst (N := 94) rfl ?_; go_must (refine wpList_ret_row 94 rfl rfl rfl (.tmp 2) (.tmp 4) rfl rfl rfl _ _ _ _ rfl rfl rfl X.x0 X.x1 rfl rfl HO1 ?_))
      refine ret_good rfl rfl rfl rfl X.x1 HR9.out rfl HO1 X.x2 (Nat.le_succ _) (k30_mkM _ _ _ _ ?_ ?_ ?_ (Kd.R_nil _ _ _ _ _) (Kd.R_nil _ _ _ _ _))
      · exact Kd.R_lower (R_only (R_only RG.out HO.out (fun k hk _ h => by omega)) (setRow_only _ _ _) (fun k hk _ h => by omega)) (by omega)
      · exact Kd.R_lower (R_only (R_only RN.out HO.out (fun k hk _ h => by omega)) (setRow_only _ _ _) (fun k hk _ h => by omega)) (by omega)
      · exact Kd.R_lower (R_only HR.out (setRow_only _ _ _) (fun k hk _ h => by have := HX.out.x3; omega)) (by have := HX.out.x3; omega)
end Go.Proofs.Ytjmadnpicidbeaa.Ch
end
section
namespace Go.Proofs.Ytjmadnpicidbeaa.Base
open Go.RowKit Go.Proofs.YtjmadnpicidbeaaW.PrintWords Go.Proofs.YtjmadnpicidbeaaW.PrintLast
set_option linter.unusedVariables false
set_option linter.unusedSimpArgs false
theorem wanted_none0 {ops : Array Oper} {a : Act} {o : Oper} (h : o.guard = none) : Region.wanted o (yielded ops a.tmps) = true := by unfold Region.wanted; rw [h]
theorem set_same {α : Type} {l : List α} {k : Nat} {x : α} (h : l[k]? = some x) : l.set k x = l := by
  obtain ⟨h1, h2⟩ := List.getElem?_eq_some_iff.1 h
  rw [← h2, List.set_getElem_self]
def celSel (CD : Array Value) (b : Nat → Bool) (LS : List (Nat × Tmp × Value)) : Array Value := (putSel ⟨CD, []⟩ b LS).tmps
theorem celSel_size (CD : Array Value) (b : Nat → Bool) (LS : List (Nat × Tmp × Value)) : (celSel CD b LS).size = CD.size := (putSel_size b LS ⟨CD, []⟩).1
theorem putSel_congr {b b' : Nat → Bool} : ∀ {L : List (Nat × Tmp × Value)} {a : Act}, (∀ e ∈ L, b e.1 = b' e.1) → putSel a b L = putSel a b' L
  | [], _, _ => rfl
  | e :: r, a, h => by
    unfold putSel
    rw [h e List.mem_cons_self]
    exact putSel_congr (fun x hx => h x (List.mem_cons_of_mem _ hx))
def CpI (W : World) (gd : Nat) (T : TypeId) (CD : Array Value) (L LS : List (Nat × Tmp × Value)) (a0 : Act) (b : Nat → Bool) (a : Act) (w : World) : Prop :=
  a = putSel a0 b L ∧ Only (· = gd) W w ∧ w.heap[gd]? = some (.cells (celSel CD b LS) T (0, 0))
section
variable {P : Program} {ops : Array Oper} {Q : Exit → Act → World → Prop} {B O : List Nat} {W : World} {gd : Nat} {T : TypeId} {CD : Array Value} {L LS : List (Nat × Tmp × Value)} {a0 : Act}
theorem cp_addr (i k : Nat) (p : Tmp) {t : Tmp} {gq j : Nat} {oi : Oper} (ho : ops[i]? = some oi) (hg : oi.guard = none) (hd : oi.dst = some t) (hL : L[k]? = some (i, t, .pointer (some ⟨gq, j, none⟩)))
    (hdist : ((L.take k ++ L.drop (k + 1)).all fun e => !(e.1 == i) && !(e.2.1 == t)) = true) (hLS : (LS.all fun e => !(e.1 == i)) = true) (hpl : (L.all fun e => !(e.2.1 == p)) = true) (hp : a0.tmps[p]? = some (.pointer (some ⟨gq, 0, none⟩)))
    (hrun : ∀ (a : Act) (w : World), a.tmps[p]? = some (.pointer (some ⟨gq, 0, none⟩)) → (execOp a.eval oi).run P w = .ok (.value (.pointer (some ⟨gq, j, none⟩))) w) : StepAt P ops Q B O (CpI W gd T CD L LS a0) i := by
  rintro b a w ⟨ha, hO, hC⟩ hb hon hoff
  refine ⟨oi, ho, fun K hK => ?_⟩
  rw [hd]
  refine value_ (w1 := w) (v := .pointer (some ⟨gq, j, none⟩)) (wanted_none0 hg) hd (hrun a w (by rw [ha]; exact (putSel_off hpl).trans hp)) (hK.out _ _ ⟨?_, hO, ?_⟩)
  · rw [ha]
    exact putSel_upk k hb hL (set_same hL) hdist
  · rw [hC]
    unfold celSel
    rw [putSel_same hLS]
theorem cp_op (i k kp qp : Nat) {t : Tmp} {v : Value} {ep : Nat × Tmp × Value} {oi : Oper} (ho : ops[i]? = some oi) (hg : oi.guard = none) (hd : oi.dst = some t) (hL : L[k]? = some (i, t, v))
    (hdist : ((L.take k ++ L.drop (k + 1)).all fun e => !(e.1 == i) && !(e.2.1 == t)) = true) (hLS : (LS.all fun e => !(e.1 == i)) = true)
    (hP : L[kp]? = some ep) (hPd : ((L.drop (kp + 1)).all fun x => !(x.2.1 == ep.2.1)) = true) (hq : ep.1 = qp) (hon : (O.contains qp && (B.getD i 0).testBit qp) = true) (hsz : Nat.ble (ep.2.1 + 1) a0.tmps.size = true)
    (hrun : ∀ (a : Act) (w : World), Only (· = gd) W w → a.tmps[ep.2.1]? = some ep.2.2 → (execOp a.eval oi).run P w = .ok (.value v) w) : StepAt P ops Q B O (CpI W gd T CD L LS a0) i := by
  rintro b a w ⟨ha, hO, hC⟩ hb hon' hoff
  refine ⟨oi, ho, fun K hK => ?_⟩
  rw [hd]
  refine value_ (w1 := w) (v := v) (wanted_none0 hg) hd (hrun a w hO (by rw [ha]; exact putSel_on kp hP hPd (hon' _ (hq ▸ hon)) hsz)) (hK.out _ _ ⟨?_, hO, ?_⟩)
  · rw [ha]
    exact putSel_upk k hb hL (set_same hL) hdist
  · rw [hC]
    unfold celSel
    rw [putSel_same hLS]
theorem cp_store (i k kp kv qp qv : Nat) {j : Nat} {v : Value} {ep ev : Nat × Tmp × Value} {oi : Oper} (ho : ops[i]? = some oi) (hg : oi.guard = none) (hd : oi.dst = none) (hLk : LS[k]? = some (i, j, v))
    (hdist : ((LS.take k ++ LS.drop (k + 1)).all fun e => !(e.1 == i) && !(e.2.1 == j)) = true) (hLi : (L.all fun e => !(e.1 == i)) = true) (hj : j < CD.size)
    (hP : L[kp]? = some ep) (hPd : ((L.drop (kp + 1)).all fun x => !(x.2.1 == ep.2.1)) = true) (hqp : ep.1 = qp) (hPo : (O.contains qp && (B.getD i 0).testBit qp) = true) (hsz : Nat.ble (ep.2.1 + 1) a0.tmps.size = true)
    (hV : L[kv]? = some ev) (hVd : ((L.drop (kv + 1)).all fun x => !(x.2.1 == ev.2.1)) = true) (hqv : ev.1 = qv) (hVo : (O.contains qv && (B.getD i 0).testBit qv) = true) (hvz : Nat.ble (ev.2.1 + 1) a0.tmps.size = true)
    (hrun : ∀ (a : Act) (w : World) (old : Value), a.tmps[ep.2.1]? = some ep.2.2 → a.tmps[ev.2.1]? = some ev.2.2 → w.cell? ⟨gd, j, none⟩ = some old → w.frozen? ⟨gd, j, none⟩ = false → (execOp a.eval oi).run P w = .ok .skip (w.setCell ⟨gd, j, none⟩ v)) : StepAt P ops Q B O (CpI W gd T CD L LS a0) i := by
  rintro b a w ⟨ha, hO, hC⟩ hb hon' hoff
  refine ⟨oi, ho, fun K hK => ?_⟩
  obtain ⟨old, hold⟩ : ∃ old, (celSel CD b LS)[j]? = some old := ⟨_, Array.getElem?_eq_getElem (by rw [celSel_size]; exact hj)⟩
  rw [hd]
  refine skip_ (w1 := w.setCell ⟨gd, j, none⟩ v) (wanted_none0 hg) hd (hrun a w old (by rw [ha]; exact putSel_on kp hP hPd (hon' _ (hqp ▸ hPo)) hsz) (by rw [ha]; exact putSel_on kv hV hVd (hon' _ (hqv ▸ hVo)) hvz) ((blk_cell hC j).trans hold) (blk_frozen hC j)) (hK.out _ _ ⟨?_, hO.setCell (fun _ => rfl) v, ?_⟩)
  · rw [ha]
    exact (putSel_same hLi).symm
  · refine blk_put hC j v ?_
    have := congrArg Act.tmps (putSel_upk (a := ⟨CD, []⟩) k hb hLk (set_same hLk) hdist)
    exact this
theorem copy_region {id : Nat} (O L LS : List _) {n : Nat} {l : Array Bool} {Tb : Bool × List (List Nat × List Nat)} (hm : P.follows .mixedOrders = true) (hn : ops.size = n) (hl : Array.replicate n false = l) (hT : rtab .any ops = Tb) (hw : waitsOk Tb.2 B = true) (hk : baseOk Tb.2 O = true) (hl2 : (lof Tb.2.length O (fun _ => false) == l.toList && O.length == n) = true)
    (hLO : (L.all fun e => O.contains e.1) = true) (hSO : (LS.all fun e => O.contains e.1) = true) (hC : W.heap[gd]? = some (.cells CD T (0, 0))) (hs : ∀ i ∈ O, StepAt P ops Q B O (CpI W.drew gd T CD L LS a0) i)
    (hend : ∀ w, Only (· = gd) W w → w.heap[gd]? = some (.cells (celSel CD (fun _ => true) LS) T (0, 0)) → Q .normal (putSel a0 (fun _ => true) L) w) : Code.wp P (Code.region id ops true) Q a0 W := by
  refine start_ (S := fun _ => True) (ds := []) l hm hn hl trivial (fun _ => ?_)
  refine inv_at O (fun a0 => CpI W.drew gd T CD L LS a0) hT hw hk hl2 ⟨?_, Only.refl _ _, ?_⟩ hs ?_
  · clear hLO hSO hs hC hend
    induction L with
    | nil => rfl
    | cons e r ih => unfold putSel; exact ih
  · have h0 : celSel CD (fun _ => false) LS = CD := by
      clear hLO hSO hs hend
      unfold celSel
      induction LS with
      | nil => rfl
      | cons e r ih => unfold putSel; exact ih
    rw [h0]
    exact hC
  · rintro b a w hall ⟨ha, hO, hC'⟩
    have e1 : putSel a0 b L = putSel a0 (fun _ => true) L := putSel_congr (fun e he => hall _ (List.all_eq_true.1 hLO e he))
    have e2 : celSel CD b LS = celSel CD (fun _ => true) LS := congrArg Act.tmps (putSel_congr (fun e he => hall _ (List.all_eq_true.1 hSO e he)))
    rw [ha, e1]
    exact hend w ⟨hO.os, hO.tape, hO.output, hO.size, hO.block⟩ (by rw [hC', e2])
end
end Go.Proofs.Ytjmadnpicidbeaa.Base
end
section
namespace Go.Proofs.Ytjmadnpicidbeaa.Ch
open Go.RowKit Go.Proofs.YtjmadnpicidbeaaW.PrintWords Go.Proofs.YtjmadnpicidbeaaW.PrintLast Go.Proofs.Ytjmadnpicidbeaa.Base Go.Proofs.Ytjmadnpicidbeaa.PCh Go.Proofs.Ytjmadnpicidbeaa.ParDec
set_option maxRecDepth 100000
set_option linter.unusedVariables false
set_option linter.unusedSimpArgs false
def hasF (kd : Int) (i : Nat) : Bool :=
  if kd = 0 then i == 2 || i == 3 || i == 4 || i == 5 || i == 13
  else if kd = 1 ∨ kd = 2 then i == 2 || i == 6 || i == 7 || i == 8 || i == 9 || i == 14
  else if kd = 16 then i == 2 || i == 7 || i == 10 || i == 11 || i == 12
  else if kd = 3 then i == 2 || i == 7 || i == 10 || i == 12
  else if kd = 4 ∨ kd = 5 ∨ kd = 6 ∨ kd = 9 then i == 14
  else if kd = 7 then i == 2
  else if kd = 8 ∨ kd = 11 ∨ kd = 14 then false
  else i == 13
def keepF (p : Nat → Bool) (fl : Int) (x : Chk) : Chk := ⟨x.f0, fl, if p 2 then x.f2 else 0, if p 3 then x.f3 else 0, if p 4 then x.f4 else 0, if p 5 then x.f5 else 0, if p 6 then x.f6 else 0, if p 7 then x.f7 else 0, if p 8 then x.f8 else 0, if p 9 then x.f9 else 0, if p 10 then x.f10 else [], if p 11 then x.f11 else [], if p 12 then x.f12 else [], if p 13 then x.f13 else [], if p 14 then x.f14 else []⟩
def keepL (p : Nat → Bool) (L : Lay) : Lay := ⟨if p 10 then L.A10 else none, if p 10 then L.c10 else 0, if p 11 then L.A11 else none, if p 11 then L.c11 else 0, if p 12 then L.A12 else none, if p 12 then L.c12 else 0, if p 13 then L.A13 else none, if p 13 then L.c13 else 0, if p 14 then L.A14 else none, if p 14 then L.c14 else 0⟩
def bareD (x : Chk) : Chk := keepF (hasF x.f0) (flD x.f0 x.f1) x
theorem keep_CR {w : World} {x : Chk} {L : Lay} (h : CR w x L) (p : Nat → Bool) (fl : Int) : CR w (keepF p fl x) (keepL p L) := by
  refine ⟨?_, ?_, ?_, ?_, ?_, ?_, ?_, ?_, ?_, ?_⟩
  all_goals (unfold keepF keepL; dsimp only)
  · cases p 10
    · exact Nat.le_refl _
    · exact h.l10
  · cases p 10
    · exact Kd.C_nil _ _
    · exact h.h10
  · cases p 11
    · exact Nat.le_refl _
    · exact h.l11
  · cases p 11
    · exact Kd.C_nil _ _
    · exact h.h11
  · cases p 12
    · exact Nat.le_refl _
    · exact h.l12
  · cases p 12
    · exact Kd.C_nil _ _
    · exact h.h12
  · cases p 13
    · exact Nat.le_refl _
    · exact h.l13
  · cases p 13
    · exact Kd.C_nil _ _
    · exact h.h13
  · cases p 14
    · exact Nat.le_refl _
    · exact h.l14
  · cases p 14
    · exact Kd.C_nil _ _
    · exact h.h14
def bareT1 : Bool × List (List Nat × List Nat) := (true, [([], []), ([0], [0]), ([], []), ([2], [2]), ([], []), ([4], [4]), ([5], [5]), ([3, 6], [3, 6]), ([1, 7], [1, 7]), ([], []), ([9, 8, 6, 0, 1, 2, 3, 4, 5, 6, 7, 8, 9], [8, 9])])
def bareB1 : List Nat := [0, 1, 0, 4, 0, 16, 48, 124, 255, 0, 1023]
theorem baretab1 : Go.Proofs.YtjmadnpicidbeaaW.PrintLast.rtab .any (Go.Proofs.YtjmadnpicidbeaaW.PrintLast.opsOf Try.f38 1) = bareT1 := by kernel_rfl
theorem barebits1 : Go.Proofs.YtjmadnpicidbeaaW.PrintLast.waitsOk bareT1.2 bareB1 = true := by kernel_rfl
def bareT16 : Bool × List (List Nat × List Nat) := (true, [([], []), ([0], [0]), ([], []), ([2], [2]), ([], []), ([4], [4]), ([], []), ([6], [6]), ([], []), ([8], [8]), ([0, 1], []), ([10, 1, 0, 1], [1, 10]), ([0, 1, 2, 3, 10, 11], []), ([12, 3, 11, 0, 1, 2, 3, 10, 11], [3, 12]), ([0, 1, 2, 3, 4, 5, 10, 11, 12, 13], []), ([14, 5, 13, 0, 1, 2, 3, 4, 5, 10, 11, 12, 13], [5, 14]), ([0, 1, 2, 3, 4, 5, 6, 7, 10, 11, 12, 13, 14, 15], []), ([16, 7, 15, 0, 1, 2, 3, 4, 5, 6, 7, 10, 11, 12, 13, 14, 15], [7, 16]), ([0, 1, 2, 3, 4, 5, 6, 7, 8, 9, 10, 11, 12, 13, 14, 15, 16, 17], []), ([18, 9, 17, 0, 1, 2, 3, 4, 5, 6, 7, 8, 9, 10, 11, 12, 13, 14, 15, 16, 17], [9, 18])])
def bareB16 : List Nat := [0, 1, 0, 4, 0, 16, 0, 64, 0, 256, 3, 1027, 3087, 7183, 15423, 31807, 64767, 130303, 262143, 524287]
theorem baretab16 : Go.Proofs.YtjmadnpicidbeaaW.PrintLast.rtab .any (Go.Proofs.YtjmadnpicidbeaaW.PrintLast.opsOf Try.f38 16) = bareT16 := by kernel_rfl
theorem barebits16 : Go.Proofs.YtjmadnpicidbeaaW.PrintLast.waitsOk bareT16.2 bareB16 = true := by kernel_rfl
def bareT17 : Bool × List (List Nat × List Nat) := (true, [([], []), ([0], [0]), ([], []), ([2], [2]), ([], []), ([4], [4]), ([], []), ([6], [6]), ([], []), ([8], [8]), ([], []), ([10], [10]), ([0, 1], []), ([12, 1, 0, 1], [1, 12]), ([0, 1, 2, 3, 12, 13], []), ([14, 3, 13, 0, 1, 2, 3, 12, 13], [3, 14]), ([0, 1, 2, 3, 4, 5, 12, 13, 14, 15], []), ([16, 5, 15, 0, 1, 2, 3, 4, 5, 12, 13, 14, 15], [5, 16]), ([0, 1, 2, 3, 4, 5, 6, 7, 12, 13, 14, 15, 16, 17], []), ([18, 7, 17, 0, 1, 2, 3, 4, 5, 6, 7, 12, 13, 14, 15, 16, 17], [7, 18]), ([0, 1, 2, 3, 4, 5, 6, 7, 8, 9, 12, 13, 14, 15, 16, 17, 18, 19], []), ([20, 9, 19, 0, 1, 2, 3, 4, 5, 6, 7, 8, 9, 12, 13, 14, 15, 16, 17, 18, 19], [9, 20]), ([0, 1, 2, 3, 4, 5, 6, 7, 8, 9, 10, 11, 12, 13, 14, 15, 16, 17, 18, 19, 20, 21], []), ([22, 11, 21, 0, 1, 2, 3, 4, 5, 6, 7, 8, 9, 10, 11, 12, 13, 14, 15, 16, 17, 18, 19, 20, 21], [11, 22])])
def bareB17 : List Nat := [0, 1, 0, 4, 0, 16, 0, 64, 0, 256, 0, 1024, 3, 4099, 12303, 28687, 61503, 127039, 258303, 520447, 1045503, 2094079, 4194303, 8388607]
theorem baretab17 : Go.Proofs.YtjmadnpicidbeaaW.PrintLast.rtab .any (Go.Proofs.YtjmadnpicidbeaaW.PrintLast.opsOf Try.f38 17) = bareT17 := by kernel_rfl
theorem barebits17 : Go.Proofs.YtjmadnpicidbeaaW.PrintLast.waitsOk bareT17.2 bareB17 = true := by kernel_rfl
def bareT19 : Bool × List (List Nat × List Nat) := (true, [([], []), ([0], [0]), ([], []), ([2], [2]), ([], []), ([4], [4]), ([], []), ([6], [6]), ([0, 1], []), ([8, 1, 0, 1], [1, 8]), ([0, 1, 2, 3, 8, 9], []), ([10, 3, 9, 0, 1, 2, 3, 8, 9], [3, 10]), ([0, 1, 2, 3, 4, 5, 8, 9, 10, 11], []), ([12, 5, 11, 0, 1, 2, 3, 4, 5, 8, 9, 10, 11], [5, 12]), ([0, 1, 2, 3, 4, 5, 6, 7, 8, 9, 10, 11, 12, 13], []), ([14, 7, 13, 0, 1, 2, 3, 4, 5, 6, 7, 8, 9, 10, 11, 12, 13], [7, 14])])
def bareB19 : List Nat := [0, 1, 0, 4, 0, 16, 0, 64, 3, 259, 783, 1807, 3903, 7999, 16383, 32767]
theorem baretab19 : Go.Proofs.YtjmadnpicidbeaaW.PrintLast.rtab .any (Go.Proofs.YtjmadnpicidbeaaW.PrintLast.opsOf Try.f38 19) = bareT19 := by kernel_rfl
theorem barebits19 : Go.Proofs.YtjmadnpicidbeaaW.PrintLast.waitsOk bareT19.2 bareB19 = true := by kernel_rfl
structure By (w : World) (CX cs : Array Value) (g3 : Nat) (W : World) : Prop where
  bx : Bx w CX W
  x3 : W.heap[g3]? = some (.cells cs 30 (0, 0))
  hg : w.heap.size + 2 ≤ g3
theorem By.only {w W W' : World} {CX cs cs' : Array Value} {g3 : Nat} (h : By w CX cs g3 W) (hO : Only (· = g3) W W') (h3 : W'.heap[g3]? = some (.cells cs' 30 (0, 0))) : By w CX cs' g3 W' :=
  ⟨⟨hO.blk h.bx.x0 (by have := h.hg; omega), hO.blk h.bx.x1 (by have := h.hg; omega), h.bx.x2.trans (hO.below h.bx.x2.size (fun k hk => by have := h.hg; omega)), Nat.le_trans h.bx.x3 hO.size⟩, h3, h.hg⟩
theorem By.set {w W : World} {CX cs : Array Value} {g3 : Nat} (h : By w CX cs g3 W) (i : Nat) (v : Value) : By w CX (cs.setIfInBounds i v) g3 (W.setCell ⟨g3, i, none⟩ v) := h.only ((Only.refl (· = g3) W).setCell (fun _ => rfl) v) (blk_put h.x3 i v rfl)
theorem row_end {f : Func} (hf : f.results = #[ResultVar.cell 2 30]) {a : Act} {w W : World} {cs old r : Array Value} {gr : Nat} (hd : a.defers = []) (t2 : a.tmps.getD 2 undef = .pointer (some ⟨gr, 0, none⟩)) (hg : W.heap[gr]? = some (.cells old 30 (0, 0))) (hs : cs.size = 15) (hB : Below w.heap.size w W) (hl : w.heap.size ≤ gr) (h : cs = r) :
    bodyPost Try.prog f (fun e w' => e = .returned (.agg r) ∧ Below w.heap.size w w') Exit.ret a (W.setRow gr cs) := by
  have hi : (Try.prog.info? 30).map (·.size) = some cs.size := by rw [hs]; kernel_rfl
  have hl2 := run_loadVar_row (W.setRow gr cs) gr 30 30 cs (0, 0) _ (setRow_heap _ _ _ _ _ _ hg) Try.underlying30 rfl hi
  rw [Array.getD_eq_getD_getElem?] at t2
  exact bodyPost_ret (v := .agg cs) (by simp [results, hf, asAddr, t2, hl2]) hd ⟨by rw [h], below_setRow hB hl cs⟩
set_option maxHeartbeats 8000000 in
theorem bare_calls (w : World) (x : Chk) (L : Lay) (hx : CR w x L) :
    Calls Try.prog 38 #[.agg (CV x L)] w fun e w' => e = .returned (.agg (CV (bareD x) (keepL (hasF x.f0) L))) ∧ Below w.heap.size w w' := by
  clear hx
  obtain ⟨f0, f1, f2, f3, f4, f5, f6, f7, f8, f9, f10, f11, f12, f13, f14⟩ := x
  obtain ⟨A10, c10, A11, c11, A12, c12, A13, c13, A14, c14⟩ := L
  have hkd : (∃ r, bareD ⟨f0, f1, f2, f3, f4, f5, f6, f7, f8, f9, f10, f11, f12, f13, f14⟩ = r) := ⟨_, rfl⟩
  clear hkd
  have X := Bx.new w (CV ⟨f0, f1, f2, f3, f4, f5, f6, f7, f8, f9, f10, f11, f12, f13, f14⟩ ⟨A10, c10, A11, c11, A12, c12, A13, c13, A14, c14⟩)
  go_enter Try.func38, Try.ntmps38
  go_upto_region 1 with (fail)
  refine wp_gen (Bx w (CV ⟨f0, f1, f2, f3, f4, f5, f6, f7, f8, f9, f10, f11, f12, f13, f14⟩ ⟨A10, c10, A11, c11, A12, c12, A13, c13, A14, c14⟩)) X ?_
  clear X
  intro W X
  have U0 := Lib.hid (show W.cell? ⟨w.heap.size, 0, none⟩ = some (.int .u8 f0) from X.cell 0)
  have U1 := Lib.hid (show W.cell? ⟨w.heap.size, 1, none⟩ = some (.int .u8 f1) from X.cell 1)
  have U2 := Lib.hid (show W.cell? ⟨w.heap.size, 2, none⟩ = some (.int .u32 f2) from X.cell 2)
  have U3 := Lib.hid (show W.cell? ⟨w.heap.size, 3, none⟩ = some (.int .u16 f3) from X.cell 3)
  have U4 := Lib.hid (show W.cell? ⟨w.heap.size, 4, none⟩ = some (.int .u16 f4) from X.cell 4)
  have U5 := Lib.hid (show W.cell? ⟨w.heap.size, 5, none⟩ = some (.int .u32 f5) from X.cell 5)
  have U6 := Lib.hid (show W.cell? ⟨w.heap.size, 6, none⟩ = some (.int .u32 f6) from X.cell 6)
  have U7 := Lib.hid (show W.cell? ⟨w.heap.size, 7, none⟩ = some (.int .u32 f7) from X.cell 7)
  have U8 := Lib.hid (show W.cell? ⟨w.heap.size, 8, none⟩ = some (.int .u16 f8) from X.cell 8)
  have U9 := Lib.hid (show W.cell? ⟨w.heap.size, 9, none⟩ = some (.int .u16 f9) from X.cell 9)
  have U10 := Lib.hid (show W.cell? ⟨w.heap.size, 10, none⟩ = some (.slice A10 f10.length c10) from X.cell 10)
  have U11 := Lib.hid (show W.cell? ⟨w.heap.size, 11, none⟩ = some (.slice A11 f11.length c11) from X.cell 11)
  have U12 := Lib.hid (show W.cell? ⟨w.heap.size, 12, none⟩ = some (.slice A12 f12.length c12) from X.cell 12)
  have U13 := Lib.hid (show W.cell? ⟨w.heap.size, 13, none⟩ = some (.slice A13 f13.length c13) from X.cell 13)
  have U14 := Lib.hid (show W.cell? ⟨w.heap.size, 14, none⟩ = some (.slice A14 f14.length c14) from X.cell 14)
  obtain ⟨fl, hfl⟩ : ∃ fl, flD f0 f1 = fl := ⟨_, rfl⟩
  have HFL := Lib.hid (show bits .and .u8 f1 (maskD f0) = fl from hfl)
  have HFE := Lib.hid hfl
  clear hfl
  have B := True.intro
  refine start_ (n := 11) (S := fun w' => True) (ds := []) #[false, false, false, false, false, false, false, false, false, false, false] (by kernel_rfl) rfl rfl trivial (fun hHeld => ?_)
  refine with_tabW baretab1 barebits1 (fun HT_ HW_ => ?_)
  refine inv_at [0, 1, 2, 3, 4, 5, 6, 7, 8, 9, 10] (fun a0_ b a w' => ∃ (g3 : Nat) (m9_ : Value), a = putSel a0_ b [(0, 4, .pointer (some ⟨w.heap.size, 0, none⟩)), (1, 5, .int .u8 f0), (2, 6, .pointer (some ⟨w.heap.size, 1, none⟩)), (3, 7, .int .u8 f1), (4, 8, .pointer (some ⟨w.heap.size, 0, none⟩)), (5, 9, .int .u8 f0), (6, 10, .int .u8 (maskD f0)), (7, 11, .int .u8 fl), (8, 12, .agg (#[.int .u8 (f0), .int .u8 (fl), .int .u32 0, .int .u16 0, .int .u16 0, .int .u32 0, .int .u32 0, .int .u32 0, .int .u16 0, .int .u16 0, .slice none 0 0, .slice none 0 0, .slice none 0 0, .slice none 0 0, .slice none 0 0])), (9, 3, m9_)] ∧ (Below W.heap.size W w') ∧ (b 9 = true → b 10 = false → w'.heap[g3]? = some (.cells (#[.int .u8 0, .int .u8 0, .int .u32 0, .int .u16 0, .int .u16 0, .int .u32 0, .int .u32 0, .int .u32 0, .int .u16 0, .int .u16 0, .slice none 0 0, .slice none 0 0, .slice none 0 0, .slice none 0 0, .slice none 0 0]) 30 (0, 0)) ∧ W.heap.size ≤ g3) ∧ (b 10 = true → w'.heap[g3]? = some (.cells (#[.int .u8 (f0), .int .u8 (fl), .int .u32 0, .int .u16 0, .int .u16 0, .int .u32 0, .int .u32 0, .int .u32 0, .int .u16 0, .int .u16 0, .slice none 0 0, .slice none 0 0, .slice none 0 0, .slice none 0 0, .slice none 0 0]) 30 (0, 0)) ∧ W.heap.size ≤ g3) ∧ (b 9 = true → (m9_ : Value) = .pointer (some ⟨g3, 0, none⟩))) HT_.out HW_.out (by kernel_rfl) (by kernel_rfl) ?_ ?_ ?_
  · exact ⟨0, .bool false, by simp only [putSel, Bool.false_eq_true, if_false], below_drew (Below.refl _ _), fun h_ => absurd h_ (by decide), fun h_ => absurd h_ (by decide), fun h_ => absurd h_ (by decide)⟩
  · skip
    clear B
    refine steps_cons ?_ ?_
    · rintro b a w' ⟨g3, m9_, ha, Q_B, Q_Z, Q_Z2, Q_X9_⟩ hb_ hon hoff
      refine ⟨_, rfl, fun K hK => ?_⟩
      have e1 : a.tmps[1]? = some (.pointer (some ⟨w.heap.size, 0, none⟩)) := by rw [ha]; exact (putSel_off rfl).trans rfl
      replace ha := Aside0.mk ha
      have B := Aside0.mk Q_B
      refine value_ (w1 := w') (v := .pointer (some ⟨w.heap.size, 0, none⟩)) (by rfl) rfl ?_ ?_
      · go_simp
        (try simp only [i64_w])
        try rfl
      refine hK.out _ _ ⟨g3, m9_, (by rw [ha.out]; exact putSel_upk 0 hb_ rfl rfl rfl), Q_B, Q_Z, fun h0_ => absurd ((hoff 10 (by kernel_rfl)).symm.trans h0_) (by decide), Q_X9_⟩
    refine steps_cons ?_ ?_
    · rintro b a w' ⟨g3, m9_, ha, Q_B, Q_Z, Q_Z2, Q_X9_⟩ hb_ hon hoff
      refine ⟨_, rfl, fun K hK => ?_⟩
      have e4 : a.tmps[4]? = some (.pointer (some ⟨w.heap.size, 0, none⟩)) := by rw [ha]; exact putSel_on (e := (0, 4, .pointer (some ⟨w.heap.size, 0, none⟩))) 0 rfl rfl (hon 0 (by kernel_rfl)) rfl
      replace ha := Aside0.mk ha
      have B := Aside0.mk Q_B
      have hs : w'.cell? ⟨w.heap.size, 0, none⟩ = some (.int .u8 f0) := pw_cell_below B.out U0.out
      refine value_ (w1 := w') (v := .int .u8 f0) (by rfl) rfl ?_ ?_
      · go_simp
        (try simp only [i64_w])
        try rfl
      refine hK.out _ _ ⟨g3, m9_, (by rw [ha.out]; exact putSel_upk 1 hb_ rfl rfl rfl), Q_B, Q_Z, fun h0_ => absurd ((hoff 10 (by kernel_rfl)).symm.trans h0_) (by decide), Q_X9_⟩
    refine steps_cons ?_ ?_
    · rintro b a w' ⟨g3, m9_, ha, Q_B, Q_Z, Q_Z2, Q_X9_⟩ hb_ hon hoff
      refine ⟨_, rfl, fun K hK => ?_⟩
      have e1 : a.tmps[1]? = some (.pointer (some ⟨w.heap.size, 0, none⟩)) := by rw [ha]; exact (putSel_off rfl).trans rfl
      replace ha := Aside0.mk ha
      have B := Aside0.mk Q_B
      refine value_ (w1 := w') (v := .pointer (some ⟨w.heap.size, 1, none⟩)) (by rfl) rfl ?_ ?_
      · go_simp
        (try simp only [i64_w])
        try rfl
      refine hK.out _ _ ⟨g3, m9_, (by rw [ha.out]; exact putSel_upk 2 hb_ rfl rfl rfl), Q_B, Q_Z, fun h0_ => absurd ((hoff 10 (by kernel_rfl)).symm.trans h0_) (by decide), Q_X9_⟩
    refine steps_cons ?_ ?_
    · rintro b a w' ⟨g3, m9_, ha, Q_B, Q_Z, Q_Z2, Q_X9_⟩ hb_ hon hoff
      refine ⟨_, rfl, fun K hK => ?_⟩
      have e6 : a.tmps[6]? = some (.pointer (some ⟨w.heap.size, 1, none⟩)) := by rw [ha]; exact putSel_on (e := (2, 6, .pointer (some ⟨w.heap.size, 1, none⟩))) 2 rfl rfl (hon 2 (by kernel_rfl)) rfl
      replace ha := Aside0.mk ha
      have B := Aside0.mk Q_B
      have hs : w'.cell? ⟨w.heap.size, 1, none⟩ = some (.int .u8 f1) := pw_cell_below B.out U1.out
      refine value_ (w1 := w') (v := .int .u8 f1) (by rfl) rfl ?_ ?_
      · go_simp
        (try simp only [i64_w])
        try rfl
      refine hK.out _ _ ⟨g3, m9_, (by rw [ha.out]; exact putSel_upk 3 hb_ rfl rfl rfl), Q_B, Q_Z, fun h0_ => absurd ((hoff 10 (by kernel_rfl)).symm.trans h0_) (by decide), Q_X9_⟩
    refine steps_cons ?_ ?_
    · rintro b a w' ⟨g3, m9_, ha, Q_B, Q_Z, Q_Z2, Q_X9_⟩ hb_ hon hoff
      refine ⟨_, rfl, fun K hK => ?_⟩
      have e1 : a.tmps[1]? = some (.pointer (some ⟨w.heap.size, 0, none⟩)) := by rw [ha]; exact (putSel_off rfl).trans rfl
      replace ha := Aside0.mk ha
      have B := Aside0.mk Q_B
      refine value_ (w1 := w') (v := .pointer (some ⟨w.heap.size, 0, none⟩)) (by rfl) rfl ?_ ?_
      · go_simp
        (try simp only [i64_w])
        try rfl
      refine hK.out _ _ ⟨g3, m9_, (by rw [ha.out]; exact putSel_upk 4 hb_ rfl rfl rfl), Q_B, Q_Z, fun h0_ => absurd ((hoff 10 (by kernel_rfl)).symm.trans h0_) (by decide), Q_X9_⟩
    refine steps_cons ?_ ?_
    · rintro b a w' ⟨g3, m9_, ha, Q_B, Q_Z, Q_Z2, Q_X9_⟩ hb_ hon hoff
      refine ⟨_, rfl, fun K hK => ?_⟩
      have e8 : a.tmps[8]? = some (.pointer (some ⟨w.heap.size, 0, none⟩)) := by rw [ha]; exact putSel_on (e := (4, 8, .pointer (some ⟨w.heap.size, 0, none⟩))) 4 rfl rfl (hon 4 (by kernel_rfl)) rfl
      replace ha := Aside0.mk ha
      have B := Aside0.mk Q_B
      have hs : w'.cell? ⟨w.heap.size, 0, none⟩ = some (.int .u8 f0) := pw_cell_below B.out U0.out
      refine value_ (w1 := w') (v := .int .u8 f0) (by rfl) rfl ?_ ?_
      · go_simp
        (try simp only [i64_w])
        try rfl
      refine hK.out _ _ ⟨g3, m9_, (by rw [ha.out]; exact putSel_upk 5 hb_ rfl rfl rfl), Q_B, Q_Z, fun h0_ => absurd ((hoff 10 (by kernel_rfl)).symm.trans h0_) (by decide), Q_X9_⟩
    refine steps_cons ?_ ?_
    · rintro b a w' ⟨g3, m9_, ha, Q_B, Q_Z, Q_Z2, Q_X9_⟩ hb_ hon hoff
      refine ⟨_, rfl, fun K hK => ?_⟩
      have e9 : a.tmps[9]? = some (.int .u8 f0) := by rw [ha]; exact putSel_on (e := (5, 9, .int .u8 f0)) 5 rfl rfl (hon 5 (by kernel_rfl)) rfl
      replace ha := Aside0.mk ha
      have B := Aside0.mk Q_B
      refine goes_ Try.func25 (by kernel_rfl) rfl #[.int .u8 f0] (by rfl) rfl rfl (by first | (simp only [List.map_toArray, List.map_cons, List.map_nil, Act.eval, Array.getD_eq_getD_getElem?, Option.getD_some, e9]; done) | (simp only [List.map_toArray, List.map_cons, List.map_nil, Act.eval, Array.getD_eq_getD_getElem?, Option.getD_some, e9]; rfl)) ?_
      refine (mask_calls f0 w').mono ?_
      rintro e w1 ⟨rfl, hD1⟩
      refine ⟨_, rfl, ?_⟩
      refine hK.out _ _ ⟨g3, m9_, (by rw [ha.out]; exact putSel_upk 6 hb_ rfl rfl rfl), below_then B.out B.out.size (drawn_below hD1), fun h0_ h1_ => ⟨blk_below (Q_Z h0_ h1_).1 (drawn_below hD1), (Q_Z h0_ h1_).2⟩, fun h0_ => absurd ((hoff 10 (by kernel_rfl)).symm.trans h0_) (by decide), Q_X9_⟩
    refine steps_cons ?_ ?_
    · rintro b a w' ⟨g3, m9_, ha, Q_B, Q_Z, Q_Z2, Q_X9_⟩ hb_ hon hoff
      refine ⟨_, rfl, fun K hK => ?_⟩
      have e7 : a.tmps[7]? = some (.int .u8 f1) := by rw [ha]; exact putSel_on (e := (3, 7, .int .u8 f1)) 3 rfl rfl (hon 3 (by kernel_rfl)) rfl
      have e10 : a.tmps[10]? = some (.int .u8 (maskD f0)) := by rw [ha]; exact putSel_on (e := (6, 10, .int .u8 (maskD f0))) 6 rfl rfl (hon 6 (by kernel_rfl)) rfl
      replace ha := Aside0.mk ha
      have B := Aside0.mk Q_B
      refine value_ (w1 := w') (v := .int .u8 fl) (by rfl) rfl (by go_simp; first | done | exact HFL.out) ?_
      refine hK.out _ _ ⟨g3, m9_, (by rw [ha.out]; exact putSel_upk 7 hb_ rfl rfl rfl), B.out, fun h0_ h1_ => (Q_Z h0_ h1_), fun h0_ => absurd ((hoff 10 (by kernel_rfl)).symm.trans h0_) (by decide), Q_X9_⟩
    refine steps_cons ?_ ?_
    · rintro b a w' ⟨g3, m9_, ha, Q_B, Q_Z, Q_Z2, Q_X9_⟩ hb_ hon hoff
      refine ⟨_, rfl, fun K hK => ?_⟩
      have e5 : a.tmps[5]? = some (.int .u8 f0) := by rw [ha]; exact putSel_on (e := (1, 5, .int .u8 f0)) 1 rfl rfl (hon 1 (by kernel_rfl)) rfl
      have e11 : a.tmps[11]? = some (.int .u8 fl) := by rw [ha]; exact putSel_on (e := (7, 11, .int .u8 fl)) 7 rfl rfl (hon 7 (by kernel_rfl)) rfl
      replace ha := Aside0.mk ha
      have B := Aside0.mk Q_B
      refine value_ (w1 := w') (v := .agg (#[.int .u8 (f0), .int .u8 (fl), .int .u32 0, .int .u16 0, .int .u16 0, .int .u32 0, .int .u32 0, .int .u32 0, .int .u16 0, .int .u16 0, .slice none 0 0, .slice none 0 0, .slice none 0 0, .slice none 0 0, .slice none 0 0])) (by rfl) rfl ?_ ?_
      · go_simp
        (try simp only [i64_w])
        try rfl
      refine hK.out _ _ ⟨g3, m9_, (by rw [ha.out]; exact putSel_upk 8 hb_ rfl rfl rfl), Q_B, Q_Z, fun h0_ => absurd ((hoff 10 (by kernel_rfl)).symm.trans h0_) (by decide), Q_X9_⟩
    refine steps_cons ?_ ?_
    · rintro b a w' ⟨g3, m9_, ha, Q_B, Q_Z, Q_Z2, Q_X9_⟩ hb_ hon hoff
      refine ⟨_, rfl, fun K hK => ?_⟩
      replace ha := Aside0.mk ha
      have B := Aside0.mk Q_B
      refine value_ (w1 := w'.alloc (.cells #[.int .u8 0, .int .u8 0, .int .u32 0, .int .u16 0, .int .u16 0, .int .u32 0, .int .u32 0, .int .u32 0, .int .u16 0, .int .u16 0, .slice none 0 0, .slice none 0 0, .slice none 0 0, .slice none 0 0, .slice none 0 0] 30)) (v := .pointer (some ⟨w'.heap.size, 0, none⟩)) (by rfl) rfl (by go_simp; try rfl) ?_
      refine hK.out _ _ ⟨w'.heap.size, (.pointer (some ⟨w'.heap.size, 0, none⟩)), (by rw [ha.out]; exact putSel_upk 9 hb_ rfl rfl rfl), B.out.alloc B.out.size _, fun _ _ => ⟨blk_new _ _, B.out.size⟩, fun h0_ => absurd ((hoff 10 (by kernel_rfl)).symm.trans h0_) (by decide), fun _ => rfl⟩
    refine steps_cons ?_ ?_
    · rintro b a w' ⟨g3, m9_, ha, Q_B, Q_Z, Q_Z2, Q_X9_⟩ hb_ hon hoff
      refine ⟨_, rfl, fun K hK => ?_⟩
      have e3 : a.tmps[3]? = some (m9_) := by rw [ha]; exact putSel_on (e := (9, 3, m9_)) 9 rfl rfl (hon 9 (by kernel_rfl)) rfl
      rw [Q_X9_ (hon 9 (by kernel_rfl))] at e3
      have e12 : a.tmps[12]? = some (.agg (#[.int .u8 (f0), .int .u8 (fl), .int .u32 0, .int .u16 0, .int .u16 0, .int .u32 0, .int .u32 0, .int .u32 0, .int .u16 0, .int .u16 0, .slice none 0 0, .slice none 0 0, .slice none 0 0, .slice none 0 0, .slice none 0 0])) := by rw [ha]; exact putSel_on (e := (8, 12, .agg (#[.int .u8 (f0), .int .u8 (fl), .int .u32 0, .int .u16 0, .int .u16 0, .int .u32 0, .int .u32 0, .int .u32 0, .int .u16 0, .int .u16 0, .slice none 0 0, .slice none 0 0, .slice none 0 0, .slice none 0 0, .slice none 0 0]))) 8 rfl rfl (hon 8 (by kernel_rfl)) rfl
      replace ha := Aside0.mk ha
      have B := Aside0.mk Q_B
      have Z := Aside0.mk (Q_Z (hon 9 (by kernel_rfl)) hb_)
      refine skip_ (w1 := w'.setRow g3 (#[.int .u8 (f0), .int .u8 (fl), .int .u32 0, .int .u16 0, .int .u16 0, .int .u32 0, .int .u32 0, .int .u32 0, .int .u16 0, .int .u16 0, .slice none 0 0, .slice none 0 0, .slice none 0 0, .slice none 0 0, .slice none 0 0])) (by rfl) rfl (exec_store_row 30 (.tmp 3) (.tmp 12) rfl (eval_of e3) (eval_of e12) Z.out.1 (by kernel_rfl) rfl (by simp [Value.oneCell'])) ?_
      refine hK.out _ _ ⟨g3, m9_, (by rw [ha.out]; exact putSel_none (v := undef) rfl), below_setRow B.out Z.out.2 _, fun _ h1_ => absurd ((up_self b 10).symm.trans h1_) (by decide), fun _ => ⟨setRow_heap _ _ _ _ _ _ Z.out.1, Z.out.2⟩, Q_X9_⟩
    exact steps_nil
  rintro b a w' hall ⟨g3, m9_, ha, Q_B, Q_Z, Q_Z2, Q_X9_⟩
  clear B
  have hb0_ := hall 0 (by kernel_rfl)
  have hb1_ := hall 1 (by kernel_rfl)
  have hb2_ := hall 2 (by kernel_rfl)
  have hb3_ := hall 3 (by kernel_rfl)
  have hb4_ := hall 4 (by kernel_rfl)
  have hb5_ := hall 5 (by kernel_rfl)
  have hb6_ := hall 6 (by kernel_rfl)
  have hb7_ := hall 7 (by kernel_rfl)
  have hb8_ := hall 8 (by kernel_rfl)
  have hb9_ := hall 9 (by kernel_rfl)
  have hb10_ := hall 10 (by kernel_rfl)
  subst ha
  obtain rfl := Q_X9_ hb9_
  simp only [putSel, hb0_, hb1_, hb2_, hb3_, hb4_, hb5_, hb6_, hb7_, hb8_, hb9_, hb10_, if_true, Act.put, List.setIfInBounds_toArray, List.set_cons_zero, List.set_cons_succ]
  have B := Aside0.mk Q_B
  clear Q_B
  clear Q_Z
  have Z2 := Aside0.mk (Q_Z2 hb10_)
  clear Q_Z2
  clear hall hb0_ hb1_ hb2_ hb3_ hb4_ hb5_ hb6_ hb7_ hb8_ hb9_ hb10_
  replace X : By w (CV ⟨f0, f1, f2, f3, f4, f5, f6, f7, f8, f9, f10, f11, f12, f13, f14⟩ ⟨A10, c10, A11, c11, A12, c12, A13, c13, A14, c14⟩) (#[.int .u8 (f0), .int .u8 (fl), .int .u32 0, .int .u16 0, .int .u16 0, .int .u32 0, .int .u32 0, .int .u32 0, .int .u16 0, .int .u16 0, .slice none 0 0, .slice none 0 0, .slice none 0 0, .slice none 0 0, .slice none 0 0]) g3 w' := ⟨X.below B.out, Z2.out.1, Nat.le_trans X.x3 Z2.out.2⟩
  replace U0 := Lib.hid (pw_cell_below B.out U0.out)
  replace U1 := Lib.hid (pw_cell_below B.out U1.out)
  replace U2 := Lib.hid (pw_cell_below B.out U2.out)
  replace U3 := Lib.hid (pw_cell_below B.out U3.out)
  replace U4 := Lib.hid (pw_cell_below B.out U4.out)
  replace U5 := Lib.hid (pw_cell_below B.out U5.out)
  replace U6 := Lib.hid (pw_cell_below B.out U6.out)
  replace U7 := Lib.hid (pw_cell_below B.out U7.out)
  replace U8 := Lib.hid (pw_cell_below B.out U8.out)
  replace U9 := Lib.hid (pw_cell_below B.out U9.out)
  replace U10 := Lib.hid (pw_cell_below B.out U10.out)
  replace U11 := Lib.hid (pw_cell_below B.out U11.out)
  replace U12 := Lib.hid (pw_cell_below B.out U12.out)
  replace U13 := Lib.hid (pw_cell_below B.out U13.out)
  replace U14 := Lib.hid (pw_cell_below B.out U14.out)
  clear B Z2 HFL
  generalize w' = W at *
  have HN := Lib.hid (show ¬ w.heap.size = g3 by have := X.hg; omega)
  by_cases h : f0 = 0
  · subst h
    have k0 := U0.out
    go_upto_region 16 with (fail)
    refine copy_region (B := bareB16) (T := 30) (gd := g3) [0, 1, 2, 3, 4, 5, 6, 7, 8, 9, 10, 11, 12, 13, 14, 15, 16, 17, 18, 19] [(0, 36, .pointer (some ⟨w.heap.size, 2, none⟩)), (1, 37, .int .u32 f2), (2, 38, .pointer (some ⟨w.heap.size, 3, none⟩)), (3, 39, .int .u16 f3), (4, 40, .pointer (some ⟨w.heap.size, 4, none⟩)), (5, 41, .int .u16 f4), (6, 42, .pointer (some ⟨w.heap.size, 5, none⟩)), (7, 43, .int .u32 f5), (8, 44, .pointer (some ⟨w.heap.size, 13, none⟩)), (9, 45, .slice A13 f13.length c13), (10, 46, .pointer (some ⟨g3, 2, none⟩)), (12, 47, .pointer (some ⟨g3, 3, none⟩)), (14, 48, .pointer (some ⟨g3, 4, none⟩)), (16, 49, .pointer (some ⟨g3, 5, none⟩)), (18, 50, .pointer (some ⟨g3, 13, none⟩))] [(11, 2, .int .u32 f2), (13, 3, .int .u16 f3), (15, 4, .int .u16 f4), (17, 5, .int .u32 f5), (19, 13, .slice A13 f13.length c13)] (by kernel_rfl) rfl (l := #[false, false, false, false, false, false, false, false, false, false, false, false, false, false, false, false, false, false, false, false]) rfl baretab16 barebits16 (by kernel_rfl) (by kernel_rfl) rfl rfl X.x3 ?_ ?_
    · exact steps_cons (cp_addr 0 0 1 rfl rfl rfl rfl rfl rfl rfl rfl (fun a w e => by go_simp)) (steps_cons (cp_op 1 1 0 0 rfl rfl rfl rfl rfl rfl rfl rfl rfl (by kernel_rfl) rfl (fun a w hO e => by have hs := hO.cell U2.out HN.out; go_simp)) (steps_cons (cp_addr 2 2 1 rfl rfl rfl rfl rfl rfl rfl rfl (fun a w e => by go_simp)) (steps_cons (cp_op 3 3 2 2 rfl rfl rfl rfl rfl rfl rfl rfl rfl (by kernel_rfl) rfl (fun a w hO e => by have hs := hO.cell U3.out HN.out; go_simp)) (steps_cons (cp_addr 4 4 1 rfl rfl rfl rfl rfl rfl rfl rfl (fun a w e => by go_simp)) (steps_cons (cp_op 5 5 4 4 rfl rfl rfl rfl rfl rfl rfl rfl rfl (by kernel_rfl) rfl (fun a w hO e => by have hs := hO.cell U4.out HN.out; go_simp)) (steps_cons (cp_addr 6 6 1 rfl rfl rfl rfl rfl rfl rfl rfl (fun a w e => by go_simp)) (steps_cons (cp_op 7 7 6 6 rfl rfl rfl rfl rfl rfl rfl rfl rfl (by kernel_rfl) rfl (fun a w hO e => by have hs := hO.cell U5.out HN.out; go_simp)) (steps_cons (cp_addr 8 8 1 rfl rfl rfl rfl rfl rfl rfl rfl (fun a w e => by go_simp)) (steps_cons (cp_op 9 9 8 8 rfl rfl rfl rfl rfl rfl rfl rfl rfl (by kernel_rfl) rfl (fun a w hO e => by have hs := hO.cell U13.out HN.out; go_simp)) (steps_cons (cp_addr 10 10 3 rfl rfl rfl rfl rfl rfl rfl rfl (fun a w e => by go_simp)) (steps_cons (cp_store 11 0 10 1 10 1 rfl rfl rfl rfl rfl rfl (show _ < 15 by decide) rfl rfl rfl (by kernel_rfl) rfl rfl rfl rfl (by kernel_rfl) rfl (fun a w old e e2 h h2 => by go_simp)) (steps_cons (cp_addr 12 11 3 rfl rfl rfl rfl rfl rfl rfl rfl (fun a w e => by go_simp)) (steps_cons (cp_store 13 1 11 3 12 3 rfl rfl rfl rfl rfl rfl (show _ < 15 by decide) rfl rfl rfl (by kernel_rfl) rfl rfl rfl rfl (by kernel_rfl) rfl (fun a w old e e2 h h2 => by go_simp)) (steps_cons (cp_addr 14 12 3 rfl rfl rfl rfl rfl rfl rfl rfl (fun a w e => by go_simp)) (steps_cons (cp_store 15 2 12 5 14 5 rfl rfl rfl rfl rfl rfl (show _ < 15 by decide) rfl rfl rfl (by kernel_rfl) rfl rfl rfl rfl (by kernel_rfl) rfl (fun a w old e e2 h h2 => by go_simp)) (steps_cons (cp_addr 16 13 3 rfl rfl rfl rfl rfl rfl rfl rfl (fun a w e => by go_simp)) (steps_cons (cp_store 17 3 13 7 16 7 rfl rfl rfl rfl rfl rfl (show _ < 15 by decide) rfl rfl rfl (by kernel_rfl) rfl rfl rfl rfl (by kernel_rfl) rfl (fun a w old e e2 h h2 => by go_simp)) (steps_cons (cp_addr 18 14 3 rfl rfl rfl rfl rfl rfl rfl rfl (fun a w e => by go_simp)) (steps_cons (cp_store 19 4 14 9 18 9 rfl rfl rfl rfl rfl rfl (show _ < 15 by decide) rfl rfl rfl (by kernel_rfl) rfl rfl rfl rfl (by kernel_rfl) rfl (fun a w old e e2 h h2 => by go_simp)) steps_nil)))))))))))))))))))
    intro W9 hO9 hC9
    replace X := (show By w _ (#[.int .u8 _, .int .u8 fl, .int .u32 f2, .int .u16 f3, .int .u16 f4, .int .u32 f5, .int .u32 0, .int .u32 0, .int .u16 0, .int .u16 0, .slice none 0 0, .slice none 0 0, .slice none 0 0, .slice A13 f13.length c13, .slice none 0 0]) g3 W9 from X.only hO9 hC9)
    clear hO9 hC9
    simp only [putSel, if_true, Act.put, List.setIfInBounds_toArray, List.set_cons_zero, List.set_cons_succ]
    go_wp2_with (with_reducible refine gate_dst (N := 93) rfl ?_; go_must (refine wpList_ret_row 93 rfl rfl rfl (.tmp 3) (.tmp 2) rfl rfl rfl _ _ _ _ rfl rfl rfl X.x3 X.bx.x1 rfl rfl (by simp [Value.oneCell']) ?_))
    exact row_end rfl rfl rfl X.bx.x1 rfl X.bx.x2 (Nat.le_succ _) (by rw [← HFE.out]; rfl)
  have q0 : (f0 == 0) = false := by simpa using h
  clear h
  by_cases h : f0 = 1 ∨ f0 = 2
  · rcases h with rfl | rfl
    all_goals
      have k0 := U0.out
      go_upto_region 17 with (fail)
      refine copy_region (B := bareB17) (T := 30) (gd := g3) [0, 1, 2, 3, 4, 5, 6, 7, 8, 9, 10, 11, 12, 13, 14, 15, 16, 17, 18, 19, 20, 21, 22, 23] [(0, 51, .pointer (some ⟨w.heap.size, 6, none⟩)), (1, 52, .int .u32 f6), (2, 53, .pointer (some ⟨w.heap.size, 7, none⟩)), (3, 54, .int .u32 f7), (4, 55, .pointer (some ⟨w.heap.size, 8, none⟩)), (5, 56, .int .u16 f8), (6, 57, .pointer (some ⟨w.heap.size, 9, none⟩)), (7, 58, .int .u16 f9), (8, 59, .pointer (some ⟨w.heap.size, 2, none⟩)), (9, 60, .int .u32 f2), (10, 61, .pointer (some ⟨w.heap.size, 14, none⟩)), (11, 62, .slice A14 f14.length c14), (12, 63, .pointer (some ⟨g3, 6, none⟩)), (14, 64, .pointer (some ⟨g3, 7, none⟩)), (16, 65, .pointer (some ⟨g3, 8, none⟩)), (18, 66, .pointer (some ⟨g3, 9, none⟩)), (20, 67, .pointer (some ⟨g3, 2, none⟩)), (22, 68, .pointer (some ⟨g3, 14, none⟩))] [(13, 6, .int .u32 f6), (15, 7, .int .u32 f7), (17, 8, .int .u16 f8), (19, 9, .int .u16 f9), (21, 2, .int .u32 f2), (23, 14, .slice A14 f14.length c14)] (by kernel_rfl) rfl (l := #[false, false, false, false, false, false, false, false, false, false, false, false, false, false, false, false, false, false, false, false, false, false, false, false]) rfl baretab17 barebits17 (by kernel_rfl) (by kernel_rfl) rfl rfl X.x3 ?_ ?_
      · exact steps_cons (cp_addr 0 0 1 rfl rfl rfl rfl rfl rfl rfl rfl (fun a w e => by go_simp)) (steps_cons (cp_op 1 1 0 0 rfl rfl rfl rfl rfl rfl rfl rfl rfl (by kernel_rfl) rfl (fun a w hO e => by have hs := hO.cell U6.out HN.out; go_simp)) (steps_cons (cp_addr 2 2 1 rfl rfl rfl rfl rfl rfl rfl rfl (fun a w e => by go_simp)) (steps_cons (cp_op 3 3 2 2 rfl rfl rfl rfl rfl rfl rfl rfl rfl (by kernel_rfl) rfl (fun a w hO e => by have hs := hO.cell U7.out HN.out; go_simp)) (steps_cons (cp_addr 4 4 1 rfl rfl rfl rfl rfl rfl rfl rfl (fun a w e => by go_simp)) (steps_cons (cp_op 5 5 4 4 rfl rfl rfl rfl rfl rfl rfl rfl rfl (by kernel_rfl) rfl (fun a w hO e => by have hs := hO.cell U8.out HN.out; go_simp)) (steps_cons (cp_addr 6 6 1 rfl rfl rfl rfl rfl rfl rfl rfl (fun a w e => by go_simp)) (steps_cons (cp_op 7 7 6 6 rfl rfl rfl rfl rfl rfl rfl rfl rfl (by kernel_rfl) rfl (fun a w hO e => by have hs := hO.cell U9.out HN.out; go_simp)) (steps_cons (cp_addr 8 8 1 rfl rfl rfl rfl rfl rfl rfl rfl (fun a w e => by go_simp)) (steps_cons (cp_op 9 9 8 8 rfl rfl rfl rfl rfl rfl rfl rfl rfl (by kernel_rfl) rfl (fun a w hO e => by have hs := hO.cell U2.out HN.out; go_simp)) (steps_cons (cp_addr 10 10 1 rfl rfl rfl rfl rfl rfl rfl rfl (fun a w e => by go_simp)) (steps_cons (cp_op 11 11 10 10 rfl rfl rfl rfl rfl rfl rfl rfl rfl (by kernel_rfl) rfl (fun a w hO e => by have hs := hO.cell U14.out HN.out; go_simp)) (steps_cons (cp_addr 12 12 3 rfl rfl rfl rfl rfl rfl rfl rfl (fun a w e => by go_simp)) (steps_cons (cp_store 13 0 12 1 12 1 rfl rfl rfl rfl rfl rfl (show _ < 15 by decide) rfl rfl rfl (by kernel_rfl) rfl rfl rfl rfl (by kernel_rfl) rfl (fun a w old e e2 h h2 => by go_simp)) (steps_cons (cp_addr 14 13 3 rfl rfl rfl rfl rfl rfl rfl rfl (fun a w e => by go_simp)) (steps_cons (cp_store 15 1 13 3 14 3 rfl rfl rfl rfl rfl rfl (show _ < 15 by decide) rfl rfl rfl (by kernel_rfl) rfl rfl rfl rfl (by kernel_rfl) rfl (fun a w old e e2 h h2 => by go_simp)) (steps_cons (cp_addr 16 14 3 rfl rfl rfl rfl rfl rfl rfl rfl (fun a w e => by go_simp)) (steps_cons (cp_store 17 2 14 5 16 5 rfl rfl rfl rfl rfl rfl (show _ < 15 by decide) rfl rfl rfl (by kernel_rfl) rfl rfl rfl rfl (by kernel_rfl) rfl (fun a w old e e2 h h2 => by go_simp)) (steps_cons (cp_addr 18 15 3 rfl rfl rfl rfl rfl rfl rfl rfl (fun a w e => by go_simp)) (steps_cons (cp_store 19 3 15 7 18 7 rfl rfl rfl rfl rfl rfl (show _ < 15 by decide) rfl rfl rfl (by kernel_rfl) rfl rfl rfl rfl (by kernel_rfl) rfl (fun a w old e e2 h h2 => by go_simp)) (steps_cons (cp_addr 20 16 3 rfl rfl rfl rfl rfl rfl rfl rfl (fun a w e => by go_simp)) (steps_cons (cp_store 21 4 16 9 20 9 rfl rfl rfl rfl rfl rfl (show _ < 15 by decide) rfl rfl rfl (by kernel_rfl) rfl rfl rfl rfl (by kernel_rfl) rfl (fun a w old e e2 h h2 => by go_simp)) (steps_cons (cp_addr 22 17 3 rfl rfl rfl rfl rfl rfl rfl rfl (fun a w e => by go_simp)) (steps_cons (cp_store 23 5 17 11 22 11 rfl rfl rfl rfl rfl rfl (show _ < 15 by decide) rfl rfl rfl (by kernel_rfl) rfl rfl rfl rfl (by kernel_rfl) rfl (fun a w old e e2 h h2 => by go_simp)) steps_nil)))))))))))))))))))))))
      intro W9 hO9 hC9
      replace X := (show By w _ (#[.int .u8 _, .int .u8 fl, .int .u32 f2, .int .u16 0, .int .u16 0, .int .u32 0, .int .u32 f6, .int .u32 f7, .int .u16 f8, .int .u16 f9, .slice none 0 0, .slice none 0 0, .slice none 0 0, .slice none 0 0, .slice A14 f14.length c14]) g3 W9 from X.only hO9 hC9)
      clear hO9 hC9
      simp only [putSel, if_true, Act.put, List.setIfInBounds_toArray, List.set_cons_zero, List.set_cons_succ]
      go_wp2_with (with_reducible refine gate_dst (N := 93) rfl ?_; go_must (refine wpList_ret_row 93 rfl rfl rfl (.tmp 3) (.tmp 2) rfl rfl rfl _ _ _ _ rfl rfl rfl X.x3 X.bx.x1 rfl rfl (by simp [Value.oneCell']) ?_))
      exact row_end rfl rfl rfl X.bx.x1 rfl X.bx.x2 (Nat.le_succ _) (by rw [← HFE.out]; rfl)
  have q1 : (f0 == 1) = false := by simp; omega
  have q2 : (f0 == 2) = false := by simp; omega
  clear h
  by_cases h : f0 = 16
  · subst h
    have k0 := U0.out
    have HU := Lib.hid (fun (i : Nat) (u : Value) (h : W.cell? ⟨w.heap.size, i, none⟩ = some u) => (show (W.setCell ⟨g3, 11, none⟩ (.slice A11 f11.length c11)).cell? ⟨w.heap.size, i, none⟩ = some u from ((Only.refl (· = g3) W).setCell (fun _ => rfl) _).cell h HN.out))
    have k11 : W.cell? ⟨w.heap.size, 11, none⟩ = some (.slice A11 f11.length c11) := U11.out
    have d11 : W.cell? ⟨g3, 11, none⟩ = some (.slice none 0 0) := blk_cell X.x3 11
    have f_11 := blk_frozen X.x3 11
    go_upto_region 19 with (fail)
    replace X := X.set 11 (.slice A11 f11.length c11)
    replace U0 := Lib.hid (HU.out _ _ U0.out)
    replace U2 := Lib.hid (HU.out _ _ U2.out)
    replace U7 := Lib.hid (HU.out _ _ U7.out)
    replace U10 := Lib.hid (HU.out _ _ U10.out)
    replace U12 := Lib.hid (HU.out _ _ U12.out)
    clear HU k0 k11 d11 f_11
    generalize W.setCell ⟨g3, 11, none⟩ (.slice A11 f11.length c11) = W at *
    refine copy_region (B := bareB19) (T := 30) (gd := g3) [0, 1, 2, 3, 4, 5, 6, 7, 8, 9, 10, 11, 12, 13, 14, 15] [(0, 72, .pointer (some ⟨w.heap.size, 2, none⟩)), (1, 73, .int .u32 f2), (2, 74, .pointer (some ⟨w.heap.size, 7, none⟩)), (3, 75, .int .u32 f7), (4, 76, .pointer (some ⟨w.heap.size, 10, none⟩)), (5, 77, .slice A10 f10.length c10), (6, 78, .pointer (some ⟨w.heap.size, 12, none⟩)), (7, 79, .slice A12 f12.length c12), (8, 80, .pointer (some ⟨g3, 2, none⟩)), (10, 81, .pointer (some ⟨g3, 7, none⟩)), (12, 82, .pointer (some ⟨g3, 10, none⟩)), (14, 83, .pointer (some ⟨g3, 12, none⟩))] [(9, 2, .int .u32 f2), (11, 7, .int .u32 f7), (13, 10, .slice A10 f10.length c10), (15, 12, .slice A12 f12.length c12)] (by kernel_rfl) rfl (l := #[false, false, false, false, false, false, false, false, false, false, false, false, false, false, false, false]) rfl baretab19 barebits19 (by kernel_rfl) (by kernel_rfl) rfl rfl X.x3 ?_ ?_
    · exact steps_cons (cp_addr 0 0 1 rfl rfl rfl rfl rfl rfl rfl rfl (fun a w e => by go_simp)) (steps_cons (cp_op 1 1 0 0 rfl rfl rfl rfl rfl rfl rfl rfl rfl (by kernel_rfl) rfl (fun a w hO e => by have hs := hO.cell U2.out HN.out; go_simp)) (steps_cons (cp_addr 2 2 1 rfl rfl rfl rfl rfl rfl rfl rfl (fun a w e => by go_simp)) (steps_cons (cp_op 3 3 2 2 rfl rfl rfl rfl rfl rfl rfl rfl rfl (by kernel_rfl) rfl (fun a w hO e => by have hs := hO.cell U7.out HN.out; go_simp)) (steps_cons (cp_addr 4 4 1 rfl rfl rfl rfl rfl rfl rfl rfl (fun a w e => by go_simp)) (steps_cons (cp_op 5 5 4 4 rfl rfl rfl rfl rfl rfl rfl rfl rfl (by kernel_rfl) rfl (fun a w hO e => by have hs := hO.cell U10.out HN.out; go_simp)) (steps_cons (cp_addr 6 6 1 rfl rfl rfl rfl rfl rfl rfl rfl (fun a w e => by go_simp)) (steps_cons (cp_op 7 7 6 6 rfl rfl rfl rfl rfl rfl rfl rfl rfl (by kernel_rfl) rfl (fun a w hO e => by have hs := hO.cell U12.out HN.out; go_simp)) (steps_cons (cp_addr 8 8 3 rfl rfl rfl rfl rfl rfl rfl rfl (fun a w e => by go_simp)) (steps_cons (cp_store 9 0 8 1 8 1 rfl rfl rfl rfl rfl rfl (show _ < 15 by decide) rfl rfl rfl (by kernel_rfl) rfl rfl rfl rfl (by kernel_rfl) rfl (fun a w old e e2 h h2 => by go_simp)) (steps_cons (cp_addr 10 9 3 rfl rfl rfl rfl rfl rfl rfl rfl (fun a w e => by go_simp)) (steps_cons (cp_store 11 1 9 3 10 3 rfl rfl rfl rfl rfl rfl (show _ < 15 by decide) rfl rfl rfl (by kernel_rfl) rfl rfl rfl rfl (by kernel_rfl) rfl (fun a w old e e2 h h2 => by go_simp)) (steps_cons (cp_addr 12 10 3 rfl rfl rfl rfl rfl rfl rfl rfl (fun a w e => by go_simp)) (steps_cons (cp_store 13 2 10 5 12 5 rfl rfl rfl rfl rfl rfl (show _ < 15 by decide) rfl rfl rfl (by kernel_rfl) rfl rfl rfl rfl (by kernel_rfl) rfl (fun a w old e e2 h h2 => by go_simp)) (steps_cons (cp_addr 14 11 3 rfl rfl rfl rfl rfl rfl rfl rfl (fun a w e => by go_simp)) (steps_cons (cp_store 15 3 11 7 14 7 rfl rfl rfl rfl rfl rfl (show _ < 15 by decide) rfl rfl rfl (by kernel_rfl) rfl rfl rfl rfl (by kernel_rfl) rfl (fun a w old e e2 h h2 => by go_simp)) steps_nil)))))))))))))))
    intro W8 hO9 hC9
    replace X := (show By w _ (#[.int .u8 _, .int .u8 fl, .int .u32 f2, .int .u16 0, .int .u16 0, .int .u32 0, .int .u32 0, .int .u32 f7, .int .u16 0, .int .u16 0, .slice A10 f10.length c10, .slice A11 f11.length c11, .slice A12 f12.length c12, .slice none 0 0, .slice none 0 0]) g3 W8 from X.only hO9 hC9)
    clear hO9 hC9
    simp only [putSel, if_true, Act.put, List.setIfInBounds_toArray, List.set_cons_zero, List.set_cons_succ]
    go_wp2_with (with_reducible refine gate_dst (N := 93) rfl ?_; go_must (refine wpList_ret_row 93 rfl rfl rfl (.tmp 3) (.tmp 2) rfl rfl rfl _ _ _ _ rfl rfl rfl X.x3 X.bx.x1 rfl rfl (by simp [Value.oneCell']) ?_))
    exact row_end rfl rfl rfl X.bx.x1 rfl X.bx.x2 (Nat.le_succ _) (by rw [← HFE.out]; rfl)
  have q16 : (f0 == 16) = false := by simpa using h
  clear h
  by_cases h : f0 = 3
  · subst h
    have k0 := U0.out
    go_upto_region 19 with (fail)
    refine copy_region (B := bareB19) (T := 30) (gd := g3) [0, 1, 2, 3, 4, 5, 6, 7, 8, 9, 10, 11, 12, 13, 14, 15] [(0, 72, .pointer (some ⟨w.heap.size, 2, none⟩)), (1, 73, .int .u32 f2), (2, 74, .pointer (some ⟨w.heap.size, 7, none⟩)), (3, 75, .int .u32 f7), (4, 76, .pointer (some ⟨w.heap.size, 10, none⟩)), (5, 77, .slice A10 f10.length c10), (6, 78, .pointer (some ⟨w.heap.size, 12, none⟩)), (7, 79, .slice A12 f12.length c12), (8, 80, .pointer (some ⟨g3, 2, none⟩)), (10, 81, .pointer (some ⟨g3, 7, none⟩)), (12, 82, .pointer (some ⟨g3, 10, none⟩)), (14, 83, .pointer (some ⟨g3, 12, none⟩))] [(9, 2, .int .u32 f2), (11, 7, .int .u32 f7), (13, 10, .slice A10 f10.length c10), (15, 12, .slice A12 f12.length c12)] (by kernel_rfl) rfl (l := #[false, false, false, false, false, false, false, false, false, false, false, false, false, false, false, false]) rfl baretab19 barebits19 (by kernel_rfl) (by kernel_rfl) rfl rfl X.x3 ?_ ?_
    · exact steps_cons (cp_addr 0 0 1 rfl rfl rfl rfl rfl rfl rfl rfl (fun a w e => by go_simp)) (steps_cons (cp_op 1 1 0 0 rfl rfl rfl rfl rfl rfl rfl rfl rfl (by kernel_rfl) rfl (fun a w hO e => by have hs := hO.cell U2.out HN.out; go_simp)) (steps_cons (cp_addr 2 2 1 rfl rfl rfl rfl rfl rfl rfl rfl (fun a w e => by go_simp)) (steps_cons (cp_op 3 3 2 2 rfl rfl rfl rfl rfl rfl rfl rfl rfl (by kernel_rfl) rfl (fun a w hO e => by have hs := hO.cell U7.out HN.out; go_simp)) (steps_cons (cp_addr 4 4 1 rfl rfl rfl rfl rfl rfl rfl rfl (fun a w e => by go_simp)) (steps_cons (cp_op 5 5 4 4 rfl rfl rfl rfl rfl rfl rfl rfl rfl (by kernel_rfl) rfl (fun a w hO e => by have hs := hO.cell U10.out HN.out; go_simp)) (steps_cons (cp_addr 6 6 1 rfl rfl rfl rfl rfl rfl rfl rfl (fun a w e => by go_simp)) (steps_cons (cp_op 7 7 6 6 rfl rfl rfl rfl rfl rfl rfl rfl rfl (by kernel_rfl) rfl (fun a w hO e => by have hs := hO.cell U12.out HN.out; go_simp)) (steps_cons (cp_addr 8 8 3 rfl rfl rfl rfl rfl rfl rfl rfl (fun a w e => by go_simp)) (steps_cons (cp_store 9 0 8 1 8 1 rfl rfl rfl rfl rfl rfl (show _ < 15 by decide) rfl rfl rfl (by kernel_rfl) rfl rfl rfl rfl (by kernel_rfl) rfl (fun a w old e e2 h h2 => by go_simp)) (steps_cons (cp_addr 10 9 3 rfl rfl rfl rfl rfl rfl rfl rfl (fun a w e => by go_simp)) (steps_cons (cp_store 11 1 9 3 10 3 rfl rfl rfl rfl rfl rfl (show _ < 15 by decide) rfl rfl rfl (by kernel_rfl) rfl rfl rfl rfl (by kernel_rfl) rfl (fun a w old e e2 h h2 => by go_simp)) (steps_cons (cp_addr 12 10 3 rfl rfl rfl rfl rfl rfl rfl rfl (fun a w e => by go_simp)) (steps_cons (cp_store 13 2 10 5 12 5 rfl rfl rfl rfl rfl rfl (show _ < 15 by decide) rfl rfl rfl (by kernel_rfl) rfl rfl rfl rfl (by kernel_rfl) rfl (fun a w old e e2 h h2 => by go_simp)) (steps_cons (cp_addr 14 11 3 rfl rfl rfl rfl rfl rfl rfl rfl (fun a w e => by go_simp)) (steps_cons (cp_store 15 3 11 7 14 7 rfl rfl rfl rfl rfl rfl (show _ < 15 by decide) rfl rfl rfl (by kernel_rfl) rfl rfl rfl rfl (by kernel_rfl) rfl (fun a w old e e2 h h2 => by go_simp)) steps_nil)))))))))))))))
    intro W9 hO9 hC9
    replace X := (show By w _ (#[.int .u8 _, .int .u8 fl, .int .u32 f2, .int .u16 0, .int .u16 0, .int .u32 0, .int .u32 0, .int .u32 f7, .int .u16 0, .int .u16 0, .slice A10 f10.length c10, .slice none 0 0, .slice A12 f12.length c12, .slice none 0 0, .slice none 0 0]) g3 W9 from X.only hO9 hC9)
    clear hO9 hC9
    simp only [putSel, if_true, Act.put, List.setIfInBounds_toArray, List.set_cons_zero, List.set_cons_succ]
    go_wp2_with (with_reducible refine gate_dst (N := 93) rfl ?_; go_must (refine wpList_ret_row 93 rfl rfl rfl (.tmp 3) (.tmp 2) rfl rfl rfl _ _ _ _ rfl rfl rfl X.x3 X.bx.x1 rfl rfl (by simp [Value.oneCell']) ?_))
    exact row_end rfl rfl rfl X.bx.x1 rfl X.bx.x2 (Nat.le_succ _) (by rw [← HFE.out]; rfl)
  have q3 : (f0 == 3) = false := by simpa using h
  clear h
  by_cases h : f0 = 4 ∨ f0 = 5 ∨ f0 = 6 ∨ f0 = 9
  · rcases h with rfl | rfl | rfl | rfl
    all_goals
      have k0 := U0.out
      have k14 : W.cell? ⟨w.heap.size, 14, none⟩ = some (.slice A14 f14.length c14) := U14.out
      have d14 : W.cell? ⟨g3, 14, none⟩ = some (.slice none 0 0) := blk_cell X.x3 14
      have f_14 := blk_frozen X.x3 14
      go_upto_region 23 with (fail)
      refine wp_gen (By w _ (#[.int .u8 _, .int .u8 fl, .int .u32 0, .int .u16 0, .int .u16 0, .int .u32 0, .int .u32 0, .int .u32 0, .int .u16 0, .int .u16 0, .slice none 0 0, .slice none 0 0, .slice none 0 0, .slice none 0 0, .slice A14 f14.length c14]) g3) (X.set 14 _) ?_
      clear X k14 d14 f_14
      intro W9 X
      go_wp2_with (with_reducible refine gate_dst (N := 93) rfl ?_; go_must (refine wpList_ret_row 93 rfl rfl rfl (.tmp 3) (.tmp 2) rfl rfl rfl _ _ _ _ rfl rfl rfl X.x3 X.bx.x1 rfl rfl (by simp [Value.oneCell']) ?_))
      exact row_end rfl rfl rfl X.bx.x1 rfl X.bx.x2 (Nat.le_succ _) (by rw [← HFE.out]; rfl)
  have q4 : (f0 == 4) = false := by simp; omega
  have q5 : (f0 == 5) = false := by simp; omega
  have q6 : (f0 == 6) = false := by simp; omega
  have q9 : (f0 == 9) = false := by simp; omega
  clear h
  by_cases h : f0 = 7
  · subst h
    have k0 := U0.out
    have k2 : W.cell? ⟨w.heap.size, 2, none⟩ = some (.int .u32 f2) := U2.out
    have d2 : W.cell? ⟨g3, 2, none⟩ = some (.int .u32 0) := blk_cell X.x3 2
    have f_2 := blk_frozen X.x3 2
    go_upto_region 23 with (fail)
    refine wp_gen (By w _ (#[.int .u8 _, .int .u8 fl, .int .u32 f2, .int .u16 0, .int .u16 0, .int .u32 0, .int .u32 0, .int .u32 0, .int .u16 0, .int .u16 0, .slice none 0 0, .slice none 0 0, .slice none 0 0, .slice none 0 0, .slice none 0 0]) g3) (X.set 2 _) ?_
    clear X k2 d2 f_2
    intro W9 X
    go_wp2_with (with_reducible refine gate_dst (N := 93) rfl ?_; go_must (refine wpList_ret_row 93 rfl rfl rfl (.tmp 3) (.tmp 2) rfl rfl rfl _ _ _ _ rfl rfl rfl X.x3 X.bx.x1 rfl rfl (by simp [Value.oneCell']) ?_))
    exact row_end rfl rfl rfl X.bx.x1 rfl X.bx.x2 (Nat.le_succ _) (by rw [← HFE.out]; rfl)
  have q7 : (f0 == 7) = false := by simpa using h
  clear h
  by_cases h : f0 = 8 ∨ f0 = 11 ∨ f0 = 14
  · rcases h with rfl | rfl | rfl
    all_goals
      have k0 := U0.out
      go_wp2_with (with_reducible refine gate_dst (N := 93) rfl ?_; go_must (refine wpList_ret_row 93 rfl rfl rfl (.tmp 3) (.tmp 2) rfl rfl rfl _ _ _ _ rfl rfl rfl X.x3 X.bx.x1 rfl rfl (by simp [Value.oneCell']) ?_))
      exact row_end rfl rfl rfl X.bx.x1 rfl X.bx.x2 (Nat.le_succ _) (by rw [← HFE.out]; rfl)
  have q8 : (f0 == 8) = false := by simp; omega
  have q11 : (f0 == 11) = false := by simp; omega
  have q14 : (f0 == 14) = false := by simp; omega
  clear h
  have k0 := U0.out
  have k13 : W.cell? ⟨w.heap.size, 13, none⟩ = some (.slice A13 f13.length c13) := U13.out
  have d13 : W.cell? ⟨g3, 13, none⟩ = some (.slice none 0 0) := blk_cell X.x3 13
  have f_13 := blk_frozen X.x3 13
  go_upto_region 23 with (fail)
  refine wp_gen (By w _ (#[.int .u8 _, .int .u8 fl, .int .u32 0, .int .u16 0, .int .u16 0, .int .u32 0, .int .u32 0, .int .u32 0, .int .u16 0, .int .u16 0, .slice none 0 0, .slice none 0 0, .slice none 0 0, .slice A13 f13.length c13, .slice none 0 0]) g3) (X.set 13 _) ?_
  clear X k13 d13 f_13
  intro W9 X
  go_wp2_with (with_reducible refine gate_dst (N := 93) rfl ?_; go_must (refine wpList_ret_row 93 rfl rfl rfl (.tmp 3) (.tmp 2) rfl rfl rfl _ _ _ _ rfl rfl rfl X.x3 X.bx.x1 rfl rfl (by simp [Value.oneCell']) ?_))
  have hf : hasF f0 = fun i => i == 13 := by
    funext i
    simp only [beq_eq_false_iff_ne] at q0 q1 q2 q16 q3 q4 q5 q6 q9 q7 q8 q11 q14
    unfold hasF
    rw [if_neg q0, if_neg (fun e => e.elim q1 q2), if_neg q16, if_neg q3, if_neg (fun e => e.elim q4 (fun e => e.elim q5 (fun e => e.elim q6 q9))), if_neg q7, if_neg (fun e => e.elim q8 (fun e => e.elim q11 q14))]
  refine row_end rfl rfl rfl X.bx.x1 rfl X.bx.x2 (Nat.le_succ _) ?_
  rw [← HFE.out]
  unfold bareD
  dsimp only
  rw [hf]
  rfl
end Go.Proofs.Ytjmadnpicidbeaa.Ch
end
section
namespace Go.Proofs.Ytjmadnpicidbeaa.Ch
open Go.RowKit Go.Proofs.YtjmadnpicidbeaaW.PrintWords Go.Proofs.YtjmadnpicidbeaaW.PrintLast Go.Proofs.Ytjmadnpicidbeaa.Base Go.Proofs.Ytjmadnpicidbeaa.PCh Go.Proofs.Ytjmadnpicidbeaa.ParDec
set_option maxRecDepth 100000
set_option linter.unusedVariables false
set_option linter.unusedSimpArgs false
def rbareT5 : Bool × List (List Nat × List Nat) := (true, [([], []), ([0], [0]), ([1], [1]), ([], []), ([3], [3]), ([], []), ([5], [5]), ([], []), ([7], [7]), ([], []), ([9], [9]), ([], []), ([11], [11]), ([0, 1, 2], []), ([13, 2, 0, 1, 2], [2, 13]), ([0, 1, 2, 3, 4, 13, 14], []), ([15, 4, 14, 0, 1, 2, 3, 4, 13, 14], [4, 15]), ([0, 1, 2, 3, 4, 5, 6, 13, 14, 15, 16], []), ([17, 6, 16, 0, 1, 2, 3, 4, 5, 6, 13, 14, 15, 16], [6, 17]), ([0, 1, 2, 3, 4, 5, 6, 7, 8, 13, 14, 15, 16, 17, 18], []), ([19, 8, 18, 0, 1, 2, 3, 4, 5, 6, 7, 8, 13, 14, 15, 16, 17, 18], [8, 19]), ([0, 1, 2, 3, 4, 5, 6, 7, 8, 9, 10, 13, 14, 15, 16, 17, 18, 19, 20], []), ([21, 10, 20, 0, 1, 2, 3, 4, 5, 6, 7, 8, 9, 10, 13, 14, 15, 16, 17, 18, 19, 20], [10, 21]), ([0, 1, 2, 3, 4, 5, 6, 7, 8, 9, 10, 11, 12, 13, 14, 15, 16, 17, 18, 19, 20, 21, 22], []), ([23, 12, 22, 0, 1, 2, 3, 4, 5, 6, 7, 8, 9, 10, 11, 12, 13, 14, 15, 16, 17, 18, 19, 20, 21, 22], [12, 23])])
def rbareB5 : List Nat := [0, 1, 3, 0, 8, 0, 32, 0, 128, 0, 512, 0, 2048, 7, 8199, 24607, 57375, 123007, 254079, 516607, 1040895, 2091007, 4188159, 8388607, 16777215]
theorem rbaretab5 : Go.Proofs.YtjmadnpicidbeaaW.PrintLast.rtab .any (Go.Proofs.YtjmadnpicidbeaaW.PrintLast.opsOf Try.f44 5) = rbareT5 := by kernel_rfl
theorem rbarebits5 : Go.Proofs.YtjmadnpicidbeaaW.PrintLast.waitsOk rbareT5.2 rbareB5 = true := by kernel_rfl
def rbareT8 : Bool × List (List Nat × List Nat) := (true, [([], []), ([0], [0]), ([], []), ([2], [2]), ([], []), ([4], [4]), ([], []), ([6], [6]), ([], []), ([8], [8]), ([], []), ([10], [10]), ([0, 1], []), ([12, 1, 0, 1], [1, 12]), ([0, 1, 2, 3, 12, 13], []), ([14, 3, 13, 0, 1, 2, 3, 12, 13], [3, 14]), ([0, 1, 2, 3, 4, 5, 12, 13, 14, 15], []), ([16, 5, 15, 0, 1, 2, 3, 4, 5, 12, 13, 14, 15], [5, 16]), ([0, 1, 2, 3, 4, 5, 6, 7, 12, 13, 14, 15, 16, 17], []), ([18, 7, 17, 0, 1, 2, 3, 4, 5, 6, 7, 12, 13, 14, 15, 16, 17], [7, 18]), ([0, 1, 2, 3, 4, 5, 6, 7, 8, 9, 12, 13, 14, 15, 16, 17, 18, 19], []), ([20, 9, 19, 0, 1, 2, 3, 4, 5, 6, 7, 8, 9, 12, 13, 14, 15, 16, 17, 18, 19], [9, 20]), ([0, 1, 2, 3, 4, 5, 6, 7, 8, 9, 10, 11, 12, 13, 14, 15, 16, 17, 18, 19, 20, 21], []), ([22, 11, 21, 0, 1, 2, 3, 4, 5, 6, 7, 8, 9, 10, 11, 12, 13, 14, 15, 16, 17, 18, 19, 20, 21], [11, 22])])
def rbareB8 : List Nat := [0, 1, 0, 4, 0, 16, 0, 64, 0, 256, 0, 1024, 3, 4099, 12303, 28687, 61503, 127039, 258303, 520447, 1045503, 2094079, 4194303, 8388607]
theorem rbaretab8 : Go.Proofs.YtjmadnpicidbeaaW.PrintLast.rtab .any (Go.Proofs.YtjmadnpicidbeaaW.PrintLast.opsOf Try.f44 8) = rbareT8 := by kernel_rfl
theorem rbarebits8 : Go.Proofs.YtjmadnpicidbeaaW.PrintLast.waitsOk rbareT8.2 rbareB8 = true := by kernel_rfl
def rbareT10 : Bool × List (List Nat × List Nat) := (true, [([], []), ([0], [0]), ([], []), ([2], [2]), ([], []), ([4], [4]), ([], []), ([6], [6]), ([0, 1], []), ([8, 1, 0, 1], [1, 8]), ([0, 1, 2, 3, 8, 9], []), ([10, 3, 9, 0, 1, 2, 3, 8, 9], [3, 10]), ([0, 1, 2, 3, 4, 5, 8, 9, 10, 11], []), ([12, 5, 11, 0, 1, 2, 3, 4, 5, 8, 9, 10, 11], [5, 12]), ([0, 1, 2, 3, 4, 5, 6, 7, 8, 9, 10, 11, 12, 13], []), ([14, 7, 13, 0, 1, 2, 3, 4, 5, 6, 7, 8, 9, 10, 11, 12, 13], [7, 14])])
def rbareB10 : List Nat := [0, 1, 0, 4, 0, 16, 0, 64, 3, 259, 783, 1807, 3903, 7999, 16383, 32767]
theorem rbaretab10 : Go.Proofs.YtjmadnpicidbeaaW.PrintLast.rtab .any (Go.Proofs.YtjmadnpicidbeaaW.PrintLast.opsOf Try.f44 10) = rbareT10 := by kernel_rfl
theorem rbarebits10 : Go.Proofs.YtjmadnpicidbeaaW.PrintLast.waitsOk rbareT10.2 rbareB10 = true := by kernel_rfl
def rbareT12 : Bool × List (List Nat × List Nat) := (true, [([], []), ([0], [0]), ([], []), ([2], [2]), ([], []), ([4], [4]), ([], []), ([6], [6]), ([], []), ([8], [8]), ([0, 1], []), ([10, 1, 0, 1], [1, 10]), ([0, 1, 2, 3, 10, 11], []), ([12, 3, 11, 0, 1, 2, 3, 10, 11], [3, 12]), ([0, 1, 2, 3, 4, 5, 10, 11, 12, 13], []), ([14, 5, 13, 0, 1, 2, 3, 4, 5, 10, 11, 12, 13], [5, 14]), ([0, 1, 2, 3, 4, 5, 6, 7, 10, 11, 12, 13, 14, 15], []), ([16, 7, 15, 0, 1, 2, 3, 4, 5, 6, 7, 10, 11, 12, 13, 14, 15], [7, 16]), ([0, 1, 2, 3, 4, 5, 6, 7, 8, 9, 10, 11, 12, 13, 14, 15, 16, 17], []), ([18, 9, 17, 0, 1, 2, 3, 4, 5, 6, 7, 8, 9, 10, 11, 12, 13, 14, 15, 16, 17], [9, 18])])
def rbareB12 : List Nat := [0, 1, 0, 4, 0, 16, 0, 64, 0, 256, 3, 1027, 3087, 7183, 15423, 31807, 64767, 130303, 262143, 524287]
theorem rbaretab12 : Go.Proofs.YtjmadnpicidbeaaW.PrintLast.rtab .any (Go.Proofs.YtjmadnpicidbeaaW.PrintLast.opsOf Try.f44 12) = rbareT12 := by kernel_rfl
theorem rbarebits12 : Go.Proofs.YtjmadnpicidbeaaW.PrintLast.waitsOk rbareT12.2 rbareB12 = true := by kernel_rfl
def rbareT18 : Bool × List (List Nat × List Nat) := (true, [([], []), ([0], [0]), ([1], [1]), ([], []), ([3], [3]), ([0, 1, 2], []), ([5, 2, 0, 1, 2], [2, 5]), ([0, 1, 2, 3, 4, 5, 6], []), ([7, 4, 6, 0, 1, 2, 3, 4, 5, 6], [4, 7])])
def rbareB18 : List Nat := [0, 1, 3, 0, 8, 7, 39, 127, 255]
theorem rbaretab18 : Go.Proofs.YtjmadnpicidbeaaW.PrintLast.rtab .any (Go.Proofs.YtjmadnpicidbeaaW.PrintLast.opsOf Try.f44 18) = rbareT18 := by kernel_rfl
theorem rbarebits18 : Go.Proofs.YtjmadnpicidbeaaW.PrintLast.waitsOk rbareT18.2 rbareB18 = true := by kernel_rfl
def rbareT3 : Bool × List (List Nat × List Nat) := (true, [([], []), ([0], [0]), ([], []), ([2], [2]), ([0, 1], []), ([4, 1, 0, 1], [1, 4]), ([0, 1, 2, 3, 4, 5], []), ([6, 3, 5, 0, 1, 2, 3, 4, 5], [3, 6])])
def rbareB3 : List Nat := [0, 1, 0, 4, 3, 19, 63, 127]
theorem rbaretab3 : Go.Proofs.YtjmadnpicidbeaaW.PrintLast.rtab .any (Go.Proofs.YtjmadnpicidbeaaW.PrintLast.opsOf Try.f44 3) = rbareT3 := by kernel_rfl
theorem rbarebits3 : Go.Proofs.YtjmadnpicidbeaaW.PrintLast.waitsOk rbareT3.2 rbareB3 = true := by kernel_rfl
theorem and_mod (b : Int) (k : Nat) (h0 : 0 ≤ b) (h1 : b < 256) (hk : 2 ^ k < 257) : bits .and .u8 b ((2 ^ k - 1 : Nat) : Int) = b % ((2 ^ k : Nat) : Int) := by
  obtain ⟨n, rfl⟩ := Int.eq_ofNat_of_zero_le h0
  have h := (bits_nat .u8 8 (by decide) (fun n h0 h1 => by simp [IntKind.wrap, IntKind.bits, IntKind.signed]; omega) n (2 ^ k - 1) (by omega) (by omega)).1
  rw [h, Nat.and_two_pow_sub_one_eq_mod]
  exact Int.natCast_emod n (2 ^ k)
theorem flD_zero (kd f1 : Int) (h0 : 0 ≤ f1) (h1 : f1 < 256) (h : maskD kd = 0) : flD kd f1 = 0 := by
  unfold flD
  rw [h]
  have := and_mod f1 0 h0 h1 (by decide)
  rw [show ((2 ^ 0 - 1 : Nat) : Int) = 0 from rfl] at this
  rw [this]
  exact Int.emod_one f1
theorem flD_all (kd f1 : Int) (h0 : 0 ≤ f1) (h1 : f1 < 256) (h : maskD kd = 255) : flD kd f1 = f1 := by
  unfold flD
  rw [h]
  have := and_mod f1 8 h0 h1 (by decide)
  rw [show ((2 ^ 8 - 1 : Nat) : Int) = 255 from rfl] at this
  rw [this]
  exact Int.emod_eq_of_lt h0 h1
theorem flD_two (kd f1 : Int) (h0 : 0 ≤ f1) (h1 : f1 < 256) (h : maskD kd = 1) : flD kd f1 = f1 % 2 := by
  unfold flD
  rw [h]
  exact and_mod f1 1 h0 h1 (by decide)
theorem flD_eight (kd f1 : Int) (h0 : 0 ≤ f1) (h1 : f1 < 256) (h : maskD kd = 7) : flD kd f1 = f1 % 8 := by
  unfold flD
  rw [h]
  exact and_mod f1 3 h0 h1 (by decide)
set_option maxHeartbeats 8000000 in
theorem rbare_calls (w : World) (x : Chk) (L : Lay) (hk : 0 ≤ x.f0) (h1 : 0 ≤ x.f1) (h2 : x.f1 < 256) :
    Calls Try.prog 44 #[.agg (CV x L)] w fun e w' => e = .returned (.agg (CV (bareD x) (keepL (hasF x.f0) L))) ∧ Below w.heap.size w w' := by
  obtain ⟨f0, f1, f2, f3, f4, f5, f6, f7, f8, f9, f10, f11, f12, f13, f14⟩ := x
  obtain ⟨A10, c10, A11, c11, A12, c12, A13, c13, A14, c14⟩ := L
  dsimp only at h1 h2 hk
  have X := Bx.new w (CV ⟨f0, f1, f2, f3, f4, f5, f6, f7, f8, f9, f10, f11, f12, f13, f14⟩ ⟨A10, c10, A11, c11, A12, c12, A13, c13, A14, c14⟩)
  go_enter Try.func44, Try.ntmps44
  go_upto_region 1 with (fail)
  refine wp_gen (Bx w (CV ⟨f0, f1, f2, f3, f4, f5, f6, f7, f8, f9, f10, f11, f12, f13, f14⟩ ⟨A10, c10, A11, c11, A12, c12, A13, c13, A14, c14⟩)) X ?_
  clear X
  intro W X
  have U0 := Lib.hid (show W.cell? ⟨w.heap.size, 0, none⟩ = some (.int .u8 f0) from X.cell 0)
  have U1 := Lib.hid (show W.cell? ⟨w.heap.size, 1, none⟩ = some (.int .u8 f1) from X.cell 1)
  have U2 := Lib.hid (show W.cell? ⟨w.heap.size, 2, none⟩ = some (.int .u32 f2) from X.cell 2)
  have U3 := Lib.hid (show W.cell? ⟨w.heap.size, 3, none⟩ = some (.int .u16 f3) from X.cell 3)
  have U4 := Lib.hid (show W.cell? ⟨w.heap.size, 4, none⟩ = some (.int .u16 f4) from X.cell 4)
  have U5 := Lib.hid (show W.cell? ⟨w.heap.size, 5, none⟩ = some (.int .u32 f5) from X.cell 5)
  have U6 := Lib.hid (show W.cell? ⟨w.heap.size, 6, none⟩ = some (.int .u32 f6) from X.cell 6)
  have U7 := Lib.hid (show W.cell? ⟨w.heap.size, 7, none⟩ = some (.int .u32 f7) from X.cell 7)
  have U8 := Lib.hid (show W.cell? ⟨w.heap.size, 8, none⟩ = some (.int .u16 f8) from X.cell 8)
  have U9 := Lib.hid (show W.cell? ⟨w.heap.size, 9, none⟩ = some (.int .u16 f9) from X.cell 9)
  have U10 := Lib.hid (show W.cell? ⟨w.heap.size, 10, none⟩ = some (.slice A10 f10.length c10) from X.cell 10)
  have U11 := Lib.hid (show W.cell? ⟨w.heap.size, 11, none⟩ = some (.slice A11 f11.length c11) from X.cell 11)
  have U12 := Lib.hid (show W.cell? ⟨w.heap.size, 12, none⟩ = some (.slice A12 f12.length c12) from X.cell 12)
  have U13 := Lib.hid (show W.cell? ⟨w.heap.size, 13, none⟩ = some (.slice A13 f13.length c13) from X.cell 13)
  have U14 := Lib.hid (show W.cell? ⟨w.heap.size, 14, none⟩ = some (.slice A14 f14.length c14) from X.cell 14)
  have k0 := U0.out
  go_upto_region 2 with (fail)
  refine wp_gen (fun W' => By w (CV ⟨f0, f1, f2, f3, f4, f5, f6, f7, f8, f9, f10, f11, f12, f13, f14⟩ ⟨A10, c10, A11, c11, A12, c12, A13, c13, A14, c14⟩) (#[.int .u8 (f0), .int .u8 0, .int .u32 0, .int .u16 0, .int .u16 0, .int .u32 0, .int .u32 0, .int .u32 0, .int .u16 0, .int .u16 0, .slice none 0 0, .slice none 0 0, .slice none 0 0, .slice none 0 0, .slice none 0 0]) W.heap.size W' ∧ Below W.heap.size W W') ?_ ?_
  · exact ⟨⟨X.below (below_alloc (Below.refl _ _) _), blk_new _ _, X.x3⟩, below_alloc (Below.refl _ _) _⟩
  clear X k0
  rintro W1 ⟨X, hB⟩
  replace U0 := Lib.hid (pw_cell_below hB U0.out)
  replace U1 := Lib.hid (pw_cell_below hB U1.out)
  replace U2 := Lib.hid (pw_cell_below hB U2.out)
  replace U3 := Lib.hid (pw_cell_below hB U3.out)
  replace U4 := Lib.hid (pw_cell_below hB U4.out)
  replace U5 := Lib.hid (pw_cell_below hB U5.out)
  replace U6 := Lib.hid (pw_cell_below hB U6.out)
  replace U7 := Lib.hid (pw_cell_below hB U7.out)
  replace U8 := Lib.hid (pw_cell_below hB U8.out)
  replace U9 := Lib.hid (pw_cell_below hB U9.out)
  replace U10 := Lib.hid (pw_cell_below hB U10.out)
  replace U11 := Lib.hid (pw_cell_below hB U11.out)
  replace U12 := Lib.hid (pw_cell_below hB U12.out)
  replace U13 := Lib.hid (pw_cell_below hB U13.out)
  replace U14 := Lib.hid (pw_cell_below hB U14.out)
  clear hB
  have HN := Lib.hid (show ¬ w.heap.size = W.heap.size by have := X.hg; omega)
  generalize W.heap.size = g3 at *
  generalize W1 = W at *
  by_cases h : f0 = 0
  · subst h
    have k0 := U0.out
    go_upto_region 5 with (fail)
    refine copy_region (B := rbareB5) (T := 30) (gd := g3) [0, 1, 2, 3, 4, 5, 6, 7, 8, 9, 10, 11, 12, 13, 14, 15, 16, 17, 18, 19, 20, 21, 22, 23, 24] [(0, 17, .pointer (some ⟨w.heap.size, 1, none⟩)), (1, 18, .int .u8 f1), (2, 19, .int .u8 (f1 % 8)), (3, 20, .pointer (some ⟨w.heap.size, 2, none⟩)), (4, 21, .int .u32 f2), (5, 22, .pointer (some ⟨w.heap.size, 3, none⟩)), (6, 23, .int .u16 f3), (7, 24, .pointer (some ⟨w.heap.size, 4, none⟩)), (8, 25, .int .u16 f4), (9, 26, .pointer (some ⟨w.heap.size, 5, none⟩)), (10, 27, .int .u32 f5), (11, 28, .pointer (some ⟨w.heap.size, 13, none⟩)), (12, 29, .slice A13 f13.length c13), (13, 30, .pointer (some ⟨g3, 1, none⟩)), (15, 31, .pointer (some ⟨g3, 2, none⟩)), (17, 32, .pointer (some ⟨g3, 3, none⟩)), (19, 33, .pointer (some ⟨g3, 4, none⟩)), (21, 34, .pointer (some ⟨g3, 5, none⟩)), (23, 35, .pointer (some ⟨g3, 13, none⟩))] [(14, 1, .int .u8 (f1 % 8)), (16, 2, .int .u32 f2), (18, 3, .int .u16 f3), (20, 4, .int .u16 f4), (22, 5, .int .u32 f5), (24, 13, .slice A13 f13.length c13)] (by kernel_rfl) rfl (l := #[false, false, false, false, false, false, false, false, false, false, false, false, false, false, false, false, false, false, false, false, false, false, false, false, false]) rfl rbaretab5 rbarebits5 (by kernel_rfl) (by kernel_rfl) rfl rfl X.x3 ?_ ?_
    · exact steps_cons (cp_addr 0 0 1 rfl rfl rfl rfl rfl rfl rfl rfl (fun a w e => by go_simp)) (steps_cons (cp_op 1 1 0 0 rfl rfl rfl rfl rfl rfl rfl rfl rfl (by kernel_rfl) rfl (fun a w hO e => by have hs := hO.cell U1.out HN.out; go_simp)) (steps_cons (cp_op 2 2 1 1 rfl rfl rfl rfl rfl rfl rfl rfl rfl (by kernel_rfl) rfl (fun a w hO e => by go_simp; exact Int.tmod_eq_emod_of_nonneg h1)) (steps_cons (cp_addr 3 3 1 rfl rfl rfl rfl rfl rfl rfl rfl (fun a w e => by go_simp)) (steps_cons (cp_op 4 4 3 3 rfl rfl rfl rfl rfl rfl rfl rfl rfl (by kernel_rfl) rfl (fun a w hO e => by have hs := hO.cell U2.out HN.out; go_simp)) (steps_cons (cp_addr 5 5 1 rfl rfl rfl rfl rfl rfl rfl rfl (fun a w e => by go_simp)) (steps_cons (cp_op 6 6 5 5 rfl rfl rfl rfl rfl rfl rfl rfl rfl (by kernel_rfl) rfl (fun a w hO e => by have hs := hO.cell U3.out HN.out; go_simp)) (steps_cons (cp_addr 7 7 1 rfl rfl rfl rfl rfl rfl rfl rfl (fun a w e => by go_simp)) (steps_cons (cp_op 8 8 7 7 rfl rfl rfl rfl rfl rfl rfl rfl rfl (by kernel_rfl) rfl (fun a w hO e => by have hs := hO.cell U4.out HN.out; go_simp)) (steps_cons (cp_addr 9 9 1 rfl rfl rfl rfl rfl rfl rfl rfl (fun a w e => by go_simp)) (steps_cons (cp_op 10 10 9 9 rfl rfl rfl rfl rfl rfl rfl rfl rfl (by kernel_rfl) rfl (fun a w hO e => by have hs := hO.cell U5.out HN.out; go_simp)) (steps_cons (cp_addr 11 11 1 rfl rfl rfl rfl rfl rfl rfl rfl (fun a w e => by go_simp)) (steps_cons (cp_op 12 12 11 11 rfl rfl rfl rfl rfl rfl rfl rfl rfl (by kernel_rfl) rfl (fun a w hO e => by have hs := hO.cell U13.out HN.out; go_simp)) (steps_cons (cp_addr 13 13 3 rfl rfl rfl rfl rfl rfl rfl rfl (fun a w e => by go_simp)) (steps_cons (cp_store 14 0 13 2 13 2 rfl rfl rfl rfl rfl rfl (show _ < 15 by decide) rfl rfl rfl (by kernel_rfl) rfl rfl rfl rfl (by kernel_rfl) rfl (fun a w old e e2 h h2 => by go_simp)) (steps_cons (cp_addr 15 14 3 rfl rfl rfl rfl rfl rfl rfl rfl (fun a w e => by go_simp)) (steps_cons (cp_store 16 1 14 4 15 4 rfl rfl rfl rfl rfl rfl (show _ < 15 by decide) rfl rfl rfl (by kernel_rfl) rfl rfl rfl rfl (by kernel_rfl) rfl (fun a w old e e2 h h2 => by go_simp)) (steps_cons (cp_addr 17 15 3 rfl rfl rfl rfl rfl rfl rfl rfl (fun a w e => by go_simp)) (steps_cons (cp_store 18 2 15 6 17 6 rfl rfl rfl rfl rfl rfl (show _ < 15 by decide) rfl rfl rfl (by kernel_rfl) rfl rfl rfl rfl (by kernel_rfl) rfl (fun a w old e e2 h h2 => by go_simp)) (steps_cons (cp_addr 19 16 3 rfl rfl rfl rfl rfl rfl rfl rfl (fun a w e => by go_simp)) (steps_cons (cp_store 20 3 16 8 19 8 rfl rfl rfl rfl rfl rfl (show _ < 15 by decide) rfl rfl rfl (by kernel_rfl) rfl rfl rfl rfl (by kernel_rfl) rfl (fun a w old e e2 h h2 => by go_simp)) (steps_cons (cp_addr 21 17 3 rfl rfl rfl rfl rfl rfl rfl rfl (fun a w e => by go_simp)) (steps_cons (cp_store 22 4 17 10 21 10 rfl rfl rfl rfl rfl rfl (show _ < 15 by decide) rfl rfl rfl (by kernel_rfl) rfl rfl rfl rfl (by kernel_rfl) rfl (fun a w old e e2 h h2 => by go_simp)) (steps_cons (cp_addr 23 18 3 rfl rfl rfl rfl rfl rfl rfl rfl (fun a w e => by go_simp)) (steps_cons (cp_store 24 5 18 12 23 12 rfl rfl rfl rfl rfl rfl (show _ < 15 by decide) rfl rfl rfl (by kernel_rfl) rfl rfl rfl rfl (by kernel_rfl) rfl (fun a w old e e2 h h2 => by go_simp)) steps_nil))))))))))))))))))))))))
    intro W9 hO9 hC9
    replace X := (show By w _ (#[.int .u8 _, .int .u8 ((f1 % 8)), .int .u32 f2, .int .u16 f3, .int .u16 f4, .int .u32 f5, .int .u32 0, .int .u32 0, .int .u16 0, .int .u16 0, .slice none 0 0, .slice none 0 0, .slice none 0 0, .slice A13 f13.length c13, .slice none 0 0]) g3 W9 from X.only hO9 hC9)
    clear hO9 hC9
    simp only [putSel, if_true, Act.put, List.setIfInBounds_toArray, List.set_cons_zero, List.set_cons_succ]
    go_wp2_with (with_reducible refine gate_dst (N := 123) rfl ?_; go_must (refine wpList_ret_row 123 rfl rfl rfl (.tmp 3) (.tmp 2) rfl rfl rfl _ _ _ _ rfl rfl rfl X.x3 X.bx.x1 rfl rfl (by simp [Value.oneCell']) ?_))
    refine row_end rfl rfl rfl X.bx.x1 rfl X.bx.x2 (Nat.le_succ _) ?_
    unfold bareD
    dsimp only
    rw [flD_eight _ f1 h1 h2 (by rfl)]
    rfl
  have q0 : (f0 == 0) = false := by simpa using h
  clear h
  by_cases h : f0 = 1 ∨ f0 = 2
  · rcases h with rfl | rfl
    all_goals
      have k0 := U0.out
      go_upto_region 8 with (fail)
      refine copy_region (B := rbareB8) (T := 30) (gd := g3) [0, 1, 2, 3, 4, 5, 6, 7, 8, 9, 10, 11, 12, 13, 14, 15, 16, 17, 18, 19, 20, 21, 22, 23] [(0, 39, .pointer (some ⟨w.heap.size, 6, none⟩)), (1, 40, .int .u32 f6), (2, 41, .pointer (some ⟨w.heap.size, 7, none⟩)), (3, 42, .int .u32 f7), (4, 43, .pointer (some ⟨w.heap.size, 8, none⟩)), (5, 44, .int .u16 f8), (6, 45, .pointer (some ⟨w.heap.size, 9, none⟩)), (7, 46, .int .u16 f9), (8, 47, .pointer (some ⟨w.heap.size, 2, none⟩)), (9, 48, .int .u32 f2), (10, 49, .pointer (some ⟨w.heap.size, 14, none⟩)), (11, 50, .slice A14 f14.length c14), (12, 51, .pointer (some ⟨g3, 6, none⟩)), (14, 52, .pointer (some ⟨g3, 7, none⟩)), (16, 53, .pointer (some ⟨g3, 8, none⟩)), (18, 54, .pointer (some ⟨g3, 9, none⟩)), (20, 55, .pointer (some ⟨g3, 2, none⟩)), (22, 56, .pointer (some ⟨g3, 14, none⟩))] [(13, 6, .int .u32 f6), (15, 7, .int .u32 f7), (17, 8, .int .u16 f8), (19, 9, .int .u16 f9), (21, 2, .int .u32 f2), (23, 14, .slice A14 f14.length c14)] (by kernel_rfl) rfl (l := #[false, false, false, false, false, false, false, false, false, false, false, false, false, false, false, false, false, false, false, false, false, false, false, false]) rfl rbaretab8 rbarebits8 (by kernel_rfl) (by kernel_rfl) rfl rfl X.x3 ?_ ?_
      · exact steps_cons (cp_addr 0 0 1 rfl rfl rfl rfl rfl rfl rfl rfl (fun a w e => by go_simp)) (steps_cons (cp_op 1 1 0 0 rfl rfl rfl rfl rfl rfl rfl rfl rfl (by kernel_rfl) rfl (fun a w hO e => by have hs := hO.cell U6.out HN.out; go_simp)) (steps_cons (cp_addr 2 2 1 rfl rfl rfl rfl rfl rfl rfl rfl (fun a w e => by go_simp)) (steps_cons (cp_op 3 3 2 2 rfl rfl rfl rfl rfl rfl rfl rfl rfl (by kernel_rfl) rfl (fun a w hO e => by have hs := hO.cell U7.out HN.out; go_simp)) (steps_cons (cp_addr 4 4 1 rfl rfl rfl rfl rfl rfl rfl rfl (fun a w e => by go_simp)) (steps_cons (cp_op 5 5 4 4 rfl rfl rfl rfl rfl rfl rfl rfl rfl (by kernel_rfl) rfl (fun a w hO e => by have hs := hO.cell U8.out HN.out; go_simp)) (steps_cons (cp_addr 6 6 1 rfl rfl rfl rfl rfl rfl rfl rfl (fun a w e => by go_simp)) (steps_cons (cp_op 7 7 6 6 rfl rfl rfl rfl rfl rfl rfl rfl rfl (by kernel_rfl) rfl (fun a w hO e => by have hs := hO.cell U9.out HN.out; go_simp)) (steps_cons (cp_addr 8 8 1 rfl rfl rfl rfl rfl rfl rfl rfl (fun a w e => by go_simp)) (steps_cons (cp_op 9 9 8 8 rfl rfl rfl rfl rfl rfl rfl rfl rfl (by kernel_rfl) rfl (fun a w hO e => by have hs := hO.cell U2.out HN.out; go_simp)) (steps_cons (cp_addr 10 10 1 rfl rfl rfl rfl rfl rfl rfl rfl (fun a w e => by go_simp)) (steps_cons (cp_op 11 11 10 10 rfl rfl rfl rfl rfl rfl rfl rfl rfl (by kernel_rfl) rfl (fun a w hO e => by have hs := hO.cell U14.out HN.out; go_simp)) (steps_cons (cp_addr 12 12 3 rfl rfl rfl rfl rfl rfl rfl rfl (fun a w e => by go_simp)) (steps_cons (cp_store 13 0 12 1 12 1 rfl rfl rfl rfl rfl rfl (show _ < 15 by decide) rfl rfl rfl (by kernel_rfl) rfl rfl rfl rfl (by kernel_rfl) rfl (fun a w old e e2 h h2 => by go_simp)) (steps_cons (cp_addr 14 13 3 rfl rfl rfl rfl rfl rfl rfl rfl (fun a w e => by go_simp)) (steps_cons (cp_store 15 1 13 3 14 3 rfl rfl rfl rfl rfl rfl (show _ < 15 by decide) rfl rfl rfl (by kernel_rfl) rfl rfl rfl rfl (by kernel_rfl) rfl (fun a w old e e2 h h2 => by go_simp)) (steps_cons (cp_addr 16 14 3 rfl rfl rfl rfl rfl rfl rfl rfl (fun a w e => by go_simp)) (steps_cons (cp_store 17 2 14 5 16 5 rfl rfl rfl rfl rfl rfl (show _ < 15 by decide) rfl rfl rfl (by kernel_rfl) rfl rfl rfl rfl (by kernel_rfl) rfl (fun a w old e e2 h h2 => by go_simp)) (steps_cons (cp_addr 18 15 3 rfl rfl rfl rfl rfl rfl rfl rfl (fun a w e => by go_simp)) (steps_cons (cp_store 19 3 15 7 18 7 rfl rfl rfl rfl rfl rfl (show _ < 15 by decide) rfl rfl rfl (by kernel_rfl) rfl rfl rfl rfl (by kernel_rfl) rfl (fun a w old e e2 h h2 => by go_simp)) (steps_cons (cp_addr 20 16 3 rfl rfl rfl rfl rfl rfl rfl rfl (fun a w e => by go_simp)) (steps_cons (cp_store 21 4 16 9 20 9 rfl rfl rfl rfl rfl rfl (show _ < 15 by decide) rfl rfl rfl (by kernel_rfl) rfl rfl rfl rfl (by kernel_rfl) rfl (fun a w old e e2 h h2 => by go_simp)) (steps_cons (cp_addr 22 17 3 rfl rfl rfl rfl rfl rfl rfl rfl (fun a w e => by go_simp)) (steps_cons (cp_store 23 5 17 11 22 11 rfl rfl rfl rfl rfl rfl (show _ < 15 by decide) rfl rfl rfl (by kernel_rfl) rfl rfl rfl rfl (by kernel_rfl) rfl (fun a w old e e2 h h2 => by go_simp)) steps_nil)))))))))))))))))))))))
      intro W9 hO9 hC9
      replace X := (show By w _ (#[.int .u8 _, .int .u8 (0), .int .u32 f2, .int .u16 0, .int .u16 0, .int .u32 0, .int .u32 f6, .int .u32 f7, .int .u16 f8, .int .u16 f9, .slice none 0 0, .slice none 0 0, .slice none 0 0, .slice none 0 0, .slice A14 f14.length c14]) g3 W9 from X.only hO9 hC9)
      clear hO9 hC9
      simp only [putSel, if_true, Act.put, List.setIfInBounds_toArray, List.set_cons_zero, List.set_cons_succ]
      go_wp2_with (with_reducible refine gate_dst (N := 123) rfl ?_; go_must (refine wpList_ret_row 123 rfl rfl rfl (.tmp 3) (.tmp 2) rfl rfl rfl _ _ _ _ rfl rfl rfl X.x3 X.bx.x1 rfl rfl (by simp [Value.oneCell']) ?_))
      refine row_end rfl rfl rfl X.bx.x1 rfl X.bx.x2 (Nat.le_succ _) ?_
      unfold bareD
      dsimp only
      rw [flD_zero _ f1 h1 h2 (by rfl)]
      rfl
  have q1 : (f0 == 1) = false := by simp; omega
  have q2 : (f0 == 2) = false := by simp; omega
  clear h
  by_cases h : f0 = 3
  · subst h
    have k0 := U0.out
    go_upto_region 10 with (fail)
    refine copy_region (B := rbareB10) (T := 30) (gd := g3) [0, 1, 2, 3, 4, 5, 6, 7, 8, 9, 10, 11, 12, 13, 14, 15] [(0, 59, .pointer (some ⟨w.heap.size, 2, none⟩)), (1, 60, .int .u32 f2), (2, 61, .pointer (some ⟨w.heap.size, 7, none⟩)), (3, 62, .int .u32 f7), (4, 63, .pointer (some ⟨w.heap.size, 10, none⟩)), (5, 64, .slice A10 f10.length c10), (6, 65, .pointer (some ⟨w.heap.size, 12, none⟩)), (7, 66, .slice A12 f12.length c12), (8, 67, .pointer (some ⟨g3, 2, none⟩)), (10, 68, .pointer (some ⟨g3, 7, none⟩)), (12, 69, .pointer (some ⟨g3, 10, none⟩)), (14, 70, .pointer (some ⟨g3, 12, none⟩))] [(9, 2, .int .u32 f2), (11, 7, .int .u32 f7), (13, 10, .slice A10 f10.length c10), (15, 12, .slice A12 f12.length c12)] (by kernel_rfl) rfl (l := #[false, false, false, false, false, false, false, false, false, false, false, false, false, false, false, false]) rfl rbaretab10 rbarebits10 (by kernel_rfl) (by kernel_rfl) rfl rfl X.x3 ?_ ?_
    · exact steps_cons (cp_addr 0 0 1 rfl rfl rfl rfl rfl rfl rfl rfl (fun a w e => by go_simp)) (steps_cons (cp_op 1 1 0 0 rfl rfl rfl rfl rfl rfl rfl rfl rfl (by kernel_rfl) rfl (fun a w hO e => by have hs := hO.cell U2.out HN.out; go_simp)) (steps_cons (cp_addr 2 2 1 rfl rfl rfl rfl rfl rfl rfl rfl (fun a w e => by go_simp)) (steps_cons (cp_op 3 3 2 2 rfl rfl rfl rfl rfl rfl rfl rfl rfl (by kernel_rfl) rfl (fun a w hO e => by have hs := hO.cell U7.out HN.out; go_simp)) (steps_cons (cp_addr 4 4 1 rfl rfl rfl rfl rfl rfl rfl rfl (fun a w e => by go_simp)) (steps_cons (cp_op 5 5 4 4 rfl rfl rfl rfl rfl rfl rfl rfl rfl (by kernel_rfl) rfl (fun a w hO e => by have hs := hO.cell U10.out HN.out; go_simp)) (steps_cons (cp_addr 6 6 1 rfl rfl rfl rfl rfl rfl rfl rfl (fun a w e => by go_simp)) (steps_cons (cp_op 7 7 6 6 rfl rfl rfl rfl rfl rfl rfl rfl rfl (by kernel_rfl) rfl (fun a w hO e => by have hs := hO.cell U12.out HN.out; go_simp)) (steps_cons (cp_addr 8 8 3 rfl rfl rfl rfl rfl rfl rfl rfl (fun a w e => by go_simp)) (steps_cons (cp_store 9 0 8 1 8 1 rfl rfl rfl rfl rfl rfl (show _ < 15 by decide) rfl rfl rfl (by kernel_rfl) rfl rfl rfl rfl (by kernel_rfl) rfl (fun a w old e e2 h h2 => by go_simp)) (steps_cons (cp_addr 10 9 3 rfl rfl rfl rfl rfl rfl rfl rfl (fun a w e => by go_simp)) (steps_cons (cp_store 11 1 9 3 10 3 rfl rfl rfl rfl rfl rfl (show _ < 15 by decide) rfl rfl rfl (by kernel_rfl) rfl rfl rfl rfl (by kernel_rfl) rfl (fun a w old e e2 h h2 => by go_simp)) (steps_cons (cp_addr 12 10 3 rfl rfl rfl rfl rfl rfl rfl rfl (fun a w e => by go_simp)) (steps_cons (cp_store 13 2 10 5 12 5 rfl rfl rfl rfl rfl rfl (show _ < 15 by decide) rfl rfl rfl (by kernel_rfl) rfl rfl rfl rfl (by kernel_rfl) rfl (fun a w old e e2 h h2 => by go_simp)) (steps_cons (cp_addr 14 11 3 rfl rfl rfl rfl rfl rfl rfl rfl (fun a w e => by go_simp)) (steps_cons (cp_store 15 3 11 7 14 7 rfl rfl rfl rfl rfl rfl (show _ < 15 by decide) rfl rfl rfl (by kernel_rfl) rfl rfl rfl rfl (by kernel_rfl) rfl (fun a w old e e2 h h2 => by go_simp)) steps_nil)))))))))))))))
    intro W9 hO9 hC9
    replace X := (show By w _ (#[.int .u8 _, .int .u8 (0), .int .u32 f2, .int .u16 0, .int .u16 0, .int .u32 0, .int .u32 0, .int .u32 f7, .int .u16 0, .int .u16 0, .slice A10 f10.length c10, .slice none 0 0, .slice A12 f12.length c12, .slice none 0 0, .slice none 0 0]) g3 W9 from X.only hO9 hC9)
    clear hO9 hC9
    simp only [putSel, if_true, Act.put, List.setIfInBounds_toArray, List.set_cons_zero, List.set_cons_succ]
    go_wp2_with (with_reducible refine gate_dst (N := 123) rfl ?_; go_must (refine wpList_ret_row 123 rfl rfl rfl (.tmp 3) (.tmp 2) rfl rfl rfl _ _ _ _ rfl rfl rfl X.x3 X.bx.x1 rfl rfl (by simp [Value.oneCell']) ?_))
    refine row_end rfl rfl rfl X.bx.x1 rfl X.bx.x2 (Nat.le_succ _) ?_
    unfold bareD
    dsimp only
    rw [flD_zero _ f1 h1 h2 (by rfl)]
    rfl
  have q3 : (f0 == 3) = false := by simpa using h
  clear h
  by_cases h : f0 = 16
  · subst h
    have k0 := U0.out
    go_upto_region 12 with (fail)
    refine copy_region (B := rbareB12) (T := 30) (gd := g3) [0, 1, 2, 3, 4, 5, 6, 7, 8, 9, 10, 11, 12, 13, 14, 15, 16, 17, 18, 19] [(0, 73, .pointer (some ⟨w.heap.size, 2, none⟩)), (1, 74, .int .u32 f2), (2, 75, .pointer (some ⟨w.heap.size, 7, none⟩)), (3, 76, .int .u32 f7), (4, 77, .pointer (some ⟨w.heap.size, 10, none⟩)), (5, 78, .slice A10 f10.length c10), (6, 79, .pointer (some ⟨w.heap.size, 11, none⟩)), (7, 80, .slice A11 f11.length c11), (8, 81, .pointer (some ⟨w.heap.size, 12, none⟩)), (9, 82, .slice A12 f12.length c12), (10, 83, .pointer (some ⟨g3, 2, none⟩)), (12, 84, .pointer (some ⟨g3, 7, none⟩)), (14, 85, .pointer (some ⟨g3, 10, none⟩)), (16, 86, .pointer (some ⟨g3, 11, none⟩)), (18, 87, .pointer (some ⟨g3, 12, none⟩))] [(11, 2, .int .u32 f2), (13, 7, .int .u32 f7), (15, 10, .slice A10 f10.length c10), (17, 11, .slice A11 f11.length c11), (19, 12, .slice A12 f12.length c12)] (by kernel_rfl) rfl (l := #[false, false, false, false, false, false, false, false, false, false, false, false, false, false, false, false, false, false, false, false]) rfl rbaretab12 rbarebits12 (by kernel_rfl) (by kernel_rfl) rfl rfl X.x3 ?_ ?_
    · exact steps_cons (cp_addr 0 0 1 rfl rfl rfl rfl rfl rfl rfl rfl (fun a w e => by go_simp)) (steps_cons (cp_op 1 1 0 0 rfl rfl rfl rfl rfl rfl rfl rfl rfl (by kernel_rfl) rfl (fun a w hO e => by have hs := hO.cell U2.out HN.out; go_simp)) (steps_cons (cp_addr 2 2 1 rfl rfl rfl rfl rfl rfl rfl rfl (fun a w e => by go_simp)) (steps_cons (cp_op 3 3 2 2 rfl rfl rfl rfl rfl rfl rfl rfl rfl (by kernel_rfl) rfl (fun a w hO e => by have hs := hO.cell U7.out HN.out; go_simp)) (steps_cons (cp_addr 4 4 1 rfl rfl rfl rfl rfl rfl rfl rfl (fun a w e => by go_simp)) (steps_cons (cp_op 5 5 4 4 rfl rfl rfl rfl rfl rfl rfl rfl rfl (by kernel_rfl) rfl (fun a w hO e => by have hs := hO.cell U10.out HN.out; go_simp)) (steps_cons (cp_addr 6 6 1 rfl rfl rfl rfl rfl rfl rfl rfl (fun a w e => by go_simp)) (steps_cons (cp_op 7 7 6 6 rfl rfl rfl rfl rfl rfl rfl rfl rfl (by kernel_rfl) rfl (fun a w hO e => by have hs := hO.cell U11.out HN.out; go_simp)) (steps_cons (cp_addr 8 8 1 rfl rfl rfl rfl rfl rfl rfl rfl (fun a w e => by go_simp)) (steps_cons (cp_op 9 9 8 8 rfl rfl rfl rfl rfl rfl rfl rfl rfl (by kernel_rfl) rfl (fun a w hO e => by have hs := hO.cell U12.out HN.out; go_simp)) (steps_cons (cp_addr 10 10 3 rfl rfl rfl rfl rfl rfl rfl rfl (fun a w e => by go_simp)) (steps_cons (cp_store 11 0 10 1 10 1 rfl rfl rfl rfl rfl rfl (show _ < 15 by decide) rfl rfl rfl (by kernel_rfl) rfl rfl rfl rfl (by kernel_rfl) rfl (fun a w old e e2 h h2 => by go_simp)) (steps_cons (cp_addr 12 11 3 rfl rfl rfl rfl rfl rfl rfl rfl (fun a w e => by go_simp)) (steps_cons (cp_store 13 1 11 3 12 3 rfl rfl rfl rfl rfl rfl (show _ < 15 by decide) rfl rfl rfl (by kernel_rfl) rfl rfl rfl rfl (by kernel_rfl) rfl (fun a w old e e2 h h2 => by go_simp)) (steps_cons (cp_addr 14 12 3 rfl rfl rfl rfl rfl rfl rfl rfl (fun a w e => by go_simp)) (steps_cons (cp_store 15 2 12 5 14 5 rfl rfl rfl rfl rfl rfl (show _ < 15 by decide) rfl rfl rfl (by kernel_rfl) rfl rfl rfl rfl (by kernel_rfl) rfl (fun a w old e e2 h h2 => by go_simp)) (steps_cons (cp_addr 16 13 3 rfl rfl rfl rfl rfl rfl rfl rfl (fun a w e => by go_simp)) (steps_cons (cp_store 17 3 13 7 16 7 rfl rfl rfl rfl rfl rfl (show _ < 15 by decide) rfl rfl rfl (by kernel_rfl) rfl rfl rfl rfl (by kernel_rfl) rfl (fun a w old e e2 h h2 => by go_simp)) (steps_cons (cp_addr 18 14 3 rfl rfl rfl rfl rfl rfl rfl rfl (fun a w e => by go_simp)) (steps_cons (cp_store 19 4 14 9 18 9 rfl rfl rfl rfl rfl rfl (show _ < 15 by decide) rfl rfl rfl (by kernel_rfl) rfl rfl rfl rfl (by kernel_rfl) rfl (fun a w old e e2 h h2 => by go_simp)) steps_nil)))))))))))))))))))
    intro W9 hO9 hC9
    replace X := (show By w _ (#[.int .u8 _, .int .u8 (0), .int .u32 f2, .int .u16 0, .int .u16 0, .int .u32 0, .int .u32 0, .int .u32 f7, .int .u16 0, .int .u16 0, .slice A10 f10.length c10, .slice A11 f11.length c11, .slice A12 f12.length c12, .slice none 0 0, .slice none 0 0]) g3 W9 from X.only hO9 hC9)
    clear hO9 hC9
    simp only [putSel, if_true, Act.put, List.setIfInBounds_toArray, List.set_cons_zero, List.set_cons_succ]
    go_wp2_with (with_reducible refine gate_dst (N := 123) rfl ?_; go_must (refine wpList_ret_row 123 rfl rfl rfl (.tmp 3) (.tmp 2) rfl rfl rfl _ _ _ _ rfl rfl rfl X.x3 X.bx.x1 rfl rfl (by simp [Value.oneCell']) ?_))
    refine row_end rfl rfl rfl X.bx.x1 rfl X.bx.x2 (Nat.le_succ _) ?_
    unfold bareD
    dsimp only
    rw [flD_zero _ f1 h1 h2 (by rfl)]
    rfl
  have q16 : (f0 == 16) = false := by simpa using h
  clear h
  by_cases h : f0 = 4 ∨ f0 = 5 ∨ f0 = 9
  · rcases h with rfl | rfl | rfl
    all_goals
      have k0 := U0.out
      have k14 : W.cell? ⟨w.heap.size, 14, none⟩ = some (.slice A14 f14.length c14) := U14.out
      have d14 : W.cell? ⟨g3, 14, none⟩ = some (.slice none 0 0) := blk_cell X.x3 14
      have f_14 := blk_frozen X.x3 14
      go_upto_region 27 with (fail)
      refine wp_gen (By w _ (#[.int .u8 _, .int .u8 (0), .int .u32 0, .int .u16 0, .int .u16 0, .int .u32 0, .int .u32 0, .int .u32 0, .int .u16 0, .int .u16 0, .slice none 0 0, .slice none 0 0, .slice none 0 0, .slice none 0 0, .slice A14 f14.length c14]) g3) (X.set 14 _) ?_
      clear X k14 d14 f_14
      intro W9 X
      go_wp2_with (with_reducible refine gate_dst (N := 123) rfl ?_; go_must (refine wpList_ret_row 123 rfl rfl rfl (.tmp 3) (.tmp 2) rfl rfl rfl _ _ _ _ rfl rfl rfl X.x3 X.bx.x1 rfl rfl (by simp [Value.oneCell']) ?_))
      refine row_end rfl rfl rfl X.bx.x1 rfl X.bx.x2 (Nat.le_succ _) ?_
      unfold bareD
      dsimp only
      rw [flD_zero _ f1 h1 h2 (by rfl)]
      rfl
  have q4 : (f0 == 4) = false := by simp; omega
  have q5 : (f0 == 5) = false := by simp; omega
  have q9 : (f0 == 9) = false := by simp; omega
  clear h
  by_cases h : f0 = 6
  · subst h
    have k0 := U0.out
    go_upto_region 18 with (fail)
    refine copy_region (B := rbareB18) (T := 30) (gd := g3) [0, 1, 2, 3, 4, 5, 6, 7, 8] [(0, 97, .pointer (some ⟨w.heap.size, 1, none⟩)), (1, 98, .int .u8 f1), (2, 99, .int .u8 (f1 % 2)), (3, 100, .pointer (some ⟨w.heap.size, 14, none⟩)), (4, 101, .slice A14 f14.length c14), (5, 102, .pointer (some ⟨g3, 1, none⟩)), (7, 103, .pointer (some ⟨g3, 14, none⟩))] [(6, 1, .int .u8 (f1 % 2)), (8, 14, .slice A14 f14.length c14)] (by kernel_rfl) rfl (l := #[false, false, false, false, false, false, false, false, false]) rfl rbaretab18 rbarebits18 (by kernel_rfl) (by kernel_rfl) rfl rfl X.x3 ?_ ?_
    · exact steps_cons (cp_addr 0 0 1 rfl rfl rfl rfl rfl rfl rfl rfl (fun a w e => by go_simp)) (steps_cons (cp_op 1 1 0 0 rfl rfl rfl rfl rfl rfl rfl rfl rfl (by kernel_rfl) rfl (fun a w hO e => by have hs := hO.cell U1.out HN.out; go_simp)) (steps_cons (cp_op 2 2 1 1 rfl rfl rfl rfl rfl rfl rfl rfl rfl (by kernel_rfl) rfl (fun a w hO e => by go_simp; exact Int.tmod_eq_emod_of_nonneg h1)) (steps_cons (cp_addr 3 3 1 rfl rfl rfl rfl rfl rfl rfl rfl (fun a w e => by go_simp)) (steps_cons (cp_op 4 4 3 3 rfl rfl rfl rfl rfl rfl rfl rfl rfl (by kernel_rfl) rfl (fun a w hO e => by have hs := hO.cell U14.out HN.out; go_simp)) (steps_cons (cp_addr 5 5 3 rfl rfl rfl rfl rfl rfl rfl rfl (fun a w e => by go_simp)) (steps_cons (cp_store 6 0 5 2 5 2 rfl rfl rfl rfl rfl rfl (show _ < 15 by decide) rfl rfl rfl (by kernel_rfl) rfl rfl rfl rfl (by kernel_rfl) rfl (fun a w old e e2 h h2 => by go_simp)) (steps_cons (cp_addr 7 6 3 rfl rfl rfl rfl rfl rfl rfl rfl (fun a w e => by go_simp)) (steps_cons (cp_store 8 1 6 4 7 4 rfl rfl rfl rfl rfl rfl (show _ < 15 by decide) rfl rfl rfl (by kernel_rfl) rfl rfl rfl rfl (by kernel_rfl) rfl (fun a w old e e2 h h2 => by go_simp)) steps_nil))))))))
    intro W9 hO9 hC9
    replace X := (show By w _ (#[.int .u8 _, .int .u8 ((f1 % 2)), .int .u32 0, .int .u16 0, .int .u16 0, .int .u32 0, .int .u32 0, .int .u32 0, .int .u16 0, .int .u16 0, .slice none 0 0, .slice none 0 0, .slice none 0 0, .slice none 0 0, .slice A14 f14.length c14]) g3 W9 from X.only hO9 hC9)
    clear hO9 hC9
    simp only [putSel, if_true, Act.put, List.setIfInBounds_toArray, List.set_cons_zero, List.set_cons_succ]
    go_wp2_with (with_reducible refine gate_dst (N := 123) rfl ?_; go_must (refine wpList_ret_row 123 rfl rfl rfl (.tmp 3) (.tmp 2) rfl rfl rfl _ _ _ _ rfl rfl rfl X.x3 X.bx.x1 rfl rfl (by simp [Value.oneCell']) ?_))
    refine row_end rfl rfl rfl X.bx.x1 rfl X.bx.x2 (Nat.le_succ _) ?_
    unfold bareD
    dsimp only
    rw [flD_two _ f1 h1 h2 (by rfl)]
    rfl
  have q6 : (f0 == 6) = false := by simpa using h
  clear h
  by_cases h : f0 = 7
  · subst h
    have k0 := U0.out
    have k2 : W.cell? ⟨w.heap.size, 2, none⟩ = some (.int .u32 f2) := U2.out
    have d2 : W.cell? ⟨g3, 2, none⟩ = some (.int .u32 0) := blk_cell X.x3 2
    have f_2 := blk_frozen X.x3 2
    go_upto_region 27 with (fail)
    refine wp_gen (By w _ (#[.int .u8 _, .int .u8 (0), .int .u32 f2, .int .u16 0, .int .u16 0, .int .u32 0, .int .u32 0, .int .u32 0, .int .u16 0, .int .u16 0, .slice none 0 0, .slice none 0 0, .slice none 0 0, .slice none 0 0, .slice none 0 0]) g3) (X.set 2 _) ?_
    clear X k2 d2 f_2
    intro W9 X
    go_wp2_with (with_reducible refine gate_dst (N := 123) rfl ?_; go_must (refine wpList_ret_row 123 rfl rfl rfl (.tmp 3) (.tmp 2) rfl rfl rfl _ _ _ _ rfl rfl rfl X.x3 X.bx.x1 rfl rfl (by simp [Value.oneCell']) ?_))
    refine row_end rfl rfl rfl X.bx.x1 rfl X.bx.x2 (Nat.le_succ _) ?_
    unfold bareD
    dsimp only
    rw [flD_zero _ f1 h1 h2 (by rfl)]
    rfl
  have q7 : (f0 == 7) = false := by simpa using h
  clear h
  by_cases h : f0 = 8 ∨ f0 = 11
  · rcases h with rfl | rfl
    all_goals
      have k0 := U0.out
      go_wp2_with (with_reducible refine gate_dst (N := 123) rfl ?_; go_must (refine wpList_ret_row 123 rfl rfl rfl (.tmp 3) (.tmp 2) rfl rfl rfl _ _ _ _ rfl rfl rfl X.x3 X.bx.x1 rfl rfl (by simp [Value.oneCell']) ?_))
      refine row_end rfl rfl rfl X.bx.x1 rfl X.bx.x2 (Nat.le_succ _) ?_
      unfold bareD
      dsimp only
      rw [flD_zero _ f1 h1 h2 (by rfl)]
      rfl
  have q8 : (f0 == 8) = false := by simp; omega
  have q11 : (f0 == 11) = false := by simp; omega
  clear h
  by_cases h : f0 = 14
  · subst h
    have k0 := U0.out
    have k1 := U1.out
    have d1 : W.cell? ⟨g3, 1, none⟩ = some (.int .u8 0) := blk_cell X.x3 1
    have f_1 := blk_frozen X.x3 1
    go_upto_region 27 with (fail)
    refine wp_gen (By w _ (#[.int .u8 _, .int .u8 (f1 % 2), .int .u32 0, .int .u16 0, .int .u16 0, .int .u32 0, .int .u32 0, .int .u32 0, .int .u16 0, .int .u16 0, .slice none 0 0, .slice none 0 0, .slice none 0 0, .slice none 0 0, .slice none 0 0]) g3) (X.set 1 _) ?_
    clear X k1 d1 f_1
    intro W9 X
    go_wp2_with (with_reducible refine gate_dst (N := 123) rfl ?_; go_must (refine wpList_ret_row 123 rfl rfl rfl (.tmp 3) (.tmp 2) rfl rfl rfl _ _ _ _ rfl rfl rfl X.x3 X.bx.x1 rfl rfl (by simp [Value.oneCell']) ?_))
    refine row_end rfl rfl rfl X.bx.x1 rfl X.bx.x2 (Nat.le_succ _) ?_
    unfold bareD
    dsimp only
    rw [flD_two _ f1 h1 h2 (by rfl)]
    rfl
  have q14 : (f0 == 14) = false := by simpa using h
  clear h
  by_cases h : f0 = 10
  · subst h
    have k0 := U0.out
    have k13 : W.cell? ⟨w.heap.size, 13, none⟩ = some (.slice A13 f13.length c13) := U13.out
    have d13 : W.cell? ⟨g3, 13, none⟩ = some (.slice none 0 0) := blk_cell X.x3 13
    have f_13 := blk_frozen X.x3 13
    go_upto_region 27 with (fail)
    refine wp_gen (By w _ (#[.int .u8 _, .int .u8 (0), .int .u32 0, .int .u16 0, .int .u16 0, .int .u32 0, .int .u32 0, .int .u32 0, .int .u16 0, .int .u16 0, .slice none 0 0, .slice none 0 0, .slice none 0 0, .slice A13 f13.length c13, .slice none 0 0]) g3) (X.set 13 _) ?_
    clear X k13 d13 f_13
    intro W9 X
    go_wp2_with (with_reducible refine gate_dst (N := 123) rfl ?_; go_must (refine wpList_ret_row 123 rfl rfl rfl (.tmp 3) (.tmp 2) rfl rfl rfl _ _ _ _ rfl rfl rfl X.x3 X.bx.x1 rfl rfl (by simp [Value.oneCell']) ?_))
    refine row_end rfl rfl rfl X.bx.x1 rfl X.bx.x2 (Nat.le_succ _) ?_
    unfold bareD
    dsimp only
    rw [flD_zero _ f1 h1 h2 (by rfl)]
    rfl
  have q10 : (f0 == 10) = false := by simpa using h
  clear h
  have k0 := U0.out
  go_upto_region 3 with (fail)
  refine copy_region (B := rbareB3) (T := 30) (gd := g3) [0, 1, 2, 3, 4, 5, 6, 7] [(0, 9, .pointer (some ⟨w.heap.size, 1, none⟩)), (1, 10, .int .u8 f1), (2, 11, .pointer (some ⟨w.heap.size, 13, none⟩)), (3, 12, .slice A13 f13.length c13), (4, 13, .pointer (some ⟨g3, 1, none⟩)), (6, 14, .pointer (some ⟨g3, 13, none⟩))] [(5, 1, .int .u8 f1), (7, 13, .slice A13 f13.length c13)] (by kernel_rfl) rfl (l := #[false, false, false, false, false, false, false, false]) rfl rbaretab3 rbarebits3 (by kernel_rfl) (by kernel_rfl) rfl rfl X.x3 ?_ ?_
  · exact steps_cons (cp_addr 0 0 1 rfl rfl rfl rfl rfl rfl rfl rfl (fun a w e => by go_simp)) (steps_cons (cp_op 1 1 0 0 rfl rfl rfl rfl rfl rfl rfl rfl rfl (by kernel_rfl) rfl (fun a w hO e => by have hs := hO.cell U1.out HN.out; go_simp)) (steps_cons (cp_addr 2 2 1 rfl rfl rfl rfl rfl rfl rfl rfl (fun a w e => by go_simp)) (steps_cons (cp_op 3 3 2 2 rfl rfl rfl rfl rfl rfl rfl rfl rfl (by kernel_rfl) rfl (fun a w hO e => by have hs := hO.cell U13.out HN.out; go_simp)) (steps_cons (cp_addr 4 4 3 rfl rfl rfl rfl rfl rfl rfl rfl (fun a w e => by go_simp)) (steps_cons (cp_store 5 0 4 1 4 1 rfl rfl rfl rfl rfl rfl (show _ < 15 by decide) rfl rfl rfl (by kernel_rfl) rfl rfl rfl rfl (by kernel_rfl) rfl (fun a w old e e2 h h2 => by go_simp)) (steps_cons (cp_addr 6 5 3 rfl rfl rfl rfl rfl rfl rfl rfl (fun a w e => by go_simp)) (steps_cons (cp_store 7 1 5 3 6 3 rfl rfl rfl rfl rfl rfl (show _ < 15 by decide) rfl rfl rfl (by kernel_rfl) rfl rfl rfl rfl (by kernel_rfl) rfl (fun a w old e e2 h h2 => by go_simp)) steps_nil)))))))
  intro W9 hO9 hC9
  replace X := (show By w _ (#[.int .u8 _, .int .u8 (f1), .int .u32 0, .int .u16 0, .int .u16 0, .int .u32 0, .int .u32 0, .int .u32 0, .int .u16 0, .int .u16 0, .slice none 0 0, .slice none 0 0, .slice none 0 0, .slice A13 f13.length c13, .slice none 0 0]) g3 W9 from X.only hO9 hC9)
  clear hO9 hC9
  simp only [putSel, if_true, Act.put, List.setIfInBounds_toArray, List.set_cons_zero, List.set_cons_succ]
  go_wp2_with (with_reducible refine gate_dst (N := 123) rfl ?_; go_must (refine wpList_ret_row 123 rfl rfl rfl (.tmp 3) (.tmp 2) rfl rfl rfl _ _ _ _ rfl rfl rfl X.x3 X.bx.x1 rfl rfl (by simp [Value.oneCell']) ?_))
  have hf : hasF f0 = fun i => i == 13 := by
    funext i
    simp only [beq_eq_false_iff_ne] at q0 q1 q2 q16 q3 q4 q5 q6 q9 q7 q8 q11 q14
    unfold hasF
    rw [if_neg q0, if_neg (fun e => e.elim q1 q2), if_neg q16, if_neg q3, if_neg (fun e => e.elim q4 (fun e => e.elim q5 (fun e => e.elim q6 q9))), if_neg q7, if_neg (fun e => e.elim q8 (fun e => e.elim q11 q14))]
  have hm : maskD f0 = 255 := by
    simp only [beq_eq_false_iff_ne] at q0 q1 q2 q16 q3 q4 q5 q6 q9 q7 q8 q11 q14 q10
    unfold maskD
    rw [if_neg q0, if_neg (fun e => e.elim q6 q14), if_neg (by omega)]
  refine row_end rfl rfl rfl X.bx.x1 rfl X.bx.x2 (Nat.le_succ _) ?_
  unfold bareD
  dsimp only
  rw [flD_all _ f1 h1 h2 hm, hf]
  rfl
end Go.Proofs.Ytjmadnpicidbeaa.Ch
end
section
namespace Go.Proofs.Ytjmadnpicidbeaa.Ch
open Go.RowKit Go.Proofs.YtjmadnpicidbeaaW.PrintWords Go.Proofs.YtjmadnpicidbeaaW.PrintLast Go.Proofs.Ytjmadnpicidbeaa.Base Go.Proofs.Ytjmadnpicidbeaa.PCh Go.Proofs.Ytjmadnpicidbeaa.ParDec
set_option maxRecDepth 100000
set_option linter.unusedVariables false
set_option linter.unusedSimpArgs false
set_option maxHeartbeats 4000000 in
theorem rread_l3 (w : World) (A : Option Addr) (c : Nat) (v : List UInt8) (fl : Int) (hb : byte.C w A v.length v) (hc : v.length ≤ c) (hv : v.length ≤ 140737488355232) :
    Calls Try.prog 29 #[.agg (freshV 3 fl), .slice A v.length c] w (RReadP w (readLists false 3 0 v)) := by
  have HP := Lib.hid (fun (W : World) (h : Below w.heap.size w W) => rlists_sack W A c v (Kd.C_below hb h) hc hv)
  have X := Bx.new w (freshV 3 fl)
  clear hb
  go_enter Try.func29, Try.ntmps29
  go_upto_region 1 with (fail)
  refine wp_gen (Bx w (freshV 3 fl)) X ?_
  clear X
  intro W X
  have k0 : W.cell? ⟨w.heap.size, 0, none⟩ = some (.int .u8 3) := X.cell 0
  have k1 : W.cell? ⟨w.heap.size, 1, none⟩ = some (.int .u8 fl) := X.cell 1
  have f1 := X.frozen 1
  go_upto_region 21 with (fail)
  refine wp_gen (Bx w (freshV 3 0)) (X.set 1 _) ?_
  clear X k0 k1 f1 W
  intro W X
  have HWZ := Lib.hid X.x3
  go_wp2_with (with_reducible refine gate_dst (N := 77) rfl ?_; go_must (refine wpList_load_row rfl 30 (.tmp 2) rfl _ rfl 30 _ (0, 0) _ X.x0 Try.underlying30 rfl (by kernel_rfl) ?_))
  refine (HP.out W X.x2).mono ?_
  rintro e w1 ⟨cs, code, rfl, hsz, hone, hB, hP⟩
  have Y := X.below hB
  have HPP := Lib.hid hP
  have hsz2 : (Try.prog.info? 30).map (·.size) = some cs.size := by rw [hsz]; kernel_rfl
  have HSZ := Lib.hid hsz
  have HSZ2 := Lib.hid hsz2
  have HOLD := Lib.hid (show zerV.size = cs.size by rw [hsz]; rfl)
  clear hP hB hsz hsz2
  go_wp2_with (with_reducible refine gate_store (p := 4) rfl ?_; go_must (refine wpList_store_row rfl 30 (.tmp 4) (.tmp 80) rfl _ cs rfl rfl 30 zerV Y.x1 HSZ2.out HOLD.out hone ?_))
  exact ret_pass rfl rfl rfl rfl Y.x1 HSZ.out hone Y.x2 (Nat.le_succ _) (by have := HWZ.out; omega) HPP.out
set_option maxHeartbeats 4000000 in
theorem rread_l16 (w : World) (A : Option Addr) (c : Nat) (v : List UInt8) (fl : Int) (hb : byte.C w A v.length v) (hc : v.length ≤ c) (hv : v.length ≤ 140737488355232) :
    Calls Try.prog 29 #[.agg (freshV 16 fl), .slice A v.length c] w (RReadP w (readLists true 16 0 v)) := by
  have HP := Lib.hid (fun (W : World) (h : Below w.heap.size w W) => rlists_nr W A c v (Kd.C_below hb h) hc hv)
  have X := Bx.new w (freshV 16 fl)
  clear hb
  go_enter Try.func29, Try.ntmps29
  go_upto_region 1 with (fail)
  refine wp_gen (Bx w (freshV 16 fl)) X ?_
  clear X
  intro W X
  have k0 : W.cell? ⟨w.heap.size, 0, none⟩ = some (.int .u8 16) := X.cell 0
  have k1 : W.cell? ⟨w.heap.size, 1, none⟩ = some (.int .u8 fl) := X.cell 1
  have f1 := X.frozen 1
  go_upto_region 21 with (fail)
  refine wp_gen (Bx w (freshV 16 0)) (X.set 1 _) ?_
  clear X k0 k1 f1 W
  intro W X
  have HWZ := Lib.hid X.x3
  go_wp2_with (with_reducible refine gate_dst (N := 77) rfl ?_; go_must (refine wpList_load_row rfl 30 (.tmp 2) rfl _ rfl 30 _ (0, 0) _ X.x0 Try.underlying30 rfl (by kernel_rfl) ?_))
  refine (HP.out W X.x2).mono ?_
  rintro e w1 ⟨cs, code, rfl, hsz, hone, hB, hP⟩
  have Y := X.below hB
  have HPP := Lib.hid hP
  have hsz2 : (Try.prog.info? 30).map (·.size) = some cs.size := by rw [hsz]; kernel_rfl
  have HSZ := Lib.hid hsz
  have HSZ2 := Lib.hid hsz2
  have HOLD := Lib.hid (show zerV.size = cs.size by rw [hsz]; rfl)
  clear hP hB hsz hsz2
  go_wp2_with (with_reducible refine gate_store (p := 4) rfl ?_; go_must (refine wpList_store_row rfl 30 (.tmp 4) (.tmp 80) rfl _ cs rfl rfl 30 zerV Y.x1 HSZ2.out HOLD.out hone ?_))
  exact ret_pass rfl rfl rfl rfl Y.x1 HSZ.out hone Y.x2 (Nat.le_succ _) (by have := HWZ.out; omega) HPP.out
theorem keepL_nil (p : Nat → Bool) : keepL p ⟨none, 0, none, 0, none, 0, none, 0, none, 0⟩ = ⟨none, 0, none, 0, none, 0, none, 0, none, 0⟩ := by
  unfold keepL
  cases p 10 <;> cases p 11 <;> cases p 12 <;> cases p 13 <;> cases p 14 <;> rfl
set_option maxHeartbeats 4000000 in
theorem rread_none (w : World) (A : Option Addr) (c : Nat) (v : List UInt8) (kd fl : Int) (hk : kd = 8 ∨ kd = 11 ∨ kd = 14) (h0' : 0 ≤ fl) (h1 : fl < 256) (hb : byte.C w A v.length v) (hc : v.length ≤ c) (hv : v.length ≤ 140737488355232) :
    Calls Try.prog 29 #[.agg (freshV kd fl), .slice A v.length c] w (RReadP w (readNone kd (flD kd fl) v)) := by
  have HO := fresh_one kd fl
  have HK := Lib.hid (show 0 ≤ kd by omega)
  have q0 : (kd == 0) = false := by rcases hk with h | h | h <;> simp [h]
  have q1 : (kd == 1) = false := by rcases hk with h | h | h <;> simp [h]
  have q2 : (kd == 2) = false := by rcases hk with h | h | h <;> simp [h]
  have q3 : (kd == 3) = false := by rcases hk with h | h | h <;> simp [h]
  have q16 : (kd == 16) = false := by rcases hk with h | h | h <;> simp [h]
  have q4 : (kd == 4) = false := by rcases hk with h | h | h <;> simp [h]
  have q5 : (kd == 5) = false := by rcases hk with h | h | h <;> simp [h]
  have q9 : (kd == 9) = false := by rcases hk with h | h | h <;> simp [h]
  have q6 : (kd == 6) = false := by rcases hk with h | h | h <;> simp [h]
  have q7 : (kd == 7) = false := by rcases hk with h | h | h <;> simp [h]
  have hq : (kd == 8) = true ∨ ((kd == 8) = false ∧ (kd == 11) = true) ∨ ((kd == 8) = false ∧ (kd == 11) = false ∧ (kd == 14) = true) := by rcases hk with h | h | h <;> simp [h]
  clear hk
  have X := Bx.new w (freshV kd fl)
  clear hb
  go_enter Try.func29, Try.ntmps29
  go_upto_region 1 with (fail)
  refine wp_gen (Bx w (freshV kd fl)) X ?_
  clear X
  intro W X
  have k0 : W.cell? ⟨w.heap.size, 0, none⟩ = some (.int .u8 kd) := X.cell 0
  by_cases h0 : v.length = 0
  · have q : ((v.length : Int) != 0) = false := by simp [h0]
    have HR := Lib.hid (show readNone kd (flD kd fl) v = .ok (chk0 kd (flD kd fl)) by unfold readNone; rw [if_pos h0])
    have HBR := Lib.hid (rbare_calls W (chk0 kd fl) ⟨none, 0, none, 0, none, 0, none, 0, none, 0⟩ HK.out h0' h1)
    have HF := Lib.hid (show bareD (chk0 kd fl) = chk0 kd (flD kd fl) by unfold bareD keepF chk0; simp)
    rw [HF.out] at HBR
    clear h0
    have HW := Lib.hid (show CV (chk0 kd fl) ⟨none, 0, none, 0, none, 0, none, 0, none, 0⟩ = freshV kd fl from rfl)
    rw [HW.out] at HBR
    have HL := Lib.hid (show CV (chk0 kd (flD kd fl)) (keepL (hasF (chk0 kd fl).f0) ⟨none, 0, none, 0, none, 0, none, 0, none, 0⟩) = #[.int .u8 kd, .int .u8 (flD kd fl), .int .u32 0, .int .u16 0, .int .u16 0, .int .u32 0, .int .u32 0, .int .u32 0, .int .u16 0, .int .u16 0, .slice none 0 0, .slice none 0 0, .slice none 0 0, .slice none 0 0, .slice none 0 0] by rw [keepL_nil]; rfl)
    rw [HL.out] at HBR
    rcases hq with q8 | ⟨q8, q11⟩ | ⟨q8, q11, q14⟩
    all_goals
      go_wp2_with (with_reducible refine gate_dst (N := 122) rfl ?_; go_must (refine wpList_load_row rfl 30 (.tmp 2) rfl _ rfl 30 _ (0, 0) _ X.x0 Try.underlying30 rfl (by kernel_rfl) ?_))
      refine HBR.out.mono ?_
      rintro e w1 ⟨rfl, hB⟩
      replace X := X.below hB
      clear hB
      have k1 : w1.cell? ⟨w.heap.size, 1, none⟩ = some (.int .u8 fl) := X.cell 1
      have f1 := X.frozen 1
      have hfv : ∀ W : World, (Instr.field 30 (.agg #[.int .u8 kd, .int .u8 (flD kd fl), .int .u32 0, .int .u16 0, .int .u16 0, .int .u32 0, .int .u32 0, .int .u32 0, .int .u16 0, .int .u16 0, .slice none 0 0, .slice none 0 0, .slice none 0 0, .slice none 0 0, .slice none 0 0]) 1).run Try.prog W = .ok (.int .u8 (flD kd fl)) W := fun _ => by kernel_rfl
      go_upto_region 41 with (fail)
      refine wp_gen (Bx w (freshV kd (flD kd fl))) (X.set 1 _) ?_
      clear X k0 k1 f1 HO W HBR
      intro W X
      go_wp2_with (with_reducible refine gate_dst (N := 126) rfl ?_; go_must (refine wpList_ret_row 126 rfl rfl rfl (.tmp 2) (.tmp 4) rfl rfl rfl _ _ _ _ rfl rfl rfl X.x0 X.x1 rfl rfl (fresh_one _ _) ?_))
      exact ret_good rfl rfl rfl rfl X.x1 HR.out rfl (fresh_one _ _) X.x2 (Nat.le_succ _) (mnil _ _ _ _)
  · have q : ((v.length : Int) != 0) = true := by rw [bne_iff_ne]; omega
    have HR := Lib.hid (show readNone kd (flD kd fl) v = .error 61 by unfold readNone; rw [if_neg h0])
    rcases hq with q8 | ⟨q8, q11⟩ | ⟨q8, q11, q14⟩
    all_goals
      go_wp2_with (with_reducible refine gate_dst (N := 121) rfl ?_; go_must (refine wpList_ret_row 121 rfl rfl rfl (.tmp 2) (.tmp 4) rfl rfl rfl _ _ _ _ rfl rfl rfl X.x0 X.x1 rfl rfl HO ?_))
      exact ret_bad rfl rfl rfl rfl X.x1 HR.out rfl HO X.x2 (Nat.le_succ _)
end Go.Proofs.Ytjmadnpicidbeaa.Ch
end
section
namespace Go.Proofs.Ytjmadnpicidbeaa.Ch
open Go.RowKit Go.Proofs.YtjmadnpicidbeaaW.PrintWords Go.Proofs.YtjmadnpicidbeaaW.PrintLast Go.Proofs.Ytjmadnpicidbeaa.Base Go.Proofs.Ytjmadnpicidbeaa.PCh Go.Proofs.Ytjmadnpicidbeaa.ParDec
set_option maxRecDepth 100000
set_option linter.unusedVariables false
set_option linter.unusedSimpArgs false
set_option maxHeartbeats 4000000 in
theorem rread_data (w : World) (A : Option Addr) (c : Nat) (v : List UInt8) (fl : Int) (h0 : 0 ≤ fl) (hb : byte.C w A v.length v) (hc : v.length ≤ c) (hv : v.length ≤ 140737488355232) :
    Calls Try.prog 29 #[.agg (freshV 0 fl), .slice A v.length c] w (RReadP w (readData 0 (fl % 8) v)) := by
  have HG := Lib.hid (fun (W : World) (h : Below w.heap.size w W) (at_ n : Nat) (z y : Int) (hz : z = (at_ : Int)) (hy : y = (n : Int)) (hn : n ≤ 4) (hh : at_ + n ≤ v.length) => get_calls W A v c (Kd.C_below hb h) hc (by omega) at_ n z y hz hy hn hh)
  have HBC := Lib.hid (fun (W : World) (h : Below w.heap.size w W) => Kd.C_below hb h)
  have X := Bx.new w (freshV 0 fl)
  have HO := fresh_one 0 fl
  clear hb
  go_enter Try.func29, Try.ntmps29
  go_upto_region 1 with (fail)
  refine wp_gen (Bx w (freshV 0 fl)) X ?_
  clear X
  intro W X
  have k0 : W.cell? ⟨w.heap.size, 0, none⟩ = some (.int .u8 0) := X.cell 0
  by_cases h12 : v.length = 12
  · have q : ((v.length : Int) == 12) = true := by simp [h12]
    have HR := Lib.hid (show readData 0 (fl % 8) v = .error 62 by unfold readData; rw [if_neg (by omega), if_pos h12])
    go_wp2_with (with_reducible refine gate_dst (N := 13) rfl ?_; go_must (refine wpList_ret_row 13 rfl rfl rfl (.tmp 2) (.tmp 4) rfl rfl rfl _ _ _ _ rfl rfl rfl X.x0 X.x1 rfl rfl HO ?_))
    exact ret_bad rfl rfl rfl rfl X.x1 HR.out rfl HO X.x2 (Nat.le_succ _)
  have q : ((v.length : Int) == 12) = false := by simp; omega
  by_cases hlt : v.length < 12
  · have HR := Lib.hid (show readData 0 (fl % 8) v = .error 61 by unfold readData; rw [if_pos hlt])
    clear h12
    go_wp2_with (with_reducible refine gate_dst (N := 17) rfl ?_; go_must (refine wpList_ret_row 17 rfl rfl rfl (.tmp 2) (.tmp 4) rfl rfl rfl _ _ _ _ rfl rfl rfl X.x0 X.x1 rfl rfl HO ?_))
    exact ret_bad rfl rfl rfl rfl X.x1 HR.out rfl HO X.x2 (Nat.le_succ _)
  have HR := Lib.hid (show readData 0 (fl % 8) v = .ok ⟨0, fl % 8, (be (v.take 4) : Nat), (be ((v.drop 4).take 2) : Nat), (be ((v.drop 6).take 2) : Nat), (be ((v.drop 8).take 4) : Nat), 0, 0, 0, 0, [], [], [], intsL (v.drop 12), []⟩ by unfold readData; rw [if_neg hlt, if_neg h12])
  have k1 : W.cell? ⟨w.heap.size, 1, none⟩ = some (.int .u8 fl) := X.cell 1
  have f1 := X.frozen 1
  go_upto_region 8 with (fail)
  refine wp_gen (Bx w (freshV 0 (fl % 8))) (X.set 1 _) ?_
  clear X k0 k1 f1 W HO
  intro W X
  have k2 : W.cell? ⟨w.heap.size, 2, none⟩ = _ := X.cell 2
  have k3 : W.cell? ⟨w.heap.size, 3, none⟩ = _ := X.cell 3
  have k4 : W.cell? ⟨w.heap.size, 4, none⟩ = _ := X.cell 4
  have k5 : W.cell? ⟨w.heap.size, 5, none⟩ = _ := X.cell 5
  have f2 := X.frozen 2
  have f3 := X.frozen 3
  have f4 := X.frozen 4
  have f5 := X.frozen 5
  go_wp2_with fail
  refine (HG.out _ X.x2 0 4 _ _ rfl rfl (by decide) (by omega)).mono ?_
  rintro e w1 ⟨rfl, ⟨m1, rfl⟩⟩
  go_wp2_with fail
  refine (HG.out _ (pw_below_drewN X.x2 _) 4 2 _ _ rfl rfl (by decide) (by omega)).mono ?_
  rintro e w1 ⟨rfl, ⟨m2, rfl⟩⟩
  go_wp2_with fail
  refine (HG.out _ (pw_below_drewN X.x2 _) 6 2 _ _ rfl rfl (by decide) (by omega)).mono ?_
  rintro e w1 ⟨rfl, ⟨m3, rfl⟩⟩
  go_wp2_with fail
  refine (HG.out _ (pw_below_drewN X.x2 _) 8 4 _ _ rfl rfl (by decide) (by omega)).mono ?_
  rintro e w1 ⟨rfl, ⟨m4, rfl⟩⟩
  go_upto_region 9 with (fail)
  simp only [u16_be]
  refine wp_gen (Bx w #[.int .u8 0, .int .u8 (fl % 8), .int .u32 ((be (v.take 4) : Nat) : Int), .int .u16 ((be ((v.drop 4).take 2) : Nat) : Int), .int .u16 ((be ((v.drop 6).take 2) : Nat) : Int), .int .u32 ((be ((v.drop 8).take 4) : Nat) : Int), .int .u32 0, .int .u32 0, .int .u16 0, .int .u16 0, .slice none 0 0, .slice none 0 0, .slice none 0 0, .slice none 0 0, .slice none 0 0]) (((((X.drewN _).set 2 _).set 3 _).set 4 _).set 5 _) ?_
  clear X k2 k3 k4 k5 f2 f3 f4 f5 W
  intro W X
  obtain ⟨A', hdr, hdC, hdl⟩ := drop_bytes (HBC.out W X.x2) hc 12 12 rfl (by omega)
  have HCD := Lib.hid (fun (W' : World) (h : Below W.heap.size W W') => by
    have h2 := C_intsL (Kd.C_below hdC h)
    rw [List.length_drop] at h2
    exact h2)
  have HLD := Lib.hid (show (v.drop 12).length ≤ 140737488355232 by rw [List.length_drop]; omega)
  clear hdC
  go_wp2_with (first | (with_reducible refine gate_dst (N := 36) rfl ?_; go_must (refine Kd.R_lit (Kd.int .u8) (w0 := W) W.heap.size 5 rfl rfl (xs := []) (inner := []) (ok := fun _ => True) (okp := fun _ => True) (by go_simp; try rfl) (reps_nil _) (fun _ _ => trivial) trivial (Below.refl _ _) (Nat.le_refl _) (by simp) ?_); (intro v1 w1 hR1 hB1 hG1 _; have HR1 := Lib.hid hR1; have HB1 := Lib.hid hB1; clear hR1 hB1 hG1)) | (at_builtin; go_must (refine Kd.R_append_row (Value.int .u8) (0 : Int) (w0 := W) (W := w1) W.heap.size rfl _ _ 22 5 _ 1 rfl Try.underlying22 info_u8 rfl (by decide) v1 [] (intsL (v.drop 12)) _ _ _ (fun _ => True) rfl rfl (fun _ _ => trivial) HR1.out (HCD.out _ HB1.out) HB1.out HB1.out.size (by have := HLD.out; simp; omega) ?_); (intro v2 w2 hR2 hB2 hG2 _; have HR2 := Lib.hid hR2; have HB2 := Lib.hid hB2; clear hR2 hB2 hG2; refine RowKit.Hid.out ?_)))
  refine Lib.hid ?_
  have Y := X.below HB2.out
  have k13 : w2.cell? ⟨w.heap.size, 13, none⟩ = _ := Y.cell 13
  have f13 := Y.frozen 13
  obtain ⟨A2, c2, e2⟩ := Kd.R_slice HR2.out
  go_upto_region 10 with (fail)
  subst e2
  refine wp_gen (fun W' => Bx w #[.int .u8 0, .int .u8 (fl % 8), .int .u32 ((be (v.take 4) : Nat) : Int), .int .u16 ((be ((v.drop 4).take 2) : Nat) : Int), .int .u16 ((be ((v.drop 6).take 2) : Nat) : Int), .int .u32 ((be ((v.drop 8).take 4) : Nat) : Int), .int .u32 0, .int .u32 0, .int .u16 0, .int .u16 0, .slice none 0 0, .slice none 0 0, .slice none 0 0, .slice A2 (intsL (v.drop 12)).length c2, .slice none 0 0] W' ∧ (Kd.int .u8).R 5 W' W.heap.size (fun _ => True) (.slice A2 (intsL (v.drop 12)).length c2) (intsL (v.drop 12))) ⟨Y.set 13 _, R_only HR2.out ((Only.refl (· = w.heap.size) _).setCell (fun _ => rfl) _) (fun k hk _ h => by have := X.x3; omega)⟩ ?_
  have HSZ := Lib.hid X.x3
  clear X Y k13 f13 hdr HCD HBC HG HLD HR1 HB1 HR2 HB2
  rintro W3 ⟨X, R3⟩
  go_wp2_with (with_reducible refine gate_dst (N := 41) rfl ?_; go_must (refine wpList_ret_row 41 rfl rfl rfl (.tmp 2) (.tmp 4) rfl rfl rfl _ _ _ _ rfl rfl rfl X.x0 X.x1 rfl rfl (by simp [Value.oneCell']) ?_))
  refine ret_good rfl rfl rfl rfl X.x1 HR.out rfl (by simp [Value.oneCell']) X.x2 (Nat.le_succ _) (k30_mkM _ _ _ _ (Kd.R_nil _ _ _ _ _) (Kd.R_nil _ _ _ _ _) (Kd.R_nil _ _ _ _ _) ?_ (Kd.R_nil _ _ _ _ _))
  exact Kd.R_lower (R_only R3 (setRow_only _ _ _) (fun k hk _ h => by have := HSZ.out; omega)) (by have := HSZ.out; omega)
end Go.Proofs.Ytjmadnpicidbeaa.Ch
end
section
namespace Go.Proofs.Ytjmadnpicidbeaa.Ch
open Go.RowKit Go.Proofs.YtjmadnpicidbeaaW.PrintWords Go.Proofs.YtjmadnpicidbeaaW.PrintLast Go.Proofs.Ytjmadnpicidbeaa.Base Go.Proofs.Ytjmadnpicidbeaa.PCh Go.Proofs.Ytjmadnpicidbeaa.ParDec
set_option maxRecDepth 100000
set_option linter.unusedVariables false
set_option linter.unusedSimpArgs false
set_option maxHeartbeats 4000000 in
theorem rread_shut (w : World) (A : Option Addr) (c : Nat) (v : List UInt8) (fl : Int) (hb : byte.C w A v.length v) (hc : v.length ≤ c) (hv : v.length ≤ 140737488355232) :
    Calls Try.prog 29 #[.agg (freshV 7 fl), .slice A v.length c] w (RReadP w (readShut 7 0 v)) := by
  have HG := Lib.hid (fun (W : World) (h : Below w.heap.size w W) (at_ n : Nat) (z y : Int) (hz : z = (at_ : Int)) (hy : y = (n : Int)) (hn : n ≤ 4) (hh : at_ + n ≤ v.length) => get_calls W A v c (Kd.C_below hb h) hc (by omega) at_ n z y hz hy hn hh)
  have HBC := Lib.hid (fun (W : World) (h : Below w.heap.size w W) => Kd.C_below hb h)
  have HO := fresh_one 7 fl
  have X := Bx.new w (freshV 7 fl)
  clear hb
  go_enter Try.func29, Try.ntmps29
  go_upto_region 1 with (fail)
  refine wp_gen (Bx w (freshV 7 fl)) X ?_
  clear X
  intro W X
  have k0 : W.cell? ⟨w.heap.size, 0, none⟩ = some (.int .u8 7) := X.cell 0
  by_cases h4 : v.length = 4
  · have q : ((v.length : Int) != 4) = false := by simp [h4]
    have HR := Lib.hid (show readShut 7 0 v = .ok ⟨7, 0, (be v : Nat), 0, 0, 0, 0, 0, 0, 0, [], [], [], [], []⟩ by unfold readShut; rw [if_pos h4])
    have HV := Lib.hid (show v.take 4 = v from List.take_of_length_le (by omega))
    have h5 : 4 ≤ v.length := by omega
    clear h4
    have k1 : W.cell? ⟨w.heap.size, 1, none⟩ = some (.int .u8 fl) := X.cell 1
    have f1 := X.frozen 1
    have k2 : W.cell? ⟨w.heap.size, 2, none⟩ = some (.int .u32 0) := X.cell 2
    have f2 := X.frozen 2
    go_wp2_with fail
    refine (HG.out _ X.x2 0 4 _ _ rfl rfl (by decide) (by omega)).mono ?_
    rintro e w1 ⟨rfl, ⟨m0, rfl⟩⟩
    go_upto_region 34 with (fail)
    (first | rw [List.drop_zero, HV.out] | rw [HV.out])
    refine wp_gen (Bx w (#[.int .u8 7, .int .u8 0, .int .u32 ((be v : Nat) : Int), .int .u16 0, .int .u16 0, .int .u32 0, .int .u32 0, .int .u32 0, .int .u16 0, .int .u16 0, .slice none 0 0, .slice none 0 0, .slice none 0 0, .slice none 0 0, .slice none 0 0])) (((X.drewN _).set 1 _).set 2 _) ?_
    clear X k0 k1 f1 k2 f2 HO W
    intro W X
    go_wp2_with (with_reducible refine gate_dst (N := 113) rfl ?_; go_must (refine wpList_ret_row 113 rfl rfl rfl (.tmp 2) (.tmp 4) rfl rfl rfl _ _ _ _ rfl rfl rfl X.x0 X.x1 rfl rfl (by simp [Value.oneCell']) ?_))
    exact ret_good rfl rfl rfl rfl X.x1 HR.out rfl (by simp [Value.oneCell']) X.x2 (Nat.le_succ _) (k30_mkM _ _ _ _ (Kd.R_nil _ _ _ _ _) (Kd.R_nil _ _ _ _ _) (Kd.R_nil _ _ _ _ _) (Kd.R_nil _ _ _ _ _) (Kd.R_nil _ _ _ _ _))
  · have q : ((v.length : Int) != 4) = true := by simp; omega
    have HR := Lib.hid (show readShut 7 0 v = .error 61 by unfold readShut; rw [if_neg h4])
    go_wp2_with (with_reducible refine gate_dst (N := 108) rfl ?_; go_must (refine wpList_ret_row 108 rfl rfl rfl (.tmp 2) (.tmp 4) rfl rfl rfl _ _ _ _ rfl rfl rfl X.x0 X.x1 rfl rfl HO ?_))
    exact ret_bad rfl rfl rfl rfl X.x1 HR.out rfl HO X.x2 (Nat.le_succ _)
set_option maxHeartbeats 4000000 in
theorem rread_echo (w : World) (A : Option Addr) (c : Nat) (v : List UInt8) (fl : Int) (hb : byte.C w A v.length v) (hc : v.length ≤ c) (hv : v.length ≤ 140737488355232) :
    Calls Try.prog 29 #[.agg (freshV 10 fl), .slice A v.length c] w (RReadP w (readBody 10 0 v)) := by
  have HG := Lib.hid (fun (W : World) (h : Below w.heap.size w W) (at_ n : Nat) (z y : Int) (hz : z = (at_ : Int)) (hy : y = (n : Int)) (hn : n ≤ 4) (hh : at_ + n ≤ v.length) => get_calls W A v c (Kd.C_below hb h) hc (by omega) at_ n z y hz hy hn hh)
  have HBC := Lib.hid (fun (W : World) (h : Below w.heap.size w W) => Kd.C_below hb h)
  have HO := fresh_one 10 fl
  have X := Bx.new w (freshV 10 fl)
  clear hb
  go_enter Try.func29, Try.ntmps29
  go_upto_region 1 with (fail)
  refine wp_gen (Bx w (freshV 10 fl)) X ?_
  clear X
  intro W X
  have k0 : W.cell? ⟨w.heap.size, 0, none⟩ = some (.int .u8 10) := X.cell 0
  have k1 : W.cell? ⟨w.heap.size, 1, none⟩ = some (.int .u8 fl) := X.cell 1
  have f1 := X.frozen 1
  go_upto_region 44 with (fail)
  refine wp_gen (Bx w (freshV 10 0)) (X.set 1 _) ?_
  clear X k0 k1 f1 HO W
  intro W X
  have HR := Lib.hid (show readBody 10 0 v = .ok ⟨10, 0, 0, 0, 0, 0, 0, 0, 0, 0, [], [], [], intsL v, []⟩ from rfl)
  have HCD := Lib.hid (fun (W' : World) (h : Below W.heap.size W W') => C_intsL (Kd.C_below (HBC.out W X.x2) h))
  have HLD := Lib.hid (show v.length ≤ 140737488355232 from hv)
  go_wp2_with (first | (with_reducible refine gate_dst (N := 130) rfl ?_; go_must (refine Kd.R_lit (Kd.int .u8) (w0 := W) W.heap.size 5 rfl rfl (xs := []) (inner := []) (ok := fun _ => True) (okp := fun _ => True) (by go_simp; try rfl) (reps_nil _) (fun _ _ => trivial) trivial (Below.refl _ _) (Nat.le_refl _) (by simp) ?_); (intro v1 w1 hR1 hB1 hG1 _; have HR1 := Lib.hid hR1; have HB1 := Lib.hid hB1; clear hR1 hB1 hG1)) | (at_builtin; go_must (refine Kd.R_append_row (Value.int .u8) (0 : Int) (w0 := W) (W := w1) W.heap.size rfl _ _ 22 5 _ 1 rfl Try.underlying22 info_u8 rfl (by decide) v1 [] (intsL v) _ _ _ (fun _ => True) rfl rfl (fun _ _ => trivial) HR1.out (HCD.out _ HB1.out) HB1.out HB1.out.size (by have := HLD.out; simp; omega) ?_); (intro v2 w2 hR2 hB2 hG2 _; have HR2 := Lib.hid hR2; have HB2 := Lib.hid hB2; clear hR2 hB2 hG2; refine RowKit.Hid.out ?_)))
  refine Lib.hid ?_
  have Y := X.below HB2.out
  have k13 : w2.cell? ⟨w.heap.size, 13, none⟩ = _ := Y.cell 13
  have f13 := Y.frozen 13
  obtain ⟨A2, c2, e2⟩ := Kd.R_slice HR2.out
  go_upto_region 45 with (fail)
  subst e2
  refine wp_gen (fun W' => Bx w #[.int .u8 10, .int .u8 0, .int .u32 0, .int .u16 0, .int .u16 0, .int .u32 0, .int .u32 0, .int .u32 0, .int .u16 0, .int .u16 0, .slice none 0 0, .slice none 0 0, .slice none 0 0, .slice A2 (intsL v).length c2, .slice none 0 0] W' ∧ (Kd.int .u8).R 5 W' W.heap.size (fun _ => True) (.slice A2 (intsL v).length c2) (intsL v)) ⟨Y.set 13 _, R_only HR2.out ((Only.refl (· = w.heap.size) _).setCell (fun _ => rfl) _) (fun k hk _ h => by have := X.x3; omega)⟩ ?_
  have HSZ := Lib.hid X.x3
  clear X Y k13 f13 HCD HBC HG HLD HR1 HB1 HR2 HB2
  rintro W3 ⟨X, R3⟩
  go_wp2_with (with_reducible refine gate_dst (N := 134) rfl ?_; go_must (refine wpList_ret_row 134 rfl rfl rfl (.tmp 2) (.tmp 4) rfl rfl rfl _ _ _ _ rfl rfl rfl X.x0 X.x1 rfl rfl (by simp [Value.oneCell']) ?_))
  refine ret_good rfl rfl rfl rfl X.x1 HR.out rfl (by simp [Value.oneCell']) X.x2 (Nat.le_succ _) (k30_mkM _ _ _ _ (Kd.R_nil _ _ _ _ _) (Kd.R_nil _ _ _ _ _) (Kd.R_nil _ _ _ _ _) ?_ (Kd.R_nil _ _ _ _ _))
  exact Kd.R_lower (R_only R3 (setRow_only _ _ _) (fun k hk _ h => by have := HSZ.out; omega)) (by have := HSZ.out; omega)
set_option maxHeartbeats 4000000 in
theorem rread_body (w : World) (A : Option Addr) (c : Nat) (v : List UInt8) (kd fl : Int) (hk : ∀ c ∈ ([0, 1, 2, 3, 16, 4, 5, 9, 6, 7, 8, 11, 14, 10] : List Int), kd ≠ c) (hb : byte.C w A v.length v) (hc : v.length ≤ c) (hv : v.length ≤ 140737488355232) :
    Calls Try.prog 29 #[.agg (freshV kd fl), .slice A v.length c] w (RReadP w (readBody kd fl v)) := by
  have HG := Lib.hid (fun (W : World) (h : Below w.heap.size w W) (at_ n : Nat) (z y : Int) (hz : z = (at_ : Int)) (hy : y = (n : Int)) (hn : n ≤ 4) (hh : at_ + n ≤ v.length) => get_calls W A v c (Kd.C_below hb h) hc (by omega) at_ n z y hz hy hn hh)
  have HBC := Lib.hid (fun (W : World) (h : Below w.heap.size w W) => Kd.C_below hb h)
  have HO := fresh_one kd fl
  have q0 : (kd == 0) = false := by simpa using hk 0 (by decide)
  have q1 : (kd == 1) = false := by simpa using hk 1 (by decide)
  have q2 : (kd == 2) = false := by simpa using hk 2 (by decide)
  have q3 : (kd == 3) = false := by simpa using hk 3 (by decide)
  have q16 : (kd == 16) = false := by simpa using hk 16 (by decide)
  have q4 : (kd == 4) = false := by simpa using hk 4 (by decide)
  have q5 : (kd == 5) = false := by simpa using hk 5 (by decide)
  have q9 : (kd == 9) = false := by simpa using hk 9 (by decide)
  have q6 : (kd == 6) = false := by simpa using hk 6 (by decide)
  have q7 : (kd == 7) = false := by simpa using hk 7 (by decide)
  have q8 : (kd == 8) = false := by simpa using hk 8 (by decide)
  have q11 : (kd == 11) = false := by simpa using hk 11 (by decide)
  have q14 : (kd == 14) = false := by simpa using hk 14 (by decide)
  have q10 : (kd == 10) = false := by simpa using hk 10 (by decide)
  clear hk
  have X := Bx.new w (freshV kd fl)
  clear hb
  go_enter Try.func29, Try.ntmps29
  go_upto_region 1 with (fail)
  refine wp_gen (Bx w (freshV kd fl)) X ?_
  clear X
  intro W X
  have k0 : W.cell? ⟨w.heap.size, 0, none⟩ = some (.int .u8 kd) := X.cell 0
  go_upto_region 44 with (fail)
  have HR := Lib.hid (show readBody kd fl v = .ok ⟨kd, fl, 0, 0, 0, 0, 0, 0, 0, 0, [], [], [], intsL v, []⟩ from rfl)
  have HCD := Lib.hid (fun (W' : World) (h : Below W.heap.size W W') => C_intsL (Kd.C_below (HBC.out W X.x2) h))
  have HLD := Lib.hid (show v.length ≤ 140737488355232 from hv)
  go_wp2_with (first | (with_reducible refine gate_dst (N := 130) rfl ?_; go_must (refine Kd.R_lit (Kd.int .u8) (w0 := W) W.heap.size 5 rfl rfl (xs := []) (inner := []) (ok := fun _ => True) (okp := fun _ => True) (by go_simp; try rfl) (reps_nil _) (fun _ _ => trivial) trivial (Below.refl _ _) (Nat.le_refl _) (by simp) ?_); (intro v1 w1 hR1 hB1 hG1 _; have HR1 := Lib.hid hR1; have HB1 := Lib.hid hB1; clear hR1 hB1 hG1)) | (at_builtin; go_must (refine Kd.R_append_row (Value.int .u8) (0 : Int) (w0 := W) (W := w1) W.heap.size rfl _ _ 22 5 _ 1 rfl Try.underlying22 info_u8 rfl (by decide) v1 [] (intsL v) _ _ _ (fun _ => True) rfl rfl (fun _ _ => trivial) HR1.out (HCD.out _ HB1.out) HB1.out HB1.out.size (by have := HLD.out; simp; omega) ?_); (intro v2 w2 hR2 hB2 hG2 _; have HR2 := Lib.hid hR2; have HB2 := Lib.hid hB2; clear hR2 hB2 hG2; refine RowKit.Hid.out ?_)))
  refine Lib.hid ?_
  have Y := X.below HB2.out
  have k13 : w2.cell? ⟨w.heap.size, 13, none⟩ = _ := Y.cell 13
  have f13 := Y.frozen 13
  obtain ⟨A2, c2, e2⟩ := Kd.R_slice HR2.out
  go_upto_region 45 with (fail)
  subst e2
  refine wp_gen (fun W' => Bx w #[.int .u8 (kd), .int .u8 (fl), .int .u32 0, .int .u16 0, .int .u16 0, .int .u32 0, .int .u32 0, .int .u32 0, .int .u16 0, .int .u16 0, .slice none 0 0, .slice none 0 0, .slice none 0 0, .slice A2 (intsL v).length c2, .slice none 0 0] W' ∧ (Kd.int .u8).R 5 W' W.heap.size (fun _ => True) (.slice A2 (intsL v).length c2) (intsL v)) ⟨Y.set 13 _, R_only HR2.out ((Only.refl (· = w.heap.size) _).setCell (fun _ => rfl) _) (fun k hk _ h => by have := X.x3; omega)⟩ ?_
  have HSZ := Lib.hid X.x3
  clear X Y k13 f13 HCD HBC HG HLD HR1 HB1 HR2 HB2
  rintro W3 ⟨X, R3⟩
  go_wp2_with (with_reducible refine gate_dst (N := 134) rfl ?_; go_must (refine wpList_ret_row 134 rfl rfl rfl (.tmp 2) (.tmp 4) rfl rfl rfl _ _ _ _ rfl rfl rfl X.x0 X.x1 rfl rfl (by simp [Value.oneCell']) ?_))
  refine ret_good rfl rfl rfl rfl X.x1 HR.out rfl (by simp [Value.oneCell']) X.x2 (Nat.le_succ _) (k30_mkM _ _ _ _ (Kd.R_nil _ _ _ _ _) (Kd.R_nil _ _ _ _ _) (Kd.R_nil _ _ _ _ _) ?_ (Kd.R_nil _ _ _ _ _))
  exact Kd.R_lower (R_only R3 (setRow_only _ _ _) (fun k hk _ h => by have := HSZ.out; omega)) (by have := HSZ.out; omega)
end Go.Proofs.Ytjmadnpicidbeaa.Ch
end
section
namespace Go.Proofs.Ytjmadnpicidbeaa.Ch
open Go.RowKit Go.Proofs.YtjmadnpicidbeaaW.PrintWords Go.Proofs.YtjmadnpicidbeaaW.PrintLast Go.Proofs.Ytjmadnpicidbeaa.Base Go.Proofs.Ytjmadnpicidbeaa.PCh Go.Proofs.Ytjmadnpicidbeaa.ParDec
set_option maxRecDepth 100000
set_option linter.unusedVariables false
set_option linter.unusedSimpArgs false
theorem prmsD_err {v : List UInt8} {c : Int} (h : prmsD v = .error c) : c ≠ 0 := by
  unfold prmsD at h
  by_cases e : (decD v).2.2 = 0
  · rw [if_pos e] at h
    cases h
  · rw [if_neg e] at h
    injection h with h
    rw [← h]
    exact e
theorem listsD_err {nr : Bool} {v : List UInt8} {c : Int} (h : listsD nr v = .error c) : c ≠ 0 := by
  unfold listsD at h
  repeat' split at h
  all_goals first | cases h; done | (injection h with h; omega)
theorem readD_err {kd fl : Int} {v : List UInt8} {c : Int} (h : readD kd fl v = .error c) : c ≠ 0 := by
  unfold readD readData readInit readLists readPrms readShut readNone readBody at h
  repeat' split at h
  all_goals first | (cases h; done) | (injection h with h; omega) | (rename_i e; injection h with h; subst h; first | exact prmsD_err e | exact listsD_err e)
theorem rread_calls (w : World) (A : Option Addr) (c : Nat) (v : List UInt8) (kd fl : Int) (hk0 : 0 ≤ kd) (h0 : 0 ≤ fl) (h1 : fl < 256) (hb : byte.C w A v.length v) (hc : v.length ≤ c) (hv : v.length ≤ 140737488355232) :
    Calls Try.prog 29 #[.agg (freshV kd fl), .slice A v.length c] w (RReadP w (readD kd (flD kd fl) v)) := by
  unfold readD
  by_cases h : kd = 0
  · subst h; rw [if_pos rfl, flD_eight _ fl h0 h1 (by rfl)]; exact rread_data w A c v fl h0 hb hc hv
  rw [if_neg h]
  by_cases h' : kd = 1 ∨ kd = 2
  · rw [if_pos h', flD_zero _ fl h0 h1 (by rcases h' with rfl | rfl <;> rfl)]; exact rread_init w A c v kd fl h' hb hc hv
  rw [if_neg h']
  by_cases h3 : kd = 3
  · subst h3; rw [if_pos rfl, flD_zero _ fl h0 h1 (by rfl)]; exact rread_l3 w A c v fl hb hc hv
  rw [if_neg h3]
  by_cases h16 : kd = 16
  · subst h16; rw [if_pos rfl, flD_zero _ fl h0 h1 (by rfl)]; exact rread_l16 w A c v fl hb hc hv
  rw [if_neg h16]
  by_cases h4 : kd = 4 ∨ kd = 5
  · rw [if_pos h4, flD_zero _ fl h0 h1 (by rcases h4 with rfl | rfl <;> rfl)]
    rcases h4 with rfl | rfl
    · exact rread_p4 w A c v fl hb hc hv
    · exact rread_p5 w A c v fl hb hc hv
  rw [if_neg h4]
  by_cases h6 : kd = 6 ∨ kd = 9
  · rw [if_pos h6]
    rcases h6 with rfl | rfl
    · rw [flD_two _ fl h0 h1 (by rfl)]; exact rread_p6 w A c v fl hb hc hv h0
    · rw [flD_zero _ fl h0 h1 (by rfl)]; exact rread_p9 w A c v fl hb hc hv
  rw [if_neg h6]
  by_cases h7 : kd = 7
  · subst h7; rw [if_pos rfl, flD_zero _ fl h0 h1 (by rfl)]; exact rread_shut w A c v fl hb hc hv
  rw [if_neg h7]
  by_cases h8 : kd = 8 ∨ kd = 11 ∨ kd = 14
  · rw [if_pos h8]; exact rread_none w A c v kd fl h8 h0 h1 hb hc hv
  rw [if_neg h8]
  by_cases h10 : kd = 10
  · subst h10; rw [flD_zero _ fl h0 h1 (by rfl)]; exact rread_echo w A c v fl hb hc hv
  rw [flD_all _ fl h0 h1 (by unfold maskD; rw [if_neg h, if_neg (fun e => e.elim (fun e => h6 (Or.inl e)) (fun e => h8 (Or.inr (Or.inr e)))), if_neg (by omega)])]
  exact rread_body w A c v kd fl (by intro x hx; simp only [List.mem_cons, List.not_mem_nil, or_false] at hx; omega) hb hc hv
theorem chkE : ∀ q ∈ k30.E, q ≠ 30 := by decide
theorem M_setRow {w : World} {b0 g : Nat} {d : Chk} {cs : List Value} {old cs' : Array Value} (h : k30.M w b0 (fun _ => True) d cs) (hg : w.heap[g]? = some (.cells old 30 (0, 0))) : k30.M (w.setRow g cs') b0 (fun _ => True) d cs :=
  k30.M_mono (fun _ hk => hk.1) (k30.M_move (fun k hk => setRow_other _ _ _ _ (fun e => by
    obtain ⟨_, _, _, q, hq, cells, hc⟩ := hk
    rw [e, hg] at hc
    injection hc with hc
    injection hc with _ hc
    exact chkE q hq hc.symm)) (k30.M_bound h))
theorem ParR.alloc {b0 : Nat} {r : Except Int Chk} {cs : Array Value} {code : Int} {w : World} (h : ParR b0 r cs code w) (x : Obj) : ParR b0 r cs code (w.alloc x) := by
  obtain ⟨h1, h2, h3⟩ := h
  refine ⟨h1, h2, ?_⟩
  cases r with
  | error c => exact h3
  | ok d => exact ⟨h3.1, M_only h3.2 (Only.of_below (S := fun _ => False) (below_alloc (Below.refl _ _) x)) (fun _ _ _ h => h)⟩
theorem ParR.setRow {b0 g : Nat} {r : Except Int Chk} {cs old cs' : Array Value} {code : Int} {w : World} (h : ParR b0 r cs code w) (hg : w.heap[g]? = some (.cells old 30 (0, 0))) : ParR b0 r cs code (w.setRow g cs') := by
  obtain ⟨h1, h2, h3⟩ := h
  refine ⟨h1, h2, ?_⟩
  cases r with
  | error c => exact h3
  | ok d => exact ⟨h3.1, M_setRow h3.2 hg⟩
def rdecT6 : Bool × List (List Nat × List Nat) := (true, [([], []), ([0], [0]), ([1], [1]), ([], []), ([3], [3]), ([4], [4]), ([2, 5], [2, 5]), ([], []), ([], []), ([7, 8], [7, 8]), ([6, 9], [6, 9]), ([10], [10]), ([11], [11]), ([11], [11]), ([], []), ([14, 12, 10, 0, 1, 2, 3, 4, 5, 6, 7, 8, 9, 10, 11, 12, 14], [12, 14]), ([13, 15, 0, 1, 2, 3, 4, 5, 6, 7, 8, 9, 10, 11, 12, 13, 14, 15], [13])])
def rdecB6 : List Nat := [0, 1, 3, 0, 8, 24, 63, 0, 0, 384, 1023, 2047, 4095, 4095, 0, 24575, 65535]
theorem rdectab6 : Go.Proofs.YtjmadnpicidbeaaW.PrintLast.rtab .any (Go.Proofs.YtjmadnpicidbeaaW.PrintLast.opsOf Try.f11 6) = rdecT6 := by kernel_rfl
theorem rdecbits6 : Go.Proofs.YtjmadnpicidbeaaW.PrintLast.waitsOk rdecT6.2 rdecB6 = true := by kernel_rfl
theorem rdec_results (tmps : Array Value) (w : World) (a : Nat) (cs : Array Value) (v1 v2 : Value) (t0 : tmps.getD 2 undef = .pointer (some ⟨a, 0, none⟩)) (t1 : tmps.getD 3 undef = v1) (t2 : tmps.getD 4 undef = v2)
    (h0 : w.heap[a]? = some (.cells cs 30 (0, 0))) (hcs : cs.size = 15) : (results Try.f11 tmps).run Try.prog w = .ok (.tuple #[.agg cs, v1, v2]) w := by
  have hi : (Try.prog.info? 30).map (·.size) = some cs.size := by rw [hcs]; kernel_rfl
  have hl := run_loadVar_row w a 30 30 cs (0, 0) _ h0 Try.underlying30 rfl hi
  rw [Array.getD_eq_getD_getElem?] at t0 t1 t2
  simp [results, Try.results11, asAddr, t0, t1, t2, hl]
set_option maxHeartbeats 4000000 in
theorem rdec_calls (w : World) (A : Option Addr) (bs : List UInt8) (c : Nat) (hb : byte.C w A bs.length bs) (hc : bs.length ≤ c) (hv : bs.length ≤ 140737488355232) :
    Calls Try.prog 11 #[.slice A bs.length c] w (DecCP bs w) := by
  unfold DecCP
  have HBC := Lib.hid (fun (W : World) (h : Below w.heap.size w W) => Kd.C_below hb h)
  have X := (show (w.alloc (.cells zerV 30)).heap[w.heap.size]? = some (.cells zerV 30 (0, 0)) ∧ Below w.heap.size w (w.alloc (.cells zerV 30)) from ⟨blk_new _ _, below_alloc (Below.refl _ _) _⟩)
  go_enter Try.func11, Try.ntmps11
  go_upto_region 1 with (fail)
  refine wp_gen (fun W => W.heap[w.heap.size]? = some (.cells zerV 30 (0, 0)) ∧ Below w.heap.size w W) X ?_
  clear X
  intro W X
  by_cases h4 : bs.length < 4
  · have HR := Lib.hid (show decC bs = (chk0 0 0, 0, 60) by unfold decC; rw [if_pos h4])
    clear hb
    go_wp2_with (with_reducible refine gate_store (p := 2) rfl ?_; go_must (refine wpList_store_row rfl 30 (.tmp 2) (.tmp 11) rfl _ zerV rfl rfl 30 zerV X.1 (by kernel_rfl) rfl (by simp [Value.oneCell']) ?_))
    exact bodyPost_ret (rdec_results _ _ _ zerV _ _ rfl rfl rfl (setRow_heap _ _ _ _ _ _ X.1) rfl) rfl ⟨zerV, by rw [HR.out]; try rfl, by rw [HR.out]; exact mnil _ _ _ _, below_setRow X.2 (Nat.le_refl _) _⟩
  have hcl := Lib.hid (show ∀ W, Below w.heap.size w W → byte.C W A bs.length bs from HBC.out)
  go_wp2_with fail
  refine (get_calls W A bs c (HBC.out W X.2) hc (by omega) 2 2 _ _ rfl rfl (by decide) (by omega)).mono ?_
  rintro e w1 ⟨rfl, ⟨m0, rfl⟩⟩
  have hbe := be_two_lt (bs.drop 2)
  have HDC := Lib.hid (show decC bs = _ from by unfold decC; rw [if_neg h4])
  clear hcl hb
  obtain ⟨n, hn⟩ : ∃ n, be ((bs.drop 2).take 2) = n := ⟨_, rfl⟩
  rw [hn] at HDC hbe ⊢
  replace X := (show (W.drewN m0).heap[w.heap.size]? = some (.cells zerV 30 (0, 0)) ∧ Below w.heap.size w (W.drewN m0) from ⟨blk_drewN X.1 m0, pw_below_drewN X.2 m0⟩)
  generalize W.drewN m0 = W at *
  clear hn
  by_cases hsz : n < 4 ∨ bs.length < n
  · have HR := Lib.hid (show decC bs = (chk0 0 0, 0, 60) by rw [HDC.out, if_pos hsz])
    clear HDC
    go_wp2_with (with_reducible refine gate_store (p := 2) rfl ?_; go_must (refine wpList_store_row rfl 30 (.tmp 2) (.tmp 23) rfl _ zerV rfl rfl 30 zerV X.1 (by kernel_rfl) rfl (by simp [Value.oneCell']) ?_))
    all_goals first | (exfalso; omega) | (exact bodyPost_ret (rdec_results _ _ _ zerV _ _ rfl rfl rfl (setRow_heap _ _ _ _ _ _ X.1) rfl) rfl ⟨zerV, by rw [HR.out]; try rfl, by rw [HR.out]; exact mnil _ _ _ _, below_setRow X.2 (Nat.le_refl _) _⟩)
  rw [if_neg hsz] at HDC
  have p1 : decide ((n : Int) < 4) = false := by simp; omega
  have p2 : decide ((bs.length : Int) < (n : Int)) = false := by simp; omega
  have hn4 : 4 ≤ n := by omega
  have hnl : n ≤ bs.length := by omega
  clear hsz
  have hC := HBC.out W X.2
  obtain ⟨A9, hsl, hdC, hdl⟩ := mid_bytes hC hc 4 n hn4 hnl
  replace hsl : ∀ W : World, (Instr.slice 22 (.slice A bs.length c) (some (.int .i64 4)) (some (.int .i64 (n : Int))) none).run Try.prog W = .ok (.slice A9 ((bs.take n).drop 4).length (c - 4)) W := hsl
  obtain ⟨ad, e1, c0⟩ := byte_at hC 0 (by omega)
  obtain ⟨ad', e2, c1⟩ := byte_at hC 1 (by omega)
  subst e1
  cases e2
  rw [show ad.add 1 = ad.add (0 + 1) from rfl, add_field _ _ 1 (by omega)] at c1
  replace c1 : W.cell? ⟨ad.block, ad.off + 1, none⟩ = some (.int .u8 ((bs.getD 1 0).toNat : Int)) := c1
  replace c0 : W.cell? ad = some (.int .u8 ((bs.getD 0 0).toNat : Int)) := c0
  have hz : ((bs.take n).drop 4).length ≤ 140737488355232 := by rw [List.length_drop, List.length_take]; omega
  obtain ⟨kd, hkd⟩ : ∃ kd : Int, ((bs.getD 0 0).toNat : Int) = kd := ⟨_, rfl⟩
  obtain ⟨fl, hfl⟩ : ∃ fl : Int, ((bs.getD 1 0).toNat : Int) = fl := ⟨_, rfl⟩
  have hk0 : 0 ≤ kd := by omega
  have hf0 : 0 ≤ fl := by omega
  have hf1 : fl < 256 := by rw [← hfl]; have := (bs.getD 1 0).toNat_lt; omega
  rw [hkd] at HDC c0
  rw [hfl] at HDC c1
  have C0 := Lib.hid c0
  have C1 := Lib.hid c1
  have HP := Lib.hid (fun (W' : World) (h : Below W.heap.size W W') => rread_calls W' A9 (c - 4) ((bs.take n).drop 4) kd fl hk0 hf0 hf1 (Kd.C_below hdC h) hdl hz)
  have hin1 : (0 : Int) < (bs.length : Int) := by omega
  have hin2 : ¬ (bs.length : Int) ≤ 0 := by omega
  have hin3 : ¬ (bs.length : Int) ≤ 1 := by omega
  have hin4 : (1 : Int) < (bs.length : Int) := by omega
  have hin5 : ¬ bs = [] := fun e => by rw [e] at hin1; simp at hin1
  clear hC hdC hdl c0 c1 hz hkd hfl hk0 hf0 hf1 HBC
  generalize ((bs.take n).drop 4).length = zl at *
  generalize c - 4 = zc at *
  generalize (bs.take n).drop 4 = v at *
  have hmin : (4 : Int) ≤ (n : Int) := by omega
  go_upto_region 6 with (fail)
  have B := True.intro
  refine start_ (n := 17) (S := fun w' => True) (ds := []) #[false, false, false, false, false, false, false, false, false, false, false, false, false, false, false, false, false] (by kernel_rfl) rfl rfl trivial (fun hHeld => ?_)
  refine with_tabW rdectab6 rdecbits6 (fun HT_ HW_ => ?_)
  refine pure_ (i := 0) (N := some 25) (v := ?_) (a' := ?_) #[true, false, false, false, false, false, false, false, false, false, false, false, false, false, false, false, false] rfl rfl (any_of HT_.out (by kernel_rfl)) (fun _ _ _ h => h) (Or.inl ⟨by rfl, ?_⟩) ?_ ?_
  rotate_left
  · intro w'
    go_simp
    with_reducible rfl
  rotate_left
  · simp only [Act.put, List.setIfInBounds_toArray, List.set_cons_zero, List.set_cons_succ, i64_w, i32_w]
    rfl
  refine pure_ (i := 3) (N := some 28) (v := ?_) (a' := ?_) #[true, false, false, true, false, false, false, false, false, false, false, false, false, false, false, false, false] rfl rfl (any_of HT_.out (by kernel_rfl)) (fun _ _ _ h => h) (Or.inl ⟨by rfl, ?_⟩) ?_ ?_
  rotate_left
  · intro w'
    go_simp
    with_reducible rfl
  rotate_left
  · simp only [Act.put, List.setIfInBounds_toArray, List.set_cons_zero, List.set_cons_succ, i64_w, i32_w]
    rfl
  refine pure_ (i := 7) (N := some 32) (v := ?_) (a' := ?_) #[true, false, false, true, false, false, false, true, false, false, false, false, false, false, false, false, false] rfl rfl (any_of HT_.out (by kernel_rfl)) (fun _ _ _ h => h) (Or.inl ⟨by rfl, ?_⟩) ?_ ?_
  rotate_left
  · intro w'
    go_simp
    with_reducible rfl
  rotate_left
  · simp only [Act.put, List.setIfInBounds_toArray, List.set_cons_zero, List.set_cons_succ, i64_w, i32_w]
    rfl
  refine pure_ (i := 8) (N := some 33) (v := ?_) (a' := ?_) #[true, false, false, true, false, false, false, true, true, false, false, false, false, false, false, false, false] rfl rfl (any_of HT_.out (by kernel_rfl)) (fun _ _ _ h => h) (Or.inl ⟨by rfl, ?_⟩) ?_ ?_
  rotate_left
  · intro w'
    go_simp
    with_reducible rfl
  rotate_left
  · simp only [Act.put, List.setIfInBounds_toArray, List.set_cons_zero, List.set_cons_succ, i64_w, i32_w]
    rfl
  refine inv_at [1, 2, 4, 5, 6, 9, 10, 11, 12, 13, 14, 15, 16] (fun a0_ b a w' => ∃ (cs : Array Value) (code : Int) (g6 : Nat) (m10_ : Value) (m11_ : Value) (m12_ : Value) (m13_ : Value) (m14_ : Value) (m16_ : Value), a = putSel a0_ b [(1, 26, .pointer (some ad)), (2, 27, .int .u8 kd), (4, 29, .pointer (some ⟨ad.block, ad.off + 1, none⟩)), (5, 30, .int .u8 fl), (6, 31, .agg (#[.int .u8 (kd), .int .u8 (fl), .int .u32 0, .int .u16 0, .int .u16 0, .int .u32 0, .int .u32 0, .int .u32 0, .int .u16 0, .int .u16 0, .slice none 0 0, .slice none 0 0, .slice none 0 0, .slice none 0 0, .slice none 0 0])), (9, 34, .slice A9 zl zc), (10, 35, m10_), (11, 24, m11_), (12, 36, m12_), (13, 37, m13_), (14, 6, m14_), (16, 7, m16_)] ∧ (Below W.heap.size W w') ∧ (b 10 = true → ParR W.heap.size (readD kd (flD kd fl) v) cs code w') ∧ (b 14 = true → b 15 = false → w'.heap[g6]? = some (.cells (#[.int .u8 0, .int .u8 0, .int .u32 0, .int .u16 0, .int .u16 0, .int .u32 0, .int .u32 0, .int .u32 0, .int .u16 0, .int .u16 0, .slice none 0 0, .slice none 0 0, .slice none 0 0, .slice none 0 0, .slice none 0 0]) 30 (0, 0)) ∧ W.heap.size ≤ g6) ∧ (b 15 = true → w'.heap[g6]? = some (.cells cs 30 (0, 0)) ∧ W.heap.size ≤ g6) ∧ (b 10 = true → (m10_ : Value) = .tuple #[.agg cs, .int .i64 code]) ∧ (b 11 = true → (m11_ : Value) = .tuple #[.agg cs, .int .i64 code]) ∧ (b 12 = true → (m12_ : Value) = .agg cs) ∧ (b 13 = true → (m13_ : Value) = .int .i64 code) ∧ (b 14 = true → (m14_ : Value) = .pointer (some ⟨g6, 0, none⟩)) ∧ (b 16 = true → (m16_ : Value) = .int .i64 code)) HT_.out HW_.out (by kernel_rfl) (by kernel_rfl) ?_ ?_ ?_
  · exact ⟨#[], 0, 0, .bool false, .bool false, .bool false, .bool false, .bool false, .bool false, by simp only [putSel, Bool.false_eq_true, if_false], below_drew (Below.refl _ _), fun h_ => absurd h_ (by decide), fun h_ => absurd h_ (by decide), fun h_ => absurd h_ (by decide), fun h_ => absurd h_ (by decide), fun h_ => absurd h_ (by decide), fun h_ => absurd h_ (by decide), fun h_ => absurd h_ (by decide), fun h_ => absurd h_ (by decide), fun h_ => absurd h_ (by decide)⟩
  · skip
    clear B
    refine steps_cons ?_ ?_
    · rintro b a w' ⟨cs, code, g6, m10_, m11_, m12_, m13_, m14_, m16_, ha, Q_B, Q_P, Q_Z, Q_Z2, Q_X10_, Q_X11_, Q_X12_, Q_X13_, Q_X14_, Q_X16_⟩ hb_ hon hoff
      refine ⟨_, rfl, fun K hK => ?_⟩
      have e25 : a.tmps[25]? = some (.slice (some ad) bs.length c) := by rw [ha]; exact (putSel_off rfl).trans rfl
      replace ha := Aside0.mk ha
      have B := Aside0.mk Q_B
      refine value_ (w1 := w') (v := .pointer (some ad)) (by rfl) rfl ?_ ?_
      · go_simp
        (try simp only [i64_w])
        try rfl
      refine hK.out _ _ ⟨cs, code, g6, m10_, m11_, m12_, m13_, m14_, m16_, (by rw [ha.out]; exact putSel_upk 0 hb_ rfl rfl rfl), Q_B, fun h0_ => absurd ((hoff 10 (by kernel_rfl)).symm.trans h0_) (by decide), Q_Z, fun h0_ => absurd ((hoff 15 (by kernel_rfl)).symm.trans h0_) (by decide), fun h0_ => absurd ((hoff 10 (by kernel_rfl)).symm.trans h0_) (by decide), fun h0_ => absurd ((hoff 11 (by kernel_rfl)).symm.trans h0_) (by decide), fun h0_ => absurd ((hoff 12 (by kernel_rfl)).symm.trans h0_) (by decide), fun h0_ => absurd ((hoff 13 (by kernel_rfl)).symm.trans h0_) (by decide), Q_X14_, fun h0_ => absurd ((hoff 16 (by kernel_rfl)).symm.trans h0_) (by decide)⟩
    refine steps_cons ?_ ?_
    · rintro b a w' ⟨cs, code, g6, m10_, m11_, m12_, m13_, m14_, m16_, ha, Q_B, Q_P, Q_Z, Q_Z2, Q_X10_, Q_X11_, Q_X12_, Q_X13_, Q_X14_, Q_X16_⟩ hb_ hon hoff
      refine ⟨_, rfl, fun K hK => ?_⟩
      have e26 : a.tmps[26]? = some (.pointer (some ad)) := by rw [ha]; exact putSel_on (e := (1, 26, .pointer (some ad))) 0 rfl rfl (hon 1 (by kernel_rfl)) rfl
      replace ha := Aside0.mk ha
      have B := Aside0.mk Q_B
      have hs := pw_cell_below B.out C0.out
      refine value_ (w1 := w') (v := .int .u8 kd) (by rfl) rfl ?_ ?_
      · go_simp
        (try simp only [i64_w])
        try rfl
      refine hK.out _ _ ⟨cs, code, g6, m10_, m11_, m12_, m13_, m14_, m16_, (by rw [ha.out]; exact putSel_upk 1 hb_ rfl rfl rfl), Q_B, fun h0_ => absurd ((hoff 10 (by kernel_rfl)).symm.trans h0_) (by decide), Q_Z, fun h0_ => absurd ((hoff 15 (by kernel_rfl)).symm.trans h0_) (by decide), fun h0_ => absurd ((hoff 10 (by kernel_rfl)).symm.trans h0_) (by decide), fun h0_ => absurd ((hoff 11 (by kernel_rfl)).symm.trans h0_) (by decide), fun h0_ => absurd ((hoff 12 (by kernel_rfl)).symm.trans h0_) (by decide), fun h0_ => absurd ((hoff 13 (by kernel_rfl)).symm.trans h0_) (by decide), Q_X14_, fun h0_ => absurd ((hoff 16 (by kernel_rfl)).symm.trans h0_) (by decide)⟩
    refine steps_cons ?_ ?_
    · rintro b a w' ⟨cs, code, g6, m10_, m11_, m12_, m13_, m14_, m16_, ha, Q_B, Q_P, Q_Z, Q_Z2, Q_X10_, Q_X11_, Q_X12_, Q_X13_, Q_X14_, Q_X16_⟩ hb_ hon hoff
      refine ⟨_, rfl, fun K hK => ?_⟩
      have e28 : a.tmps[28]? = some (.slice (some ad) bs.length c) := by rw [ha]; exact (putSel_off rfl).trans rfl
      replace ha := Aside0.mk ha
      have B := Aside0.mk Q_B
      refine value_ (w1 := w') (v := .pointer (some ⟨ad.block, ad.off + 1, none⟩)) (by rfl) rfl ?_ ?_
      · go_simp
        (try simp only [i64_w])
        try rfl
      refine hK.out _ _ ⟨cs, code, g6, m10_, m11_, m12_, m13_, m14_, m16_, (by rw [ha.out]; exact putSel_upk 2 hb_ rfl rfl rfl), Q_B, fun h0_ => absurd ((hoff 10 (by kernel_rfl)).symm.trans h0_) (by decide), Q_Z, fun h0_ => absurd ((hoff 15 (by kernel_rfl)).symm.trans h0_) (by decide), fun h0_ => absurd ((hoff 10 (by kernel_rfl)).symm.trans h0_) (by decide), fun h0_ => absurd ((hoff 11 (by kernel_rfl)).symm.trans h0_) (by decide), fun h0_ => absurd ((hoff 12 (by kernel_rfl)).symm.trans h0_) (by decide), fun h0_ => absurd ((hoff 13 (by kernel_rfl)).symm.trans h0_) (by decide), Q_X14_, fun h0_ => absurd ((hoff 16 (by kernel_rfl)).symm.trans h0_) (by decide)⟩
    refine steps_cons ?_ ?_
    · rintro b a w' ⟨cs, code, g6, m10_, m11_, m12_, m13_, m14_, m16_, ha, Q_B, Q_P, Q_Z, Q_Z2, Q_X10_, Q_X11_, Q_X12_, Q_X13_, Q_X14_, Q_X16_⟩ hb_ hon hoff
      refine ⟨_, rfl, fun K hK => ?_⟩
      have e29 : a.tmps[29]? = some (.pointer (some ⟨ad.block, ad.off + 1, none⟩)) := by rw [ha]; exact putSel_on (e := (4, 29, .pointer (some ⟨ad.block, ad.off + 1, none⟩))) 2 rfl rfl (hon 4 (by kernel_rfl)) rfl
      replace ha := Aside0.mk ha
      have B := Aside0.mk Q_B
      have hs := pw_cell_below B.out C1.out
      refine value_ (w1 := w') (v := .int .u8 fl) (by rfl) rfl ?_ ?_
      · go_simp
        (try simp only [i64_w])
        try rfl
      refine hK.out _ _ ⟨cs, code, g6, m10_, m11_, m12_, m13_, m14_, m16_, (by rw [ha.out]; exact putSel_upk 3 hb_ rfl rfl rfl), Q_B, fun h0_ => absurd ((hoff 10 (by kernel_rfl)).symm.trans h0_) (by decide), Q_Z, fun h0_ => absurd ((hoff 15 (by kernel_rfl)).symm.trans h0_) (by decide), fun h0_ => absurd ((hoff 10 (by kernel_rfl)).symm.trans h0_) (by decide), fun h0_ => absurd ((hoff 11 (by kernel_rfl)).symm.trans h0_) (by decide), fun h0_ => absurd ((hoff 12 (by kernel_rfl)).symm.trans h0_) (by decide), fun h0_ => absurd ((hoff 13 (by kernel_rfl)).symm.trans h0_) (by decide), Q_X14_, fun h0_ => absurd ((hoff 16 (by kernel_rfl)).symm.trans h0_) (by decide)⟩
    refine steps_cons ?_ ?_
    · rintro b a w' ⟨cs, code, g6, m10_, m11_, m12_, m13_, m14_, m16_, ha, Q_B, Q_P, Q_Z, Q_Z2, Q_X10_, Q_X11_, Q_X12_, Q_X13_, Q_X14_, Q_X16_⟩ hb_ hon hoff
      refine ⟨_, rfl, fun K hK => ?_⟩
      have e27 : a.tmps[27]? = some (.int .u8 kd) := by rw [ha]; exact putSel_on (e := (2, 27, .int .u8 kd)) 1 rfl rfl (hon 2 (by kernel_rfl)) rfl
      have e30 : a.tmps[30]? = some (.int .u8 fl) := by rw [ha]; exact putSel_on (e := (5, 30, .int .u8 fl)) 3 rfl rfl (hon 5 (by kernel_rfl)) rfl
      replace ha := Aside0.mk ha
      have B := Aside0.mk Q_B
      refine value_ (w1 := w') (v := .agg (#[.int .u8 (kd), .int .u8 (fl), .int .u32 0, .int .u16 0, .int .u16 0, .int .u32 0, .int .u32 0, .int .u32 0, .int .u16 0, .int .u16 0, .slice none 0 0, .slice none 0 0, .slice none 0 0, .slice none 0 0, .slice none 0 0])) (by rfl) rfl ?_ ?_
      · go_simp
        (try simp only [i64_w])
        try rfl
      refine hK.out _ _ ⟨cs, code, g6, m10_, m11_, m12_, m13_, m14_, m16_, (by rw [ha.out]; exact putSel_upk 4 hb_ rfl rfl rfl), Q_B, fun h0_ => absurd ((hoff 10 (by kernel_rfl)).symm.trans h0_) (by decide), Q_Z, fun h0_ => absurd ((hoff 15 (by kernel_rfl)).symm.trans h0_) (by decide), fun h0_ => absurd ((hoff 10 (by kernel_rfl)).symm.trans h0_) (by decide), fun h0_ => absurd ((hoff 11 (by kernel_rfl)).symm.trans h0_) (by decide), fun h0_ => absurd ((hoff 12 (by kernel_rfl)).symm.trans h0_) (by decide), fun h0_ => absurd ((hoff 13 (by kernel_rfl)).symm.trans h0_) (by decide), Q_X14_, fun h0_ => absurd ((hoff 16 (by kernel_rfl)).symm.trans h0_) (by decide)⟩
    refine steps_cons ?_ ?_
    · rintro b a w' ⟨cs, code, g6, m10_, m11_, m12_, m13_, m14_, m16_, ha, Q_B, Q_P, Q_Z, Q_Z2, Q_X10_, Q_X11_, Q_X12_, Q_X13_, Q_X14_, Q_X16_⟩ hb_ hon hoff
      refine ⟨_, rfl, fun K hK => ?_⟩
      have e32 : a.tmps[32]? = some (.slice (some ad) bs.length c) := by rw [ha]; exact (putSel_off rfl).trans rfl
      have e33 : a.tmps[33]? = some (.int .i64 (n : Int)) := by rw [ha]; exact (putSel_off rfl).trans rfl
      replace ha := Aside0.mk ha
      have B := Aside0.mk Q_B
      refine value_ (w1 := w') (v := .slice A9 zl zc) (by rfl) rfl ?_ ?_
      · go_simp
        (try simp only [i64_w])
        try rfl
      refine hK.out _ _ ⟨cs, code, g6, m10_, m11_, m12_, m13_, m14_, m16_, (by rw [ha.out]; exact putSel_upk 5 hb_ rfl rfl rfl), Q_B, fun h0_ => absurd ((hoff 10 (by kernel_rfl)).symm.trans h0_) (by decide), Q_Z, fun h0_ => absurd ((hoff 15 (by kernel_rfl)).symm.trans h0_) (by decide), fun h0_ => absurd ((hoff 10 (by kernel_rfl)).symm.trans h0_) (by decide), fun h0_ => absurd ((hoff 11 (by kernel_rfl)).symm.trans h0_) (by decide), fun h0_ => absurd ((hoff 12 (by kernel_rfl)).symm.trans h0_) (by decide), fun h0_ => absurd ((hoff 13 (by kernel_rfl)).symm.trans h0_) (by decide), Q_X14_, fun h0_ => absurd ((hoff 16 (by kernel_rfl)).symm.trans h0_) (by decide)⟩
    refine steps_cons ?_ ?_
    · rintro b a w' ⟨cs, code, g6, m10_, m11_, m12_, m13_, m14_, m16_, ha, Q_B, Q_P, Q_Z, Q_Z2, Q_X10_, Q_X11_, Q_X12_, Q_X13_, Q_X14_, Q_X16_⟩ hb_ hon hoff
      refine ⟨_, rfl, fun K hK => ?_⟩
      have e31 : a.tmps[31]? = some (.agg (#[.int .u8 (kd), .int .u8 (fl), .int .u32 0, .int .u16 0, .int .u16 0, .int .u32 0, .int .u32 0, .int .u32 0, .int .u16 0, .int .u16 0, .slice none 0 0, .slice none 0 0, .slice none 0 0, .slice none 0 0, .slice none 0 0])) := by rw [ha]; exact putSel_on (e := (6, 31, .agg (#[.int .u8 (kd), .int .u8 (fl), .int .u32 0, .int .u16 0, .int .u16 0, .int .u32 0, .int .u32 0, .int .u32 0, .int .u16 0, .int .u16 0, .slice none 0 0, .slice none 0 0, .slice none 0 0, .slice none 0 0, .slice none 0 0]))) 4 rfl rfl (hon 6 (by kernel_rfl)) rfl
      have e34 : a.tmps[34]? = some (.slice A9 zl zc) := by rw [ha]; exact putSel_on (e := (9, 34, .slice A9 zl zc)) 5 rfl rfl (hon 9 (by kernel_rfl)) rfl
      replace ha := Aside0.mk ha
      have B := Aside0.mk Q_B
      refine goes_ Try.func29 (by kernel_rfl) rfl #[.agg (#[.int .u8 (kd), .int .u8 (fl), .int .u32 0, .int .u16 0, .int .u16 0, .int .u32 0, .int .u32 0, .int .u32 0, .int .u16 0, .int .u16 0, .slice none 0 0, .slice none 0 0, .slice none 0 0, .slice none 0 0, .slice none 0 0]), .slice A9 zl zc] (by rfl) rfl rfl (by first | (simp only [List.map_toArray, List.map_cons, List.map_nil, Act.eval, Array.getD_eq_getD_getElem?, Option.getD_some, e31, e34]; done) | (simp only [List.map_toArray, List.map_cons, List.map_nil, Act.eval, Array.getD_eq_getD_getElem?, Option.getD_some, e31, e34]; rfl)) ?_
      refine (HP.out w' B.out).mono ?_
      rintro e w1 ⟨cs1, code1, rfl, hsz1, hone1, hB1, hP1⟩
      refine ⟨_, rfl, ?_⟩
      refine hK.out _ _ ⟨cs1, code1, g6, (.tuple #[.agg cs1, .int .i64 code1]), m11_, m12_, m13_, m14_, m16_, (by rw [ha.out]; exact putSel_upk 6 hb_ rfl rfl rfl), below_then B.out B.out.size hB1, fun _ => ParR.of hsz1 hone1 B.out.size hP1, fun h0_ h1_ => ⟨blk_below (Q_Z h0_ h1_).1 hB1, (Q_Z h0_ h1_).2⟩, fun h0_ => absurd ((hoff 15 (by kernel_rfl)).symm.trans h0_) (by decide), fun _ => rfl, fun h0_ => absurd ((hoff 11 (by kernel_rfl)).symm.trans h0_) (by decide), fun h0_ => absurd ((hoff 12 (by kernel_rfl)).symm.trans h0_) (by decide), fun h0_ => absurd ((hoff 13 (by kernel_rfl)).symm.trans h0_) (by decide), Q_X14_, fun h0_ => absurd ((hoff 16 (by kernel_rfl)).symm.trans h0_) (by decide)⟩
    refine steps_cons ?_ ?_
    · rintro b a w' ⟨cs, code, g6, m10_, m11_, m12_, m13_, m14_, m16_, ha, Q_B, Q_P, Q_Z, Q_Z2, Q_X10_, Q_X11_, Q_X12_, Q_X13_, Q_X14_, Q_X16_⟩ hb_ hon hoff
      refine ⟨_, rfl, fun K hK => ?_⟩
      have e35 : a.tmps[35]? = some (m10_) := by rw [ha]; exact putSel_on (e := (10, 35, m10_)) 6 rfl rfl (hon 10 (by kernel_rfl)) rfl
      rw [Q_X10_ (hon 10 (by kernel_rfl))] at e35
      replace ha := Aside0.mk ha
      have B := Aside0.mk Q_B
      have P := Aside0.mk (Q_P (hon 10 (by kernel_rfl)))
      refine value_ (w1 := w') (v := .tuple #[.agg cs, .int .i64 code]) (by rfl) rfl ?_ ?_
      · go_simp
        (try simp only [i64_w])
        try rfl
      refine hK.out _ _ ⟨cs, code, g6, m10_, (.tuple #[.agg cs, .int .i64 code]), m12_, m13_, m14_, m16_, (by rw [ha.out]; exact putSel_upk 7 hb_ rfl rfl rfl), Q_B, Q_P, Q_Z, fun h0_ => absurd ((hoff 15 (by kernel_rfl)).symm.trans h0_) (by decide), Q_X10_, fun _ => rfl, fun h0_ => absurd ((hoff 12 (by kernel_rfl)).symm.trans h0_) (by decide), fun h0_ => absurd ((hoff 13 (by kernel_rfl)).symm.trans h0_) (by decide), Q_X14_, fun h0_ => absurd ((hoff 16 (by kernel_rfl)).symm.trans h0_) (by decide)⟩
    refine steps_cons ?_ ?_
    · rintro b a w' ⟨cs, code, g6, m10_, m11_, m12_, m13_, m14_, m16_, ha, Q_B, Q_P, Q_Z, Q_Z2, Q_X10_, Q_X11_, Q_X12_, Q_X13_, Q_X14_, Q_X16_⟩ hb_ hon hoff
      refine ⟨_, rfl, fun K hK => ?_⟩
      have e24 : a.tmps[24]? = some (m11_) := by rw [ha]; exact putSel_on (e := (11, 24, m11_)) 7 rfl rfl (hon 11 (by kernel_rfl)) rfl
      rw [Q_X11_ (hon 11 (by kernel_rfl))] at e24
      replace ha := Aside0.mk ha
      have B := Aside0.mk Q_B
      have P := Aside0.mk (Q_P (hon 10 (by kernel_rfl)))
      refine value_ (w1 := w') (v := .agg cs) (by rfl) rfl ?_ ?_
      · go_simp
        (try simp only [i64_w])
        try rfl
      refine hK.out _ _ ⟨cs, code, g6, m10_, m11_, (.agg cs), m13_, m14_, m16_, (by rw [ha.out]; exact putSel_upk 8 hb_ rfl rfl rfl), Q_B, Q_P, Q_Z, fun h0_ => absurd ((hoff 15 (by kernel_rfl)).symm.trans h0_) (by decide), Q_X10_, Q_X11_, fun _ => rfl, Q_X13_, Q_X14_, fun h0_ => absurd ((hoff 16 (by kernel_rfl)).symm.trans h0_) (by decide)⟩
    refine steps_cons ?_ ?_
    · rintro b a w' ⟨cs, code, g6, m10_, m11_, m12_, m13_, m14_, m16_, ha, Q_B, Q_P, Q_Z, Q_Z2, Q_X10_, Q_X11_, Q_X12_, Q_X13_, Q_X14_, Q_X16_⟩ hb_ hon hoff
      refine ⟨_, rfl, fun K hK => ?_⟩
      have e24 : a.tmps[24]? = some (m11_) := by rw [ha]; exact putSel_on (e := (11, 24, m11_)) 7 rfl rfl (hon 11 (by kernel_rfl)) rfl
      rw [Q_X11_ (hon 11 (by kernel_rfl))] at e24
      replace ha := Aside0.mk ha
      have B := Aside0.mk Q_B
      have P := Aside0.mk (Q_P (hon 10 (by kernel_rfl)))
      refine value_ (w1 := w') (v := .int .i64 code) (by rfl) rfl ?_ ?_
      · go_simp
        (try simp only [i64_w])
        try rfl
      refine hK.out _ _ ⟨cs, code, g6, m10_, m11_, m12_, (.int .i64 code), m14_, m16_, (by rw [ha.out]; exact putSel_upk 9 hb_ rfl rfl rfl), Q_B, Q_P, Q_Z, Q_Z2, Q_X10_, Q_X11_, Q_X12_, fun _ => rfl, Q_X14_, fun h0_ => absurd ((hoff 16 (by kernel_rfl)).symm.trans h0_) (by decide)⟩
    refine steps_cons ?_ ?_
    · rintro b a w' ⟨cs, code, g6, m10_, m11_, m12_, m13_, m14_, m16_, ha, Q_B, Q_P, Q_Z, Q_Z2, Q_X10_, Q_X11_, Q_X12_, Q_X13_, Q_X14_, Q_X16_⟩ hb_ hon hoff
      refine ⟨_, rfl, fun K hK => ?_⟩
      replace ha := Aside0.mk ha
      have B := Aside0.mk Q_B
      refine value_ (w1 := w'.alloc (.cells (#[.int .u8 0, .int .u8 0, .int .u32 0, .int .u16 0, .int .u16 0, .int .u32 0, .int .u32 0, .int .u32 0, .int .u16 0, .int .u16 0, .slice none 0 0, .slice none 0 0, .slice none 0 0, .slice none 0 0, .slice none 0 0]) 30)) (v := .pointer (some ⟨w'.heap.size, 0, none⟩)) (by rfl) rfl (by go_simp; try rfl) ?_
      refine hK.out _ _ ⟨cs, code, w'.heap.size, m10_, m11_, m12_, m13_, (.pointer (some ⟨w'.heap.size, 0, none⟩)), m16_, (by rw [ha.out]; exact putSel_upk 10 hb_ rfl rfl rfl), B.out.alloc B.out.size _, fun h0_ => ParR.alloc (Q_P h0_) _, fun _ _ => ⟨blk_new _ _, B.out.size⟩, fun h0_ => absurd ((hoff 15 (by kernel_rfl)).symm.trans h0_) (by decide), Q_X10_, Q_X11_, Q_X12_, Q_X13_, fun _ => rfl, fun h0_ => absurd ((hoff 16 (by kernel_rfl)).symm.trans h0_) (by decide)⟩
    refine steps_cons ?_ ?_
    · rintro b a w' ⟨cs, code, g6, m10_, m11_, m12_, m13_, m14_, m16_, ha, Q_B, Q_P, Q_Z, Q_Z2, Q_X10_, Q_X11_, Q_X12_, Q_X13_, Q_X14_, Q_X16_⟩ hb_ hon hoff
      refine ⟨_, rfl, fun K hK => ?_⟩
      have e6 : a.tmps[6]? = some (m14_) := by rw [ha]; exact putSel_on (e := (14, 6, m14_)) 10 rfl rfl (hon 14 (by kernel_rfl)) rfl
      rw [Q_X14_ (hon 14 (by kernel_rfl))] at e6
      have e36 : a.tmps[36]? = some (m12_) := by rw [ha]; exact putSel_on (e := (12, 36, m12_)) 8 rfl rfl (hon 12 (by kernel_rfl)) rfl
      rw [Q_X12_ (hon 12 (by kernel_rfl))] at e36
      replace ha := Aside0.mk ha
      have B := Aside0.mk Q_B
      have P := Aside0.mk (Q_P (hon 10 (by kernel_rfl)))
      have Z := Aside0.mk (Q_Z (hon 14 (by kernel_rfl)) hb_)
      refine skip_ (w1 := w'.setRow g6 cs) (by rfl) rfl (exec_store_row 30 (.tmp 6) (.tmp 36) rfl (eval_of e6) (eval_of e36) Z.out.1 (by rw [P.out.1]; kernel_rfl) (by rw [P.out.1]; rfl) P.out.2.1) ?_
      refine hK.out _ _ ⟨cs, code, g6, m10_, m11_, m12_, m13_, m14_, m16_, (by rw [ha.out]; exact putSel_none (v := undef) rfl), below_setRow B.out Z.out.2 _, fun _ => ParR.setRow P.out Z.out.1, fun _ h1_ => absurd ((up_self b 15).symm.trans h1_) (by decide), fun _ => ⟨setRow_heap _ _ _ _ _ _ Z.out.1, Z.out.2⟩, Q_X10_, Q_X11_, Q_X12_, Q_X13_, Q_X14_, fun h0_ => absurd ((hoff 16 (by kernel_rfl)).symm.trans h0_) (by decide)⟩
    refine steps_cons ?_ ?_
    · rintro b a w' ⟨cs, code, g6, m10_, m11_, m12_, m13_, m14_, m16_, ha, Q_B, Q_P, Q_Z, Q_Z2, Q_X10_, Q_X11_, Q_X12_, Q_X13_, Q_X14_, Q_X16_⟩ hb_ hon hoff
      refine ⟨_, rfl, fun K hK => ?_⟩
      have e37 : a.tmps[37]? = some (m13_) := by rw [ha]; exact putSel_on (e := (13, 37, m13_)) 9 rfl rfl (hon 13 (by kernel_rfl)) rfl
      rw [Q_X13_ (hon 13 (by kernel_rfl))] at e37
      replace ha := Aside0.mk ha
      have B := Aside0.mk Q_B
      have P := Aside0.mk (Q_P (hon 10 (by kernel_rfl)))
      have Z2 := Aside0.mk (Q_Z2 (hon 15 (by kernel_rfl)))
      refine value_ (w1 := w') (v := .int .i64 code) (by rfl) rfl ?_ ?_
      · go_simp
        (try simp only [i64_w])
        try rfl
      refine hK.out _ _ ⟨cs, code, g6, m10_, m11_, m12_, m13_, m14_, (.int .i64 code), (by rw [ha.out]; exact putSel_upk 11 hb_ rfl rfl rfl), Q_B, Q_P, fun _ h1_ => absurd ((hon 15 (by kernel_rfl)).symm.trans h1_) (by decide), Q_Z2, Q_X10_, Q_X11_, Q_X12_, Q_X13_, Q_X14_, fun _ => rfl⟩
    exact steps_nil
  rintro b a w' hall ⟨cs, code, g6, m10_, m11_, m12_, m13_, m14_, m16_, ha, Q_B, Q_P, Q_Z, Q_Z2, Q_X10_, Q_X11_, Q_X12_, Q_X13_, Q_X14_, Q_X16_⟩
  clear B
  have hb1_ := hall 1 (by kernel_rfl)
  have hb2_ := hall 2 (by kernel_rfl)
  have hb4_ := hall 4 (by kernel_rfl)
  have hb5_ := hall 5 (by kernel_rfl)
  have hb6_ := hall 6 (by kernel_rfl)
  have hb9_ := hall 9 (by kernel_rfl)
  have hb10_ := hall 10 (by kernel_rfl)
  have hb11_ := hall 11 (by kernel_rfl)
  have hb12_ := hall 12 (by kernel_rfl)
  have hb13_ := hall 13 (by kernel_rfl)
  have hb14_ := hall 14 (by kernel_rfl)
  have hb15_ := hall 15 (by kernel_rfl)
  have hb16_ := hall 16 (by kernel_rfl)
  subst ha
  obtain rfl := Q_X10_ hb10_
  obtain rfl := Q_X11_ hb11_
  obtain rfl := Q_X12_ hb12_
  obtain rfl := Q_X13_ hb13_
  obtain rfl := Q_X14_ hb14_
  obtain rfl := Q_X16_ hb16_
  simp only [putSel, hb1_, hb2_, hb4_, hb5_, hb6_, hb9_, hb10_, hb11_, hb12_, hb13_, hb14_, hb15_, hb16_, if_true, Act.put, List.setIfInBounds_toArray, List.set_cons_zero, List.set_cons_succ]
  have B := Aside0.mk Q_B
  clear Q_B
  have P := Aside0.mk (Q_P hb10_)
  clear Q_P
  clear Q_Z
  have Z2 := Aside0.mk (Q_Z2 hb15_)
  clear Q_Z2
  clear hall hb1_ hb2_ hb4_ hb5_ hb6_ hb9_ hb10_ hb11_ hb12_ hb13_ hb14_ hb15_ hb16_
  clear C0 C1 HP
  have hP9 := P.out.2.2
  have hZ2 := Z2.out
  have HCS := Lib.hid P.out.1
  have HCO := P.out.2.1
  have hB9 : Below w.heap.size w w' := below_then X.2 X.2.size B.out
  have hX9 : w'.heap[w.heap.size]? = some (.cells zerV 30 (0, 0)) := blk_below X.1 B.out
  have hsz : w.heap.size < W.heap.size := blk_lt X.1
  clear B P Z2 X
  have X := And.intro hX9 hB9
  have HI := Lib.hid (show (Try.prog.info? 30).map (·.size) = some cs.size by rw [HCS.out]; kernel_rfl)
  have HOLD := Lib.hid (show zerV.size = cs.size by rw [HCS.out]; rfl)
  clear hX9 hB9
  cases hr : readD kd (flD kd fl) v with
  | error er =>
    rw [hr] at hP9
    have hne := readD_err hr
    have HR := Lib.hid (show decC bs = (chk0 0 0, 0, er) by rw [HDC.out, hr])
    replace hP9 : code = er := hP9
    subst hP9
    have q : (code != 0) = true := by simp [hne]
    clear hr HDC hne hZ2
    go_wp2_with (with_reducible refine gate_store (p := 2) rfl ?_; go_must (refine wpList_store_row rfl 30 (.tmp 2) (.tmp 40) rfl _ zerV rfl rfl 30 zerV X.1 (by kernel_rfl) rfl (by simp [Value.oneCell']) ?_))
    exact bodyPost_ret (rdec_results _ _ _ zerV _ _ rfl rfl rfl (setRow_heap _ _ _ _ _ _ X.1) rfl) rfl ⟨zerV, by rw [HR.out]; try rfl, by rw [HR.out]; exact mnil _ _ _ _, below_setRow X.2 (Nat.le_refl _) _⟩
  | ok d =>
    rw [hr] at hP9
    obtain ⟨rfl, hM⟩ := hP9
    have HR := Lib.hid (show decC bs = (d, ((min ((n + 3) / 4 * 4) bs.length : Nat) : Int), 0) by rw [HDC.out, hr])
    have HM := Lib.hid hM
    clear hr HDC hM
    have hz3 := hZ2.1
    have hmm : (if (bs.length : Int) < (((n + 3) / 4 * 4 : Nat) : Int) then (bs.length : Int) else (((n + 3) / 4 * 4 : Nat) : Int)) = ((min ((n + 3) / 4 * 4) bs.length : Nat) : Int) := by split <;> omega
    go_wp2_with (first | (with_reducible refine gate_dst (N := 42) rfl ?_; go_must (refine wpList_load_row rfl 30 (.tmp 6) rfl _ rfl 30 cs (0, 0) _ hz3 Try.underlying30 rfl HI.out ?_)) | (with_reducible refine gate_store (p := 2) rfl ?_; go_must (refine wpList_store_row rfl 30 (.tmp 2) (.tmp 42) rfl _ cs rfl rfl 30 zerV X.1 HI.out HOLD.out HCO ?_)))
    all_goals first
      | exact bodyPost_ret (rdec_results _ _ _ cs (.int .i64 (((n : Int) + 3) / 4 * 4)) (.int .i64 0) rfl rfl rfl (setRow_heap _ _ _ _ _ _ X.1) HCS.out) rfl ⟨cs, by rw [HR.out]; exact congrArg (fun z => Ending.returned (.tuple #[.agg cs, .int .i64 z, .int .i64 0])) (show (((n : Int) + 3) / 4 * 4 : Int) = ((min ((n + 3) / 4 * 4) bs.length : Nat) : Int) by omega), by rw [HR.out]; exact k30.M_lower (Nat.le_of_lt hsz) (M_only HM.out (setRow_only _ _ _) (fun k hk _ h => by omega)), below_setRow X.2 (Nat.le_refl _) _⟩
      | exact bodyPost_ret (rdec_results _ _ _ cs (.int .i64 ((bs.length : Int))) (.int .i64 0) rfl rfl rfl (setRow_heap _ _ _ _ _ _ X.1) HCS.out) rfl ⟨cs, by rw [HR.out]; exact congrArg (fun z => Ending.returned (.tuple #[.agg cs, .int .i64 z, .int .i64 0])) (show ((bs.length : Int) : Int) = ((min ((n + 3) / 4 * 4) bs.length : Nat) : Int) by omega), by rw [HR.out]; exact k30.M_lower (Nat.le_of_lt hsz) (M_only HM.out (setRow_only _ _ _) (fun k hk _ h => by omega)), below_setRow X.2 (Nat.le_refl _) _⟩
end Go.Proofs.Ytjmadnpicidbeaa.Ch
end
section
namespace Go.Proofs.Ytjmadnpicidbeaa.Ch
open Go.RowKit Go.Proofs.YtjmadnpicidbeaaW.PrintWords Go.Proofs.YtjmadnpicidbeaaW.PrintLast Go.Proofs.Ytjmadnpicidbeaa.Base Go.Proofs.Ytjmadnpicidbeaa.PCh Go.Proofs.Ytjmadnpicidbeaa.ParDec
set_option maxRecDepth 100000
set_option linter.unusedVariables false
set_option linter.unusedSimpArgs false
theorem info_chk : (Try.prog.info? 30).map (fun i => (i.zero, i.size, i.bytes)) = some (some (.agg zerV), k30.sz, 152) := by kernel_rfl
def allD : Nat → List UInt8 → Nat → List Chk → List Chk × Int × Int
  | 0, _, _, acc => (acc, 0, 0)
  | n + 1, b, at_, acc => if at_ < b.length then (if (decC (b.drop at_)).2.2 ≠ 0 then ([], (at_ : Int), (decC (b.drop at_)).2.2) else allD n b (at_ + (decC (b.drop at_)).2.1.toNat) (acc ++ [(decC (b.drop at_)).1])) else (acc, 0, 0)
def allL (b : List UInt8) : List Chk × Int × Int := allD (b.length + 1) b 0 []
theorem decC_len {b : List UInt8} (h : (decC b).2.2 = 0) : ∃ n : Nat, (decC b).2.1 = (n : Int) ∧ 4 ≤ n ∧ n ≤ b.length := by
  unfold decC at h ⊢
  by_cases h4 : b.length < 4
  · rw [if_pos h4] at h
    cases h
  rw [if_neg h4] at h ⊢
  by_cases h5 : be ((b.drop 2).take 2) < 4 ∨ b.length < be ((b.drop 2).take 2)
  · rw [if_pos h5] at h
    cases h
  rw [if_neg h5] at h ⊢
  cases hr : readD ((b.getD 0 0).toNat : Int) (flD ((b.getD 0 0).toNat : Int) ((b.getD 1 0).toNat : Int)) ((b.take (be ((b.drop 2).take 2))).drop 4) with
  | error c =>
    rw [hr] at h
    exact absurd h (readD_err hr)
  | ok d => exact ⟨_, rfl, by omega, Nat.min_le_right _ _⟩
set_option maxHeartbeats 4000000 in
theorem all_calls2 (w : World) (A : Option Addr) (b : List UInt8) (c : Nat) (hb : byte.C w A b.length b) (hc : b.length ≤ c) (hv : b.length ≤ 1048576) :
    Calls Try.prog 21 #[.slice A b.length c] w fun e w' => ∃ v, e = .returned (.tuple #[v, .int .i64 (allL b).2.1, .int .i64 (allL b).2.2]) ∧ Kd.R k30 30 w' w.heap.size (fun _ => True) v (allL b).1 ∧ Below w.heap.size w w' := by
  have HBC := Lib.hid (fun (W : World) (h : Below w.heap.size w W) => Kd.C_below hb h)
  obtain ⟨E, hE⟩ : ∃ E, allL b = E := ⟨_, rfl⟩
  rw [hE]
  have HE := Lib.hid (show allD (b.length + 1) b 0 [] = E from hE)
  clear hE hb
  go_enter Try.func21, Try.ntmps21
  go_wp2
  go_loopw [5, 6] (fun v5 v6 wr => ∃ (at_ n : Nat) (xs : List Chk), at_ ≤ b.length ∧ v6 = .int .i64 (at_ : Int) ∧ Hid (b.length < n + at_ ∧ xs.length ≤ at_) ∧ Hid (allD n b at_ xs = E) ∧ Hid (Kd.R k30 30 wr w.heap.size (fun _ => True) v5 xs) ∧ Hid (Below w.heap.size w wr)) (fun _ v6 _ => b.length - (intOf v6).toNat)
  case atStart => exact ⟨0, b.length + 1, [], Nat.zero_le _, rfl, ⟨by omega, Nat.le_refl _⟩, HE.out, Kd.R_nil _ _ _ _ _, Below.refl _ _⟩
  case round =>
    obtain ⟨at_, n, xs, hat, rfl, HN, HA, HR, HB⟩ := hrel
    by_cases hlt : at_ < b.length
    · obtain ⟨n, rfl⟩ : ∃ m, n = m + 1 := ⟨n - 1, by have := HN.out.1; omega⟩
      have hA := HA.out
      rw [allD, if_pos hlt] at hA
      obtain ⟨A', hdr, hdC, hdl⟩ := drop_bytes (HBC.out _ HB.out) hc at_ (at_ : Int) rfl (Nat.le_of_lt hlt)
      have hzl : (b.drop at_).length ≤ 140737488355232 := by rw [List.length_drop]; omega
      have HD := Lib.hid (decC_calls wr A' (b.drop at_) (c - at_) hdC hdl (by omega))
      have hdn : (decC (b.drop at_)).2.2 = 0 → ∃ k : Nat, (decC (b.drop at_)).2.1 = (k : Int) ∧ 4 ≤ k ∧ k ≤ b.length - at_ := fun h => by
        obtain ⟨k, h1, h2, h3⟩ := decC_len h
        exact ⟨k, h1, h2, by rw [List.length_drop] at h3; exact h3⟩
      unfold DecCP at HD
      have HDN := Lib.hid hdn
      have HA2 := Lib.hid hA
      clear hA hdC hdl hzl hdn HA
      generalize decC (b.drop at_) = D at *
      obtain ⟨d, k, er⟩ := D
      dsimp only at HD HDN HA2
      generalize (b.drop at_).length = zl at *
      go_wp2_with fail
      refine HD.out.mono ?_
      rintro e w1 ⟨cs, rfl, hM, hB⟩
      obtain ⟨cl, rfl⟩ : ∃ cl : List Value, cs = cl.toArray := ⟨cs.toList, by simp⟩
      rw [List.toList_toArray] at hM
      obtain ⟨v10, v11, v12, v13, v14, hcs, h10, h11, h12, h13, h14⟩ := k30_openM hM
      obtain ⟨A10, c10, rfl⟩ := Kd.R_slice h10
      obtain ⟨A11, c11, rfl⟩ := Kd.R_slice h11
      obtain ⟨A12, c12, rfl⟩ := Kd.R_slice h12
      obtain ⟨A13, c13, rfl⟩ := Kd.R_slice h13
      obtain ⟨A14, c14, rfl⟩ := Kd.R_slice h14
      have HB2 := Lib.hid (below_then HB.out HB.out.size hB)
      have HR2 := Lib.hid (R_only HR.out (Only.of_below (S := fun _ => False) hB) (fun _ _ _ h => h))
      have HS := Lib.hid hB.size
      subst hcs
      have HM := Lib.hid hM
      clear h10 h11 h12 h13 h14 hM hB HD
      have HBO := Lib.hid (fun k h => Kd.R_lt HR.out k h)
      by_cases her : er = 0
      · subst her
        obtain ⟨k', hk', hk4, hkl⟩ := HDN.out rfl
        subst hk'
        have hA := HA2.out
        rw [if_neg (by simp), Int.toNat_natCast] at hA
        have HA3 := Lib.hid hA
        clear hA HA2 HDN
        have hwr : wrap64 ((at_ : Int) + (k' : Int)) = ((at_ + k' : Nat) : Int) := by unfold wrap64; omega
        go_upto_region 7 with (fail)
        refine wp_gen (fun W' => W'.heap[w1.heap.size]? = some (.cells ([.int .u8 d.f0, .int .u8 d.f1, .int .u32 d.f2, .int .u16 d.f3, .int .u16 d.f4, .int .u32 d.f5, .int .u32 d.f6, .int .u32 d.f7, .int .u16 d.f8, .int .u16 d.f9, .slice A10 d.f10.length c10, .slice A11 d.f11.length c11, .slice A12 d.f12.length c12, .slice A13 d.f13.length c13, .slice A14 d.f14.length c14] : List Value).toArray 30 (0, 0)) ∧ Kd.R k30 30 W' w.heap.size (fun _ => True) u5 xs ∧ k30.M W' w.heap.size (fun k => wr.heap.size ≤ k) d ([.int .u8 d.f0, .int .u8 d.f1, .int .u32 d.f2, .int .u16 d.f3, .int .u16 d.f4, .int .u32 d.f5, .int .u32 d.f6, .int .u32 d.f7, .int .u16 d.f8, .int .u16 d.f9, .slice A10 d.f10.length c10, .slice A11 d.f11.length c11, .slice A12 d.f12.length c12, .slice A13 d.f13.length c13, .slice A14 d.f14.length c14]) ∧ Below w.heap.size w W') ⟨blk_new _ _, Kd.R_alloc HR2.out _, k30.M_mono (fun k hk => hk.2.1) (k30.M_bound (M_only HM.out (Only.of_below (S := fun _ => False) (below_alloc (Below.refl _ _) _)) (fun _ _ _ h => h))) |> k30.M_lower HB.out.size, below_alloc HB2.out _⟩ ?_
        clear HR2 HM HB2 HB HR
        rintro W2 ⟨hblk, hR2, hM2, hB2⟩
        have HM2 := Lib.hid hM2
        have HR3 := Lib.hid hR2
        have HB3 := Lib.hid hB2
        have HBL := Lib.hid hblk
        clear hR2 hM2 hB2 hblk
        go_wp2_with (first | (with_reducible refine gate_dst (N := 27) rfl ?_; go_must (refine wpList_load_row rfl 30 (.tmp 7) rfl _ rfl 30 _ (0, 0) _ HBL.out Try.underlying30 rfl (by kernel_rfl) ?_)) | (at_builtin; go_must (refine Kd.R_append k30 (w0 := w) (W := W2) w.heap.size rfl _ _ 41 30 (.agg zerV) 152 rfl Try.underlying41 info_chk rfl (by decide) (by decide) u5 xs d ([.int .u8 d.f0, .int .u8 d.f1, .int .u32 d.f2, .int .u16 d.f3, .int .u16 d.f4, .int .u32 d.f5, .int .u32 d.f6, .int .u32 d.f7, .int .u16 d.f8, .int .u16 d.f9, .slice A10 d.f10.length c10, .slice A11 d.f11.length c11, .slice A12 d.f12.length c12, .slice A13 d.f13.length c13, .slice A14 d.f14.length c14]) (fun _ => True) (fun k => wr.heap.size ≤ k) rfl rfl HM2.out (fun k hk => ⟨trivial, fun he => by have := HBO.out k he.symm; omega⟩) (fun _ _ => trivial) HR3.out HB3.out HB3.out.size (by have := HN.out.2; omega) ?_); (intro v1 w2 hR1 hB1 hG1 _; have HR1 := Lib.hid hR1; have HB1 := Lib.hid hB1; clear hR1 hB1 hG1)))
        go_roundw
        case rel => exact ⟨at_ + k', n, xs ++ [d], by omega, by rw [← hwr]; first | rfl | go_num, ⟨by have := HN.out.1; show _ < _; omega, by have := HN.out.2; show _ ≤ _; rw [List.length_append]; simp; omega⟩, HA3, HR1, HB1⟩
        case measure => simp [intOf]; omega
      · have hA := HA2.out
        rw [if_pos her] at hA
        subst hA
        have q : (er != 0) = true := by simp [her]
        clear HA2 HDN her
        go_wp2
        go_ret3
        exact ⟨_, rfl, Kd.R_nil _ _ _ _ _, below_alloc HB2.out _⟩
    · obtain rfl : at_ = b.length := by omega
      have hA := HA.out
      have hn : ∃ m, n = m + 1 := ⟨n - 1, by have := HN.out.1; omega⟩
      obtain ⟨n, rfl⟩ := hn
      rw [allD, if_neg (Nat.lt_irrefl _)] at hA
      subst hA
      clear HA HE
      go_wp2
      go_ret3
      exact ⟨_, rfl, HR.out, HB.out⟩
end Go.Proofs.Ytjmadnpicidbeaa.Ch
end
section
namespace Go.Proofs.Ytjmadnpicidbeaa.Ch
open Go.RowKit Go.Proofs.YtjmadnpicidbeaaW.PrintWords Go.Proofs.Ytjmadnpicidbeaa.Base Go.Proofs.Ytjmadnpicidbeaa.PCh
set_option maxRecDepth 100000
set_option linter.unusedVariables false
set_option linter.unusedSimpArgs false
def WS (w : World) (gw : Nat) (xs : List Int) : Prop := ∃ u, w.heap[gw]? = some (.cells #[u] 66 (0, 0)) ∧ (Kd.int .u8).R 5 w (gw + 1) (fun k => k ≠ gw) u xs
structure Fr (gw : Nat) (w W : World) : Prop where
  below : Below gw w W
  kept : ∀ (k : Nat) (cells : Array Value) (t : TypeId), t ≠ 5 → t ≠ 66 → w.heap[k]? = some (Obj.cells cells t (0, 0)) → W.heap[k]? = some (Obj.cells cells t (0, 0))
theorem Fr.refl (gw : Nat) (w : World) : Fr gw w w := ⟨Below.refl _ _, fun _ _ _ _ _ h => h⟩
theorem Fr.trans {gw : Nat} {a b c : World} (h : Fr gw a b) (k : Fr gw b c) : Fr gw a c := ⟨h.below.trans k.below, fun i cells t h1 h2 h3 => k.kept i cells t h1 h2 (h.kept i cells t h1 h2 h3)⟩
theorem Fr.alloc {gw : Nat} {a b : World} (h : Fr gw a b) (hg : gw ≤ b.heap.size) (x : Obj) : Fr gw a (b.alloc x) := ⟨h.below.alloc hg x, fun i cells t h1 h2 h3 => blk_alloc (h.kept i cells t h1 h2 h3) x⟩
theorem Fr.drewN {gw : Nat} {a b : World} (h : Fr gw a b) (n : Nat) : Fr gw a (b.drewN n) := ⟨pw_below_drewN h.below n, fun i cells t h1 h2 h3 => blk_drewN (h.kept i cells t h1 h2 h3) n⟩
theorem Fr.set {gw : Nat} {a b : World} (h : Fr gw a b) {cs : Array Value} (hg : b.heap[gw]? = some (.cells cs 66 (0, 0))) (i : Nat) (u : Value) : Fr gw a (b.setCell ⟨gw, i, none⟩ u) :=
  ⟨h.below.setCell (Nat.le_refl _) u, fun k cells t h1 h2 h3 => blk_far (h.kept k cells t h1 h2 h3) (by
    intro e
    have h4 := h.kept k cells t h1 h2 h3
    dsimp only at e
    subst e
    rw [hg] at h4
    injection h4 with h4
    injection h4 with _ h5 _
    exact h2 h5.symm) u⟩
theorem Fr.grown {gw base : Nat} {a b c : World} {u : Value} {xs : List Int} {ok : Nat → Prop} (h : Fr gw a b) (hR : (Kd.int .u8).R 5 b base ok u xs) (hB : Below gw b c) (hG : b.grownBy c u.ownBlock) : Fr gw a c :=
  ⟨h.below.trans hB, fun k cells t h1 h2 h3 => blk_grown (h.kept k cells t h1 h2 h3) hG (Kd.R_ne hR (h.kept k cells t h1 h2 h3) (fun e => h1 e.symm))⟩
theorem Fr.C_lit {gw g t n : Nat} {w W : World} {cells : Array Value} {kk : IntKind} {ns : List Int} (h : Fr gw w W) (h1 : t ≠ 5) (h2 : t ≠ 66) (hg : w.heap[g]? = some (.cells cells t (0, 0))) (hC : (Kd.int kk).C w (some ⟨g, 0, none⟩) n ns) : (Kd.int kk).C W (some ⟨g, 0, none⟩) n ns := by
  obtain ⟨e1, e2, e3⟩ := hC
  refine ⟨e1, e2, fun hn => ?_⟩
  obtain ⟨ad, e, hc⟩ := e3 hn
  injection e with e
  subst e
  refine ⟨_, rfl, fun j p hj => ?_⟩
  obtain ⟨cs, c1, c2, c3⟩ := hc j p hj
  refine ⟨cs, c1, c2, fun i u hu => ?_⟩
  have := c3 i u hu
  have hb : (Addr.add ⟨g, 0, none⟩ (j * (Kd.int kk).sz + i)).block = g := add_block _ _
  unfold World.cell? at this ⊢
  rw [hb, h.kept g cells t h1 h2 hg]
  rw [hb, hg] at this
  exact this
def twoL : List Int → List Int
  | [] => []
  | n :: r => [n / 256 % 256, n % 256] ++ twoL r
def fourL : List Int → List Int
  | [] => []
  | n :: r => [n / 16777216 % 256, n / 65536 % 256, n / 256 % 256, n % 256] ++ fourL r
theorem twoL_length (l : List Int) : (twoL l).length = 2 * l.length := by
  induction l with
  | nil => rfl
  | cons n r ih => simp only [twoL, List.length_append, List.length_cons, List.length_nil, ih]; omega
theorem fourL_length (l : List Int) : (fourL l).length = 4 * l.length := by
  induction l with
  | nil => rfl
  | cons n r ih => simp only [fourL, List.length_append, List.length_cons, List.length_nil, ih]; omega
set_option maxHeartbeats 2000000 in
theorem wtwo_calls (w : World) (gw : Nat) (xs : List Int) (A : Option Addr) (c : Nat) (ns : List Int) (hs : WS w gw xs) (hA : ∀ W, Fr gw w W → (Kd.int .u16).C W A ns.length ns) (hx : xs.length + 2 * ns.length ≤ 140737488355328) :
    Calls Try.prog 37 #[.pointer (some ⟨gw, 0, none⟩), .slice A ns.length c] w fun e w' => e = .returned (.tuple #[]) ∧ WS w' gw (xs ++ twoL ns) ∧ Fr gw w w' := by
  have HS := Lib.hid hs
  have HA := Lib.hid hA
  have hm := (hA w (Fr.refl _ _)).2.1
  clear hs hA
  go_enter Try.func37, Try.ntmps37
  go_wp2
  go_loopw [5, 8] (fun v5 v8 wr => ∃ (i : Nat) (ys : List Int), i ≤ ns.length ∧ v8 = .int .i64 (i : Int) ∧ Hid (ys.length = xs.length + 2 * i) ∧ Hid (ys ++ twoL (ns.drop i) = xs ++ twoL ns) ∧ Hid (WS wr gw ys) ∧ Hid (Fr gw w wr)) (fun _ v8 _ => ns.length - (intOf v8).toNat)
  case atStart => exact ⟨0, xs, Nat.zero_le _, rfl, (by show _ = _; omega), rfl, HS.out, Fr.refl _ _⟩
  case round =>
    clear HS
    obtain ⟨i, ys, hi, rfl, HYL, HE, HW, HF⟩ := hrel
    by_cases hlt : i < ns.length
    · obtain ⟨ad, rfl, x0⟩ := int_at (HA.out wr HF.out) i hlt
      obtain ⟨u, hg, hR⟩ := HW.out
      obtain ⟨Au, cu, rfl⟩ := Kd.R_slice hR
      have hE := HE.out
      have hd : ns.drop i = ns.getD i 0 :: ns.drop (i + 1) := by
        rw [List.drop_eq_getElem_cons hlt]
        congr 1
        simp [List.getD_eq_getElem?_getD, hlt]
      rw [hd, twoL] at hE
      generalize ns.getD i 0 = q at *
      have hE2 : (ys ++ [q / 256 % 256, q % 256]) ++ twoL (ns.drop (i + 1)) = xs ++ twoL ns := by rw [List.append_assoc]; exact hE
      have HE2 := Lib.hid hE2
      have HG := Lib.hid hg
      have HR := Lib.hid hR
      have k0 : wr.cell? ⟨gw, 0, none⟩ = some (.slice Au ys.length cu) := blk_cell hg 0
      have HLT := Lib.hid (blk_lt hg)
      clear hE hE2 hd HE HW hg hR
      go_wp2_with (at_builtin; go_must (refine Kd.R_append_row (Value.int .u8) (0 : Int) (w0 := wr.alloc (.cells #[.int .u8 (q / 256 % 256), .int .u8 (q % 256)] 5)) (W := wr.alloc (.cells #[.int .u8 (q / 256 % 256), .int .u8 (q % 256)] 5)) (gw + 1) rfl _ _ 22 5 _ 1 rfl Try.underlying22 info_u8 rfl (by decide) (.slice Au ys.length cu) ys [q / 256 % 256, q % 256] (some ⟨wr.heap.size, 0, none⟩) 2 2 (fun k => k ≠ gw) rfl rfl (fun k hk => by have := HLT.out; simp at hk; omega) (Kd.R_alloc HR.out _) (row_lit (Kd.int .u8) rfl wr 5 [.int .u8 (q / 256 % 256), .int .u8 (q % 256)] [q / 256 % 256, q % 256] rfl (by simp) (fun j v p hv hp => by rcases j with _ | _ | j <;> simp at hv hp <;> (subst hv; subst hp; rfl))) (Below.refl _ _) (by have := HLT.out; simp; omega) (by have := HYL.out; omega) ?_); (intro v1 w1 hR1 hB1 hG1 _; have HR1 := Lib.hid hR1; have HB1 := Lib.hid hB1; have HGR := Lib.hid hG1; clear hR1 hB1 hG1; refine RowKit.Hid.out ?_))
      refine Lib.hid ?_
      obtain ⟨A7, c7, hv1⟩ := Kd.R_slice HR1.out
      subst hv1
      have hown : (Value.slice Au ys.length cu).ownBlock ≠ some gw := fun e => (Kd.R_alloc HR.out (.cells #[.int .u8 (q / 256 % 256), .int .u8 (q % 256)] 5)).1 _ e rfl
      have hg1 := blk_grown (blk_alloc HG.out (.cells #[.int .u8 (q / 256 % 256), .int .u8 (q % 256)] 5)) HGR.out (fun e => hown e.symm)
      have hs := blk_cell hg1 0
      have hf := blk_frozen hg1 0
      have HG1 := Lib.hid hg1
      have HF1 := Lib.hid (Fr.grown (HF.out.alloc (Nat.le_of_lt HLT.out) (.cells #[.int .u8 (q / 256 % 256), .int .u8 (q % 256)] 5)) (Kd.R_alloc HR.out _) (HB1.out.mono (Nat.le_succ _)) HGR.out)
      have HR2 := Lib.hid (Kd.R_far HR1.out (p := ⟨gw, 0, none⟩) (fun k hk => hk) (.slice A7 (ys ++ [q / 256 % 256, q % 256]).length c7))
      rw [show (ys ++ [q / 256 % 256, q % 256]).length = ys.length + 2 by simp] at HR2
      clear hg1 HGR HB1 HF HR HG k0
      go_wp2
      go_roundw
      case rel => exact ⟨i + 1, ys ++ [q / 256 % 256, q % 256], by omega, by go_num, (by have := HYL.out; show _ = _; simp only [List.length_append, List.length_cons, List.length_nil]; omega), HE2, ⟨_, blk_put HG1.out 0 _ rfl, HR2.out⟩, HF1.out.set HG1.out 0 _⟩
      case measure => simp [intOf]; omega
    · obtain rfl : i = ns.length := by omega
      have hE := HE.out
      rw [List.drop_length, twoL, List.append_nil] at hE
      have HE2 := Lib.hid hE
      clear hE HE HA
      go_wp2
      go_end0
      exact ⟨rfl, by rw [← HE2.out]; exact HW.out, HF.out⟩
set_option maxHeartbeats 2000000 in
theorem wfour_calls (w : World) (gw : Nat) (xs : List Int) (A : Option Addr) (c : Nat) (ns : List Int) (hs : WS w gw xs) (hA : ∀ W, Fr gw w W → (Kd.int .u32).C W A ns.length ns) (hx : xs.length + 4 * ns.length ≤ 140737488355328) :
    Calls Try.prog 58 #[.pointer (some ⟨gw, 0, none⟩), .slice A ns.length c] w fun e w' => e = .returned (.tuple #[]) ∧ WS w' gw (xs ++ fourL ns) ∧ Fr gw w w' := by
  have HS := Lib.hid hs
  have HA := Lib.hid hA
  have hm := (hA w (Fr.refl _ _)).2.1
  clear hs hA
  go_enter Try.func58, Try.ntmps58
  go_wp2
  go_loopw [5, 8] (fun v5 v8 wr => ∃ (i : Nat) (ys : List Int), i ≤ ns.length ∧ v8 = .int .i64 (i : Int) ∧ Hid (ys.length = xs.length + 4 * i) ∧ Hid (ys ++ fourL (ns.drop i) = xs ++ fourL ns) ∧ Hid (WS wr gw ys) ∧ Hid (Fr gw w wr)) (fun _ v8 _ => ns.length - (intOf v8).toNat)
  case atStart => exact ⟨0, xs, Nat.zero_le _, rfl, (by show _ = _; omega), rfl, HS.out, Fr.refl _ _⟩
  case round =>
    clear HS
    obtain ⟨i, ys, hi, rfl, HYL, HE, HW, HF⟩ := hrel
    by_cases hlt : i < ns.length
    · obtain ⟨ad, rfl, x0⟩ := int_at (HA.out wr HF.out) i hlt
      obtain ⟨u, hg, hR⟩ := HW.out
      obtain ⟨Au, cu, rfl⟩ := Kd.R_slice hR
      have hE := HE.out
      have hd : ns.drop i = ns.getD i 0 :: ns.drop (i + 1) := by
        rw [List.drop_eq_getElem_cons hlt]
        congr 1
        simp [List.getD_eq_getElem?_getD, hlt]
      rw [hd, fourL] at hE
      generalize ns.getD i 0 = q at *
      have hE2 : (ys ++ [q / 16777216 % 256, q / 65536 % 256, q / 256 % 256, q % 256]) ++ fourL (ns.drop (i + 1)) = xs ++ fourL ns := by rw [List.append_assoc]; exact hE
      have HE2 := Lib.hid hE2
      have HG := Lib.hid hg
      have HR := Lib.hid hR
      have k0 : wr.cell? ⟨gw, 0, none⟩ = some (.slice Au ys.length cu) := blk_cell hg 0
      have HLT := Lib.hid (blk_lt hg)
      clear hE hE2 hd HE HW hg hR
      go_wp2_with (at_builtin; go_must (refine Kd.R_append_row (Value.int .u8) (0 : Int) (w0 := wr.alloc (.cells #[.int .u8 (q / 16777216 % 256), .int .u8 (q / 65536 % 256), .int .u8 (q / 256 % 256), .int .u8 (q % 256)] 5)) (W := wr.alloc (.cells #[.int .u8 (q / 16777216 % 256), .int .u8 (q / 65536 % 256), .int .u8 (q / 256 % 256), .int .u8 (q % 256)] 5)) (gw + 1) rfl _ _ 22 5 _ 1 rfl Try.underlying22 info_u8 rfl (by decide) (.slice Au ys.length cu) ys [q / 16777216 % 256, q / 65536 % 256, q / 256 % 256, q % 256] (some ⟨wr.heap.size, 0, none⟩) 4 4 (fun k => k ≠ gw) rfl rfl (fun k hk => by have := HLT.out; simp at hk; omega) (Kd.R_alloc HR.out _) (row_lit (Kd.int .u8) rfl wr 5 [.int .u8 (q / 16777216 % 256), .int .u8 (q / 65536 % 256), .int .u8 (q / 256 % 256), .int .u8 (q % 256)] [q / 16777216 % 256, q / 65536 % 256, q / 256 % 256, q % 256] rfl (by simp) (fun j v p hv hp => by rcases j with _ | _ | _ | _ | j <;> simp at hv hp <;> (subst hv; subst hp; rfl))) (Below.refl _ _) (by have := HLT.out; simp; omega) (by have := HYL.out; omega) ?_); (intro v1 w1 hR1 hB1 hG1 _; have HR1 := Lib.hid hR1; have HB1 := Lib.hid hB1; have HGR := Lib.hid hG1; clear hR1 hB1 hG1; refine RowKit.Hid.out ?_))
      refine Lib.hid ?_
      obtain ⟨A7, c7, hv1⟩ := Kd.R_slice HR1.out
      subst hv1
      have hown : (Value.slice Au ys.length cu).ownBlock ≠ some gw := fun e => (Kd.R_alloc HR.out (.cells #[.int .u8 (q / 16777216 % 256), .int .u8 (q / 65536 % 256), .int .u8 (q / 256 % 256), .int .u8 (q % 256)] 5)).1 _ e rfl
      have hg1 := blk_grown (blk_alloc HG.out (.cells #[.int .u8 (q / 16777216 % 256), .int .u8 (q / 65536 % 256), .int .u8 (q / 256 % 256), .int .u8 (q % 256)] 5)) HGR.out (fun e => hown e.symm)
      have hs := blk_cell hg1 0
      have hf := blk_frozen hg1 0
      have HG1 := Lib.hid hg1
      have HF1 := Lib.hid (Fr.grown (HF.out.alloc (Nat.le_of_lt HLT.out) (.cells #[.int .u8 (q / 16777216 % 256), .int .u8 (q / 65536 % 256), .int .u8 (q / 256 % 256), .int .u8 (q % 256)] 5)) (Kd.R_alloc HR.out _) (HB1.out.mono (Nat.le_succ _)) HGR.out)
      have HR2 := Lib.hid (Kd.R_far HR1.out (p := ⟨gw, 0, none⟩) (fun k hk => hk) (.slice A7 (ys ++ [q / 16777216 % 256, q / 65536 % 256, q / 256 % 256, q % 256]).length c7))
      rw [show (ys ++ [q / 16777216 % 256, q / 65536 % 256, q / 256 % 256, q % 256]).length = ys.length + 4 by simp] at HR2
      clear hg1 HGR HB1 HF HR HG k0
      go_wp2
      go_roundw
      case rel => exact ⟨i + 1, ys ++ [q / 16777216 % 256, q / 65536 % 256, q / 256 % 256, q % 256], by omega, by go_num, (by have := HYL.out; show _ = _; simp only [List.length_append, List.length_cons, List.length_nil]; omega), HE2, ⟨_, blk_put HG1.out 0 _ rfl, HR2.out⟩, HF1.out.set HG1.out 0 _⟩
      case measure => simp [intOf]; omega
    · obtain rfl : i = ns.length := by omega
      have hE := HE.out
      rw [List.drop_length, fourL, List.append_nil] at hE
      have HE2 := Lib.hid hE
      clear hE HE HA
      go_wp2
      go_end0
      exact ⟨rfl, by rw [← HE2.out]; exact HW.out, HF.out⟩
end Go.Proofs.Ytjmadnpicidbeaa.Ch
end
