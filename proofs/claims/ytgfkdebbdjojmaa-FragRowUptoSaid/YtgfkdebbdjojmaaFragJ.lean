/- The statements FragCuts, FragJoins, FragOwn, walked. -/
import Derived.Test.YtgfkdebbdjojmaaFragI
namespace Go.Proofs.Ytgfkdebbdjojmaa.Frag
open Go.RowKit Go.Proofs.YtgfkdebbdjojmaaW.PrintWords Go.Proofs.Ytgfkdebbdjojmaa.Base
set_option linter.unusedVariables false
set_option linter.unusedSimpArgs false
theorem fragCuts_row {w : World} (A : Option Addr) (c : Nat) (l : List UInt8) (hb : byte.C w A l.length l) (hc : l.length ≤ c) (hm : c ≤ 140737488351232) (n : Int) (hn : (Lit.int .i64 n).wf = true) (s : Int) (hs : (Lit.int .i64 s).wf = true) :
    Calls Try.prog 3 #[.slice A l.length c, .int .i64 n, .int .i64 s] w fun e w' => e = .returned (.bool true) ∧ Below w.heap.size w w' := by
  have HCU := Lib.hid (cut_any w A l c n hb hc (by omega))
  have HRC := Lib.hid (fun (W : World) (h : Below w.heap.size w W) => refCut_any W A l c n (Kd.C_below hb h) hc (by omega))
  have HC1 := Lib.hid (fun W => count_calls W s n)
  have HC2 := Lib.hid (fun W => refCount_calls W s n)
  unfold CutAny at HCU HRC
  clear hb
  generalize (cutA l n).1 = ps at *
  generalize (cutA l n).2 = code at *
  generalize (countS s n).1 = x1 at *
  generalize (countS s n).2 = x2 at *
  have e1 : (code == code) = true := by simp
  have e2 : (x1 == x1) = true := by simp
  have e3 : (x2 == x2) = true := by simp
  clear hn hs
  go_enter Try.func3, Try.ntmps3
  go_wp2_with fail
  refine HCU.out.mono ?_
  rintro e w1 ⟨v1, rfl, hR1, hB1⟩
  obtain ⟨A1, c1, rfl, _, hK1⟩ := Kd.R_reads hR1
  have HK1 := Lib.hid hK1
  have HB1 := Lib.hid hB1
  clear hR1 hK1 hB1
  go_wp2_with fail
  refine (HRC.out w1 HB1.out).mono ?_
  rintro e w2 ⟨v2, rfl, hR2, hB2⟩
  obtain ⟨A2, c2, rfl, _, hK2⟩ := Kd.R_reads hR2
  have HSM := Lib.hid (refSame_calls w2 A1 c1 A2 c2 ps (Kd.C_below HK1.out hB2) hK2)
  have HB2 := Lib.hid (below_then HB1.out HB1.out.size hB2)
  clear hR2 hK2 hB2
  go_wp2_with fail
  refine (HC1.out w2).mono ?_
  rintro e w3 ⟨rfl, rfl⟩
  go_wp2_with fail
  refine (HC2.out w2).mono ?_
  rintro e w3 ⟨rfl, rfl⟩
  go_wp2_with fail
  refine HSM.out.mono ?_
  rintro e w8 ⟨rfl, ⟨m8, rfl⟩⟩
  go_wp2_with fail
  refine (alive_calls _).mono ?_
  rintro e w9 ⟨rfl, hB9⟩
  go_wp2
  go_ret
  exact ⟨rfl, (pw_below_drewN HB2.out m8).trans (hB9.mono HB2.out.size)⟩
theorem fragJoins_row {w : World} (A : Option Addr) (c : Nat) (l : List Pc) (h : Kd.C pcK w A l.length l) (hc : l.length ≤ c) (hsum : (l.map (·.2.2.length)).sum ≤ 140737488289792) (hll : l.length ≤ 140737488355328) :
    Calls Try.prog 4 #[.slice A l.length c] w fun e w' => e = .returned (.bool true) ∧ Below w.heap.size w w' := by
  have HJ := Lib.hid (join_calls w A c l h (by omega) hll)
  have HRJ := Lib.hid (fun (W : World) (hb : Below w.heap.size w W) => refJoin_calls W A c l (Kd.C_below h hb) hsum hll)
  unfold JoinPost at HJ HRJ
  clear h
  generalize (joinS l).1 = b at *
  generalize ((joinS l).2.1 : Int) = x1 at *
  generalize (joinS l).2.2 = x2 at *
  have e1 : ((bstr b).toList == (bstr b).toList) = true := by simp
  have e2 : (x1 == x1) = true := by simp
  have e3 : (x2 == x2) = true := by simp
  go_enter Try.func4, Try.ntmps4
  go_wp2_with fail
  refine HJ.out.mono ?_
  rintro e w1 ⟨v1, rfl, hR1, hB1⟩
  obtain ⟨A1, c1, rfl, _, hK1⟩ := Kd.R_reads hR1
  have HK1 := Lib.hid hK1
  have HB1 := Lib.hid hB1
  clear hR1 hK1 hB1
  go_wp2_with fail
  refine (HRJ.out w1 HB1.out).mono ?_
  rintro e w2 ⟨v2, rfl, hR2, hB2⟩
  obtain ⟨A2, c2, rfl, _, hK2⟩ := Kd.R_reads hR2
  have r1 := run_bstr (c := c1) (Kd.C_below HK1.out hB2)
  have r2 := run_bstr (c := c2) hK2
  have HB2 := Lib.hid (below_then HB1.out HB1.out.size hB2)
  clear hR2 hK2 hB2
  go_wp2_with fail
  refine (alive_calls _).mono ?_
  rintro e w9 ⟨rfl, hB9⟩
  go_wp2
  go_ret
  exact ⟨rfl, below_then HB2.out HB2.out.size hB9⟩
theorem xor8 (b : UInt8) : bits .xor .u8 (b.toNat : Int) 255 = ((b ^^^ 255).toNat : Int) := by
  have h : ∀ n : Nat, n < 256 → bits .xor .u8 (n : Int) 255 = ((UInt8.ofNat n ^^^ 255).toNat : Int) := by decide +kernel
  have := h b.toNat b.toNat_lt
  rwa [UInt8.ofNat_toNat] at this
theorem fragOwn_row {w : World} (A : Option Addr) (c : Nat) (l : List UInt8) (hb : byte.C w A l.length l) (hc : l.length ≤ c) (hm : c ≤ 140737488351232) (n : Int) (hn : (Lit.int .i64 n).wf = true) :
    Calls Try.prog 6 #[.slice A l.length c, .int .i64 n] w fun e w' => e = .returned (.bool true) ∧ Below w.heap.size w w' := by
  have hl : l.length ≤ 140737488351232 := by omega
  have hO : byte.R 5 (w.alloc (.cells #[] 5)) w.heap.size (fun _ => True) (.slice (some ⟨w.heap.size, 0, none⟩) 0 0) [] := Kd.R_of_own (own_lit_of (enc := fun b : UInt8 => Value.int .u8 (b.toNat : Int)) w w.heap.size 5 [] (Nat.le_refl _) (by simp)) (fun _ _ => trivial)
  have HO := Lib.hid hO
  clear hO
  have HCU := Lib.hid (fun (W : World) (A1 : Option Addr) (c1 : Nat) (h : byte.C W A1 l.length l) (hle : l.length ≤ c1) => cut_any W A1 l c1 n h hle (by omega))
  have HRC := Lib.hid (fun (W : World) (h : Below w.heap.size w W) => refCut_any W A l c n (Kd.C_below hb h) hc (by omega))
  unfold CutAny at HCU HRC
  generalize (cutA l n).1 = ps at *
  generalize (cutA l n).2 = code at *
  have HB := Lib.hid hb
  have hcc : (code != code) = false := by simp
  have hss : ((bstr l).toList != (bstr l).toList) = false := by simp
  clear hb hn
  go_enter Try.func6, Try.ntmps6
  go_wp2_with (at_builtin; go_must (refine Kd.R_append_row (fun b : UInt8 => .int .u8 (b.toNat : Int)) (0 : UInt8) (w0 := w) w.heap.size rfl _ _ 22 5 _ 1 rfl Try.underlying22 info_u8 rfl (by decide) _ [] l A l.length c (fun _ => True) rfl rfl (fun _ _ => trivial) HO.out (Kd.C_alloc HB.out _) ((Below.refl _ _).alloc (Nat.le_refl _) _) (by simp) (by simpa using (show l.length ≤ 140737488355328 by omega)) ?_); intro v1 w1 hR1 hB1 _ _)
  rw [List.nil_append] at hR1
  have hR : byte.R 5 w1 w.heap.size (fun _ => True) v1 l := hR1
  clear hR1
  obtain ⟨A1, c1, rfl, hle1, hC1⟩ := Kd.R_reads hR
  have hlt : ∀ ad, A1 = some ad → ad.block < w1.heap.size := fun ad e => by
    subst e
    exact R_lt_block hR
  refine (HCU.out w1 A1 c1 hC1 hle1).mono ?_
  rintro e w2 ⟨v2, rfl, hP, hB2⟩
  obtain ⟨A2, c2, rfl⟩ := Kd.R_slice hP
  have HR2 := Lib.hid (Kd.R_below hR hB2)
  have HP := Lib.hid hP
  have HB2 := Lib.hid (below_then hB1 hB1.size hB2)
  have hz2 := hB2.size
  clear hC1 hR hP hB1 hB2
  go_wp2_with fail
  refine (HRC.out w2 HB2.out).mono ?_
  rintro e w3 ⟨v3, rfl, hQ3, hB3⟩
  obtain ⟨A3, c3, rfl⟩ := Kd.R_slice hQ3
  have HQ3 := Lib.hid (Kd.R_mono (Kd.R_bound hQ3) (ok' := fun k => w1.heap.size ≤ k) (fun k hk => Nat.le_trans hz2 hk.2.1))
  have HR3 := Lib.hid (Kd.R_below HR2.out hB3)
  have HP3 := Lib.hid (Kd.R_mono (Kd.R_bound (Kd.R_below HP.out hB3)) (ok' := fun k => w1.heap.size ≤ k) (fun k hk => hk.2.1))
  have HB3 := Lib.hid (below_then HB2.out HB2.out.size hB3)
  have r1 := run_bstr (c := c1) (R_C HR3.out)
  have r2 := run_bstr (c := c) (Kd.C_below HB.out HB3.out)
  clear hQ3 hB3 HR2 HP HB2
  go_wp2_with fail
  clear r1 r2
  go_loopw [38] (fun v38 w' => ∃ (k : Nat) (xs : List UInt8), k ≤ l.length ∧ v38 = .int .i64 k ∧ Hid (xs.length = l.length) ∧ Hid (byte.R 5 w' w.heap.size (fun _ => True) (.slice A1 l.length c1) xs) ∧ Hid (Kd.R pcK 42 w' w1.heap.size (fun k => w1.heap.size ≤ k) (.slice A2 ps.length c2) ps) ∧ Hid (Kd.R pcK 42 w' w2.heap.size (fun k => w1.heap.size ≤ k) (.slice A3 ps.length c3) ps) ∧ Hid (Below w.heap.size w w')) (fun v38 _ => l.length - (intOf v38).toNat)
  case atStart => exact ⟨0, l, by omega, rfl, rfl, HR3, HP3, HQ3, HB3⟩
  case round =>
    clear HR3 HP3 HQ3 HB3
    obtain ⟨k, xs, hk, rfl, HX, HR, HP, HQ, HBW⟩ := hrel
    by_cases hkl : k < l.length
    · obtain ⟨g, cap, hge, hg, hg1⟩ := (Kd.R_own HR.out).elim fun _ h => h.form (by rw [HX.out]; omega)
      injection hge with hA hlen hcap
      subst hA
      have hgw : g < w1.heap.size := hlt _ rfl
      clear hlen hcap hg1 hlt
      obtain ⟨hcl, hfr⟩ := byte_cell HR.out k hkl
      have hx := xor8 (xs.getD k 0)
      generalize hz : (((xs.getD k 0) ^^^ 255).toNat : Int) = z at *
      have HZ := Lib.hid hz
      clear hz
      generalize ((xs.getD k 0).toNat : Int) = y at *
      go_wp2
      go_roundw
      case rel => exact ⟨k + 1, xs.set k ((xs.getD k 0) ^^^ 255), by omega, by go_num, by show _ = _; rw [List.length_set]; exact HX.out, byte_put HR.out k _ _ HZ.out.symm, Kd.R_far HP.out (p := ⟨g, k, none⟩) (fun k' hk' => by show k' ≠ g; omega) _, Kd.R_far HQ.out (p := ⟨g, k, none⟩) (fun k' hk' => by show k' ≠ g; omega) _, HBW.out.setCell (p := ⟨g, k, none⟩) hg _⟩
      case measure => simp [intOf]; omega
    · obtain rfl : k = l.length := by omega
      clear hlt
      have HSM := Lib.hid (refSame_calls wr A2 c2 A3 c3 ps (Kd.R_reads' HP.out).2.2 (Kd.R_reads' HQ.out).2.2)
      clear HR HP HQ
      go_wp2_with fail
      refine HSM.out.mono ?_
      rintro e w8 ⟨rfl, ⟨m8, rfl⟩⟩
      go_wp2_with fail
      refine (alive_calls _).mono ?_
      rintro e w9 ⟨rfl, hB9⟩
      go_wp2
      go_ret
      exact ⟨rfl, (pw_below_drewN HBW.out m8).trans (hB9.mono HBW.out.size)⟩
end Go.Proofs.Ytgfkdebbdjojmaa.Frag
