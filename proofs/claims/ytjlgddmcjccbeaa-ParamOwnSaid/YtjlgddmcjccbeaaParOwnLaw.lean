/- The statement ParamOwn, walked. -/
import Derived.Test.YtjlgddmcjccbeaaParDecLaw
namespace Go.Proofs.Ytjlgddmcjccbeaa.ParDec
open Go.RowKit Go.Proofs.YtjlgddmcjccbeaaW.PrintWords Go.Proofs.Ytjlgddmcjccbeaa.PParamCauses Go.Proofs.Ytjlgddmcjccbeaa.ParCauses Go.Proofs.Ytjlgddmcjccbeaa.Base
set_option linter.unusedVariables false
set_option linter.unusedSimpArgs false
theorem paramOwn_row {w : World} (A : Option Addr) (c : Nat) (l : List UInt8) (hb : byte.C w A l.length l) (hc : l.length ≤ c) (hm : c ≤ 140737488351232) :
    Calls Try.prog 8 #[.slice A l.length c] w fun e w' => e = .returned (.bool true) ∧ Below w.heap.size w w' := by
  have hn : l.length ≤ 140737488351232 := by omega
  have hO : byte.R 5 (w.alloc (.cells #[] 5)) w.heap.size (fun _ => True) (.slice (some ⟨w.heap.size, 0, none⟩) 0 0) [] := Kd.R_of_own (own_lit_of (enc := fun b : UInt8 => Value.int .u8 (b.toNat : Int)) w w.heap.size 5 [] (Nat.le_refl _) (by simp)) (fun _ _ => trivial)
  have HO := Lib.hid hO
  clear hO
  have HD := Lib.hid (fun (W : World) (A1 : Option Addr) (c1 : Nat) (h : byte.C W A1 l.length l) (hle : l.length ≤ c1) => decode_calls W A1 l c1 h hle (by omega))
  have HRD := Lib.hid (fun (W : World) (h : byte.C W A l.length l) => refDecode_calls W A l c h hc (by omega))
  unfold DecPost at HD
  generalize (decD l).2.1 = at_ at *
  generalize (decD l).2.2 = code at *
  generalize (decD l).1 = ps at *
  have HB := Lib.hid hb
  have hcc : (code != code) = false := by simp
  have hss : ((bstr l).toList != (bstr l).toList) = false := by simp
  clear hb
  go_enter Try.func8, Try.ntmps8
  go_wp2_with (at_builtin; go_must (refine Kd.R_append_row (fun b : UInt8 => .int .u8 (b.toNat : Int)) (0 : UInt8) (w0 := w) w.heap.size rfl _ _ 23 5 _ 1 rfl Try.underlying23 info_u8 rfl (by decide) _ [] l A l.length c (fun _ => True) rfl rfl (fun _ _ => trivial) HO.out (Kd.C_alloc HB.out _) ((Below.refl _ _).alloc (Nat.le_refl _) _) (by simp) (by simpa using (show l.length ≤ 140737488355328 by omega)) ?_); intro v1 w1 hR1 hB1 _ _)
  rw [List.nil_append] at hR1
  have hR : byte.R 5 w1 w.heap.size (fun _ => True) v1 l := hR1
  clear hR1
  obtain ⟨A1, c1, rfl, hle1, hC1⟩ := Kd.R_reads hR
  have hlt : ∀ ad, A1 = some ad → ad.block < w1.heap.size := fun ad e => by
    subst e
    exact R_lt_block hR
  refine (HD.out w1 A1 c1 hC1 hle1).mono ?_
  rintro e w2 ⟨v2, rfl, hP, hB2⟩
  obtain ⟨A2, c2, rfl⟩ := Kd.R_slice hP
  have HR2 := Lib.hid (Kd.R_below hR hB2)
  have HP := Lib.hid hP
  have HB2 := Lib.hid (below_then hB1 hB1.size hB2)
  have hz2 := hB2.size
  clear hC1 hR hP hB1 hB2
  go_wp2_with fail
  refine (HRD.out w2 (Kd.C_below HB.out HB2.out)).mono ?_
  rintro e w3 ⟨A3, c3, rfl, hQ3, hB3⟩
  have HQ3 := Lib.hid (Kd.R_mono (Kd.R_bound hQ3) (ok' := fun k => w1.heap.size ≤ k) (fun k hk => Nat.le_trans hz2 hk.2.1))
  have HR3 := Lib.hid (Kd.R_below HR2.out hB3)
  have HP3 := Lib.hid (Kd.R_mono (Kd.R_bound (Kd.R_below HP.out hB3)) (ok' := fun k => w1.heap.size ≤ k) (fun k hk => hk.2.1))
  have HB3 := Lib.hid (below_then HB2.out HB2.out.size hB3)
  have r1 := run_bstr (c := c1) (R_C HR3.out)
  have r2 := run_bstr (c := c) (Kd.C_below HB.out HB3.out)
  clear hQ3 hB3 HR2 HP HB2
  go_wp2_with fail
  clear r1 r2
  go_loopw [38] (fun v38 w' => ∃ (k : Nat) (xs : List UInt8), k ≤ l.length ∧ v38 = .int .i64 k ∧ Hid (xs.length = l.length) ∧ Hid (byte.R 5 w' w.heap.size (fun _ => True) (.slice A1 l.length c1) xs) ∧ Hid (Kd.R k36 36 w' w1.heap.size (fun k => w1.heap.size ≤ k) (.slice A2 ps.length c2) ps) ∧ Hid (Kd.R k36 36 w' w2.heap.size (fun k => w1.heap.size ≤ k) (.slice A3 ps.length c3) ps) ∧ Hid (Below w.heap.size w w')) (fun v38 _ => l.length - (intOf v38).toNat)
  case atStart => exact ⟨0, l, by omega, rfl, rfl, HR3, HP3, HQ3, HB3⟩
  case round =>
    clear HR3 HP3 HQ3 HB3
    obtain ⟨k, xs, hk, rfl, HX, HR, HP, HQ, HBW⟩ := hrel
    by_cases hkl : k < l.length
    · obtain ⟨g, cap, hge, hg, hg1⟩ := (Kd.R_own HR.out).elim fun _ h => h.form (by rw [HX.out]; omega)
      injection hge with hA hlen hcap
      subst hA
      have hgw : g < w1.heap.size := hlt _ rfl
      clear hlen hcap hg1 hlt
      obtain ⟨hcl, hfr⟩ := byte_cell HR.out k hkl
      go_wp2
      go_roundw
      case rel => exact ⟨k + 1, xs.set k 0, by omega, by go_num, by show _ = _; rw [List.length_set]; exact HX.out, byte_put HR.out k _ 0 rfl, Kd.R_far HP.out (p := ⟨g, k, none⟩) (fun k' hk' => by show k' ≠ g; omega) _, Kd.R_far HQ.out (p := ⟨g, k, none⟩) (fun k' hk' => by show k' ≠ g; omega) _, HBW.out.setCell (p := ⟨g, k, none⟩) hg _⟩
      case measure => simp [intOf]; omega
    · obtain rfl : k = l.length := by omega
      clear hlt
      have HSM := Lib.hid (same_calls wr A2 c2 A3 c3 ps (Kd.R_reads' HP.out).2.2 (Kd.R_reads' HQ.out).2.2)
      clear HR HP HQ
      go_wp2_with fail
      refine HSM.out.mono ?_
      rintro e w8 ⟨rfl, ⟨m8, rfl⟩⟩
      go_wp2_with fail
      refine (alive_calls _).mono ?_
      rintro e w9 ⟨rfl, hB9⟩
      go_wp2
      go_ret
      exact ⟨rfl, (pw_below_drewN HBW.out m8).trans (hB9.mono HBW.out.size)⟩
end Go.Proofs.Ytjlgddmcjccbeaa.ParDec
