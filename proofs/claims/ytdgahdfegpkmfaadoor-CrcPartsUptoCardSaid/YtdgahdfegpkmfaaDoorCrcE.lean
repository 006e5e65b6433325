/- The walks of the reference's Put and Check. -/
import Derived.Test.YtdgahdfegpkmfaaDoorCrcD
namespace Go.Proofs.YtdgahdfegpkmfaaDoor.Crc
open Go.RowKit Go.Proofs.YtdgahdfegpkmfaaDoorW.PrintWords Go.Proofs.YtdgahdfegpkmfaaDoor.Base CrcMath
set_option linter.unusedVariables false
set_option linter.unusedSimpArgs false

theorem refPut_brief (A : Option Addr) (c : Nat) (l : List UInt8) (w : World) (hl : l.length < 12) :
    Calls Tryd.prog 15 #[.slice A l.length c] w fun e w' => e = .returned (.tuple #[.slice none 0 0, .int .i64 20]) ∧ w = w' := by
  go_enter Tryd.func15, Tryd.ntmps15
  go_wp2
  go_ret2
  exact ⟨rfl, rfl⟩
theorem refPut_calls (A : Option Addr) (c : Nat) (l : List UInt8) (w : World) (hb : byte.C w A l.length l) (hc : l.length ≤ c) (hm : l.length ≤ 140737488355328) (hl : 12 ≤ l.length) :
    Calls Tryd.prog 15 #[.slice A l.length c] w (PutDone (putL l) w) := by
  have hO : byte.R 5 (w.alloc (.cells #[] 5)) w.heap.size (fun _ => True) (.slice (some ⟨w.heap.size, 0, none⟩) 0 0) [] := Kd.R_of_own (own_lit_of (enc := fun b : UInt8 => Value.int .u8 (b.toNat : Int)) w w.heap.size 5 [] (Nat.le_refl _) (by simp)) (fun _ _ => trivial)
  have HO := Lib.hid hO
  clear hO
  have hs : sumL (noSum l) < 4294967296 := sumL_lt _
  have hS := Lib.hid (putL_eq l)
  generalize hsv : sumL (noSum l) = s at *
  have HSV := Lib.hid hsv
  clear hsv
  generalize putL l = q at *
  go_enter Tryd.func15, Tryd.ntmps15
  go_wp2_with (at_builtin; go_must (refine Kd.R_append_row (fun b : UInt8 => .int .u8 (b.toNat : Int)) (0 : UInt8) (w0 := w) w.heap.size rfl _ _ 22 5 _ 1 rfl Tryd.underlying22 info_u8 rfl (by decide) _ [] l A l.length c (fun _ => True) rfl rfl (fun _ _ => trivial) HO.out (Kd.C_alloc hb _) ((Below.refl _ _).alloc (Nat.le_refl _) _) (by simp) (by simpa using hm) ?_); intro v1 w1 hR1 hB1 _ _; clear hb)
  rw [List.nil_append] at hR1
  have hR : byte.R 5 w1 w.heap.size (fun _ => True) v1 l := hR1
  obtain ⟨g, cap, rfl, hg, hg1⟩ := (Kd.R_own hR).elim fun _ h => h.form (by omega)
  clear hR1 hg1
  go_loopw [5] (fun v5 w' => ∃ k : Nat, k ≤ 4 ∧ v5 = .int .i64 ((8 + k : Nat) : Int) ∧ byte.R 5 w' w.heap.size (fun _ => True) (.slice (some ⟨g, 0, none⟩) l.length cap) (puts l 0 k) ∧ Below w.heap.size w w') (fun v5 _ => 12 - (intOf v5).toNat)
  case atStart => exact ⟨0, by omega, rfl, hR, hB1⟩
  case round =>
    clear hR hB1
    obtain ⟨k, hk, rfl, hR, hB⟩ := hrel
    have hpl := puts_length l 0 k
    rcases (by omega : k = 0 ∨ k = 1 ∨ k = 2 ∨ k = 3 ∨ k = 4) with rfl | rfl | rfl | rfl | rfl
    · obtain ⟨hcl, hfr⟩ := byte_cell hR 8 (by omega)
      go_wp2
      go_roundw
      case rel => exact ⟨1, by omega, rfl, byte_put hR 8 _ _ (by simp), hB.setCell hg _⟩
      case measure => simp [intOf]
    · obtain ⟨hcl, hfr⟩ := byte_cell hR 9 (by omega)
      go_wp2
      go_roundw
      case rel => exact ⟨2, by omega, rfl, byte_put hR 9 _ _ (by simp), hB.setCell hg _⟩
      case measure => simp [intOf]
    · obtain ⟨hcl, hfr⟩ := byte_cell hR 10 (by omega)
      go_wp2
      go_roundw
      case rel => exact ⟨3, by omega, rfl, byte_put hR 10 _ _ (by simp), hB.setCell hg _⟩
      case measure => simp [intOf]
    · obtain ⟨hcl, hfr⟩ := byte_cell hR 11 (by omega)
      go_wp2
      go_roundw
      case rel => exact ⟨4, by omega, rfl, byte_put hR 11 _ _ (by simp), hB.setCell hg _⟩
      case measure => simp [intOf]
    · rw [puts_noSum l hl] at hR
      obtain ⟨A2, c2, hv2, hle2, hC2⟩ := Kd.R_reads hR
      injection hv2 with hA2 hn2 hc2
      subst hA2
      subst hc2
      have hsum := refSum_calls (some ⟨g, 0, none⟩) cap (noSum l) wr hC2
      rw [HSV.out] at hsum
      have hbl := noSum_length l hl
      rw [hbl] at hsum
      clear hbl hpl hC2 hle2 hn2
      go_wp2_with fail
      refine hsum.mono ?_
      rintro e w' ⟨rfl, rfl⟩
      go_wp2
      go_loopw [7] (fun v7 w' => ∃ k : Nat, k ≤ 4 ∧ v7 = .int .i64 ((8 + k : Nat) : Int) ∧ byte.R 5 w' w.heap.size (fun _ => True) (.slice (some ⟨g, 0, none⟩) l.length cap) (puts (noSum l) s k) ∧ Below w.heap.size w w') (fun v7 _ => 12 - (intOf v7).toNat)
      case atStart => exact ⟨0, by omega, rfl, hR, hB⟩
      case round =>
        clear hR hB hsum
        obtain ⟨k, hk, rfl, hR, hB⟩ := hrel
        have hpl := puts_length (noSum l) s k
        rcases (by omega : k = 0 ∨ k = 1 ∨ k = 2 ∨ k = 3 ∨ k = 4) with rfl | rfl | rfl | rfl | rfl
        · obtain ⟨hcl, hfr⟩ := byte_cell hR 8 (by omega)
          go_wp2
          go_roundw
          case rel => exact ⟨1, by omega, rfl, byte_put hR 8 _ _ (by rw [show (8 * 0) = 0 from rfl, ofNat_shr, show ((2 ^ 0 : Nat) : Int) = 1 from rfl]; omega), hB.setCell hg _⟩
          case measure => simp [intOf]
        · obtain ⟨hcl, hfr⟩ := byte_cell hR 9 (by omega)
          go_wp2
          go_roundw
          case rel => exact ⟨2, by omega, rfl, byte_put hR 9 _ _ (by rw [show (8 * 1) = 8 from rfl, ofNat_shr, show ((2 ^ 8 : Nat) : Int) = 256 from rfl]), hB.setCell hg _⟩
          case measure => simp [intOf]
        · obtain ⟨hcl, hfr⟩ := byte_cell hR 10 (by omega)
          go_wp2
          go_roundw
          case rel => exact ⟨3, by omega, rfl, byte_put hR 10 _ _ (by rw [show (8 * 2) = 16 from rfl, ofNat_shr, show ((2 ^ 16 : Nat) : Int) = 65536 from rfl]), hB.setCell hg _⟩
          case measure => simp [intOf]
        · obtain ⟨hcl, hfr⟩ := byte_cell hR 11 (by omega)
          go_wp2
          go_roundw
          case rel => exact ⟨4, by omega, rfl, byte_put hR 11 _ _ (by rw [show (8 * 3) = 24 from rfl, ofNat_shr, show ((2 ^ 24 : Nat) : Int) = 16777216 from rfl]; omega), hB.setCell hg _⟩
          case measure => simp [intOf]
        · go_wp2
          go_ret2
          refine ⟨_, rfl, ?_, hB⟩
          rw [hS.out, ← puts_again l 0 s hl, puts_noSum l hl]
          exact hR
theorem refCheck_calls (A : Option Addr) (c : Nat) (l : List UInt8) (w : World) (hb : byte.C w A l.length l) (hc : l.length ≤ c) (hm : l.length ≤ 140737488355328) :
    Calls Tryd.prog 17 #[.slice A l.length c] w fun e w' => e = .returned (.int .i64 (checkL l)) ∧ Below w.heap.size w w' := by
  by_cases hl : l.length < 12
  · have h := refPut_brief A c l w hl
    have hL : checkL l = 20 := if_pos hl
    rw [hL]
    go_enter Tryd.func17, Tryd.ntmps17
    go_wp2_with fail
    refine h.mono ?_
    rintro e w' ⟨rfl, rfl⟩
    go_wp2
    go_ret
    exact ⟨rfl, Below.refl _ _⟩
  · have h := refPut_calls A c l w hb hc hm (by omega)
    have hL : checkL l = if putL l = l then 0 else 21 := if_neg hl
    rw [hL]
    have hlen := putL_length l
    generalize putL l = q at *
    by_cases hq : q = l
    · rw [if_pos hq]
      have hs := bstr_eq q l
      rw [decide_eq_true hq] at hs
      have HL := Lib.hid hlen
      clear hq hlen hL
      go_enter Tryd.func17, Tryd.ntmps17
      go_wp2_with fail
      refine h.mono ?_
      rintro e w1 ⟨v, rfl, hR, hB⟩
      obtain ⟨A1, c1, rfl, hle, hC⟩ := Kd.R_reads hR
      have r1 := run_bstr (c := c1) hC
      have r2 := run_bstr (c := c) (Kd.C_below hb hB)
      clear h hR hb hC
      go_wp2
      go_ret
      exact ⟨rfl, hB⟩
    · rw [if_neg hq]
      have hs := bstr_eq q l
      rw [decide_eq_false hq] at hs
      have HL := Lib.hid hlen
      clear hq hlen hL
      go_enter Tryd.func17, Tryd.ntmps17
      go_wp2_with fail
      refine h.mono ?_
      rintro e w1 ⟨v, rfl, hR, hB⟩
      obtain ⟨A1, c1, rfl, hle, hC⟩ := Kd.R_reads hR
      have r1 := run_bstr (c := c1) hC
      have r2 := run_bstr (c := c) (Kd.C_below hb hB)
      clear h hR hb hC
      go_wp2
      go_ret
      exact ⟨rfl, hB⟩
end Go.Proofs.YtdgahdfegpkmfaaDoor.Crc
