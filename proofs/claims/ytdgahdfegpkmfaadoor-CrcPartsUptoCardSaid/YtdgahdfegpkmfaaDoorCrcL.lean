/- The walk of the statement CrcParts. -/
import Derived.Test.YtdgahdfegpkmfaaDoorCrcK
namespace Go.Proofs.YtdgahdfegpkmfaaDoor.Crc
open Go.RowKit Go.Proofs.YtdgahdfegpkmfaaDoorW.PrintWords Go.Proofs.YtdgahdfegpkmfaaDoor.Base CrcMath
set_option linter.unusedVariables false
set_option linter.unusedSimpArgs false

theorem flatten_take_one (l : List (List UInt8)) (k : Nat) (h : k < l.length) : (l.take (k + 1)).flatten = (l.take k).flatten ++ l.getD k [] := by
  rw [List.take_succ_eq_append_getElem h, List.flatten_append, getD_lt _ _ _ h]
  simp
theorem flatten_take_le (l : List (List UInt8)) (k : Nat) : (l.take k).flatten.length ≤ l.flatten.length := by
  have := congrArg List.length (congrArg List.flatten (List.take_append_drop k l))
  rw [List.flatten_append, List.length_append] at this
  omega
theorem crcParts_row {w : World} (A : Option Addr) (c : Nat) (ps : List (List UInt8)) (hp : bytesK.C w A ps.length ps) (hc : ps.length ≤ c) (hm' : ps.flatten.length + ps.length ≤ 1048576) (ht : Table w) :
    Calls Tryd.prog 4 #[.slice A ps.length c] w fun e w' => e = .returned (.bool true) ∧ Below w.heap.size w w' := by
  have hm : ps.flatten.length ≤ 1048576 := by omega
  clear hm' hc
  have hlen := hp.2.1
  go_enter Tryd.func4, Tryd.ntmps4
  go_wp2
  go_loopw [3, 4] (fun v3 v4 w' => ∃ k : Nat, k ≤ ps.length ∧ v4 = .int .i64 k ∧ byte.R 5 w' w.heap.size (fun _ => True) v3 (ps.take k).flatten ∧ Below w.heap.size w w') (fun _ v4 _ => ps.length - (intOf v4).toNat)
  case atStart => exact ⟨0, by omega, rfl, Kd.R_nil _ _ _ _ _, Below.refl _ _⟩
  case round =>
    obtain ⟨k, hk, rfl, hR, hB⟩ := hrel
    by_cases hlt : k < ps.length
    · obtain ⟨ad, A0, c0, rfl, hx, hl0, hb⟩ := bytes_at (Kd.C_below hp hB) k hlt
      have hf := flatten_take_one ps k hlt
      have hfl := flatten_take_le ps (k + 1)
      rw [hf, List.length_append] at hfl
      have HF := Lib.hid hf
      obtain ⟨Av, cv, rfl⟩ := Kd.R_slice hR
      generalize ps.getD k [] = p at *
      generalize (ps.take k).flatten = xs at *
      have hlen0 := hb.2.1
      have HR := Lib.hid hR
      have HB := Lib.hid hB
      have HP := Lib.hid hb
      have HFL := Lib.hid hfl
      clear hR hB hb hf hfl
      go_wp2_with (at_builtin; go_must (refine Kd.R_append_row (fun b : UInt8 => .int .u8 (b.toNat : Int)) (0 : UInt8) (w0 := w) w.heap.size rfl _ _ 22 5 _ 1 rfl Tryd.underlying22 info_u8 rfl (by decide) _ xs p A0 p.length c0 (fun _ => True) rfl rfl (fun _ _ => trivial) HR.out HP.out HB.out HB.out.size (by have := HFL.out; omega) ?_); intro v1 w1 hR1 hB1 _ _)
      go_roundw
      case rel => exact ⟨k + 1, by omega, by go_num, by rw [HF.out]; exact hR1, hB1⟩
      case measure => simp [intOf]; omega
    · obtain rfl : k = ps.length := by omega
      rw [List.take_length] at hR
      obtain ⟨Av, cv, rfl, hle, hC⟩ := Kd.R_reads hR
      have HT := Lib.hid (ht.below hB)
      have HP := Lib.hid (Kd.C_below hp hB)
      have h1 := sum_calls A c ps wr HT.out HP.out
      have h2 := refSum_calls Av cv ps.flatten wr hC
      have h3 := extend_calls 7 (by decide) A c ps wr HT.out HP.out
      have h4 := refExtend_calls 7 (by decide) Av cv ps.flatten wr hC
      have h5 := awake_calls wr HT.out
      generalize ps.flatten = xs at *
      generalize sumL xs = s at *
      generalize ext 7 xs = x at *
      have HS := Lib.hid (And.intro h1 (And.intro h2 (And.intro h3 (And.intro h4 h5))))
      clear h1 h2 h3 h4 h5 hR hC ht hp
      go_wp2_with fail
      refine HS.out.1.mono ?_
      rintro e w1 ⟨rfl, rfl⟩
      go_wp2_with fail
      refine HS.out.2.1.mono ?_
      rintro e w1 ⟨rfl, rfl⟩
      go_wp2_with fail
      refine HS.out.2.2.1.mono ?_
      rintro e w1 ⟨rfl, rfl⟩
      go_wp2_with fail
      refine HS.out.2.2.2.1.mono ?_
      rintro e w1 ⟨rfl, rfl⟩
      go_wp2_with fail
      refine HS.out.2.2.2.2.mono ?_
      rintro e w1 ⟨rfl, hB1⟩
      go_wp2
      go_ret
      exact ⟨rfl, below_then hB hB.size hB1⟩
end Go.Proofs.YtdgahdfegpkmfaaDoor.Crc
