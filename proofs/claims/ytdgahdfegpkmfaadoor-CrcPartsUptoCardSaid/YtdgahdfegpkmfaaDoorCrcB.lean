/- The walks of the crc package's other functions and of its reference. -/
import Derived.Test.YtdgahdfegpkmfaaDoorCrcA
namespace Go.Proofs.YtdgahdfegpkmfaaDoor.Crc
open Go.RowKit Go.Proofs.YtdgahdfegpkmfaaDoorW.PrintWords Go.Proofs.YtdgahdfegpkmfaaDoor.Base CrcMath
set_option linter.unusedVariables false
set_option linter.unusedSimpArgs false

theorem sum_calls (A : Option Addr) (c : Nat) (parts : List (List UInt8)) (w : World) (ht : Table w) (hp : bytesK.C w A parts.length parts) :
    Calls Tryd.prog 9 #[.slice A parts.length c] w fun e w' => e = .returned (.int .u32 (sumL parts.flatten : Nat)) ∧ w = w' := by
  have h := extend_calls 4294967295 (by decide) A c parts w ht hp
  have hx := ext_lt (r := 4294967295) (by decide) parts.flatten
  have hS := sumL_eq parts.flatten
  have hm : IntKind.u32.max = 4294967295 := rfl
  have hs : IntKind.u32.signed = false := rfl
  generalize ext 4294967295 parts.flatten = x at *
  have e1 : bits .xor .u32 4294967295 (x : Int) = ((sumL parts.flatten : Nat) : Int) := by rw [hS, Nat.xor_comm]; exact xor32 4294967295 x (by decide) hx
  clear hS
  generalize sumL parts.flatten = y at *
  go_enter Tryd.func9, Tryd.ntmps9
  go_wp2_with (go_at_call 11; refine h.mono ?_; rintro e w' ⟨rfl, rfl⟩)
  go_ret
  exact ⟨rfl, rfl⟩
theorem and1 (a : Nat) (ha : a < 4294967296) : bits .and .u32 (a : Int) 1 = ((a % 2 : Nat) : Int) := by
  have := bits_mask .u32 32 (by decide) (fun n h0 h1 => by rw [IntKind.wrap_u32]; omega) 1 (by decide) (a : Int) (by omega) (by omega)
  rw [show (2 : Int) ^ 1 - 1 = 1 from rfl] at this
  rw [this]
  rfl
theorem bit_round (y : Nat) (hy : y < 4294967296) : ∃ y1 : Nat, Hid (bitSteps 1 y = y1) ∧ (y % 2 = 1 → bits .xor .u32 ((y : Int) / 2) 2197175160 = (y1 : Int)) ∧ (y % 2 = 0 → (y : Int) / 2 = (y1 : Int)) := by
  refine ⟨bitSteps 1 y, rfl, fun h => ?_, fun h => ?_⟩
  · rw [bitSteps_one, if_pos h, poly_eq]
    exact xor32 (y / 2) 2197175160 (by omega) (by decide)
  · rw [bitSteps_one, if_neg (by omega)]
    rfl
theorem refExtend_calls (r : Nat) (hr : r < 4294967296) (A : Option Addr) (c : Nat) (l : List UInt8) (w : World) (hb : byte.C w A l.length l) :
    Calls Tryd.prog 12 #[.int .u32 (r : Int), .slice A l.length c] w fun e w' => e = .returned (.int .u32 (ext r l : Nat)) ∧ w = w' := by
  have hlen := hb.2.1
  go_enter Tryd.func12, Tryd.ntmps12
  go_wp2
  go_loop [0, 5] (fun v0 v5 => ∃ k : Nat, k ≤ l.length ∧ v5 = .int .i64 k ∧ v0 = .int .u32 (ext r (l.take k) : Nat)) (fun _ i => l.length - (intOf i).toNat)
  case atStart => exact ⟨0, Nat.zero_le _, rfl, rfl⟩
  case round =>
    obtain ⟨k, hk, rfl, rfl⟩ := hrel
    by_cases hlt : k < l.length
    · obtain ⟨ad1, rfl, hy⟩ := byte_at hb k hlt
      generalize hR1 : ext r (l.take k) = r1 at *
      have hr1 : r1 < 4294967296 := hR1 ▸ ext_lt hr _
      have HR1 := Lib.hid hR1
      clear hR1
      have HB := Lib.hid (byteStep_eq r1 (l.getD k 0))
      generalize hC : l.getD k 0 = cb at *
      have HC := Lib.hid hC
      clear hC
      have hcb : cb.toNat < 256 := cb.toNat_lt
      have e1 : bits .xor .u32 (r1 : Int) (cb.toNat : Int) = ((r1 ^^^ cb.toNat : Nat) : Int) := xor32 _ _ hr1 (by omega)
      have hx : r1 ^^^ cb.toNat < 4294967296 := Nat.xor_lt_two_pow (n := 32) hr1 (by omega)
      generalize r1 ^^^ cb.toNat = x at *
      generalize cb.toNat = cn at *
      go_wp2
      go_loop [0, 6] (fun v0 v6 => ∃ j : Nat, j ≤ 8 ∧ v6 = .int .i64 j ∧ v0 = .int .u32 (bitSteps j x : Nat)) (fun _ i => 8 - (intOf i).toNat)
      case atStart => exact ⟨0, by omega, rfl, by rw [bitSteps_nil]⟩
      case round =>
        obtain ⟨j, hj, rfl, rfl⟩ := hrel
        have hs := bitSteps_add j 1 x
        have hx1 : bitSteps j x < 4294967296 := bitSteps_lt hx
        generalize hY : bitSteps j x = y at *
        have HY := Lib.hid hY
        clear hY
        have HS := Lib.hid hs
        clear hs
        by_cases hj8 : j < 8
        · obtain ⟨y1, hy1, ho, he⟩ := bit_round y hx1
          have ho' := ho
          have hev : y % 2 = 1 ∨ y % 2 = 0 := by omega
          have e2 : bits .and .u32 (y : Int) 1 = ((y % 2 : Nat) : Int) := and1 y hx1
          rcases hev with hev | hev
          · have e3 : ((bits .and .u32 (y : Int) 1) == 1) = true := by rw [e2, hev]; rfl
            have e4 := ho hev
            clear ho ho' he e2
            have HE := Lib.hid hev
            clear hev
            go_wp2
            go_round
            case rel => exact ⟨j + 1, by omega, by go_num, by rw [HS.out, ← hy1.out]⟩
            case measure => simp [intOf]; omega
          · have e3 : ((bits .and .u32 (y : Int) 1) == 1) = false := by rw [e2, hev]; rfl
            have e4 := he hev
            clear ho ho' he e2
            have HE := Lib.hid hev
            clear hev
            go_wp2
            go_round
            case rel => exact ⟨j + 1, by omega, by go_num, by rw [HS.out, ← hy1.out]⟩
            case measure => simp [intOf]; omega
        · obtain rfl : j = 8 := by omega
          go_wp2
          go_round
          case rel => exact ⟨k + 1, by omega, by go_num, by rw [ext_take_succ _ _ _ hlt, HR1.out, HC.out, HB.out, HY.out]⟩
          case measure => simp [intOf]; omega
    · obtain rfl : k = l.length := by omega
      go_wp2
      go_ret
      exact ⟨rfl, rfl⟩
theorem refSum_calls (A : Option Addr) (c : Nat) (l : List UInt8) (w : World) (hb : byte.C w A l.length l) :
    Calls Tryd.prog 10 #[.slice A l.length c] w fun e w' => e = .returned (.int .u32 (sumL l : Nat)) ∧ w = w' := by
  have h := refExtend_calls 4294967295 (by decide) A c l w hb
  have hx := ext_lt (r := 4294967295) (by decide) l
  have hS := sumL_eq l
  generalize ext 4294967295 l = x at *
  have e1 : bits .xor .u32 (x : Int) 4294967295 = ((sumL l : Nat) : Int) := by rw [hS]; exact xor32 x 4294967295 hx (by decide)
  clear hS
  generalize sumL l = y at *
  go_enter Tryd.func10, Tryd.ntmps10
  go_wp2_with (go_at_call 12; refine h.mono ?_; rintro e w' ⟨rfl, rfl⟩)
  go_ret
  exact ⟨rfl, rfl⟩
theorem Table.below {w w1 : World} (ht : Table w) (hb : Below w.heap.size w w1) : Table w1 := ⟨fun i hi => pw_cell_below hb (ht.out i hi)⟩
end Go.Proofs.YtdgahdfegpkmfaaDoor.Crc
