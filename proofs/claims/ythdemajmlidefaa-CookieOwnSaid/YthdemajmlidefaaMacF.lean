/- Numbers out of bytes, and the seal's begin, walked. -/
import Derived.Test.YthdemajmlidefaaMacE
import Derived.Laws.Rows
namespace Go.Proofs.Ythdemajmlidefaa.Mac
open Go.RowKit Go.Proofs.YthdemajmlidefaaW.PrintWords Go.Proofs.Ythdemajmlidefaa.Base
set_option linter.unusedVariables false
set_option linter.unusedSimpArgs false

/-- The number of the first so many bytes, the lowest first. -/
def lowN (l : List UInt8) : Nat → UInt64
  | 0 => 0
  | k + 1 => lowN l k ||| shl64 (l.getD k 0) (8 * k)
theorem lowN_succ (l : List UInt8) (k : Nat) : lowN l (k + 1) = lowN l k ||| shl64 (l.getD k 0) (8 * k) := rfl
theorem lowN_zero (l : List UInt8) : lowN l 0 = 0 := rfl
attribute [irreducible] lowN
theorem low_calls (w : World) (A : Option Addr) (c : Nat) (l : List UInt8) (hb : byte.C w A l.length l) (hl : l.length ≤ 8) :
    Calls Try.prog 58 #[.slice A l.length c] w fun e w' => e = .returned (.int .u64 ((lowN l l.length).toNat : Int)) ∧ w' = w := by
  go_enter Try.func58, Try.ntmps58
  go_wp2
  go_loop [3, 8] (fun v3 v8 => ∃ k : Nat, k ≤ l.length ∧ v8 = .int .i64 k ∧ v3 = .int .u64 ((lowN l k).toNat : Int)) (fun _ v8 => l.length - (intOf v8).toNat)
  case atStart => exact ⟨0, Nat.zero_le _, rfl, by rw [lowN_zero]; rfl⟩
  case round =>
    obtain ⟨k, hk, rfl, rfl⟩ := hrel
    by_cases hk1 : k < l.length
    · obtain ⟨ad, rfl, hcb⟩ := byte_at hb k hk1
      have hls := lowN_succ l k
      generalize l.getD k 0 = cb at *
      have e1 : IntKind.u64.wrap (cb.toNat : Int) = (cb.toNat : Int) := by rw [u64w]; have := cb.toNat_lt; omega
      have e2 := shl64_eq cb (8 * k)
      have e3 := or64 (lowN l k) (shl64 cb (8 * k))
      rw [← hls] at e3
      have HLS := Lib.hid hls
      clear hls
      generalize ((shl64 cb (8 * k)).toNat : Int) = si at *
      generalize ((cb.toNat : Nat) : Int) = ci at *
      generalize hz : ((lowN l (k + 1)).toNat : Int) = z at *
      have HZ := Lib.hid hz
      clear hz
      go_wp2
      go_round
      case rel => exact ⟨k + 1, by omega, by go_num, by rw [HZ.out]⟩
      case measure => simp [intOf]; omega
    · obtain rfl : k = l.length := by omega
      go_wp2
      go_ret
      exact ⟨rfl, rfl⟩
theorem refLow_calls (w : World) (A : Option Addr) (c : Nat) (l : List UInt8) (f n : Nat) (i j : Int) (hi : i = f) (hj : j = (f + n : Nat)) (hb : byte.C w A l.length l) (hl : n ≤ 8) (hf : f + n ≤ l.length) :
    Calls Try.prog 50 #[.slice A l.length c, .int .i64 i, .int .i64 j] w fun e w' => e = .returned (.int .u64 ((lowN (l.drop f) n).toNat : Int)) ∧ w' = w := by
  have hlen := hb.2.1
  obtain rfl : i = f := hi
  have hj2 : j = (f : Int) + n := by omega
  clear hj
  subst hj2
  go_enter Try.func50, Try.ntmps50
  go_wp2
  go_loop [7, 8] (fun v7 v8 => ∃ k : Nat, k ≤ n ∧ v8 = .int .i64 ((f : Int) + k) ∧ v7 = .int .u64 ((lowN (l.drop f) k).toNat : Int)) (fun _ v8 => (f + n) - (intOf v8).toNat)
  case atStart => exact ⟨0, Nat.zero_le _, by simp, by rw [lowN_zero]; rfl⟩
  case round =>
    obtain ⟨k, hk, rfl, rfl⟩ := hrel
    by_cases hk1 : k < n
    · obtain ⟨ad, rfl, hcb⟩ := byte_at hb (f + k) (by omega)
      have hls := lowN_succ (l.drop f) k
      have hg : (l.drop f).getD k 0 = l.getD (f + k) 0 := by simp [List.getD_eq_getElem?_getD]
      rw [hg] at hls
      clear hg
      generalize l.getD (f + k) 0 = cb at *
      have e1 : IntKind.u64.wrap (cb.toNat : Int) = (cb.toNat : Int) := by rw [u64w]; have := cb.toNat_lt; omega
      have e2 := shl64_eq cb (8 * k)
      have e3 := or64 (lowN (l.drop f) k) (shl64 cb (8 * k))
      rw [← hls] at e3
      have HLS := Lib.hid hls
      clear hls
      generalize ((shl64 cb (8 * k)).toNat : Int) = si at *
      generalize ((cb.toNat : Nat) : Int) = ci at *
      generalize hz : ((lowN (l.drop f) (k + 1)).toNat : Int) = z at *
      have HZ := Lib.hid hz
      clear hz
      have s1 : ((f : Int) + k - f) = k := by omega
      have b1 : (0 : Int) ≤ (f : Int) + k := by omega
      have b2 : (f : Int) + k < l.length := by omega
      have b3 : ((f : Int) + k).toNat = f + k := by omega
      go_wp2
      go_round
      case rel => exact ⟨k + 1, by omega, by go_num, by rw [HZ.out]⟩
      case measure => simp [intOf]; omega
    · obtain rfl : k = n := by omega
      go_wp2
      go_ret
      exact ⟨rfl, rfl⟩
end Go.Proofs.Ythdemajmlidefaa.Mac
