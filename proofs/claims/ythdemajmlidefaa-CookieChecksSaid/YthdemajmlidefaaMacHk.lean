/- The bytes of a seal in the reference; seals of bytes; which bytes are a seal's: walked. -/
import Derived.Test.YthdemajmlidefaaMacG
import Derived.StillTailTactics
import Derived.WalkSpells
import Derived.Deep.RegionWith
namespace Go.Proofs.Ythdemajmlidefaa.Mac
open Go.RowKit Go.Proofs.YthdemajmlidefaaW.PrintWords Go.Proofs.Ythdemajmlidefaa.Base
set_option linter.unusedVariables false
set_option linter.unusedSimpArgs false

theorem textL_succ (x : UInt64) (k : Nat) (h : k < 8) : (textL x).take (k + 1) = (textL x).take k ++ [UInt8.ofNat (x.toNat >>> (8 * k))] := by
  match k, h with
  | 0, _ | 1, _ | 2, _ | 3, _ | 4, _ | 5, _ | 6, _ | 7, _ => rfl
theorem refText_calls (w : World) (x : UInt64) : Calls Try.prog 15 #[.int .u64 (x.toNat : Int)] w (RetR byte 5 (textL x) w) := by
  go_enter Try.func15, Try.ntmps15
  go_wp2
  go_loopw [3, 4] (fun v3 v4 w' => ∃ k : Nat, k ≤ 8 ∧ v4 = .int .i64 k ∧ byte.R 5 w' w.heap.size (fun _ => True) v3 ((textL x).take k) ∧ Below w.heap.size w w') (fun _ v4 _ => 8 - (intOf v4).toNat)
  case atStart => exact ⟨0, by omega, rfl, Kd.R_nil _ _ _ _ _, Below.refl _ _⟩
  case round =>
    obtain ⟨k, hk, rfl, hR, hB⟩ := hrel
    by_cases hk8 : k < 8
    · have hx := byte_shr x (8 * k)
      have ht := Lib.hid (textL_succ x k hk8)
      have hl : ((textL x).take k).length ≤ 8 := by rw [List.length_take]; exact Nat.min_le_right _ _
      obtain ⟨Av, cv, rfl⟩ := Kd.R_slice hR
      generalize (textL x).take k = xs at *
      generalize UInt8.ofNat (x.toNat >>> (8 * k)) = b at *
      generalize hz : ((b.toNat : Nat) : Int) = z at *
      have HZ := Lib.hid hz
      clear hz
      generalize ((x.toNat : Nat) : Int) = xi at *
      have HR := Lib.hid hR
      have HB := Lib.hid hB
      clear hR hB
      go_wp2_with (at_builtin; go_must (refine Kd.R_append byte (w0 := w) w.heap.size rfl _ _ 28 5 _ 1 rfl Try.underlying28 info_u8 rfl (by decide) (by decide) (.slice Av xs.length cv) xs b [.int .u8 z] (fun _ => True) (fun _ => False) rfl rfl (by rw [← HZ.out]; exact K_byte wr b) (fun _ h => h.elim) (fun _ _ => trivial) HR.out HB.out HB.out.size (by omega) ?_); intro v1 w1 hR1 hB1 _ _)
      go_roundw
      case rel => exact ⟨k + 1, by omega, by go_num, by rw [ht.out]; exact hR1, hB1⟩
      case measure => simp [intOf]; omega
    · obtain rfl : k = 8 := by omega
      go_wp2
      go_ret
      exact ⟨_, rfl, hR, hB⟩
theorem same_calls (w : World) (A : Option Addr) (c : Nat) (l : List UInt8) (x : UInt64) (hb : byte.C w A l.length l) :
    Calls Try.prog 25 #[.slice A l.length c, .int .u64 (x.toNat : Int)] w fun e w' => e = .returned (.bool (decide (l = textL x))) ∧ Below w.heap.size w w' := by
  have ht := fun W : World => text_calls W x
  have hs := bstr_eq l (textL x)
  generalize textL x = q at *
  generalize decide (l = q) = r at *
  have HT := Lib.hid ht
  have HB := Lib.hid hb
  clear ht hb
  go_enter Try.func25, Try.ntmps25
  go_upto_region 1 with (fail)
  have r0 := run_bstr (c := c) (Kd.C_drew HB.out)
  go_region_with (go_at_call 21; refine (HT.out _).mono ?_; rintro e w1 ⟨v, rfl, hR, hB⟩; obtain ⟨A1, c1, rfl, hle, hC⟩ := Kd.R_reads hR; have r1 := run_bstr (c := c1) hC; have r2 := run_bstr (c := c) (Kd.C_below (Kd.C_drew HB.out) hB); clear hR hC)
  all_goals
    go_wp2
    go_ret
    exact ⟨rfl, (below_drew (Below.refl w.heap.size w)).trans hB⟩
theorem C_block {w : World} {ad : Addr} {n : Nat} {l : List UInt8} (h : byte.C w (some ad) n l) (hn : 0 < n) : ad.block < w.heap.size := by
  obtain ⟨ad', e, hc⟩ := byte_at h 0 hn
  injection e with e
  subst e
  have := World.block_lt_of_cell? w _ hc
  rwa [add_block] at this
/-- The seal of bytes. -/
def bytesS (k l : List UInt8) : UInt64 := sealS (putL ⟨startQ k, 0, 0⟩ l)
end Go.Proofs.Ythdemajmlidefaa.Mac
