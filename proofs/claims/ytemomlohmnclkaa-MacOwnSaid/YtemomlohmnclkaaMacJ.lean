/- A seal that is known; the statement MacBytes: walked. -/
import Derived.Test.YtemomlohmnclkaaMacI
namespace Go.Proofs.Ytemomlohmnclkaa.Mac
open Go.RowKit Go.Proofs.YtemomlohmnclkaaW.PrintWords Go.Proofs.Ytemomlohmnclkaa.Base
set_option linter.unusedVariables false
set_option linter.unusedSimpArgs false

def awK : Nat → List UInt8
  | 0 => List.replicate 16 0
  | i + 1 => (awK i).set i (UInt8.ofNat i)
def awR (i : Nat) : List UInt8 := ((List.range i).take 15).map UInt8.ofNat
theorem awK_length (i : Nat) : (awK i).length = 16 := by
  induction i with
  | zero => rfl
  | succ i ih => simp [awK, ih]
theorem awR_succ (i : Nat) (h : i < 15) : awR (i + 1) = awR i ++ [UInt8.ofNat i] := by
  unfold awR
  rw [List.take_of_length_le (by simp; omega), List.take_of_length_le (by simp; omega), List.range_succ, List.map_append]
  rfl
theorem awR_last (i : Nat) (h : ¬ i < 15) : awR (i + 1) = awR i := by
  unfold awR
  rw [List.range_succ, List.take_append_of_le_length (by simp; omega)]
theorem awR_length (i : Nat) : (awR i).length ≤ 15 := by
  unfold awR
  simp
  omega
attribute [local semireducible] len56 in
theorem known : bytesS (awK 16) (awR 16) = 11613035633349379557 := by decide +kernel
theorem key_put {w : World} {g t : Nat} {xs : List UInt8} (h : w.heap[g]? = some (.cells (keyV xs) t (0, 0))) (i : Nat) (z : Int) (x : UInt8) (hz : z = (x.toNat : Int)) : (w.setCell ⟨g, i, none⟩ (.int .u8 z)).heap[g]? = some (.cells (keyV (xs.set i x)) t (0, 0)) := by
  have e : (keyV xs).setIfInBounds i (.int .u8 (x.toNat : Int)) = keyV (xs.set i x) := by
    unfold keyV
    rw [List.map_set]
    simp
  rw [hz, blk_set h, e]
theorem keyV0 : keyV (awK 0) = #[.int .u8 0, .int .u8 0, .int .u8 0, .int .u8 0, .int .u8 0, .int .u8 0, .int .u8 0, .int .u8 0, .int .u8 0, .int .u8 0, .int .u8 0, .int .u8 0, .int .u8 0, .int .u8 0, .int .u8 0, .int .u8 0] := rfl
theorem awake_calls (w : World) : Calls Try.prog 9 #[] w fun e w' => e = .returned (.bool true) ∧ Below w.heap.size w w' := by
  have HK := Lib.hid (show (w.alloc (.cells (keyV (awK 0)) 23)).heap[w.heap.size]? = some (.cells (keyV (awK 0)) 23 (0, 0)) from heap_alloc_new _ _)
  have HB := Lib.hid ((Below.refl w.heap.size w).alloc (Nat.le_refl _) (.cells (keyV (awK 0)) 23))
  have HR := Lib.hid (Kd.R_nil byte 5 (w.alloc (.cells (keyV (awK 0)) 23)) w.heap.size (fun b => w.heap.size < b))
  go_enter Try.func9, Try.ntmps9
  go_wp2
  rw [← keyV0]
  generalize w.alloc (.cells (keyV (awK 0)) 23) = W at *
  go_loopw [2, 4] (fun v2 v4 w' => ∃ i : Nat, i ≤ 16 ∧ v4 = .int .i64 i ∧ Hid (byte.R 5 w' w.heap.size (fun b => w.heap.size < b) v2 (awR i)) ∧ Hid (w'.heap[w.heap.size]? = some (.cells (keyV (awK i)) 23 (0, 0))) ∧ Hid (Below w.heap.size w w')) (fun _ v4 _ => 16 - (intOf v4).toNat)
  case atStart => exact ⟨0, by omega, rfl, HR, HK, HB⟩
  case round =>
    clear HK HB HR
    obtain ⟨i, hi, rfl, HR, HK, HB⟩ := hrel
    have hl := awR_length i
    by_cases h16 : i < 16
    · have hkc := key_cell HK.out (awK_length i) i h16
      have hfz := blk_frozen HK.out i
      have hz : (i : Int) % 256 = ((UInt8.ofNat i).toNat : Int) := by rw [UInt8.toNat_ofNat']; omega
      have hlt := blk_lt HK.out
      have hmod : (i : Int) % 256 = i := by omega
      obtain ⟨Av, cv, rfl⟩ := Kd.R_slice HR.out
      generalize hb : UInt8.ofNat i = b at *
      have HK1 := Lib.hid (key_put HK.out i _ b (by rw [← hz, hmod]))
      have HR1 := Lib.hid (Kd.R_far HR.out (p := ⟨w.heap.size, i, none⟩) (fun k hk => by show k ≠ w.heap.size; omega) (.int .u8 (i : Int)))
      have HB1 := Lib.hid (HB.out.setCell (p := ⟨w.heap.size, i, none⟩) (by show w.heap.size ≤ w.heap.size; omega) (.int .u8 (i : Int)))
      have hlt : i < 16 := h16
      by_cases h15 : i < 15
      · have ht := Lib.hid (awR_succ i h15)
        have hK : Hid (keyV (awK (i + 1)) = keyV ((awK i).set i (UInt8.ofNat i))) := rfl
        rw [hb] at ht hK
        generalize awR i = xs at *
        have HZ := Lib.hid hz
        clear hz hb HK HR HB
        go_upto_region 8 with (fail)
        clear hkc hfz
        generalize wr.setCell ⟨w.heap.size, i, none⟩ (.int .u8 (i : Int)) = W6 at *
        go_wp2_with (at_builtin; go_must (refine Kd.R_append byte (w0 := w) w.heap.size rfl _ _ 24 5 _ 1 rfl Try.underlying24 info_u8 rfl (by decide) (by decide) (.slice Av xs.length cv) xs b [.int .u8 (i : Int)] (fun b => w.heap.size < b) (fun _ => False) rfl rfl (by rw [← hmod, HZ.out]; exact K_byte W6 b) (fun _ h => h.elim) (fun k hk => by have := blk_lt HK1.out; omega) HR1.out HB1.out HB1.out.size (by omega) ?_); intro v1 w1 hR1 hB1 hG1 hat1)
        go_roundw
        case rel => exact ⟨i + 1, by omega, by go_num, by rw [ht.out]; exact hR1, by rw [hK.out]; exact blk_grown HK1.out hG1 (fun e => by have := HR1.out.1 _ e.symm; omega), hB1⟩
        case measure => simp [intOf]; omega
      · have ht := Lib.hid (awR_last i h15)
        have hK : Hid (keyV (awK (i + 1)) = keyV ((awK i).set i (UInt8.ofNat i))) := rfl
        rw [hb] at hK
        generalize awR i = xs at *
        clear hz hb HK HR HB
        go_wp2
        go_roundw
        case rel => exact ⟨i + 1, by omega, by go_num, by rw [ht.out]; exact HR1, by rw [hK.out]; exact HK1, HB1⟩
        case measure => simp [intOf]; omega
    · obtain rfl : i = 16 := by omega
      have hkk : (keyV (awK 16)).size = 16 := by rw [keyV_size, awK_length]
      obtain ⟨Av, cv, rfl⟩ := Kd.R_slice HR.out
      have hl2 : (awR 16).length ≤ 140737488355328 := by omega
      have hby := bytes_calls wr (awK 16) (awK_length 16) Av cv (awR 16) (R_C HR.out) hl2
      rw [known] at hby
      rw [show (((11613035633349379557 : UInt64).toNat : Nat) : Int) = 11613035633349379557 from rfl] at hby
      generalize awR 16 = xs at *
      generalize awK 16 = K at *
      have HKK := Lib.hid hkk
      have HBY := Lib.hid hby
      clear hkk hby
      go_wp2_with (refine wpList_load_row rfl 23 _ rfl w.heap.size rfl 23 (keyV K) (0, 0) _ HK.out Try.underlying23 rfl (by rw [HKK.out]; kernel_rfl) ?_)
      refine HBY.out.mono ?_
      rintro e w1 ⟨rfl, hB1⟩
      go_wp2
      go_ret
      exact ⟨rfl, HB.out.trans (hB1.mono HB.out.size)⟩
/-- What is loaded of a key. -/
theorem key_load {w : World} {g : Nat} {k : List UInt8} (hk : k.length = 16) (h : w.heap[g]? = some (.cells (keyV k) 23 (0, 0))) : (loadVar 23 ⟨g, 0, none⟩).run Try.prog w = .ok (.agg (keyV k)) w := by
  have hs : (keyV k).size = 16 := by rw [keyV_size, hk]
  exact run_loadVar_row w g 23 23 (keyV k) (0, 0) _ h Try.underlying23 rfl (by rw [hs]; kernel_rfl)
end Go.Proofs.Ytemomlohmnclkaa.Mac
