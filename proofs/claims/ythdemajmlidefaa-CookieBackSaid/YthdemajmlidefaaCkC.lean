/- A number's bytes in the reference; a state's bytes: walked. -/
import Derived.Test.YthdemajmlidefaaCkB
import Derived.StillTailTactics
import Derived.WalkSpells
import Derived.Deep.RegionWith
namespace Go.Proofs.Ythdemajmlidefaa.Ck
open Go.RowKit Go.Proofs.YthdemajmlidefaaW.PrintWords Go.Proofs.YthdemajmlidefaaW.PrintLast Go.Proofs.Ythdemajmlidefaa.Base
set_option linter.unusedVariables false
set_option linter.unusedSimpArgs false
/-- The bytes of the first k fields. -/
def sealN (x : Nat → Nat) : Nat → List UInt8
  | 0 => []
  | k + 1 => sealN x k ++ beN (nF k) (x k)
/-- Where a field's bytes begin. -/
def posF : Nat → Nat
  | 0 => 0
  | k + 1 => posF k + nF k
theorem sealN_length (x : Nat → Nat) (k : Nat) : (sealN x k).length = posF k := by
  induction k with
  | zero => rfl
  | succ k ih => rw [sealN, List.length_append, beN_length, ih]; rfl
theorem nF_le (k : Nat) : nF k ≤ 8 := by unfold nF; split <;> decide
theorem posF_le (k : Nat) : posF k ≤ 8 * k := by
  induction k with
  | zero => decide
  | succ k ih => have := nF_le k; unfold posF; omega
theorem byte_be (y j : Nat) : ((y : Int) / 2 ^ (8 * j) % 256) = ((UInt8.ofNat (y / 256 ^ j)).toNat : Int) := by
  have e : (256 : Nat) ^ j = 2 ^ (8 * j) := by rw [Nat.pow_mul]
  rw [UInt8.toNat_ofNat', e]
  simp
theorem K_u8 (w : World) (b : UInt8) (z : Int) (h : (b.toNat : Int) = z) (base : Nat) (ok : Nat → Prop) : byte.M w base ok b [.int .u8 z] := by subst h; rfl
theorem put_calls (w0 w : World) (base : Nat) (v : Value) (q : List UInt8) (y n : Nat) (hn : n ≤ 8) (hy : y < 18446744073709551616) (hR : byte.R 5 w base (fun _ => True) v q) (hq : q.length ≤ 1000000) (hB : Below base w0 w) (hb : base ≤ w.heap.size) :
    Calls Try.prog 49 #[v, .int .u64 (y : Nat), .int .i64 (n : Nat)] w fun e w' => ∃ v', e = .returned v' ∧ byte.R 5 w' base (fun _ => True) v' (q ++ beN n y) ∧ Below base w0 w' := by
  obtain ⟨A0, c0, rfl⟩ := Kd.R_slice hR
  have HR := Lib.hid hR
  have HB := Lib.hid hB
  clear hR hB
  go_enter Try.func49, Try.ntmps49
  go_wp2
  go_loopw [0, 7] (fun v0 v7 wr => ∃ (m : Nat) (xs : List UInt8), m ≤ n ∧ v7 = .int .i64 ((m : Int) - 1) ∧ Hid (byte.R 5 wr base (fun _ => True) v0 xs) ∧ Hid (xs ++ beN m y = q ++ beN n y) ∧ Hid (Below base w0 wr) ∧ base ≤ wr.heap.size) (fun _ v7 _ => (intOf v7 + 1).toNat)
  case atStart => exact ⟨n, q, Nat.le_refl _, rfl, HR, rfl, HB, hb⟩
  case round =>
    clear HR HB
    obtain ⟨m, xs, hm, rfl, HR, HE, HB, hbr⟩ := hrel
    obtain ⟨Av, cv, rfl⟩ := Kd.R_slice HR.out
    have hl : xs.length ≤ 1000008 := by
      have := congrArg List.length HE.out
      rw [List.length_append, List.length_append, beN_length, beN_length] at this
      omega
    cases m with
    | zero =>
      have hE := HE.out
      rw [beN, List.append_nil] at hE
      subst hE
      rw [show (((0 : Nat) : Int) - 1) = -1 from rfl]
      go_wp2
      go_ret
      exact ⟨_, rfl, HR.out, HB.out⟩
    | succ j =>
      have hx := byte_be y j
      have hE : (xs ++ [UInt8.ofNat (y / 256 ^ j)]) ++ beN j y = q ++ beN n y := by rw [List.append_assoc]; exact HE.out
      rw [show (((j + 1 : Nat) : Int) - 1) = (j : Int) by omega]
      generalize UInt8.ofNat (y / 256 ^ j) = b at *
      have HE2 := Lib.hid hE
      clear hE HE
      generalize hz : ((b.toNat : Nat) : Int) = z at *
      have HZ := Lib.hid hz
      clear hz
      go_wp2_with (at_builtin; go_must (refine Kd.R_append byte (w0 := w0) (W := wr) base rfl _ _ 28 5 _ 1 rfl Try.underlying28 info_u8 rfl (by decide) (by decide) (.slice Av xs.length cv) xs b [.int .u8 z] (fun _ => True) (fun _ => False) rfl rfl (K_u8 wr b z HZ.out _ _) (fun _ h => h.elim) (fun _ _ => trivial) HR.out HB.out hbr (by omega) ?_); intro v1 w1 hR1 hB1 hG1 _; have HR1 := Lib.hid hR1; have HB1 := Lib.hid hB1; have hs1 := hG1.size; clear hR1 hB1 hG1)
      go_roundw
      case rel => exact ⟨j, xs ++ [b], by omega, by go_num, HR1, HE2, HB1, by omega⟩
      case measure => simp [intOf]
set_option maxHeartbeats 1000000 in
theorem write_calls (w : World) (s : Nat) (ad : Addr) (x : Nat → Nat) (hs : w.heap[s]? = some (.cells (stV x) STT (0, 0))) (hf : ∀ i, i < 13 → FldAt w ad i) (hx : ∀ i, i < 13 → x i < 256 ^ nF i) (h63 : ∀ i, i < 13 → x i < 9223372036854775808) :
    Calls Try.prog 19 #[.pointer (some ⟨s, 0, none⟩), .slice (some ad) 13 13] w (RetR byte 5 (sealN x 13) w) := by
  have HS := Lib.hid hs
  have HF := Lib.hid hf
  have HX := Lib.hid hx
  have H63 := Lib.hid h63
  clear hs hf hx h63
  go_enter Try.func19, Try.ntmps19
  go_wp2
  go_loopw [5, 12] (fun v5 v12 wr => ∃ k : Nat, k ≤ 13 ∧ v12 = .int .i64 k ∧ Hid (byte.R 5 wr w.heap.size (fun _ => True) v5 (sealN x k)) ∧ Hid (Below w.heap.size w wr)) (fun _ v12 _ => 13 - (intOf v12).toNat)
  case atStart => exact ⟨0, by omega, rfl, Kd.R_nil _ _ _ _ _, Below.refl _ _⟩
  case round =>
    obtain ⟨k, hk, rfl, HR, HB⟩ := hrel
    by_cases hlt : k < 13
    · obtain ⟨b, x0, x1, x2, hbk⟩ := FldAt.below (HF.out k hlt) HB.out
      have hsl := sealN_length x k
      have hpl := posF_le k
      have HSN := Lib.hid (show sealN x (k + 1) = sealN x k ++ beN (nF k) (x k) from rfl)
      have hnl := nF_le k
      have hsr := blk_below HS.out HB.out
      have HG := Lib.hid (fun (W : World) (h : Below wr.heap.size wr W) => get_calls k hlt W s b x (blk_below hsr h) (blk_below hbk h) (HX.out k hlt) (H63.out k hlt))
      have hE := gE k hlt
      have h64 := H63.out k hlt
      obtain ⟨Av, cv, rfl⟩ := Kd.R_slice HR.out
      generalize hxs : sealN x k = xs at *
      generalize x k = y at *
      generalize nF k = n at *
      generalize gF k = G at *
      generalize sF k = T at *
      have hxl : xs.length ≤ 104 := by omega
      clear hsr hbk hxs hsl
      go_wp2_with fail
      refine (HG.out _ (below_alloc (Below.refl _ _) _)).mono ?_
      rintro e w1 ⟨rfl, rfl⟩
      have hsz : w.heap.size ≤ wr.heap.size := HB.out.size
      have HR2 := Lib.hid (fun o => Kd.R_alloc HR.out o)
      have HB2 := Lib.hid (fun o => HB.out.alloc hsz o)
      clear HR HB HG x0 x1 x2
      go_wp2
      go_loopw [5, 9] (fun v5 v9 wq => ∃ (m : Nat) (ys : List UInt8), m ≤ n ∧ v9 = .int .i64 ((m : Int) - 1) ∧ Hid (byte.R 5 wq w.heap.size (fun _ => True) v5 ys) ∧ Hid (ys ++ beN m y = xs ++ beN n y) ∧ Hid (Below w.heap.size w wq)) (fun _ v9 _ => (intOf v9 + 1).toNat)
      case atStart => exact ⟨n, xs, Nat.le_refl _, rfl, HR2.out _, rfl, HB2.out _⟩
      case round =>
        clear HR2 HB2
        obtain ⟨m, ys, hm, rfl, HR, HE, HB⟩ := hrel
        obtain ⟨Av, cv, rfl⟩ := Kd.R_slice HR.out
        have hl : ys.length ≤ 1008 := by
          have := congrArg List.length HE.out
          rw [List.length_append, List.length_append, beN_length, beN_length] at this
          omega
        cases m with
        | zero =>
          have hE := HE.out
          rw [beN, List.append_nil] at hE
          subst hE
          rw [show (((0 : Nat) : Int) - 1) = -1 from rfl]
          clear HE
          go_wp2
          go_roundw
          case rel => exact ⟨k + 1, by omega, by go_num, by rw [HSN.out]; exact HR, HB⟩
          case measure => simp [intOf]; omega
        | succ j =>
          have hx := byte_be y j
          have hE : (ys ++ [UInt8.ofNat (y / 256 ^ j)]) ++ beN j y = xs ++ beN n y := by rw [List.append_assoc]; exact HE.out
          rw [show (((j + 1 : Nat) : Int) - 1) = (j : Int) by omega]
          generalize UInt8.ofNat (y / 256 ^ j) = bb at *
          have HE2 := Lib.hid hE
          clear hE HE
          generalize hz : ((bb.toNat : Nat) : Int) = z at *
          have HZ := Lib.hid hz
          clear hz
          go_wp2_with (at_builtin; go_must (refine Kd.R_append byte (w0 := w) w.heap.size rfl _ _ 28 5 _ 1 rfl Try.underlying28 info_u8 rfl (by decide) (by decide) (.slice Av ys.length cv) ys bb [.int .u8 z] (fun _ => True) (fun _ => False) rfl rfl (K_u8 _ bb z HZ.out _ _) (fun _ h => h.elim) (fun _ _ => trivial) HR.out HB.out HB.out.size (by omega) ?_); intro v1 w1 hR1 hB1 _ _; have HR1 := Lib.hid hR1; have HB1 := Lib.hid hB1; clear hR1 hB1)
          go_roundw
          case rel => exact ⟨j, ys ++ [bb], by omega, by go_num, HR1, HE2, HB1⟩
          case measure => simp [intOf]
    · obtain rfl : k = 13 := by omega
      obtain ⟨Av, cv, rfl⟩ := Kd.R_slice HR.out
      go_wp2
      go_ret
      exact ⟨_, rfl, HR.out, HB.out⟩
end Go.Proofs.Ythdemajmlidefaa.Ck
