/- The seal's begin and its bytes, walked. -/
import Derived.Test.YthdemajmlidefaaMacF
import Derived.Test.YthdemajmlidefaaBaseB
namespace Go.Proofs.Ythdemajmlidefaa.Mac
open Go.RowKit Go.Proofs.YthdemajmlidefaaW.PrintWords Go.Proofs.Ythdemajmlidefaa.Base
set_option linter.unusedVariables false
set_option linter.unusedSimpArgs false

theorem key_C {w : World} {g t : Nat} {fr : Nat × Nat} {k : List UInt8} (h : w.heap[g]? = some (.cells (keyV k) t fr)) (hk : k.length = 16) (o n : Nat) (ho : o + n ≤ 16) : byte.C w (some ⟨g, o, none⟩) n ((k.drop o).take n) := by
  refine Kd.C_of_reads (d := (0 : UInt8)) ⟨by simp; omega, by omega, fun _ => ⟨_, rfl, fun j hj => ?_⟩⟩
  have ha : (⟨g, o, none⟩ : Addr).add j = ⟨g, o + j, none⟩ := by unfold Addr.add; split <;> simp_all
  rw [ha, cell_of_row _ _ _ _ _ _ h, getD_lt _ _ _ (by simp; omega)]
  have h16 : o + j < k.length := by omega
  rw [List.getElem_take, List.getElem_drop]
  simp [keyV, h16]
def startQ (k : List UInt8) : Quad :=
  ⟨lowN (k.take 8) 8 ^^^ 8317987319222330741, lowN (k.drop 8) 8 ^^^ 7237128888997146477, lowN (k.take 8) 8 ^^^ 7816392313619706465, lowN (k.drop 8) 8 ^^^ 8387220255154660723⟩
set_option maxHeartbeats 1000000 in
theorem start_calls (w : World) (k : List UInt8) (hk : k.length = 16) :
    Calls Try.prog 46 #[.agg (keyV k)] w fun e w' => ∃ g, e = .returned (.pointer (some ⟨g, 0, none⟩)) ∧ w.heap.size ≤ g ∧ St w' g ⟨startQ k, 0, 0⟩ ∧ Below w.heap.size w w' := by
  have hW : (w.alloc (.cells (keyV k) 23)).heap[w.heap.size]? = some (.cells (keyV k) 23 (0, 0)) := heap_alloc_new _ _
  have hl1 := fun (n : Nat) => low_calls ((w.alloc (.cells (keyV k) 23)).drewN n) (some ⟨w.heap.size, 0, none⟩) 16 (k.take 8) (by
    have := key_C (w := (w.alloc (.cells (keyV k) 23)).drewN n) (t := 23) (fr := (0, 0)) hW hk 0 8 (by decide)
    rw [List.drop_zero] at this
    rw [show (k.take 8).length = 8 by simp; omega]
    exact this) (by simp; omega)
  have hl2 := fun (n : Nat) => low_calls ((w.alloc (.cells (keyV k) 23)).drewN n) (some ⟨w.heap.size, 8, none⟩) 8 (k.drop 8) (by
    have := key_C (w := (w.alloc (.cells (keyV k) 23)).drewN n) (t := 23) (fr := (0, 0)) hW hk 8 8 (by decide)
    rw [List.take_of_length_le (by simp; omega)] at this
    rw [show (k.drop 8).length = 8 by simp; omega]
    exact this) (by simp; omega)
  rw [show (k.take 8).length = 8 by simp; omega] at hl1
  rw [show (k.drop 8).length = 8 by simp; omega] at hl2
  have hs : Hid (startQ k = ⟨lowN (k.take 8) 8 ^^^ 8317987319222330741, lowN (k.drop 8) 8 ^^^ 7237128888997146477, lowN (k.take 8) 8 ^^^ 7816392313619706465, lowN (k.drop 8) 8 ^^^ 8387220255154660723⟩) := rfl
  generalize startQ k = Q at *
  generalize lowN (k.take 8) 8 = x at *
  generalize lowN (k.drop 8) 8 = y at *
  have e1 := xor64 x 8317987319222330741
  have e2 := xor64 y 7237128888997146477
  have e3 := xor64 x 7816392313619706465
  have e4 := xor64 y 8387220255154660723
  rw [show (((8317987319222330741 : UInt64).toNat : Nat) : Int) = 8317987319222330741 from rfl] at e1
  rw [show (((7237128888997146477 : UInt64).toNat : Nat) : Int) = 7237128888997146477 from rfl] at e2
  rw [show (((7816392313619706465 : UInt64).toNat : Nat) : Int) = 7816392313619706465 from rfl] at e3
  rw [show (((8387220255154660723 : UInt64).toNat : Nat) : Int) = 8387220255154660723 from rfl] at e4
  generalize h1 : x ^^^ 8317987319222330741 = z1 at *
  generalize h2 : y ^^^ 7237128888997146477 = z2 at *
  generalize h3 : x ^^^ 7816392313619706465 = z3 at *
  generalize h4 : y ^^^ 8387220255154660723 = z4 at *
  clear h1 h2 h3 h4
  have HL1 := Lib.hid hl1
  have HL2 := Lib.hid hl2
  have hkk : (keyV k).size = 16 := by rw [keyV_size, hk]
  have HKK := Lib.hid hkk
  generalize keyV k = K at *
  clear hl1 hl2 hW hkk
  generalize hz1 : ((z1.toNat : Nat) : Int) = i1 at *
  generalize hz2 : ((z2.toNat : Nat) : Int) = i2 at *
  generalize hz3 : ((z3.toNat : Nat) : Int) = i3 at *
  generalize hz4 : ((z4.toNat : Nat) : Int) = i4 at *
  have HZ := Lib.hid (And.intro hz1 (And.intro hz2 (And.intro hz3 hz4)))
  clear hz1 hz2 hz3 hz4
  go_enter Try.func46, Try.ntmps46
  go_upto_region 1 with (fail)
  go_quiet (first | (go_at_call 58; with_reducible exact Calls.quiet_of_same (HL1.out _)) | (go_at_call 58; with_reducible exact Calls.quiet_of_same (HL2.out _)))
  go_wp2
  go_ret
  refine ⟨_, rfl, ?_, ?_, ?_⟩
  · show w.heap.size ≤ w.heap.size + 1
    omega
  · rw [hs.out, ← HZ.out.1, ← HZ.out.2.1, ← HZ.out.2.2.1, ← HZ.out.2.2.2]
    have := blk_new ((w.alloc (.cells K 23)).drewN nq) (.cells #[.int .u64 (z1.toNat : Int), .int .u64 (z2.toNat : Int), .int .u64 (z3.toNat : Int), .int .u64 (z4.toNat : Int), .int .u64 0, .int .i64 0] 94)
    simp only [World.heap_drewN, World.size_alloc] at this
    exact ⟨⟨this⟩⟩
  · exact (pw_below_drewN ((Below.refl _ _).alloc (Nat.le_refl _) _) nq).alloc (by simp) _
/-- A seal's bytes. -/
def textL (x : UInt64) : List UInt8 := [UInt8.ofNat (x.toNat >>> 0), UInt8.ofNat (x.toNat >>> 8), UInt8.ofNat (x.toNat >>> 16), UInt8.ofNat (x.toNat >>> 24), UInt8.ofNat (x.toNat >>> 32), UInt8.ofNat (x.toNat >>> 40), UInt8.ofNat (x.toNat >>> 48), UInt8.ofNat (x.toNat >>> 56)]
def textN (x : UInt64) : Nat → List UInt8
  | 0 => List.replicate 8 0
  | k + 1 => (textN x k).set k (UInt8.ofNat (x.toNat >>> (8 * k)))
theorem textN_8 (x : UInt64) : textN x 8 = textL x := rfl
theorem textN_length (x : UInt64) (k : Nat) : (textN x k).length = 8 := by
  induction k with
  | zero => rfl
  | succ k ih => simp [textN, ih]
theorem byte_shr (x : UInt64) (k : Nat) : ((x.toNat : Int) / 2 ^ k % 256) = ((UInt8.ofNat (x.toNat >>> k)).toNat : Int) := by
  rw [UInt8.toNat_ofNat', Nat.shiftRight_eq_div_pow]
  simp
theorem text_calls (w : World) (x : UInt64) : Calls Try.prog 21 #[.int .u64 (x.toNat : Int)] w (RetR byte 5 (textL x) w) := by
  have hmk : ∀ W : World, (Instr.makeSlice 28 (.int .i64 8) (.int .i64 8)).run Try.prog W = .ok (.slice (some ⟨W.heap.size, 0, none⟩) 8 8) (W.alloc (.cells (madeCells #[.int .u8 0] 8) 5)) := print_make 28 5 .u8 1 Try.underlying28 info_u8 (by decide) 8 (by decide)
  have hO : byte.R 5 (w.alloc (.cells (madeCells #[.int .u8 0] 8) 5)) w.heap.size (fun _ => True) (.slice (some ⟨w.heap.size, 0, none⟩) 8 8) (textN x 0) :=
    Kd.R_of_own (own_made_of' (enc := fun b : UInt8 => Value.int .u8 (b.toNat : Int)) (d := 0) w w.heap.size 5 8 (Nat.le_refl _) (by decide)) (fun _ _ => trivial)
  have HO := Lib.hid hO
  clear hO
  go_enter Try.func21, Try.ntmps21
  go_wp2
  clear hmk
  generalize hW0 : w.alloc (.cells (madeCells #[.int .u8 0] 8) 5) = W0 at *
  have hB0 : Below w.heap.size w W0 := hW0 ▸ (Below.refl _ _).alloc (Nat.le_refl _) _
  clear hW0
  go_loopw [8] (fun v8 w' => ∃ k : Nat, k ≤ 8 ∧ v8 = .int .i64 k ∧ byte.R 5 w' w.heap.size (fun _ => True) (.slice (some ⟨w.heap.size, 0, none⟩) 8 8) (textN x k) ∧ Below w.heap.size w w') (fun v8 _ => 8 - (intOf v8).toNat)
  case atStart => exact ⟨0, by omega, rfl, HO.out, hB0⟩
  case round =>
    clear HO hB0
    obtain ⟨k, hk, rfl, hR, hB⟩ := hrel
    by_cases hk8 : k < 8
    · obtain ⟨hcl, hfr⟩ := byte_cell hR k hk8
      have HX := Lib.hid (byte_shr x (8 * k))
      have HR := Lib.hid hR
      have HB := Lib.hid hB
      clear hR hB
      generalize ((x.toNat : Nat) : Int) = xi at *
      go_wp2
      go_roundw
      case rel => exact ⟨k + 1, by omega, by go_num, byte_put HR.out k _ _ HX.out, HB.out.setCell (Nat.le_refl _) _⟩
      case measure => simp [intOf]; omega
    · obtain rfl : k = 8 := by omega
      go_wp2
      go_ret
      exact ⟨_, rfl, hR, hB⟩
end Go.Proofs.Ythdemajmlidefaa.Mac
