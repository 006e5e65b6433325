/- The walk of the statement CrcLinear. -/
import Derived.Test.YtdgahdfegpkmfaaDoorCrcI
import Derived.Test.YtdgahdfegpkmfaaDoorWMore
import Derived.Test.YtdgahdfegpkmfaaDoorRegB
import Derived.Deep.RegionLaw
namespace Go.Proofs.YtdgahdfegpkmfaaDoor.Crc
open Go.RowKit Go.Proofs.YtdgahdfegpkmfaaDoorW.PrintWords Go.Proofs.YtdgahdfegpkmfaaDoorW.PrintMore Go.Proofs.YtdgahdfegpkmfaaDoorW.PrintLast Go.Proofs.YtdgahdfegpkmfaaDoor.Base CrcMath
attribute [local go_sem] min2_int min_two
set_option linter.unusedVariables false
set_option linter.unusedSimpArgs false

/-- Three rows laid on one another. -/
def x3 (a b c : List UInt8) (n : Nat) : List UInt8 := List.zipWith (fun x y => x ^^^ y) (List.zipWith (fun x y => x ^^^ y) (a.take n) (b.take n)) (c.take n)
theorem x3_length {a b c : List UInt8} {n : Nat} (ha : n ≤ a.length) (hb : n ≤ b.length) (hc : n ≤ c.length) : (x3 a b c n).length = n := by
  simp [x3]; omega
theorem x3_getD {a b c : List UInt8} {n : Nat} (ha : n ≤ a.length) (hb : n ≤ b.length) (hc : n ≤ c.length) : ∀ i, i < n → (x3 a b c n).getD i 0 = a.getD i 0 ^^^ b.getD i 0 ^^^ c.getD i 0 := by
  intro i hi
  rw [getD_lt _ _ _ (by rw [x3_length ha hb hc]; exact hi), getD_lt a _ _ (by omega), getD_lt b _ _ (by omega), getD_lt c _ _ (by omega)]
  simp [x3]
theorem x3_sum {a b c : List UInt8} {n : Nat} (ha : n ≤ a.length) (hb : n ≤ b.length) (hc : n ≤ c.length) : sumL (x3 a b c n) = sumL (a.take n) ^^^ sumL (b.take n) ^^^ sumL (c.take n) := by
  rw [sumL_eq, sumL_eq, sumL_eq, sumL_eq]
  have h1 : ext (4294967295 ^^^ 4294967295 ^^^ 4294967295) (x3 a b c n) = ext 4294967295 (a.take n) ^^^ ext 4294967295 (b.take n) ^^^ ext 4294967295 (c.take n) := by
    unfold x3
    rw [ext_xor _ _ _ _ (by simp; omega), ext_xor _ _ _ _ (by simp; omega)]
  rw [show (4294967295 ^^^ 4294967295 ^^^ 4294967295 : Nat) = 4294967295 from by decide] at h1
  rw [h1]
  generalize ext 4294967295 (a.take n) = x
  generalize ext 4294967295 (b.take n) = y
  generalize ext 4294967295 (c.take n) = z
  generalize (4294967295 : Nat) = m
  rw [show (x ^^^ m) ^^^ (y ^^^ m) ^^^ (z ^^^ m) = (x ^^^ y ^^^ z ^^^ m) ^^^ (m ^^^ m) by ac_rfl, Nat.xor_self, Nat.xor_zero]
theorem take_getD_succ (l : List UInt8) (k : Nat) (d : UInt8) (h : k < l.length) : l.take (k + 1) = l.take k ++ [l.getD k d] := by
  rw [List.take_succ_eq_append_getElem h, getD_lt _ _ _ h]
def crcLinearT7 : Bool × List (List Nat × List Nat) := (true, [([], []), ([0], [0]), ([1], [1]), ([], []), ([], []), ([3, 4], [3, 4]), ([5], [5]), ([6, 2], [6]), ([], []), ([], []), ([8, 9], [8, 9]), ([10], [10]), ([11, 7], [11]), ([7, 12], [7, 12]), ([], []), ([], []), ([14, 15], [14, 15]), ([16], [16]), ([17, 12], [17]), ([13, 18], [13, 18]), ([2, 19], [2, 19]), ([20, 18], [20]), ([21, 21], [21]), ([21, 22], [21, 22]), ([23, 22, 0, 1, 2, 3, 4, 5, 6, 7, 8, 9, 10, 11, 12, 13, 14, 15, 16, 17, 18, 19, 20, 21, 22, 23], [23])])
def crcLinearB7 : List Nat := [0, 1, 3, 0, 0, 24, 56, 127, 0, 0, 768, 1792, 4095, 8191, 0, 0, 49152, 114688, 253951, 524287, 1048575, 2097151, 4194303, 8388607, 16777215]
theorem crcLineartab7 : Go.Proofs.YtdgahdfegpkmfaaDoorW.PrintLast.rtab .any (Go.Proofs.YtdgahdfegpkmfaaDoorW.PrintLast.opsOf Tryd.f5 7) = crcLinearT7 := by kernel_rfl
theorem crcLinearbits7 : Go.Proofs.YtdgahdfegpkmfaaDoorW.PrintLast.waitsOk crcLinearT7.2 crcLinearB7 = true := by kernel_rfl
set_option maxHeartbeats 4000000 in
theorem crcLinear_row {w : World} (A0 : Option Addr) (c0 : Nat) (l0 : List UInt8) (hb0 : byte.C w A0 l0.length l0) (hc0 : l0.length ≤ c0) (hm0 : c0 ≤ 140737488351232)
    (A1 : Option Addr) (c1 : Nat) (l1 : List UInt8) (hb1 : byte.C w A1 l1.length l1) (hc1 : l1.length ≤ c1) (hm1 : c1 ≤ 140737488351232)
    (A2 : Option Addr) (c2 : Nat) (l2 : List UInt8) (hb2 : byte.C w A2 l2.length l2) (hc2 : l2.length ≤ c2) (hm2 : c2 ≤ 140737488351232) (ht : Table w) :
    Calls Tryd.prog 5 #[.slice A0 l0.length c0, .slice A1 l1.length c1, .slice A2 l2.length c2] w fun e w' => e = .returned (.bool true) ∧ Below w.heap.size w w' := by
  obtain ⟨m, hm, hm'⟩ : ∃ m : Nat, (if l2.length < l1.length then (l2.length : Int) else (l1.length : Int)) = (m : Int) ∧ m = min l1.length l2.length := by
    refine ⟨min l1.length l2.length, ?_, rfl⟩
    split <;> omega
  obtain ⟨n, hn, hn'⟩ : ∃ n : Nat, (if m < l0.length then (m : Int) else (l0.length : Int)) = (n : Int) ∧ n = min l0.length m := by
    refine ⟨min l0.length m, ?_, rfl⟩
    split <;> omega
  have hn0 : n ≤ l0.length := by omega
  have hn1 : n ≤ l1.length := by omega
  have hn2 : n ≤ l2.length := by omega
  clear hm' hn'
  go_enter Tryd.func5, Tryd.ntmps5
  go_wp2
  have hxy : Hid (∀ i, i < n → (x3 l0 l1 l2 n).getD i 0 = l0.getD i 0 ^^^ l1.getD i 0 ^^^ l2.getD i 0) := x3_getD hn0 hn1 hn2
  clear hm hn
  go_loopw [8, 9] (fun v8 v9 w' => ∃ k : Nat, k ≤ n ∧ v9 = .int .i64 k ∧ byte.R 5 w' w.heap.size (fun _ => True) v8 ((x3 l0 l1 l2 n).take k) ∧ Below w.heap.size w w') (fun _ v9 _ => n - (intOf v9).toNat)
  case atStart => exact ⟨0, by omega, rfl, Kd.R_nil _ _ _ _ _, Below.refl _ _⟩
  case round =>
    obtain ⟨k, hk, rfl, hR, hB⟩ := hrel
    by_cases hkn : k < n
    · obtain ⟨ad0, rfl, g0⟩ := byte_at (Kd.C_below hb0 hB) k (by omega)
      obtain ⟨ad1, rfl, g1⟩ := byte_at (Kd.C_below hb1 hB) k (by omega)
      obtain ⟨ad2, rfl, g2⟩ := byte_at (Kd.C_below hb2 hB) k (by omega)
      have i0 : k < l0.length := by omega
      have i1 : k < l1.length := by omega
      have i2 : k < l2.length := by omega
      have hz := hxy.out k hkn
      generalize l0.getD k 0 = b0 at *
      generalize l1.getD k 0 = b1 at *
      generalize l2.getD k 0 = b2 at *
      have x1 := xor8 b0 b1
      have x2 := xor8 (b0 ^^^ b1) b2
      rw [← hz] at x2
      have HZ := Lib.hid hz
      clear hz
      have HR := Lib.hid hR
      have HBW := Lib.hid hB
      obtain ⟨Av, cv, hv⟩ := Kd.R_slice hR
      subst hv
      clear hR hB
      have hkl : ((x3 l0 l1 l2 n).take k).length ≤ 140737488351232 := by rw [List.length_take, x3_length hn0 hn1 hn2]; omega
      have HKL := Lib.hid hkl
      clear hkl
      generalize hxs : (x3 l0 l1 l2 n).take k = xs at *
      have HXS := Lib.hid hxs
      clear hxs
      generalize hzz : (x3 l0 l1 l2 n).getD k 0 = z at *
      have HZZ := Lib.hid hzz
      clear hzz
      generalize (b0 ^^^ b1) = b01 at *
      generalize ((b01.toNat : Nat) : Int) = i01 at *
      go_wp2
      go_region_law (go_must (refine Kd.R_append_step byte (w0 := w) (W := wr.drew) w.heap.size rfl _ _ 22 5 _ 1 rfl Tryd.underlying22 info_u8 rfl (by decide) (by decide) (.slice Av xs.length cv) xs z [.int .u8 (z.toNat : Int)] (fun _ => True) (fun _ => False) rfl rfl (show byte.M wr.drew w.heap.size (fun _ => False) z [.int .u8 (z.toNat : Int)] from rfl) (fun _ h => h.elim) (fun _ _ => trivial) (Kd.R_drew HR.out) HBW.out.drew HBW.out.size (by have := HKL.out; omega) ?_); intro v1 w1 hR1 hB1 _ _)
      all_goals
        go_wp2
        go_roundw
        case rel => exact ⟨k + 1, by omega, by go_num, by rw [take_getD_succ _ _ _ (by rw [x3_length hn0 hn1 hn2]; exact hkn), HXS.out, HZZ.out]; exact hR1, hB1⟩
        case measure => simp [intOf]; omega
    · obtain rfl : k = n := by omega
      have hx3 : (x3 l0 l1 l2 k).take k = x3 l0 l1 l2 k := List.take_of_length_le (by rw [x3_length hn0 hn1 hn2]; omega)
      rw [hx3] at hR
      have hS := x3_sum hn0 hn1 hn2
      obtain ⟨s0, t0, q0⟩ := take_bytes hb0 hc0 k k rfl hn0
      obtain ⟨s1, t1, q1⟩ := take_bytes hb1 hc1 k k rfl hn1
      obtain ⟨s2, t2, q2⟩ := take_bytes hb2 hc2 k k rfl hn2
      obtain ⟨Av, cv, rfl, hle, hCv⟩ := Kd.R_reads hR
      have g0 := Kd.C_below t0 hB
      have g1 := Kd.C_below t1 hB
      have g2 := Kd.C_below t2 hB
      generalize x3 l0 l1 l2 k = xs at *
      generalize l0.take k = p0 at *
      generalize l1.take k = p1 at *
      generalize l2.take k = p2 at *
      have x1 := xor32 (sumL p0) (sumL p1) (sumL_lt _) (sumL_lt _)
      have x2 := xor32 (sumL p0 ^^^ sumL p1) (sumL p2) (Nat.xor_lt_two_pow (n := 32) (sumL_lt _) (sumL_lt _)) (sumL_lt _)
      rw [← hS] at x2
      have hcall := fun (p : List UInt8) (W : World) (g : Nat) (hT : Table W) (h : bytesK.C W (some ⟨g, 0, none⟩) [p].length [p]) => sum_calls (some ⟨g, 0, none⟩) 1 [p] W hT h
      have hfl : ∀ p : List UInt8, [p].flatten = p := fun p => by simp
      simp only [hfl] at hcall
      have h1 := hcall xs
      have h2 := hcall p0
      have h3 := hcall p1
      have h4 := hcall p2
      generalize sumL p0 ^^^ sumL p1 = ab at *
      generalize sumL xs = s at *
      generalize sumL p0 = s1 at *
      generalize sumL p1 = s2 at *
      generalize sumL p2 = s3 at *
      have HC1 := Lib.hid h1
      have HC2 := Lib.hid h2
      have HC3 := Lib.hid h3
      have HC4 := Lib.hid h4
      have HG1 := Lib.hid hCv
      have HG2 := Lib.hid g0
      have HG3 := Lib.hid g1
      have HG4 := Lib.hid g2
      have HL1 := Lib.hid hle
      have HL2 := Lib.hid q0
      have HL3 := Lib.hid q1
      have HL4 := Lib.hid q2
      have HT := Lib.hid (ht.below hB)
      clear hcall hfl h1 h2 h3 h4 hR hCv g0 g1 g2 hle q0 q1 q2 t0 t1 t2 hb0 hb1 hb2 hxy hx3 hS ht
      go_wp2
      have B := True.intro
      refine start_ (n := 25) (S := fun w' => True) (ds := []) #[false, false, false, false, false, false, false, false, false, false, false, false, false, false, false, false, false, false, false, false, false, false, false, false, false] (by kernel_rfl) rfl rfl trivial (fun hHeld => ?_)
      refine with_tabW crcLineartab7 crcLinearbits7 (fun HT_ HW_ => ?_)
      refine pure_ (i := 0) (N := some 40) (v := ?_) (a' := ?_) #[true, false, false, false, false, false, false, false, false, false, false, false, false, false, false, false, false, false, false, false, false, false, false, false, false] rfl rfl (any_of HT_.out (by kernel_rfl)) (fun _ _ _ h => h) (Or.inl ⟨by rfl, ?_⟩) ?_ ?_
      rotate_left
      · intro w'
        go_simp
        with_reducible rfl
      rotate_left
      · simp only [Act.put, List.setIfInBounds_toArray, List.set_cons_zero, List.set_cons_succ, i64_w, i32_w]
        rfl
      refine pure_ (i := 3) (N := some 43) (v := ?_) (a' := ?_) #[true, false, false, true, false, false, false, false, false, false, false, false, false, false, false, false, false, false, false, false, false, false, false, false, false] rfl rfl (any_of HT_.out (by kernel_rfl)) (fun _ _ _ h => h) (Or.inl ⟨by rfl, ?_⟩) ?_ ?_
      rotate_left
      · intro w'
        go_simp
        with_reducible rfl
      rotate_left
      · simp only [Act.put, List.setIfInBounds_toArray, List.set_cons_zero, List.set_cons_succ, i64_w, i32_w]
        rfl
      refine pure_ (i := 4) (N := some 44) (v := ?_) (a' := ?_) #[true, false, false, true, true, false, false, false, false, false, false, false, false, false, false, false, false, false, false, false, false, false, false, false, false] rfl rfl (any_of HT_.out (by kernel_rfl)) (fun _ _ _ h => h) (Or.inl ⟨by rfl, ?_⟩) ?_ ?_
      rotate_left
      · intro w'
        go_simp
        with_reducible rfl
      rotate_left
      · simp only [Act.put, List.setIfInBounds_toArray, List.set_cons_zero, List.set_cons_succ, i64_w, i32_w]
        rfl
      refine pure_ (i := 8) (N := some 48) (v := ?_) (a' := ?_) #[true, false, false, true, true, false, false, false, true, false, false, false, false, false, false, false, false, false, false, false, false, false, false, false, false] rfl rfl (any_of HT_.out (by kernel_rfl)) (fun _ _ _ h => h) (Or.inl ⟨by rfl, ?_⟩) ?_ ?_
      rotate_left
      · intro w'
        go_simp
        with_reducible rfl
      rotate_left
      · simp only [Act.put, List.setIfInBounds_toArray, List.set_cons_zero, List.set_cons_succ, i64_w, i32_w]
        rfl
      refine pure_ (i := 9) (N := some 49) (v := ?_) (a' := ?_) #[true, false, false, true, true, false, false, false, true, true, false, false, false, false, false, false, false, false, false, false, false, false, false, false, false] rfl rfl (any_of HT_.out (by kernel_rfl)) (fun _ _ _ h => h) (Or.inl ⟨by rfl, ?_⟩) ?_ ?_
      rotate_left
      · intro w'
        go_simp
        with_reducible rfl
      rotate_left
      · simp only [Act.put, List.setIfInBounds_toArray, List.set_cons_zero, List.set_cons_succ, i64_w, i32_w]
        rfl
      refine pure_ (i := 14) (N := some 54) (v := ?_) (a' := ?_) #[true, false, false, true, true, false, false, false, true, true, false, false, false, false, true, false, false, false, false, false, false, false, false, false, false] rfl rfl (any_of HT_.out (by kernel_rfl)) (fun _ _ _ h => h) (Or.inl ⟨by rfl, ?_⟩) ?_ ?_
      rotate_left
      · intro w'
        go_simp
        with_reducible rfl
      rotate_left
      · simp only [Act.put, List.setIfInBounds_toArray, List.set_cons_zero, List.set_cons_succ, i64_w, i32_w]
        rfl
      refine pure_ (i := 15) (N := some 55) (v := ?_) (a' := ?_) #[true, false, false, true, true, false, false, false, true, true, false, false, false, false, true, true, false, false, false, false, false, false, false, false, false] rfl rfl (any_of HT_.out (by kernel_rfl)) (fun _ _ _ h => h) (Or.inl ⟨by rfl, ?_⟩) ?_ ?_
      rotate_left
      · intro w'
        go_simp
        with_reducible rfl
      rotate_left
      · simp only [Act.put, List.setIfInBounds_toArray, List.set_cons_zero, List.set_cons_succ, i64_w, i32_w]
        rfl
      refine inv_at [1, 2, 5, 6, 7, 10, 11, 12, 13, 16, 17, 18, 19, 20, 21, 22, 23, 24] (fun a0_ b a w' => ∃ (g1 : Nat) (g2 : Nat) (g3 : Nat) (g4 : Nat) (m1_ : Value) (m6_ : Value) (m11_ : Value) (m17_ : Value), a = putSel a0_ b [(1, 41, m1_), (2, 42, .int .u32 (s : Int)), (5, 45, .slice A0 p0.length c0), (6, 46, m6_), (7, 47, .int .u32 (s1 : Int)), (10, 50, .slice A1 p1.length c1), (11, 51, m11_), (12, 52, .int .u32 (s2 : Int)), (13, 53, .int .u32 (ab : Int)), (16, 56, .slice A2 p2.length c2), (17, 57, m17_), (18, 58, .int .u32 (s3 : Int)), (19, 59, .int .u32 (s : Int)), (20, 60, .bool true), (21, 61, .bool true), (22, 62, .bool true), (23, 63, .bool true), (24, 6, .bool true)] ∧ (Below wr.heap.size wr w') ∧ (b 1 = true → bytesK.C w' (some ⟨g1, 0, none⟩) [xs].length [xs]) ∧ (b 6 = true → bytesK.C w' (some ⟨g2, 0, none⟩) [p0].length [p0]) ∧ (b 11 = true → bytesK.C w' (some ⟨g3, 0, none⟩) [p1].length [p1]) ∧ (b 17 = true → bytesK.C w' (some ⟨g4, 0, none⟩) [p2].length [p2]) ∧ (b 1 = true → (m1_ : Value) = .slice (some ⟨g1, 0, none⟩) 1 1) ∧ (b 6 = true → (m6_ : Value) = .slice (some ⟨g2, 0, none⟩) 1 1) ∧ (b 11 = true → (m11_ : Value) = .slice (some ⟨g3, 0, none⟩) 1 1) ∧ (b 17 = true → (m17_ : Value) = .slice (some ⟨g4, 0, none⟩) 1 1)) HT_.out HW_.out (by kernel_rfl) (by kernel_rfl) ?_ ?_ ?_
      · exact ⟨0, 0, 0, 0, .bool false, .bool false, .bool false, .bool false, by simp only [putSel, Bool.false_eq_true, if_false], below_drew (Below.refl _ _), fun h_ => absurd h_ (by decide), fun h_ => absurd h_ (by decide), fun h_ => absurd h_ (by decide), fun h_ => absurd h_ (by decide), fun h_ => absurd h_ (by decide), fun h_ => absurd h_ (by decide), fun h_ => absurd h_ (by decide), fun h_ => absurd h_ (by decide)⟩
      · skip
        clear B
        refine steps_cons ?_ ?_
        · rintro b a w' ⟨g1, g2, g3, g4, m1_, m6_, m11_, m17_, ha, Q_B, Q_C1, Q_C2, Q_C3, Q_C4, Q_X1_, Q_X6_, Q_X11_, Q_X17_⟩ hb_ hon hoff
          refine ⟨_, rfl, fun K hK => ?_⟩
          have e40 : a.tmps[40]? = some (.slice Av xs.length cv) := by rw [ha]; exact (putSel_off rfl).trans rfl
          replace ha := Aside0.mk ha
          have B := Aside0.mk Q_B
          refine value_ (w1 := w'.alloc (.cells #[.slice Av xs.length cv] 22)) (v := .slice (some ⟨w'.heap.size, 0, none⟩) 1 1) (by rfl) rfl (by go_simp; try rfl) ?_
          refine hK.out _ _ ⟨w'.heap.size, g2, g3, g4, (.slice (some ⟨w'.heap.size, 0, none⟩) 1 1), m6_, m11_, m17_, (by rw [ha.out]; exact putSel_upk 0 hb_ rfl rfl rfl), B.out.alloc B.out.size _, fun _ => one_C (Kd.C_below HG1.out B.out) HL1.out, fun h0_ => Kd.C_alloc (Q_C2 h0_) _, fun h0_ => Kd.C_alloc (Q_C3 h0_) _, fun h0_ => Kd.C_alloc (Q_C4 h0_) _, fun _ => rfl, Q_X6_, Q_X11_, Q_X17_⟩
        refine steps_cons ?_ ?_
        · rintro b a w' ⟨g1, g2, g3, g4, m1_, m6_, m11_, m17_, ha, Q_B, Q_C1, Q_C2, Q_C3, Q_C4, Q_X1_, Q_X6_, Q_X11_, Q_X17_⟩ hb_ hon hoff
          refine ⟨_, rfl, fun K hK => ?_⟩
          have e41 : a.tmps[41]? = some (m1_) := by rw [ha]; exact putSel_on (e := (1, 41, m1_)) 0 rfl rfl (hon 1 (by kernel_rfl)) rfl
          rw [Q_X1_ (hon 1 (by kernel_rfl))] at e41
          replace ha := Aside0.mk ha
          have B := Aside0.mk Q_B
          have C1 := Aside0.mk (Q_C1 (hon 1 (by kernel_rfl)))
          refine goes_ Tryd.func9 (by kernel_rfl) rfl #[.slice (some ⟨g1, 0, none⟩) 1 1] (by rfl) rfl rfl (by first | (simp only [List.map_toArray, List.map_cons, List.map_nil, Act.eval, Array.getD_eq_getD_getElem?, Option.getD_some, e41]; done) | (simp only [List.map_toArray, List.map_cons, List.map_nil, Act.eval, Array.getD_eq_getD_getElem?, Option.getD_some, e41]; rfl)) ?_
          refine (HC1.out w' _ (HT.out.below B.out) C1.out).mono ?_
          rintro e w1 ⟨rfl, rfl⟩
          refine ⟨_, rfl, ?_⟩
          refine hK.out _ _ ⟨g1, g2, g3, g4, m1_, m6_, m11_, m17_, (by rw [ha.out]; exact putSel_upk 1 hb_ rfl rfl rfl), B.out, fun _ => C1.out, fun h0_ => (Q_C2 h0_), fun h0_ => (Q_C3 h0_), fun h0_ => (Q_C4 h0_), Q_X1_, Q_X6_, Q_X11_, Q_X17_⟩
        refine steps_cons ?_ ?_
        · rintro b a w' ⟨g1, g2, g3, g4, m1_, m6_, m11_, m17_, ha, Q_B, Q_C1, Q_C2, Q_C3, Q_C4, Q_X1_, Q_X6_, Q_X11_, Q_X17_⟩ hb_ hon hoff
          refine ⟨_, rfl, fun K hK => ?_⟩
          have e43 : a.tmps[43]? = some (.slice A0 l0.length c0) := by rw [ha]; exact (putSel_off rfl).trans rfl
          have e44 : a.tmps[44]? = some (.int .i64 k) := by rw [ha]; exact (putSel_off rfl).trans rfl
          replace ha := Aside0.mk ha
          have B := Aside0.mk Q_B
          refine value_ (w1 := w') (v := .slice A0 p0.length c0) (by rfl) rfl ?_ ?_
          · go_simp
            (try simp only [i64_w])
            try rfl
          refine hK.out _ _ ⟨g1, g2, g3, g4, m1_, m6_, m11_, m17_, (by rw [ha.out]; exact putSel_upk 2 hb_ rfl rfl rfl), Q_B, Q_C1, fun h0_ => absurd ((hoff 6 (by kernel_rfl)).symm.trans h0_) (by decide), Q_C3, Q_C4, Q_X1_, fun h0_ => absurd ((hoff 6 (by kernel_rfl)).symm.trans h0_) (by decide), Q_X11_, Q_X17_⟩
        refine steps_cons ?_ ?_
        · rintro b a w' ⟨g1, g2, g3, g4, m1_, m6_, m11_, m17_, ha, Q_B, Q_C1, Q_C2, Q_C3, Q_C4, Q_X1_, Q_X6_, Q_X11_, Q_X17_⟩ hb_ hon hoff
          refine ⟨_, rfl, fun K hK => ?_⟩
          have e45 : a.tmps[45]? = some (.slice A0 p0.length c0) := by rw [ha]; exact putSel_on (e := (5, 45, .slice A0 p0.length c0)) 2 rfl rfl (hon 5 (by kernel_rfl)) rfl
          replace ha := Aside0.mk ha
          have B := Aside0.mk Q_B
          refine value_ (w1 := w'.alloc (.cells #[.slice A0 p0.length c0] 22)) (v := .slice (some ⟨w'.heap.size, 0, none⟩) 1 1) (by rfl) rfl (by go_simp; try rfl) ?_
          refine hK.out _ _ ⟨g1, w'.heap.size, g3, g4, m1_, (.slice (some ⟨w'.heap.size, 0, none⟩) 1 1), m11_, m17_, (by rw [ha.out]; exact putSel_upk 3 hb_ rfl rfl rfl), B.out.alloc B.out.size _, fun h0_ => Kd.C_alloc (Q_C1 h0_) _, fun _ => one_C (Kd.C_below HG2.out B.out) HL2.out, fun h0_ => Kd.C_alloc (Q_C3 h0_) _, fun h0_ => Kd.C_alloc (Q_C4 h0_) _, Q_X1_, fun _ => rfl, Q_X11_, Q_X17_⟩
        refine steps_cons ?_ ?_
        · rintro b a w' ⟨g1, g2, g3, g4, m1_, m6_, m11_, m17_, ha, Q_B, Q_C1, Q_C2, Q_C3, Q_C4, Q_X1_, Q_X6_, Q_X11_, Q_X17_⟩ hb_ hon hoff
          refine ⟨_, rfl, fun K hK => ?_⟩
          have e46 : a.tmps[46]? = some (m6_) := by rw [ha]; exact putSel_on (e := (6, 46, m6_)) 3 rfl rfl (hon 6 (by kernel_rfl)) rfl
          rw [Q_X6_ (hon 6 (by kernel_rfl))] at e46
          replace ha := Aside0.mk ha
          have B := Aside0.mk Q_B
          have C1 := Aside0.mk (Q_C1 (hon 1 (by kernel_rfl)))
          have C2 := Aside0.mk (Q_C2 (hon 6 (by kernel_rfl)))
          refine goes_ Tryd.func9 (by kernel_rfl) rfl #[.slice (some ⟨g2, 0, none⟩) 1 1] (by rfl) rfl rfl (by first | (simp only [List.map_toArray, List.map_cons, List.map_nil, Act.eval, Array.getD_eq_getD_getElem?, Option.getD_some, e46]; done) | (simp only [List.map_toArray, List.map_cons, List.map_nil, Act.eval, Array.getD_eq_getD_getElem?, Option.getD_some, e46]; rfl)) ?_
          refine (HC2.out w' _ (HT.out.below B.out) C2.out).mono ?_
          rintro e w1 ⟨rfl, rfl⟩
          refine ⟨_, rfl, ?_⟩
          refine hK.out _ _ ⟨g1, g2, g3, g4, m1_, m6_, m11_, m17_, (by rw [ha.out]; exact putSel_upk 4 hb_ rfl rfl rfl), B.out, fun _ => C1.out, fun _ => C2.out, fun h0_ => (Q_C3 h0_), fun h0_ => (Q_C4 h0_), Q_X1_, Q_X6_, Q_X11_, Q_X17_⟩
        refine steps_cons ?_ ?_
        · rintro b a w' ⟨g1, g2, g3, g4, m1_, m6_, m11_, m17_, ha, Q_B, Q_C1, Q_C2, Q_C3, Q_C4, Q_X1_, Q_X6_, Q_X11_, Q_X17_⟩ hb_ hon hoff
          refine ⟨_, rfl, fun K hK => ?_⟩
          have e48 : a.tmps[48]? = some (.slice A1 l1.length c1) := by rw [ha]; exact (putSel_off rfl).trans rfl
          have e49 : a.tmps[49]? = some (.int .i64 k) := by rw [ha]; exact (putSel_off rfl).trans rfl
          replace ha := Aside0.mk ha
          have B := Aside0.mk Q_B
          refine value_ (w1 := w') (v := .slice A1 p1.length c1) (by rfl) rfl ?_ ?_
          · go_simp
            (try simp only [i64_w])
            try rfl
          refine hK.out _ _ ⟨g1, g2, g3, g4, m1_, m6_, m11_, m17_, (by rw [ha.out]; exact putSel_upk 5 hb_ rfl rfl rfl), Q_B, Q_C1, Q_C2, fun h0_ => absurd ((hoff 11 (by kernel_rfl)).symm.trans h0_) (by decide), Q_C4, Q_X1_, Q_X6_, fun h0_ => absurd ((hoff 11 (by kernel_rfl)).symm.trans h0_) (by decide), Q_X17_⟩
        refine steps_cons ?_ ?_
        · rintro b a w' ⟨g1, g2, g3, g4, m1_, m6_, m11_, m17_, ha, Q_B, Q_C1, Q_C2, Q_C3, Q_C4, Q_X1_, Q_X6_, Q_X11_, Q_X17_⟩ hb_ hon hoff
          refine ⟨_, rfl, fun K hK => ?_⟩
          have e50 : a.tmps[50]? = some (.slice A1 p1.length c1) := by rw [ha]; exact putSel_on (e := (10, 50, .slice A1 p1.length c1)) 5 rfl rfl (hon 10 (by kernel_rfl)) rfl
          replace ha := Aside0.mk ha
          have B := Aside0.mk Q_B
          refine value_ (w1 := w'.alloc (.cells #[.slice A1 p1.length c1] 22)) (v := .slice (some ⟨w'.heap.size, 0, none⟩) 1 1) (by rfl) rfl (by go_simp; try rfl) ?_
          refine hK.out _ _ ⟨g1, g2, w'.heap.size, g4, m1_, m6_, (.slice (some ⟨w'.heap.size, 0, none⟩) 1 1), m17_, (by rw [ha.out]; exact putSel_upk 6 hb_ rfl rfl rfl), B.out.alloc B.out.size _, fun h0_ => Kd.C_alloc (Q_C1 h0_) _, fun h0_ => Kd.C_alloc (Q_C2 h0_) _, fun _ => one_C (Kd.C_below HG3.out B.out) HL3.out, fun h0_ => Kd.C_alloc (Q_C4 h0_) _, Q_X1_, Q_X6_, fun _ => rfl, Q_X17_⟩
        refine steps_cons ?_ ?_
        · rintro b a w' ⟨g1, g2, g3, g4, m1_, m6_, m11_, m17_, ha, Q_B, Q_C1, Q_C2, Q_C3, Q_C4, Q_X1_, Q_X6_, Q_X11_, Q_X17_⟩ hb_ hon hoff
          refine ⟨_, rfl, fun K hK => ?_⟩
          have e51 : a.tmps[51]? = some (m11_) := by rw [ha]; exact putSel_on (e := (11, 51, m11_)) 6 rfl rfl (hon 11 (by kernel_rfl)) rfl
          rw [Q_X11_ (hon 11 (by kernel_rfl))] at e51
          replace ha := Aside0.mk ha
          have B := Aside0.mk Q_B
          have C1 := Aside0.mk (Q_C1 (hon 1 (by kernel_rfl)))
          have C2 := Aside0.mk (Q_C2 (hon 6 (by kernel_rfl)))
          have C3 := Aside0.mk (Q_C3 (hon 11 (by kernel_rfl)))
          refine goes_ Tryd.func9 (by kernel_rfl) rfl #[.slice (some ⟨g3, 0, none⟩) 1 1] (by rfl) rfl rfl (by first | (simp only [List.map_toArray, List.map_cons, List.map_nil, Act.eval, Array.getD_eq_getD_getElem?, Option.getD_some, e51]; done) | (simp only [List.map_toArray, List.map_cons, List.map_nil, Act.eval, Array.getD_eq_getD_getElem?, Option.getD_some, e51]; rfl)) ?_
          refine (HC3.out w' _ (HT.out.below B.out) C3.out).mono ?_
          rintro e w1 ⟨rfl, rfl⟩
          refine ⟨_, rfl, ?_⟩
          refine hK.out _ _ ⟨g1, g2, g3, g4, m1_, m6_, m11_, m17_, (by rw [ha.out]; exact putSel_upk 7 hb_ rfl rfl rfl), B.out, fun _ => C1.out, fun _ => C2.out, fun _ => C3.out, fun h0_ => (Q_C4 h0_), Q_X1_, Q_X6_, Q_X11_, Q_X17_⟩
        refine steps_cons ?_ ?_
        · rintro b a w' ⟨g1, g2, g3, g4, m1_, m6_, m11_, m17_, ha, Q_B, Q_C1, Q_C2, Q_C3, Q_C4, Q_X1_, Q_X6_, Q_X11_, Q_X17_⟩ hb_ hon hoff
          refine ⟨_, rfl, fun K hK => ?_⟩
          have e47 : a.tmps[47]? = some (.int .u32 (s1 : Int)) := by rw [ha]; exact putSel_on (e := (7, 47, .int .u32 (s1 : Int))) 4 rfl rfl (hon 7 (by kernel_rfl)) rfl
          have e52 : a.tmps[52]? = some (.int .u32 (s2 : Int)) := by rw [ha]; exact putSel_on (e := (12, 52, .int .u32 (s2 : Int))) 7 rfl rfl (hon 12 (by kernel_rfl)) rfl
          replace ha := Aside0.mk ha
          have B := Aside0.mk Q_B
          have C1 := Aside0.mk (Q_C1 (hon 1 (by kernel_rfl)))
          have C2 := Aside0.mk (Q_C2 (hon 6 (by kernel_rfl)))
          have C3 := Aside0.mk (Q_C3 (hon 11 (by kernel_rfl)))
          refine value_ (w1 := w') (v := .int .u32 (ab : Int)) (by rfl) rfl ?_ ?_
          · go_simp
            (try simp only [i64_w])
            try rfl
          refine hK.out _ _ ⟨g1, g2, g3, g4, m1_, m6_, m11_, m17_, (by rw [ha.out]; exact putSel_upk 8 hb_ rfl rfl rfl), Q_B, Q_C1, Q_C2, Q_C3, Q_C4, Q_X1_, Q_X6_, Q_X11_, Q_X17_⟩
        refine steps_cons ?_ ?_
        · rintro b a w' ⟨g1, g2, g3, g4, m1_, m6_, m11_, m17_, ha, Q_B, Q_C1, Q_C2, Q_C3, Q_C4, Q_X1_, Q_X6_, Q_X11_, Q_X17_⟩ hb_ hon hoff
          refine ⟨_, rfl, fun K hK => ?_⟩
          have e54 : a.tmps[54]? = some (.slice A2 l2.length c2) := by rw [ha]; exact (putSel_off rfl).trans rfl
          have e55 : a.tmps[55]? = some (.int .i64 k) := by rw [ha]; exact (putSel_off rfl).trans rfl
          replace ha := Aside0.mk ha
          have B := Aside0.mk Q_B
          refine value_ (w1 := w') (v := .slice A2 p2.length c2) (by rfl) rfl ?_ ?_
          · go_simp
            (try simp only [i64_w])
            try rfl
          refine hK.out _ _ ⟨g1, g2, g3, g4, m1_, m6_, m11_, m17_, (by rw [ha.out]; exact putSel_upk 9 hb_ rfl rfl rfl), Q_B, Q_C1, Q_C2, Q_C3, fun h0_ => absurd ((hoff 17 (by kernel_rfl)).symm.trans h0_) (by decide), Q_X1_, Q_X6_, Q_X11_, fun h0_ => absurd ((hoff 17 (by kernel_rfl)).symm.trans h0_) (by decide)⟩
        refine steps_cons ?_ ?_
        · rintro b a w' ⟨g1, g2, g3, g4, m1_, m6_, m11_, m17_, ha, Q_B, Q_C1, Q_C2, Q_C3, Q_C4, Q_X1_, Q_X6_, Q_X11_, Q_X17_⟩ hb_ hon hoff
          refine ⟨_, rfl, fun K hK => ?_⟩
          have e56 : a.tmps[56]? = some (.slice A2 p2.length c2) := by rw [ha]; exact putSel_on (e := (16, 56, .slice A2 p2.length c2)) 9 rfl rfl (hon 16 (by kernel_rfl)) rfl
          replace ha := Aside0.mk ha
          have B := Aside0.mk Q_B
          refine value_ (w1 := w'.alloc (.cells #[.slice A2 p2.length c2] 22)) (v := .slice (some ⟨w'.heap.size, 0, none⟩) 1 1) (by rfl) rfl (by go_simp; try rfl) ?_
          refine hK.out _ _ ⟨g1, g2, g3, w'.heap.size, m1_, m6_, m11_, (.slice (some ⟨w'.heap.size, 0, none⟩) 1 1), (by rw [ha.out]; exact putSel_upk 10 hb_ rfl rfl rfl), B.out.alloc B.out.size _, fun h0_ => Kd.C_alloc (Q_C1 h0_) _, fun h0_ => Kd.C_alloc (Q_C2 h0_) _, fun h0_ => Kd.C_alloc (Q_C3 h0_) _, fun _ => one_C (Kd.C_below HG4.out B.out) HL4.out, Q_X1_, Q_X6_, Q_X11_, fun _ => rfl⟩
        refine steps_cons ?_ ?_
        · rintro b a w' ⟨g1, g2, g3, g4, m1_, m6_, m11_, m17_, ha, Q_B, Q_C1, Q_C2, Q_C3, Q_C4, Q_X1_, Q_X6_, Q_X11_, Q_X17_⟩ hb_ hon hoff
          refine ⟨_, rfl, fun K hK => ?_⟩
          have e57 : a.tmps[57]? = some (m17_) := by rw [ha]; exact putSel_on (e := (17, 57, m17_)) 10 rfl rfl (hon 17 (by kernel_rfl)) rfl
          rw [Q_X17_ (hon 17 (by kernel_rfl))] at e57
          replace ha := Aside0.mk ha
          have B := Aside0.mk Q_B
          have C1 := Aside0.mk (Q_C1 (hon 1 (by kernel_rfl)))
          have C2 := Aside0.mk (Q_C2 (hon 6 (by kernel_rfl)))
          have C3 := Aside0.mk (Q_C3 (hon 11 (by kernel_rfl)))
          have C4 := Aside0.mk (Q_C4 (hon 17 (by kernel_rfl)))
          refine goes_ Tryd.func9 (by kernel_rfl) rfl #[.slice (some ⟨g4, 0, none⟩) 1 1] (by rfl) rfl rfl (by first | (simp only [List.map_toArray, List.map_cons, List.map_nil, Act.eval, Array.getD_eq_getD_getElem?, Option.getD_some, e57]; done) | (simp only [List.map_toArray, List.map_cons, List.map_nil, Act.eval, Array.getD_eq_getD_getElem?, Option.getD_some, e57]; rfl)) ?_
          refine (HC4.out w' _ (HT.out.below B.out) C4.out).mono ?_
          rintro e w1 ⟨rfl, rfl⟩
          refine ⟨_, rfl, ?_⟩
          refine hK.out _ _ ⟨g1, g2, g3, g4, m1_, m6_, m11_, m17_, (by rw [ha.out]; exact putSel_upk 11 hb_ rfl rfl rfl), B.out, fun _ => C1.out, fun _ => C2.out, fun _ => C3.out, fun _ => C4.out, Q_X1_, Q_X6_, Q_X11_, Q_X17_⟩
        refine steps_cons ?_ ?_
        · rintro b a w' ⟨g1, g2, g3, g4, m1_, m6_, m11_, m17_, ha, Q_B, Q_C1, Q_C2, Q_C3, Q_C4, Q_X1_, Q_X6_, Q_X11_, Q_X17_⟩ hb_ hon hoff
          refine ⟨_, rfl, fun K hK => ?_⟩
          have e53 : a.tmps[53]? = some (.int .u32 (ab : Int)) := by rw [ha]; exact putSel_on (e := (13, 53, .int .u32 (ab : Int))) 8 rfl rfl (hon 13 (by kernel_rfl)) rfl
          have e58 : a.tmps[58]? = some (.int .u32 (s3 : Int)) := by rw [ha]; exact putSel_on (e := (18, 58, .int .u32 (s3 : Int))) 11 rfl rfl (hon 18 (by kernel_rfl)) rfl
          replace ha := Aside0.mk ha
          have B := Aside0.mk Q_B
          have C1 := Aside0.mk (Q_C1 (hon 1 (by kernel_rfl)))
          have C2 := Aside0.mk (Q_C2 (hon 6 (by kernel_rfl)))
          have C3 := Aside0.mk (Q_C3 (hon 11 (by kernel_rfl)))
          have C4 := Aside0.mk (Q_C4 (hon 17 (by kernel_rfl)))
          refine value_ (w1 := w') (v := .int .u32 (s : Int)) (by rfl) rfl ?_ ?_
          · go_simp
            (try simp only [i64_w])
            try rfl
          refine hK.out _ _ ⟨g1, g2, g3, g4, m1_, m6_, m11_, m17_, (by rw [ha.out]; exact putSel_upk 12 hb_ rfl rfl rfl), Q_B, Q_C1, Q_C2, Q_C3, Q_C4, Q_X1_, Q_X6_, Q_X11_, Q_X17_⟩
        refine steps_cons ?_ ?_
        · rintro b a w' ⟨g1, g2, g3, g4, m1_, m6_, m11_, m17_, ha, Q_B, Q_C1, Q_C2, Q_C3, Q_C4, Q_X1_, Q_X6_, Q_X11_, Q_X17_⟩ hb_ hon hoff
          refine ⟨_, rfl, fun K hK => ?_⟩
          have e42 : a.tmps[42]? = some (.int .u32 (s : Int)) := by rw [ha]; exact putSel_on (e := (2, 42, .int .u32 (s : Int))) 1 rfl rfl (hon 2 (by kernel_rfl)) rfl
          have e59 : a.tmps[59]? = some (.int .u32 (s : Int)) := by rw [ha]; exact putSel_on (e := (19, 59, .int .u32 (s : Int))) 12 rfl rfl (hon 19 (by kernel_rfl)) rfl
          replace ha := Aside0.mk ha
          have B := Aside0.mk Q_B
          have C1 := Aside0.mk (Q_C1 (hon 1 (by kernel_rfl)))
          have C2 := Aside0.mk (Q_C2 (hon 6 (by kernel_rfl)))
          have C3 := Aside0.mk (Q_C3 (hon 11 (by kernel_rfl)))
          have C4 := Aside0.mk (Q_C4 (hon 17 (by kernel_rfl)))
          refine value_ (w1 := w') (v := .bool true) (by rfl) rfl ?_ ?_
          · go_simp
            (try simp only [i64_w])
            try rfl
          refine hK.out _ _ ⟨g1, g2, g3, g4, m1_, m6_, m11_, m17_, (by rw [ha.out]; exact putSel_upk 13 hb_ rfl rfl rfl), Q_B, Q_C1, Q_C2, Q_C3, Q_C4, Q_X1_, Q_X6_, Q_X11_, Q_X17_⟩
        refine steps_cons ?_ ?_
        · rintro b a w' ⟨g1, g2, g3, g4, m1_, m6_, m11_, m17_, ha, Q_B, Q_C1, Q_C2, Q_C3, Q_C4, Q_X1_, Q_X6_, Q_X11_, Q_X17_⟩ hb_ hon hoff
          refine ⟨_, rfl, fun K hK => ?_⟩
          have e60 : a.tmps[60]? = some (.bool true) := by rw [ha]; exact putSel_on (e := (20, 60, .bool true)) 13 rfl rfl (hon 20 (by kernel_rfl)) rfl
          replace ha := Aside0.mk ha
          have B := Aside0.mk Q_B
          have C1 := Aside0.mk (Q_C1 (hon 1 (by kernel_rfl)))
          have C2 := Aside0.mk (Q_C2 (hon 6 (by kernel_rfl)))
          have C3 := Aside0.mk (Q_C3 (hon 11 (by kernel_rfl)))
          have C4 := Aside0.mk (Q_C4 (hon 17 (by kernel_rfl)))
          refine value_ (w1 := w') (v := .bool true) (by rfl) rfl ?_ ?_
          · go_simp
            (try simp only [i64_w])
            try rfl
          refine hK.out _ _ ⟨g1, g2, g3, g4, m1_, m6_, m11_, m17_, (by rw [ha.out]; exact putSel_upk 14 hb_ rfl rfl rfl), Q_B, Q_C1, Q_C2, Q_C3, Q_C4, Q_X1_, Q_X6_, Q_X11_, Q_X17_⟩
        refine steps_cons ?_ ?_
        · rintro b a w' ⟨g1, g2, g3, g4, m1_, m6_, m11_, m17_, ha, Q_B, Q_C1, Q_C2, Q_C3, Q_C4, Q_X1_, Q_X6_, Q_X11_, Q_X17_⟩ hb_ hon hoff
          refine ⟨_, rfl, fun K hK => ?_⟩
          have e61 : a.tmps[61]? = some (.bool true) := by rw [ha]; exact putSel_on (e := (21, 61, .bool true)) 14 rfl rfl (hon 21 (by kernel_rfl)) rfl
          replace ha := Aside0.mk ha
          have B := Aside0.mk Q_B
          have C1 := Aside0.mk (Q_C1 (hon 1 (by kernel_rfl)))
          have C2 := Aside0.mk (Q_C2 (hon 6 (by kernel_rfl)))
          have C3 := Aside0.mk (Q_C3 (hon 11 (by kernel_rfl)))
          have C4 := Aside0.mk (Q_C4 (hon 17 (by kernel_rfl)))
          refine goes_ Tryd.func13 (by kernel_rfl) rfl #[] (wanted_on rfl rfl rfl (e61.trans (by first | rfl | (simp [*]; done)))) rfl rfl (by first | (simp only [List.map_toArray, List.map_cons, List.map_nil, Act.eval, Array.getD_eq_getD_getElem?, Option.getD_some, e61]; done) | (simp only [List.map_toArray, List.map_cons, List.map_nil, Act.eval, Array.getD_eq_getD_getElem?, Option.getD_some, e61]; rfl)) ?_
          refine (awake_calls w' (HT.out.below B.out)).mono ?_
          rintro e w1 ⟨rfl, hB1⟩
          refine ⟨_, rfl, ?_⟩
          refine hK.out _ _ ⟨g1, g2, g3, g4, m1_, m6_, m11_, m17_, (by rw [ha.out]; exact putSel_upk 15 hb_ rfl rfl rfl), B.out.trans (hB1.mono B.out.size), fun _ => Kd.C_below C1.out hB1, fun _ => Kd.C_below C2.out hB1, fun _ => Kd.C_below C3.out hB1, fun _ => Kd.C_below C4.out hB1, Q_X1_, Q_X6_, Q_X11_, Q_X17_⟩
        refine steps_cons ?_ ?_
        · rintro b a w' ⟨g1, g2, g3, g4, m1_, m6_, m11_, m17_, ha, Q_B, Q_C1, Q_C2, Q_C3, Q_C4, Q_X1_, Q_X6_, Q_X11_, Q_X17_⟩ hb_ hon hoff
          refine ⟨_, rfl, fun K hK => ?_⟩
          have e61 : a.tmps[61]? = some (.bool true) := by rw [ha]; exact putSel_on (e := (21, 61, .bool true)) 14 rfl rfl (hon 21 (by kernel_rfl)) rfl
          have e62 : a.tmps[62]? = some (.bool true) := by rw [ha]; exact putSel_on (e := (22, 62, .bool true)) 15 rfl rfl (hon 22 (by kernel_rfl)) rfl
          replace ha := Aside0.mk ha
          have B := Aside0.mk Q_B
          have C1 := Aside0.mk (Q_C1 (hon 1 (by kernel_rfl)))
          have C2 := Aside0.mk (Q_C2 (hon 6 (by kernel_rfl)))
          have C3 := Aside0.mk (Q_C3 (hon 11 (by kernel_rfl)))
          have C4 := Aside0.mk (Q_C4 (hon 17 (by kernel_rfl)))
          refine value_ (w1 := w') (v := .bool true) (by rfl) rfl ?_ ?_
          · go_simp
            (try simp only [i64_w])
            try rfl
          refine hK.out _ _ ⟨g1, g2, g3, g4, m1_, m6_, m11_, m17_, (by rw [ha.out]; exact putSel_upk 16 hb_ rfl rfl rfl), Q_B, Q_C1, Q_C2, Q_C3, Q_C4, Q_X1_, Q_X6_, Q_X11_, Q_X17_⟩
        refine steps_cons ?_ ?_
        · rintro b a w' ⟨g1, g2, g3, g4, m1_, m6_, m11_, m17_, ha, Q_B, Q_C1, Q_C2, Q_C3, Q_C4, Q_X1_, Q_X6_, Q_X11_, Q_X17_⟩ hb_ hon hoff
          refine ⟨_, rfl, fun K hK => ?_⟩
          have e63 : a.tmps[63]? = some (.bool true) := by rw [ha]; exact putSel_on (e := (23, 63, .bool true)) 16 rfl rfl (hon 23 (by kernel_rfl)) rfl
          replace ha := Aside0.mk ha
          have B := Aside0.mk Q_B
          have C1 := Aside0.mk (Q_C1 (hon 1 (by kernel_rfl)))
          have C2 := Aside0.mk (Q_C2 (hon 6 (by kernel_rfl)))
          have C3 := Aside0.mk (Q_C3 (hon 11 (by kernel_rfl)))
          have C4 := Aside0.mk (Q_C4 (hon 17 (by kernel_rfl)))
          refine value_ (w1 := w') (v := .bool true) (by rfl) rfl ?_ ?_
          · go_simp
            (try simp only [i64_w])
            try rfl
          refine hK.out _ _ ⟨g1, g2, g3, g4, m1_, m6_, m11_, m17_, (by rw [ha.out]; exact putSel_upk 17 hb_ rfl rfl rfl), Q_B, Q_C1, Q_C2, Q_C3, Q_C4, Q_X1_, Q_X6_, Q_X11_, Q_X17_⟩
        exact steps_nil
      rintro b a w' hall ⟨g1, g2, g3, g4, m1_, m6_, m11_, m17_, ha, Q_B, Q_C1, Q_C2, Q_C3, Q_C4, Q_X1_, Q_X6_, Q_X11_, Q_X17_⟩
      clear B
      have hb1_ := hall 1 (by kernel_rfl)
      have hb2_ := hall 2 (by kernel_rfl)
      have hb5_ := hall 5 (by kernel_rfl)
      have hb6_ := hall 6 (by kernel_rfl)
      have hb7_ := hall 7 (by kernel_rfl)
      have hb10_ := hall 10 (by kernel_rfl)
      have hb11_ := hall 11 (by kernel_rfl)
      have hb12_ := hall 12 (by kernel_rfl)
      have hb13_ := hall 13 (by kernel_rfl)
      have hb16_ := hall 16 (by kernel_rfl)
      have hb17_ := hall 17 (by kernel_rfl)
      have hb18_ := hall 18 (by kernel_rfl)
      have hb19_ := hall 19 (by kernel_rfl)
      have hb20_ := hall 20 (by kernel_rfl)
      have hb21_ := hall 21 (by kernel_rfl)
      have hb22_ := hall 22 (by kernel_rfl)
      have hb23_ := hall 23 (by kernel_rfl)
      have hb24_ := hall 24 (by kernel_rfl)
      subst ha
      obtain rfl := Q_X1_ hb1_
      obtain rfl := Q_X6_ hb6_
      obtain rfl := Q_X11_ hb11_
      obtain rfl := Q_X17_ hb17_
      simp only [putSel, hb1_, hb2_, hb5_, hb6_, hb7_, hb10_, hb11_, hb12_, hb13_, hb16_, hb17_, hb18_, hb19_, hb20_, hb21_, hb22_, hb23_, hb24_, if_true, Act.put, List.setIfInBounds_toArray, List.set_cons_zero, List.set_cons_succ]
      have B := Aside0.mk Q_B
      clear Q_B
      have C1 := Aside0.mk (Q_C1 hb1_)
      clear Q_C1
      have C2 := Aside0.mk (Q_C2 hb6_)
      clear Q_C2
      have C3 := Aside0.mk (Q_C3 hb11_)
      clear Q_C3
      have C4 := Aside0.mk (Q_C4 hb17_)
      clear Q_C4
      clear hall hb1_ hb2_ hb5_ hb6_ hb7_ hb10_ hb11_ hb12_ hb13_ hb16_ hb17_ hb18_ hb19_ hb20_ hb21_ hb22_ hb23_ hb24_
      go_wp2
      go_ret
      exact ⟨rfl, hB.trans (B.out.mono hB.size)⟩
end Go.Proofs.YtdgahdfegpkmfaaDoor.Crc
