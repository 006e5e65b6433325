/- The statement FragBack: the plain law and the walk. -/
import Derived.Test.YtgfkdebbdjojmaaFragJ
namespace Go.Proofs.Ytgfkdebbdjojmaa.Frag
open Go.RowKit Go.Proofs.YtgfkdebbdjojmaaW.PrintWords Go.Proofs.Ytgfkdebbdjojmaa.Base
set_option linter.unusedVariables false
set_option linter.unusedSimpArgs false
theorem cutL_length (l : List UInt8) (n : Nat) : (cutL l n).length = manyP l.length n := by unfold cutL; rw [List.length_map, List.length_range]
theorem cutL_getD (l : List UInt8) (n k : Nat) (h : k < manyP l.length n) : (cutL l n).getD k zPc = (decide (k = 0), decide (k + 1 = manyP l.length n), (l.drop (k * n)).take n) := map_range_getD _ _ _ h
theorem take_more (l : List UInt8) (n k : Nat) : l.take (k * n) ++ (l.drop (k * n)).take n = l.take ((k + 1) * n) := by
  rw [Nat.add_mul, Nat.one_mul, List.take_add]
theorem join_cut (l : List UInt8) (n : Nat) (hn : 1 ≤ n) (d k : Nat) (hd : manyP l.length n - k = d) (hk : k ≤ manyP l.length n) : joinR k (decide (0 < k)) (l.take (k * n)) ((cutL l n).drop k) = .ok (l.take (manyP l.length n * n)) := by
  induction d generalizing k with
  | zero =>
    obtain rfl : k = manyP l.length n := by omega
    rw [List.drop_of_length_le (by rw [cutL_length]; exact Nat.le_refl _)]
    rfl
  | succ d ih =>
    have hlt : k < manyP l.length n := by omega
    rw [drop_pc _ k (by rw [cutL_length]; exact hlt), cutL_getD l n k hlt, joinR_step]
    have hkn := (many_mul (len := l.length) hn).1 hlt
    have h1 : ¬ (((l.drop (k * n)).take n).length = 0 ∨ decide (k = 0) = decide (0 < k)) := by
      rintro (h | h)
      · rw [List.length_take, List.length_drop] at h
        omega
      · by_cases h0 : k = 0
        · subst h0; simp at h
        · rw [decide_eq_false h0, decide_eq_true (by omega)] at h
          cases h
    have h2 : ¬ (decide (k + 1 = manyP l.length n) = true ∧ (cutL l n).drop (k + 1) ≠ []) := by
      rintro ⟨h3, h4⟩
      apply h4
      rw [List.drop_eq_nil_iff, cutL_length]
      have := of_decide_eq_true h3
      omega
    rw [if_neg h1, if_neg h2, take_more]
    have := ih (k + 1) (by omega) (by omega)
    rw [decide_eq_true (Nat.succ_pos k)] at this
    exact this
theorem join_back (l : List UInt8) (n : Nat) (hn : 1 ≤ n) (h0 : 1 ≤ l.length) (hl : l.length ≤ 65536) : joinS (cutL l n) = (l, 0, 0) := by
  have hm1 : 1 ≤ manyP l.length n := (many_mul hn).2 (by omega)
  have hmn : l.length ≤ manyP l.length n * n := by
    have := mt (many_mul (len := l.length) (k := manyP l.length n) hn).2 (by omega)
    omega
  have h := join_cut l n hn _ 0 rfl (Nat.zero_le _)
  rw [Nat.zero_mul, List.take_zero, List.drop_zero, List.take_of_length_le hmn] at h
  rw [joinS_ok (show joinR 0 false [] (cutL l n) = .ok l from h), cutL_length, cutL_getD _ _ _ (by omega)]
  rw [if_neg (by
    rintro (h | h)
    · omega
    · have : decide (manyP l.length n - 1 + 1 = manyP l.length n) = false := h
      rw [decide_eq_true (by omega)] at this
      cases this), if_neg (by omega)]
theorem cut_sum (l : List UInt8) (n : Nat) : ((cutL l n).map (·.2.2.length)).sum ≤ manyP l.length n * n := by
  unfold cutL
  rw [List.map_map]
  have : ∀ m, ((List.range m).map ((fun x : Pc => x.2.2.length) ∘ fun k => (decide (k = 0), decide (k + 1 = manyP l.length n), (l.drop (k * n)).take n))).sum ≤ m * n := by
    intro m
    induction m with
    | zero => simp
    | succ m ih =>
      rw [List.range_succ, List.map_append, List.sum_append, Nat.add_mul, Nat.one_mul]
      have : (((l.drop (m * n)).take n)).length ≤ n := by rw [List.length_take]; omega
      simp only [List.map_cons, List.map_nil, List.sum_cons, List.sum_nil, Function.comp]
      omega
  exact this _
set_option maxHeartbeats 1000000 in
theorem fragBack_row {w : World} (A : Option Addr) (c : Nat) (l : List UInt8) (hb : byte.C w A l.length l) (hc : l.length ≤ c) (hm : c ≤ 140737488351232) (n : Int) (hn : (Lit.int .i64 n).wf = true) :
    Calls Try.prog 5 #[.slice A l.length c, .int .i64 n] w fun e w' => e = .returned (.bool true) ∧ Below w.heap.size w w' := by
  have HCU := Lib.hid (cut_any w A l c n hb hc (by omega))
  unfold CutAny cutA at HCU
  by_cases h : (countS l.length n).2 = 0
  · obtain ⟨h1, h2, h3, h4⟩ := countS_ok h
    rw [if_pos h] at HCU
    have hnn : n = ((n.toNat : Nat) : Int) := by omega
    generalize n.toNat = m at *
    subst hnn
    have hm1 : 1 ≤ m := by omega
    have hml : manyP l.length m ≤ l.length := many_le hm1
    have hsum := cut_sum l m
    have hmm : manyP l.length m * m ≤ 65536 * 65536 := Nat.mul_le_mul (by omega) (by omega)
    have HJ := Lib.hid (fun (W : World) (A : Option Addr) (c : Nat) (h : Kd.C pcK W A (cutL l m).length (cutL l m)) => join_calls W A c (cutL l m) h (by omega) (by rw [cutL_length]; omega))
    unfold JoinPost at HJ
    rw [join_back l m hm1 (by omega) (by omega)] at HJ
    have HG := Lib.hid (fun k (hk : k < (cutL l m).length) => show ((cutL l m).getD k zPc).2.2.length ≤ m ∧ ((k : Int) < ((cutL l m).length : Int) - 1 → ((cutL l m).getD k zPc).2.2.length = m) from by
      rw [cutL_length] at hk ⊢
      rw [cutL_getD _ _ _ hk]
      refine ⟨by show ((l.drop (k * m)).take m).length ≤ m; rw [List.length_take]; omega, fun hk2 => ?_⟩
      show ((l.drop (k * m)).take m).length = m
      have := (many_mul (len := l.length) (k := k + 1) hm1).1 (by omega)
      rw [Nat.add_mul, Nat.one_mul] at this
      rw [List.length_take, List.length_drop]
      omega)
    have hss : ((bstr l).toList == (bstr l).toList) = true := by simp
    have HB := Lib.hid hb
    have hlen : (cutL l m).length ≤ 65536 := by rw [cutL_length]; omega
    clear hb h hsum hmm hml hn
    generalize cutL l m = ps at *
    go_enter Try.func5, Try.ntmps5
    go_wp2_with fail
    refine HCU.out.mono ?_
    rintro e w1 ⟨v1, rfl, hR1, hB1⟩
    obtain ⟨A1, c1, rfl, _, hK1⟩ := Kd.R_reads hR1
    have HK1 := Lib.hid hK1
    have HB1 := Lib.hid hB1
    clear hR1 hK1 hB1
    go_wp2_with fail
    go_loopw [7] (fun v7 wr => ∃ k : Nat, k ≤ ps.length ∧ v7 = .int .i64 k ∧ Drawn0 w1 wr) (fun v7 _ => ps.length - (intOf v7).toNat)
    case atStart => exact ⟨0, by omega, rfl, Drawn0.refl _⟩
    case round =>
      obtain ⟨k, hk, rfl, ⟨nd, rfl⟩⟩ := hrel
      by_cases hlt : k < ps.length
      · obtain ⟨ad, B0, d0, rfl, x0, y0, z0, l0, b0⟩ := at_pc HK1.out k hlt
        obtain ⟨hg1, hg2⟩ := HG.out k hlt
        clear x0 y0 l0 b0
        have hg1' : ¬ (((ps.getD k zPc).2.2.length : Nat) : Int) > (m : Int) := by omega
        by_cases hkl : (k : Int) < (ps.length : Int) - 1
        · have hg3 : ¬ (((ps.getD k zPc).2.2.length : Nat) : Int) < (m : Int) := by have := hg2 hkl; omega
          clear hg1 hg2
          generalize (ps.getD k zPc).2.2.length = q at *
          go_wp2
          try go_quiet (fail)
          try go_wp2
          go_roundw
          case rel => exact ⟨k + 1, by omega, by go_num, drawn2 (by first | exact ⟨_, rfl⟩ | exact ⟨_, World.drewN_drewN ..⟩)⟩
          case measure => simp [intOf]; omega
        · clear hg1 hg2
          generalize (ps.getD k zPc).2.2.length = q at *
          go_wp2
          try go_quiet (fail)
          try go_wp2
          go_roundw
          case rel => exact ⟨k + 1, by omega, by go_num, drawn2 (by first | exact ⟨_, rfl⟩ | exact ⟨_, World.drewN_drewN ..⟩)⟩
          case measure => simp [intOf]; omega
      · obtain rfl : k = ps.length := by omega
        have HBD := Lib.hid (pw_below_drewN HB1.out nd)
        have HKD := Lib.hid (Kd.C_drewN HK1.out nd)
        generalize w1.drewN nd = W1 at *
        go_wp2_with fail
        refine (HJ.out W1 A1 c1 HKD.out).mono ?_
        rintro e w2 ⟨v2, rfl, hR2, hB2⟩
        obtain ⟨A2, c2, rfl, _, hK2⟩ := Kd.R_reads hR2
        have HB2 := Lib.hid (below_then HBD.out HBD.out.size hB2)
        have r1 := run_bstr (c := c2) hK2
        have r2 := run_bstr (c := c) (Kd.C_below HB.out HB2.out)
        clear hR2 hK2 hB2
        go_wp2_with fail
        refine (alive_calls _).mono ?_
        rintro e w9 ⟨rfl, hB9⟩
        go_wp2
        go_ret
        exact ⟨rfl, below_then HB2.out HB2.out.size hB9⟩
  · rw [if_neg h] at HCU
    have hne : ((countS (l.length : Int) n).2 != 0) = true := by simp [h]
    clear hb h hn
    generalize (countS (l.length : Int) n).2 = code at *
    go_enter Try.func5, Try.ntmps5
    go_wp2_with fail
    refine HCU.out.mono ?_
    rintro e w1 ⟨v1, rfl, hR1, hB1⟩
    obtain ⟨A1, c1, rfl⟩ := Kd.R_slice hR1
    have HB1 := Lib.hid hB1
    clear hR1 hB1
    go_wp2_with fail
    refine (alive_calls _).mono ?_
    rintro e w9 ⟨rfl, hB9⟩
    go_wp2
    go_ret
    exact ⟨rfl, below_then HB1.out HB1.out.size hB9⟩
end Go.Proofs.Ytgfkdebbdjojmaa.Frag
