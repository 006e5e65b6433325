/- The reference's Look of what is no cookie: walked; the plain law of a cookie read back. -/
import Derived.Test.YthdemajmlidefaaCkI
namespace Go.Proofs.Ythdemajmlidefaa.Ck
open Go.RowKit Go.Proofs.YthdemajmlidefaaW.PrintWords Go.Proofs.YthdemajmlidefaaW.PrintLast Go.Proofs.Ythdemajmlidefaa.Base Go.Proofs.Ythdemajmlidefaa.Mac
set_option linter.unusedVariables false
set_option linter.unusedSimpArgs false
set_option maxHeartbeats 1000000 in
theorem refLook_bad (w : World) (A : Option Addr) (c : Nat) (l : List UInt8) (hb : byte.C w A l.length l) (hc : l.length ≤ c) (h : lookB l = false) :
    Calls Try.prog 14 #[.slice A l.length c] w (NoLook w) := by
  have hnot := of_decide_eq_false h
  have HGB := Lib.hid (blk_new w (.cells (offV zF) 27))
  have HB := Lib.hid (below_alloc (Below.refl w.heap.size w) (.cells (offV zF) 27))
  have HP := Lib.hid (below_setRow HB.out (Nat.le_refl w.heap.size) (offV zF))
  have HQ := Lib.hid (setRow_heap _ w.heap.size _ (offV zF) _ _ HGB.out)
  by_cases hl : l.length = 56
  · have HG0 := Lib.hid (fun (W : World) (hW : Below w.heap.size w W) => (show Calls Try.prog 27 #[.slice A l.length c, .int .i64 0, .int .i64 8] W fun e w' => e = .returned (.int .u64 (valF l 0 : Nat)) ∧ w' = W from refGet_calls W A c l (Kd.C_below hb hW) 0 8 (by decide) (by omega) (by omega)))
    have HG1 := Lib.hid (fun (W : World) (hW : Below w.heap.size w W) => (show Calls Try.prog 27 #[.slice A l.length c, .int .i64 8, .int .i64 4] W fun e w' => e = .returned (.int .u64 (valF l 1 : Nat)) ∧ w' = W from refGet_calls W A c l (Kd.C_below hb hW) 8 4 (by decide) (by omega) (by omega)))
    have hcase : valF l 0 > 1099511627776 ∨ (valF l 0 ≤ 1099511627776 ∧ (valF l 1 < 1 ∨ (1 ≤ valF l 1 ∧ valF l 1 > 2147483648))) := by
      by_cases a : valF l 0 > 1099511627776
      · exact Or.inl a
      · refine Or.inr ⟨by omega, ?_⟩
        by_cases b : valF l 1 < 1
        · exact Or.inl b
        · exact Or.inr ⟨by omega, Nat.lt_of_not_le (fun d => hnot ⟨hl, by omega, by omega, d⟩)⟩
    have hne : ((l.length : Int) != 56) = false := by simp [hl]
    clear hb h hnot
    generalize valF l = x at *
    generalize hN : l.length = N at *
    clear hN hl
    rcases hcase with i0 | ⟨i0, i1 | ⟨i1, i2⟩⟩
    · have j0 : ((x 0 : Nat) : Int) > 1099511627776 := by omega
      go_enter Try.func14, Try.ntmps14
      go_wp2_with fail
      refine (HG0.out _ HB.out).mono ?_
      rintro e w' ⟨rfl, rfl⟩
      go_wp2_with (refine wpList_store_row rfl 27 _ _ rfl w.heap.size (offV zF) rfl rfl 27 (offV zF) HGB.out (by kernel_rfl) rfl (by simp [offV, Value.oneCell']) ?_)
      refine bodyPost_ret (results_cttt rfl _ _ w.heap.size 27 _ (0, 0) _ rfl HQ.out Try.underlying27 rfl (by kernel_rfl)) rfl ?_
      exact ⟨rfl, HP.out⟩
    · have j0 : ¬ ((x 0 : Nat) : Int) > 1099511627776 := by omega
      have j1 : ((x 1 : Nat) : Int) < 1 := by omega
      go_enter Try.func14, Try.ntmps14
      go_wp2_with fail
      refine (HG0.out _ HB.out).mono ?_
      rintro e w' ⟨rfl, rfl⟩
      go_wp2_with fail
      refine (HG1.out _ HB.out).mono ?_
      rintro e w' ⟨rfl, rfl⟩
      go_wp2_with (refine wpList_store_row rfl 27 _ _ rfl w.heap.size (offV zF) rfl rfl 27 (offV zF) HGB.out (by kernel_rfl) rfl (by simp [offV, Value.oneCell']) ?_)
      refine bodyPost_ret (results_cttt rfl _ _ w.heap.size 27 _ (0, 0) _ rfl HQ.out Try.underlying27 rfl (by kernel_rfl)) rfl ?_
      exact ⟨rfl, HP.out⟩
    · have j0 : ¬ ((x 0 : Nat) : Int) > 1099511627776 := by omega
      have j1 : ¬ ((x 1 : Nat) : Int) < 1 := by omega
      have j2 : ((x 1 : Nat) : Int) > 2147483648 := by omega
      go_enter Try.func14, Try.ntmps14
      go_wp2_with fail
      refine (HG0.out _ HB.out).mono ?_
      rintro e w' ⟨rfl, rfl⟩
      go_wp2_with fail
      refine (HG1.out _ HB.out).mono ?_
      rintro e w' ⟨rfl, rfl⟩
      go_wp2_with fail
      refine (HG1.out _ HB.out).mono ?_
      rintro e w' ⟨rfl, rfl⟩
      go_wp2_with (refine wpList_store_row rfl 27 _ _ rfl w.heap.size (offV zF) rfl rfl 27 (offV zF) HGB.out (by kernel_rfl) rfl (by simp [offV, Value.oneCell']) ?_)
      refine bodyPost_ret (results_cttt rfl _ _ w.heap.size 27 _ (0, 0) _ rfl HQ.out Try.underlying27 rfl (by kernel_rfl)) rfl ?_
      exact ⟨rfl, HP.out⟩
  · have hne : ((l.length : Int) != 56) = true := by simp; omega
    clear hb h hnot hl hc
    generalize l.length = N at *
    go_enter Try.func14, Try.ntmps14
    go_wp2_with (refine wpList_store_row rfl 27 _ _ rfl w.heap.size (offV zF) rfl rfl 27 (offV zF) HGB.out (by kernel_rfl) rfl (by simp [offV, Value.oneCell']) ?_)
    refine bodyPost_ret (results_cttt rfl _ _ w.heap.size 27 _ (0, 0) _ rfl HQ.out Try.underlying27 rfl (by kernel_rfl)) rfl ?_
    exact ⟨rfl, HP.out⟩
/-! the plain law -/
theorem seal_field (x : Nat → Nat) (r : List UInt8) (m k : Nat) (h : k < m) : ((sealN x m ++ r).drop (posF k)).take (nF k) = beN (nF k) (x k) := by
  induction m generalizing r with
  | zero => omega
  | succ m ih =>
    rw [sealN, List.append_assoc]
    by_cases hk : k < m
    · exact ih _ hk
    · obtain rfl : k = m := by omega
      rw [List.drop_left' (sealN_length x k), List.take_left' (beN_length _ _)]
theorem val_make (k : List UInt8) (x : Nat → Nat) (hx : ∀ i, i < 13 → x i < 256 ^ nF i) (i : Nat) (hi : i < 13) : valF (makeL k x) i = x i := by
  unfold valF makeL
  rw [seal_field x _ 13 i hi, num_be _ _ (hx i hi)]
theorem make_length (k : List UInt8) (x : Nat → Nat) : (makeL k x).length = 56 := by
  unfold makeL
  rw [List.length_append, sealN_length]
  rfl
theorem make_sealed (k : List UInt8) (x : Nat → Nat) : (makeL k x).take 48 = sealN x 13 := List.take_left' (sealN_length x 13)
theorem make_text (k : List UInt8) (x : Nat → Nat) : (makeL k x).drop 48 = textL (sumS k [sealN x 13]) := List.drop_left' (sealN_length x 13)
theorem make_look (k : List UInt8) (x : Nat → Nat) (h0 : x 0 ≤ 1099511627776) (h1 : 1 ≤ x 1) (h2 : x 1 ≤ 2147483648) (hx : ∀ i, i < 13 → x i < 256 ^ nF i) : lookB (makeL k x) = true := by
  unfold lookB
  rw [make_length, val_make k x hx 0 (by decide), val_make k x hx 1 (by decide)]
  exact decide_eq_true ⟨rfl, h0, h1, h2⟩
theorem make_off (k : List UInt8) (x : Nat → Nat) (hx : ∀ i, i < 13 → x i < 256 ^ nF i) : offV (valF (makeL k x)) = offV x := by
  have e := fun i hi => val_make k x hx i hi
  unfold offV
  rw [e 2 (by decide), e 3 (by decide), e 4 (by decide), e 5 (by decide), e 6 (by decide), e 7 (by decide), e 8 (by decide), e 9 (by decide), e 10 (by decide), e 11 (by decide), e 12 (by decide)]
end Go.Proofs.Ythdemajmlidefaa.Ck
