/- The reference's Count, Same, Cut: walked. -/
import Derived.Test.YtgfkdebbdjojmaaFragF
import Derived.Test.YtgfkdebbdjojmaaFragC
namespace Go.Proofs.Ytgfkdebbdjojmaa.Frag
open Go.RowKit Go.Proofs.YtgfkdebbdjojmaaW.PrintWords Go.Proofs.Ytgfkdebbdjojmaa.Base
set_option linter.unusedVariables false
set_option linter.unusedSimpArgs false
theorem refCount_calls (w : World) (s n : Int) : Calls Try.prog 11 #[.int .i64 s, .int .i64 n] w fun e w' => e = .returned (.tuple #[.int .i64 (countS s n).1, .int .i64 (countS s n).2]) ∧ w = w' := by
  unfold countS
  by_cases h1 : n < 1
  · rw [if_pos (Or.inl h1)]
    go_enter Try.func11, Try.ntmps11
    go_wp2
    go_ret2
    exact ⟨rfl, rfl⟩
  by_cases h2 : n > 65536
  · rw [if_pos (Or.inr (Or.inl h2))]
    go_enter Try.func11, Try.ntmps11
    go_wp2
    go_ret2
    exact ⟨rfl, rfl⟩
  by_cases h3 : s < 1
  · rw [if_pos (Or.inr (Or.inr h3))]
    go_enter Try.func11, Try.ntmps11
    go_wp2
    go_ret2
    exact ⟨rfl, rfl⟩
  rw [if_neg (by omega)]
  by_cases h4 : s > 65536
  · rw [if_pos h4]
    go_enter Try.func11, Try.ntmps11
    go_wp2
    go_ret2
    exact ⟨rfl, rfl⟩
  · rw [if_neg h4]
    go_enter Try.func11, Try.ntmps11
    go_wp2
    go_ret2
    exact ⟨rfl, rfl⟩
theorem refSame_calls (w : World) (A0 : Option Addr) (c0 : Nat) (A1 : Option Addr) (c1 : Nat) (l : List Pc) (h0 : Kd.C pcK w A0 l.length l) (h1 : Kd.C pcK w A1 l.length l) :
    Calls Try.prog 12 #[.slice A0 l.length c0, .slice A1 l.length c1] w fun e w' => e = .returned (.bool true) ∧ Drawn0 w w' := by
  have m0 := h0.2.1
  have H0 := Lib.hid h0
  have H1 := Lib.hid h1
  clear h0 h1
  have hne : (((l.length : Nat) : Int) != ((l.length : Nat) : Int)) = false := by simp
  go_enter Try.func12, Try.ntmps12
  go_wp2
  go_loopw [5] (fun v5 w' => ∃ i : Nat, i ≤ l.length ∧ v5 = .int .i64 i ∧ Drawn0 w w') (fun v5 _ => l.length - (intOf v5).toNat)
  case atStart => exact ⟨0, by omega, rfl, Drawn0.refl _⟩
  case round =>
    obtain ⟨i, hi, rfl, ⟨m, rfl⟩⟩ := hrel
    by_cases hlt : i < l.length
    · obtain ⟨ad0, B0, d0, rfl, x0, y0, z0, l0, b0⟩ := at_pc H0.out i hlt
      obtain ⟨ad1, B1, d1, rfl, x1, y1, z1, l1, b1⟩ := at_pc H1.out i hlt
      have r0 := fun n => run_bstr (c := d0) (Kd.C_drewN b0 n)
      have r1 := fun n => run_bstr (c := d1) (Kd.C_drewN b1 n)
      have hs : ((bstr (l.getD i zPc).2.2).toList != (bstr (l.getD i zPc).2.2).toList) = false := by simp
      have hb0 : ((l.getD i zPc).1 != (l.getD i zPc).1) = false := by simp
      have hb1 : ((l.getD i zPc).2.1 != (l.getD i zPc).2.1) = false := by simp
      clear b0 b1 l0 l1
      generalize (l.getD i zPc).1 = p1 at *
      generalize (l.getD i zPc).2.1 = p2 at *
      generalize (l.getD i zPc).2.2 = p3 at *
      go_wp2
      go_quiet (fail)
      go_wp2
      go_roundw
      case rel => exact ⟨i + 1, by omega, by go_num, drawn2 (by first | exact ⟨_, rfl⟩ | exact ⟨_, World.drewN_drewN ..⟩)⟩
      case measure => simp [intOf]; omega
    · obtain rfl : i = l.length := by omega
      go_wp2
      go_ret
      exact ⟨rfl, drawn2 ⟨_, rfl⟩⟩
theorem mid_bytes {w : World} {A : Option Addr} {c : Nat} {l : List UInt8} (hb : byte.C w A l.length l) (hc : l.length ≤ c) (lo hi : Nat) (h1 : lo ≤ hi) (h2 : hi ≤ l.length) :
    ∃ A', (∀ W : World, (Instr.slice 22 (.slice A l.length c) (some (.int .i64 (lo : Int))) (some (.int .i64 (hi : Int))) none).run Try.prog W = .ok (.slice A' ((l.take hi).drop lo).length (c - lo)) W) ∧ byte.C w A' ((l.take hi).drop lo).length ((l.take hi).drop lo) ∧ ((l.take hi).drop lo).length ≤ c - lo := by
  obtain ⟨i, hi', e1, e2, e3⟩ := info_parts info_u8
  have hl : ((l.take hi).drop lo).length = hi - lo := by rw [List.length_drop, List.length_take]; omega
  refine ⟨_, fun W => ?_, Kd.C_mid hb h1 h2 hc, by omega⟩
  have := cut_mid (P := Try.prog) 22 5 .i64 .i64 Try.underlying22 hi' 1 e2 A l.length c (lo : Int) (hi : Int) (by omega) (by omega) (by omega) hc W
  rw [this, hl]
  rfl
theorem count_many (len n : Nat) (hn : 1 ≤ n) (hl : 1 ≤ len) : ((len : Int) + (n : Int) - 1) / (n : Int) = ((manyP len n : Nat) : Int) := by
  unfold manyP
  rw [show ((len : Int) + (n : Int) - 1) = ((len + n - 1 : Nat) : Int) by omega]
  rfl
theorem drop_take_of {l : List UInt8} (p n : Nat) : ∃ q, q = min (p + n) l.length ∧ (l.take q).drop p = (l.drop p).take n := by
  refine ⟨_, rfl, ?_⟩
  rw [List.drop_take]
  by_cases h : p + n ≤ l.length
  · rw [Nat.min_eq_left h, Nat.add_sub_cancel_left]
  · rw [Nat.min_eq_right (by omega), List.take_of_length_le (by rw [List.length_drop]; omega), List.take_of_length_le (by rw [List.length_drop]; omega)]
set_option maxRecDepth 100000 in
set_option maxHeartbeats 4000000 in
theorem refCut_calls (w : World) (A : Option Addr) (l : List UInt8) (c n : Nat) (hb : byte.C w A l.length l) (hc : l.length ≤ c) (hl0 : 1 ≤ l.length) (hl : l.length ≤ 65536) (hn : 1 ≤ n) (hn2 : n ≤ 65536) :
    Calls Try.prog 9 #[.slice A l.length c, .int .i64 (n : Int)] w (CutPost l n w) := by
  have hct := Lib.hid (fun W => refCount_calls W (l.length : Int) (n : Int))
  unfold countS at hct
  rw [if_neg (by omega), if_neg (by omega), count_many _ _ hn hl0] at hct
  have hm1 : 1 ≤ manyP l.length n := (many_mul hn).2 (by omega)
  have hm2 : manyP l.length n ≤ l.length := many_le hn
  have HMM := Lib.hid (fun k => many_mul (len := l.length) (k := k) hn)
  have HC := Lib.hid (show cutL l n = (List.range (manyP l.length n)).map fun k => (decide (k = 0), decide (k + 1 = manyP l.length n), (l.drop (k * n)).take n) from rfl)
  have HB := Lib.hid hb
  have HO := Lib.hid (fun W : World => show byte.R 5 (W.alloc (.cells #[] 5)) W.heap.size (fun _ => True) (.slice (some ⟨W.heap.size, 0, none⟩) 0 0) [] from Kd.R_of_own (own_lit_of (enc := fun b : UInt8 => Value.int .u8 (b.toNat : Int)) W W.heap.size 5 [] (Nat.le_refl _) (by simp)) (fun _ _ => trivial))
  clear hb
  generalize hmm : manyP l.length n = mm at *
  go_enter Try.func9, Try.ntmps9
  go_wp2_with fail
  refine (hct.out w).mono ?_
  rintro e w1 ⟨rfl, rfl⟩
  go_wp2_with fail
  go_loopw [8, 9] (fun v8 v9 wr => ∃ k : Nat, k ≤ mm ∧ v9 = .int .i64 k ∧ Hid (Kd.R pcK 42 wr w.heap.size (fun _ => True) v8 ((cutL l n).take k)) ∧ Hid (Below w.heap.size w wr)) (fun _ v9 _ => mm - (intOf v9).toNat)
  case atStart => exact ⟨0, by omega, rfl, Kd.R_nil _ _ _ _ _, Below.refl _ _⟩
  case round =>
    obtain ⟨k, hk, rfl, HR, HBL⟩ := hrel
    by_cases hlt : k < mm
    · have hkn : k * n < l.length := (HMM.out k).1 hlt
      have hmul : (k : Int) * (n : Int) = ((k * n : Nat) : Int) := by rw [Int.natCast_mul]
      obtain ⟨q, hq, hdt⟩ := drop_take_of (l := l) (k * n) n
      obtain ⟨Bd, hcut, hCb, hcle⟩ := mid_bytes (Kd.C_below HB.out HBL.out) hc (k * n) q (by omega) (by omega)
      have hcl : (cutL l n).length = mm := by rw [HC.out, List.length_map, List.length_range]
      have hget : (cutL l n)[k]? = some (decide (k = 0), decide (k + 1 = mm), (l.drop (k * n)).take n) := by
        rw [HC.out, List.getElem?_map, List.getElem?_range hlt]
        rfl
      have htk : (cutL l n).take (k + 1) = (cutL l n).take k ++ [(decide (k = 0), decide (k + 1 = mm), (l.drop (k * n)).take n)] := by
        rw [List.take_add_one, hget]
        rfl
      have hkl : ((cutL l n).take k).length ≤ 65536 := by rw [List.length_take]; omega
      rw [hdt] at hcut hCb hcle
      have hdl : ((l.drop (k * n)).take n).length ≤ 65536 := by rw [List.length_take, List.length_drop]; omega
      have HTK := Lib.hid htk
      clear htk hget hcl hdt
      generalize (l.drop (k * n)).take n = bd at *
      generalize hp : k * n = p at *
      generalize (cutL l n).take k = xs at *
      have hz0 : ((k : Int) == 0) = decide (k = 0) := by
        show decide ((k : Int) = 0) = _
        exact decide_eq_decide.2 (by omega)
      have hz1 : ((k : Int) == (mm : Int) - 1) = decide (k + 1 = mm) := by
        show decide ((k : Int) = (mm : Int) - 1) = _
        exact decide_eq_decide.2 (by omega)
      generalize decide (k = 0) = z0 at *
      generalize decide (k + 1 = mm) = z1 at *
      obtain ⟨Av, cv, rfl⟩ := Kd.R_slice HR.out
      have HCB := Lib.hid hCb
      by_cases hov : p + n > l.length
      · have hql : q = l.length := by omega
        have hov' : (p : Int) + (n : Int) > (l.length : Int) := by omega
        rw [hql] at hcut
        clear hCb hq hql hp hmm
        go_wp2_with (first
          | (at_builtin; refine Kd.R_append_row (fun b : UInt8 => .int .u8 (b.toNat : Int)) (0 : UInt8) (w0 := wr) wr.heap.size rfl _ _ 22 5 _ 1 rfl Try.underlying22 info_u8 rfl (by decide) _ [] bd Bd bd.length (c - p) (fun _ => True) rfl rfl (fun _ _ => trivial) (HO.out wr) (Kd.C_alloc HCB.out _) ((Below.refl _ _).alloc (Nat.le_refl _) _) (by simp) (by simpa using (show bd.length ≤ 140737488355328 by omega)) ?_; intro v1 w1 hR1 hB1 _ _; rw [List.nil_append] at hR1; obtain ⟨A9, c9, rfl⟩ := Kd.R_slice hR1; have HR1 := Lib.hid hR1; have HB1 := Lib.hid hB1; have HRX := Lib.hid (Kd.R_below HR.out hB1); have HBX := Lib.hid (below_then HBL.out HBL.out.size hB1); clear hR1 hB1)
          | (at_builtin; refine Kd.R_append pcK (w0 := w) (W := w1) w.heap.size rfl _ _ 23 42 _ 32 rfl Try.underlying23 info_pc rfl (by decide) (by decide) (.slice Av xs.length cv) xs (z0, z1, bd) [.bool z0, .bool z1, .slice A9 bd.length c9] (fun _ => True) (fun k => True ∧ some k ≠ (Value.slice Av xs.length cv).ownBlock) rfl rfl (pcK_mkM w1 w.heap.size _ (z0, z1, bd) (Kd.R_flat (fun h => h) (Kd.R_lower HR1.out HBL.out.size) (fun k hk _ => ⟨trivial, fun e => by have := Kd.R_lt HR.out k e.symm; have := Kd.R_base HR1.out k hk; omega⟩))) (fun k hk => hk) (fun _ _ => trivial) HRX.out HBX.out HBX.out.size (by omega) ?_; intro v2 w2 hR2 hB2 _ _; have HR2 := Lib.hid hR2; have HB2 := Lib.hid hB2; clear hR2 hB2))
        go_roundw
        case rel => exact ⟨k + 1, by omega, by go_num, by rw [HTK.out]; exact HR2, HB2⟩
        case measure => simp [intOf]; omega
      · have hql : q = p + n := by omega
        have hov' : ¬ (p : Int) + (n : Int) > (l.length : Int) := by omega
        rw [hql, show ((p + n : Nat) : Int) = (p : Int) + (n : Int) by omega] at hcut
        clear hCb hq hql hp hmm
        go_wp2_with (first
          | (at_builtin; refine Kd.R_append_row (fun b : UInt8 => .int .u8 (b.toNat : Int)) (0 : UInt8) (w0 := wr) wr.heap.size rfl _ _ 22 5 _ 1 rfl Try.underlying22 info_u8 rfl (by decide) _ [] bd Bd bd.length (c - p) (fun _ => True) rfl rfl (fun _ _ => trivial) (HO.out wr) (Kd.C_alloc HCB.out _) ((Below.refl _ _).alloc (Nat.le_refl _) _) (by simp) (by simpa using (show bd.length ≤ 140737488355328 by omega)) ?_; intro v1 w1 hR1 hB1 _ _; rw [List.nil_append] at hR1; obtain ⟨A9, c9, rfl⟩ := Kd.R_slice hR1; have HR1 := Lib.hid hR1; have HB1 := Lib.hid hB1; have HRX := Lib.hid (Kd.R_below HR.out hB1); have HBX := Lib.hid (below_then HBL.out HBL.out.size hB1); clear hR1 hB1)
          | (at_builtin; refine Kd.R_append pcK (w0 := w) (W := w1) w.heap.size rfl _ _ 23 42 _ 32 rfl Try.underlying23 info_pc rfl (by decide) (by decide) (.slice Av xs.length cv) xs (z0, z1, bd) [.bool z0, .bool z1, .slice A9 bd.length c9] (fun _ => True) (fun k => True ∧ some k ≠ (Value.slice Av xs.length cv).ownBlock) rfl rfl (pcK_mkM w1 w.heap.size _ (z0, z1, bd) (Kd.R_flat (fun h => h) (Kd.R_lower HR1.out HBL.out.size) (fun k hk _ => ⟨trivial, fun e => by have := Kd.R_lt HR.out k e.symm; have := Kd.R_base HR1.out k hk; omega⟩))) (fun k hk => hk) (fun _ _ => trivial) HRX.out HBX.out HBX.out.size (by omega) ?_; intro v2 w2 hR2 hB2 _ _; have HR2 := Lib.hid hR2; have HB2 := Lib.hid hB2; clear hR2 hB2))
        go_roundw
        case rel => exact ⟨k + 1, by omega, by go_num, by rw [HTK.out]; exact HR2, HB2⟩
        case measure => simp [intOf]; omega
    · obtain rfl : k = mm := by omega
      have hcl : (cutL l n).length = k := by rw [HC.out, List.length_map, List.length_range]
      have hR := HR.out
      rw [List.take_of_length_le (by omega)] at hR
      obtain ⟨Av, cv, rfl⟩ := Kd.R_slice hR
      have HR2 := Lib.hid hR
      clear hR HR
      go_wp2
      go_ret2
      exact ⟨_, rfl, HR2.out, HBL.out⟩
end Go.Proofs.Ytgfkdebbdjojmaa.Frag
