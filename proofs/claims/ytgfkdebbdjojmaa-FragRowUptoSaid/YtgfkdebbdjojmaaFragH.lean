/- The reference's Join: walked. -/
import Derived.Test.YtgfkdebbdjojmaaFragG
namespace Go.Proofs.Ytgfkdebbdjojmaa.Frag
open Go.RowKit Go.Proofs.YtgfkdebbdjojmaaW.PrintWords Go.Proofs.Ytgfkdebbdjojmaa.Base
set_option linter.unusedVariables false
set_option linter.unusedSimpArgs false
theorem joinS_err {l : List Pc} {i : Nat} {c : Int} (h : joinR 0 false [] l = .error (i, c)) : joinS l = ([], i, c) := by unfold joinS; rw [h]
theorem joinS_ok {l : List Pc} {acc : List UInt8} (h : joinR 0 false [] l = .ok acc) : joinS l = if l.length = 0 ∨ (l.getD (l.length - 1) zPc).2.1 = false then ([], l.length, 150) else if acc.length > 65536 then ([], 0, 2) else (acc, 0, 0) := by unfold joinS; rw [h]
/-- What the reference keeps of the bytes so far. -/
def Cap (b acc : List UInt8) : Prop := b = acc ∨ (65536 < b.length ∧ 65536 < acc.length)
theorem Cap.more {b acc : List UInt8} (h : Cap b acc) (d : List UInt8) : (b.length ≤ 65536 → Cap (b ++ d) (acc ++ d)) ∧ (65536 < b.length → Cap b (acc ++ d)) := by
  refine ⟨fun hb => ?_, fun hb => ?_⟩
  · rcases h with rfl | h
    · exact Or.inl rfl
    · omega
  · rcases h with rfl | h
    · exact Or.inr ⟨hb, by rw [List.length_append]; omega⟩
    · exact Or.inr ⟨hb, by rw [List.length_append]; omega⟩
set_option maxRecDepth 100000 in
set_option maxHeartbeats 4000000 in
theorem refJoin_calls (w : World) (A : Option Addr) (c : Nat) (l : List Pc) (h : Kd.C pcK w A l.length l) (hsum : (l.map (·.2.2.length)).sum ≤ 140737488289792) (hll : l.length ≤ 140737488355328) :
    Calls Try.prog 15 #[.slice A l.length c] w (JoinPost l w) := by
  have H := Lib.hid h
  clear h
  go_enter Try.func15, Try.ntmps15
  go_wp2
  go_loopw [5, 6] (fun v5 v6 wr => ∃ (k : Nat) (b acc : List UInt8), k ≤ l.length ∧ v6 = .int .i64 k ∧ Hid (byte.R 5 wr w.heap.size (fun _ => True) v5 b) ∧ Hid (joinR 0 false [] l = joinR k (decide (0 < k)) acc (l.drop k)) ∧ Hid (Cap b acc) ∧ Hid (Below w.heap.size w wr)) (fun _ v6 _ => l.length - (intOf v6).toNat)
  case atStart => exact ⟨0, [], [], by omega, rfl, Kd.R_nil _ _ _ _ _, rfl, Or.inl rfl, Below.refl _ _⟩
  case round =>
    obtain ⟨k, b, acc, hk, rfl, HR, HRUN, HCAP, HB⟩ := hrel
    obtain ⟨Av, cv, rfl⟩ := Kd.R_slice HR.out
    by_cases hlt : k < l.length
    · obtain ⟨ad, A2, c2, rfl, x0, x1, x2, l2, g2⟩ := at_pc H.out k hlt
      have hstep := joinR_step k (decide (0 < k)) acc (l.getD k zPc) (l.drop (k + 1))
      rw [← drop_pc l k hlt, ← HRUN.out] at hstep
      have hlast : l.drop (k + 1) ≠ [] ↔ (k : Int) < (l.length : Int) - 1 := by
        rw [Ne, List.drop_eq_nil_iff]
        omega
      have hst := sum_take l k hlt
      have hsl := sum_take_le l (k + 1)
      have hdl : (l.getD k zPc).2.2.length ≤ 140737488289792 := by omega
      have HL := Lib.hid hlast
      replace x0 := pw_cell_below HB.out x0
      replace x1 := pw_cell_below HB.out x1
      replace x2 := pw_cell_below HB.out x2
      have HG2 := Lib.hid (Kd.C_below g2 HB.out)
      have hk0 : ((k : Int) == 0) = !decide (0 < k) := by
        show decide ((k : Int) = 0) = _
        by_cases h0 : 0 < k
        · rw [decide_eq_true h0, decide_eq_false (by omega)]; rfl
        · rw [decide_eq_false h0, decide_eq_true (by omega)]; rfl
      generalize l.getD k zPc = p at *
      have HST := Lib.hid hstep
      clear hstep hlast hst hsl l2 g2 HRUN
      by_cases hl0 : p.2.2.length = 0
      · have HS := Lib.hid (joinS_err (l := l) (i := k) (c := 150) (by rw [HST.out, if_pos (Or.inl hl0)]))
        have hl0' : (((p.2.2.length : Nat) : Int) == 0) = true := by simp [hl0]
        clear hl0
        generalize p.2.2.length = n at *
        generalize p.1 = b1 at *
        generalize p.2.1 = b2 at *
        generalize decide (0 < k) = z at *
        go_wp2
        go_ret3
        exact ⟨.slice none 0 0, by rw [HS.out]; rfl, by rw [HS.out]; exact Kd.R_nil _ _ _ _ _, HB.out⟩
      · have hl0' : (((p.2.2.length : Nat) : Int) == 0) = false := beq_eq_false_iff_ne.2 (by omega)
        by_cases hb : p.1 = decide (0 < k)
        · have HS := Lib.hid (joinS_err (l := l) (i := k) (c := 150) (by rw [HST.out, if_pos (Or.inr hb)]))
          rw [hb] at x0
          clear hl0 hb HST
          generalize p.2.2.length = n at *
          generalize p.2.1 = b2 at *
          generalize decide (0 < k) = z at *
          cases z
          all_goals
            simp only [Bool.not_true, Bool.not_false] at hk0
            go_wp2
            go_ret3
            exact ⟨.slice none 0 0, by rw [HS.out]; rfl, by rw [HS.out]; exact Kd.R_nil _ _ _ _ _, HB.out⟩
        · have hbb : p.1 = !decide (0 < k) := by
            cases h1 : p.1 <;> cases h2 : decide (0 < k) <;> simp_all
          rw [hbb] at x0
          have hst2 := HST.out
          rw [if_neg (fun h => h.elim hl0 hb)] at hst2
          clear hl0 hb HST hbb
          have HST := Lib.hid hst2
          clear hst2
          cases hb2 : p.2.1 with
          | true =>
            rw [hb2] at x1
            by_cases hkl : (k : Int) < (l.length : Int) - 1
            · have HS := Lib.hid (joinS_err (l := l) (i := k) (c := 150) (by rw [HST.out, if_pos ⟨hb2, HL.out.2 hkl⟩]))
              clear hb2 HST
              generalize p.2.2.length = n at *
              generalize decide (0 < k) = z at *
              cases z
              all_goals
                simp only [Bool.not_true, Bool.not_false] at hk0 x0
                go_wp2
                go_ret3
                exact ⟨.slice none 0 0, by rw [HS.out]; rfl, by rw [HS.out]; exact Kd.R_nil _ _ _ _ _, HB.out⟩
            · have HRUN := Lib.hid (show joinR 0 false [] l = joinR (k + 1) (decide (0 < k + 1)) (acc ++ p.2.2) (l.drop (k + 1)) by rw [HST.out, if_neg (fun h => hkl (HL.out.1 h.2)), decide_eq_true (Nat.succ_pos k)])
              clear hb2 HST
              generalize p.2.2 = data at *
              generalize decide (0 < k) = z at *
              by_cases hbl : b.length ≤ 65536
              · have hbl' : (b.length : Int) ≤ 65536 := by omega
                have HC2 := Lib.hid ((HCAP.out.more data).1 hbl)
                cases z
                all_goals
                  simp only [Bool.not_true, Bool.not_false] at hk0 x0
                  go_wp2_with (at_builtin; go_must (refine Kd.R_append_row (fun b : UInt8 => .int .u8 (b.toNat : Int)) (0 : UInt8) (w0 := w) w.heap.size rfl _ _ 22 5 _ 1 rfl Try.underlying22 info_u8 rfl (by decide) _ b data A2 data.length c2 (fun _ => True) rfl rfl (fun _ _ => trivial) HR.out HG2.out HB.out HB.out.size (by omega) ?_); intro v1 w1 hR1 hB1 _ _; have HR1 := Lib.hid hR1; have HB1 := Lib.hid hB1; clear hR1 hB1)
                  go_roundw
                  case rel => exact ⟨k + 1, b ++ data, acc ++ data, by omega, by go_num, HR1, HRUN, HC2, HB1⟩
                  case measure => simp [intOf]; omega
              · have hbl' : ¬ (b.length : Int) ≤ 65536 := by omega
                have HC2 := Lib.hid ((HCAP.out.more data).2 (by omega))
                cases z
                all_goals
                  simp only [Bool.not_true, Bool.not_false] at hk0 x0
                  go_wp2
                  go_roundw
                  case rel => exact ⟨k + 1, b, acc ++ data, by omega, by go_num, HR, HRUN, HC2, HB⟩
                  case measure => simp [intOf]; omega
          | false =>
            rw [hb2] at x1
            have HRUN := Lib.hid (show joinR 0 false [] l = joinR (k + 1) (decide (0 < k + 1)) (acc ++ p.2.2) (l.drop (k + 1)) by rw [HST.out, if_neg (fun h => by rw [hb2] at h; cases h.1), decide_eq_true (Nat.succ_pos k)])
            clear hb2 HST
            generalize p.2.2 = data at *
            generalize decide (0 < k) = z at *
            by_cases hbl : b.length ≤ 65536
            · have hbl' : (b.length : Int) ≤ 65536 := by omega
              have HC2 := Lib.hid ((HCAP.out.more data).1 hbl)
              cases z
              all_goals
                simp only [Bool.not_true, Bool.not_false] at hk0 x0
                go_wp2_with (at_builtin; go_must (refine Kd.R_append_row (fun b : UInt8 => .int .u8 (b.toNat : Int)) (0 : UInt8) (w0 := w) w.heap.size rfl _ _ 22 5 _ 1 rfl Try.underlying22 info_u8 rfl (by decide) _ b data A2 data.length c2 (fun _ => True) rfl rfl (fun _ _ => trivial) HR.out HG2.out HB.out HB.out.size (by omega) ?_); intro v1 w1 hR1 hB1 _ _; have HR1 := Lib.hid hR1; have HB1 := Lib.hid hB1; clear hR1 hB1)
                go_roundw
                case rel => exact ⟨k + 1, b ++ data, acc ++ data, by omega, by go_num, HR1, HRUN, HC2, HB1⟩
                case measure => simp [intOf]; omega
            · have hbl' : ¬ (b.length : Int) ≤ 65536 := by omega
              have HC2 := Lib.hid ((HCAP.out.more data).2 (by omega))
              cases z
              all_goals
                simp only [Bool.not_true, Bool.not_false] at hk0 x0
                go_wp2
                go_roundw
                case rel => exact ⟨k + 1, b, acc ++ data, by omega, by go_num, HR, HRUN, HC2, HB⟩
                case measure => simp [intOf]; omega
    · obtain rfl : k = l.length := by omega
      have hrun := HRUN.out
      rw [List.drop_length] at hrun
      have hs := joinS_ok (show joinR 0 false [] l = .ok acc from hrun)
      clear hrun HRUN hlt
      by_cases h0 : l.length = 0
      · rw [if_pos (Or.inl h0)] at hs
        have HS := Lib.hid hs
        have h0' : ((l.length : Int) == 0) = true := by simp [h0]
        clear hs h0
        go_wp2
        go_ret3
        exact ⟨.slice none 0 0, by rw [HS.out]; rfl, by rw [HS.out]; exact Kd.R_nil _ _ _ _ _, HB.out⟩
      · have h0' : ((l.length : Int) == 0) = false := beq_eq_false_iff_ne.2 (by omega)
        obtain ⟨ad, A2, c2, rfl, x0, x1, x2, l2, g2⟩ := at_pc H.out (l.length - 1) (by omega)
        replace x1 := pw_cell_below HB.out x1
        clear x0 x2 l2 g2
        have e1 : ((l.length : Int) - 1) = ((l.length - 1 : Nat) : Int) := by omega
        cases hend : (l.getD (l.length - 1) zPc).2.1 with
        | false =>
          rw [if_pos (Or.inr hend)] at hs
          have HS := Lib.hid hs
          rw [hend] at x1
          clear hs hend h0
          go_wp2
          go_ret3
          exact ⟨.slice none 0 0, by rw [HS.out]; rfl, by rw [HS.out]; exact Kd.R_nil _ _ _ _ _, HB.out⟩
        | true =>
          rw [if_neg (by rw [hend]; simp [h0])] at hs
          rw [hend] at x1
          by_cases hbig : b.length > 65536
          · have hab : acc.length > 65536 := by
              rcases HCAP.out with rfl | h
              · exact hbig
              · exact h.2
            rw [if_pos hab] at hs
            have HS := Lib.hid hs
            have hb2 : (b.length : Int) > 65536 := by omega
            clear hs hend h0
            go_wp2
            go_ret3
            exact ⟨.slice none 0 0, by rw [HS.out]; rfl, by rw [HS.out]; exact Kd.R_nil _ _ _ _ _, HB.out⟩
          · have hab : b = acc := by
              rcases HCAP.out with h | h
              · exact h
              · omega
            subst hab
            rw [if_neg hbig] at hs
            have HS := Lib.hid hs
            have hb2 : ¬ (b.length : Int) > 65536 := by omega
            clear hs hend h0
            go_wp2
            go_ret3
            exact ⟨.slice Av b.length cv, by rw [HS.out]; rfl, by rw [HS.out]; exact HR.out, HB.out⟩
end Go.Proofs.Ytgfkdebbdjojmaa.Frag
