/- The bytes of a list, once more (over the words of ParamCauses). -/
import Derived.Test.YtjlgddmcjccbeaaParH
namespace Go.Proofs.Ytjlgddmcjccbeaa.ParEnc
open Go.RowKit Go.Proofs.YtjlgddmcjccbeaaW.PrintWords Go.Proofs.Ytjlgddmcjccbeaa.PParamCauses
set_option linter.unusedVariables false
set_option linter.unusedSimpArgs false

def padL (x : List Int) : List Int := x ++ List.replicate ((4 - x.length % 4) % 4) 0
def twoI (a : Int) : List Int := [(a / 256) % 256, a % 256]
def stepB (b : List Int) (p : S36) : List Int := padL b ++ twoI p.f0 ++ twoI (IntKind.u16.wrap (wrap64 (4 + (p.f1.length : Int)))) ++ p.f1
def runB : List Int → List S36 → List Int × Int
  | b, [] => (b, 0)
  | b, p :: r => if (p.f1.length : Int) > 65531 then ([], 2) else runB (stepB b p) r
theorem padL_le (x : List Int) : (padL x).length ≤ x.length + 3 := by
  unfold padL
  rw [List.length_append, List.length_replicate]
  omega
theorem stepB_le (b : List Int) (p : S36) (h : (p.f1.length : Int) ≤ 65531) : (stepB b p).length ≤ b.length + 65538 := by
  have := padL_le b
  unfold stepB twoI
  simp only [List.length_append, List.length_cons, List.length_nil]
  omega
theorem leo_add {α : Type} {f : Nat → Option α} (h : ∀ k, LeO (f k) (f (k + 1))) {k : Nat} {r : α} (hr : f k = some r) (j : Nat) : f (k + j) = some r := by
  induction j with
  | zero => exact hr
  | succ j ih => exact h _ _ ih
theorem pad_step (x : List Int) (h : ¬ x.length % 4 = 0) : padL (x ++ [0]) = padL x := by
  unfold padL
  rw [List.length_append, List.length_singleton]
  obtain ⟨m, hm⟩ : ∃ m, (4 - x.length % 4) % 4 = m + 1 := ⟨(4 - x.length % 4) % 4 - 1, by omega⟩
  have h2 : (4 - (x.length + 1) % 4) % 4 = m := by omega
  rw [hm, h2, List.replicate_succ, List.append_assoc]
  rfl
theorem pad_done (x : List Int) (h : x.length % 4 = 0) : padL x = x := by
  unfold padL
  rw [h]
  simp
/-- Within the pads of the program's own loop. -/
theorem l1_pads (n : Nat) (k : Nat) (x4 : List Int) (x10 : List S36) (x11 x12 a : Int) (q : List Int) (r : List Int × Int) (hb : x4.length + n ≤ 100000000) (hq : (q.length : Int) ≤ 65531) (hn : (4 - x4.length % 4) % 4 = n)
    (hr : param_Encode.l0 k (padL x4 ++ twoI a ++ twoI (IntKind.u16.wrap (wrap64 (4 + (q.length : Int)))) ++ q) x10 x11 (wrap64 (x12 + 1)) = some r) : param_Encode.l1 (k + n + 1) x4 x10 x11 x12 a q = some r := by
  induction n generalizing x4 with
  | zero =>
    have h0 : x4.length % 4 = 0 := by omega
    rw [pad_done x4 h0] at hr
    unfold param_Encode.l1
    have h1 : ¬ ((x4.length : Int) % 4 > 0) := by omega
    rw [if_neg h1]
    have e1 : param_two.f x4 a = some (x4 ++ twoI a) := by
      unfold param_two.f twoI
      simp only [Option.bind_some]
      rw [if_pos (by simp only [List.length_cons, List.length_nil]; omega)]
    rw [e1, Option.bind_some]
    have e2 : param_two.f (x4 ++ twoI a) (IntKind.u16.wrap (wrap64 (4 + (q.length : Int)))) = some (x4 ++ twoI a ++ twoI (IntKind.u16.wrap (wrap64 (4 + (q.length : Int))))) := by
      unfold param_two.f
      simp only [Option.bind_some]
      rw [if_pos (by simp only [List.length_append, twoI, List.length_cons, List.length_nil]; omega)]
      rfl
    rw [e2, Option.bind_some, if_pos (by simp only [List.length_append, twoI, List.length_cons, List.length_nil]; omega)]
    exact hr
  | succ n ih =>
    have h0 : ¬ x4.length % 4 = 0 := by omega
    unfold param_Encode.l1
    rw [if_pos (by omega), if_pos (by omega)]
    rw [← pad_step x4 h0] at hr
    exact ih (x4 ++ [0]) (by rw [List.length_append, List.length_singleton]; omega) (by rw [List.length_append, List.length_singleton]; omega) hr
theorem rd_drop (ps : List S36) (i : Nat) (h : i < ps.length) : ps.drop i = rd_T36 ps (i : Int) :: ps.drop (i + 1) := by
  rw [List.drop_eq_getElem_cons h]
  unfold rd_T36
  rw [Int.toNat_natCast]
  simp [List.getD_eq_getElem?_getD, h]
theorem wrap64_nat (n : Nat) (h : n ≤ 1000000) : wrap64 ((n : Int) + 1) = ((n + 1 : Nat) : Int) := by unfold wrap64; omega
/-- The program's loop. -/
theorem l0_run (ps : List S36) (hps : ps.length ≤ 256) (m i : Nat) (hm : ps.length - i = m) (hi : i ≤ ps.length) (b : List Int) (hb : b.length ≤ 65538 * i) : ∃ k, param_Encode.l0 k b ps (ps.length : Int) (i : Int) = some (runB b (ps.drop i)) := by
  induction m generalizing i b with
  | zero =>
    obtain rfl : i = ps.length := by omega
    refine ⟨1, ?_⟩
    unfold param_Encode.l0
    rw [if_neg (by omega), List.drop_length]
    rfl
  | succ m ih =>
    have hlt : i < ps.length := by omega
    rw [rd_drop ps i hlt]
    by_cases h : ((rd_T36 ps (i : Int)).f1.length : Int) > 65531
    · refine ⟨1, ?_⟩
      unfold param_Encode.l0
      rw [if_pos (by omega), if_pos (by omega), if_pos (by omega), if_pos h]
      unfold runB
      rw [if_pos h]
    · have hsb := stepB_le b (rd_T36 ps (i : Int)) (by omega)
      obtain ⟨k, hk⟩ := ih (i + 1) (by omega) (by omega) (stepB b (rd_T36 ps (i : Int))) (by omega)
      refine ⟨k + (4 - b.length % 4) % 4 + 1 + 1, ?_⟩
      unfold param_Encode.l0
      rw [if_pos (by omega), if_pos (by omega), if_pos (by omega), if_neg h]
      have hr : runB b (rd_T36 ps (i : Int) :: ps.drop (i + 1)) = runB (stepB b (rd_T36 ps (i : Int))) (ps.drop (i + 1)) := by
        conv => lhs; unfold runB
        rw [if_neg h]
      rw [hr]
      refine l1_pads _ k b ps _ _ _ _ _ (by omega) (by omega) rfl ?_
      rw [wrap64_nat i (by omega)]
      exact hk
theorem encode_run (ps : List S36) : ∃ k, param_Encode.f k ps = some (if ps.length > 256 then ([], 3) else runB [] ps) := by
  by_cases h : ps.length > 256
  · refine ⟨0, ?_⟩
    unfold param_Encode.f
    rw [if_pos (by omega), if_pos h]
  · obtain ⟨k, hk⟩ := l0_run ps (by omega) _ 0 rfl (by omega) [] (by simp)
    refine ⟨k, ?_⟩
    unfold param_Encode.f
    rw [if_neg (by omega), if_neg h]
    rw [List.drop_zero] at hk
    exact hk
/-- The reference's loop over bytes. -/
def foldB : List Int → List S36 → List Int
  | b, [] => b
  | b, p :: r => foldB (stepB b p) r
def allShort (ps : List S36) : Prop := ∀ p ∈ ps, ¬ (p.f1.length : Int) > 65531
theorem runB_short (ps : List S36) (h : allShort ps) (b : List Int) : runB b ps = (foldB b ps, 0) := by
  induction ps generalizing b with
  | nil => rfl
  | cons p r ih =>
    unfold runB foldB
    rw [if_neg (h p (List.mem_cons_self ..)), ih (fun q hq => h q (List.mem_cons_of_mem _ hq))]
theorem runB_long (ps : List S36) (h : ¬ allShort ps) (b : List Int) : runB b ps = ([], 2) := by
  induction ps generalizing b with
  | nil => exact absurd (fun p hp => by cases hp) h
  | cons p r ih =>
    unfold runB
    by_cases hp : (p.f1.length : Int) > 65531
    · rw [if_pos hp]
    · rw [if_neg hp]
      refine ih (fun hr => h (fun q hq => ?_)) _
      rcases List.mem_cons.1 hq with rfl | hq
      · exact hp
      · exact hr q hq
end Go.Proofs.Ytjlgddmcjccbeaa.ParEnc
