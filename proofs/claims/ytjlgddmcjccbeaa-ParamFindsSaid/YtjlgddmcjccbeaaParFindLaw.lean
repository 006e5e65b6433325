/- The statement ParamFinds, walked. -/
import Derived.Test.YtjlgddmcjccbeaaParFindC
import Derived.Test.YtjlgddmcjccbeaaOpensP
namespace Go.Proofs.Ytjlgddmcjccbeaa.ParDec
open Go.RowKit Go.Proofs.YtjlgddmcjccbeaaW.PrintWords Go.Proofs.Ytjlgddmcjccbeaa.PParamCauses Go.Proofs.Ytjlgddmcjccbeaa.ParCauses Go.Proofs.Ytjlgddmcjccbeaa.Base
set_option linter.unusedVariables false
set_option linter.unusedSimpArgs false
theorem open_prmP : OpensP 36 prmK (fun x => 1 + ((x.2.map fun _ => 1).sum + 1) + 1) (fun x => True ∧ x.2.length * 1 ≤ 140737488351232 ∧ ∀ b ∈ x.2, True) :=
  OpensP.struct Try.underlying36 (by kernel_rfl) (Seg.cons (OpensP.of open_u16b) rfl (by kernel_rfl) (Seg.one OpensP.bytes rfl (by kernel_rfl)))
theorem open_prmsP : OpensP 22 (Kd.slice 36 prmK) (fun xs => (xs.map fun x : Prm => 1 + ((x.2.map fun _ => 1).sum + 1) + 1).sum + 1) (fun xs => xs.length * 32 ≤ 140737488351232 ∧ ∀ x ∈ xs, True ∧ x.2.length * 1 ≤ 140737488351232 ∧ ∀ b ∈ x.2, True) := OpensP.slice open_prmP Try.underlying22 (by kernel_rfl) 32 (by kernel_rfl)
theorem sameF_calls (w : World) (A A' : Option Addr) (c c' : Nat) (qs rs : List Prm) (h : Kd.C prmK w A qs.length qs) (h' : Kd.C prmK w A' rs.length rs) :
    Calls Try.prog 28 #[.slice A qs.length c, .slice A' rs.length c'] w fun e w' => e = .returned (.bool (decide (qs = rs))) ∧ Below w.heap.size w w' := by
  have HE := Lib.hid (equalF_calls w A A' c c' qs rs h h')
  clear h h'
  generalize decide (qs = rs) = r at *
  go_enter Try.func28, Try.ntmps28
  go_wp2_with fail
  refine HE.out.mono ?_
  rintro e w1 ⟨rfl, hB1⟩
  go_wp2
  go_ret
  exact ⟨rfl, hB1⟩
theorem strOf_ints (l : List UInt8) : strOfNums (ints l) = bstr l := nums_bstr l
theorem sameP_toS (qs rs : List Prm) : sameP (qs.map toS) (rs.map toS) = decide (qs = rs) := by
  induction qs generalizing rs with
  | nil =>
    cases rs with
    | nil => rfl
    | cons r rs => rfl
  | cons q qs ih =>
    cases rs with
    | nil => rfl
    | cons r rs =>
      show (sameQ (toS q) (toS r) && sameP (qs.map toS) (rs.map toS)) = _
      rw [ih]
      have hq : sameQ (toS q) (toS r) = decide (q = r) := by
        show (decide ((q.1.toNat : Int) = (r.1.toNat : Int)) && ((strOfNums (ints q.2)).toList == (strOfNums (ints r.2)).toList)) = _
        rw [u16_eq, strOf_ints, strOf_ints, bstr_eq, ← Bool.decide_and]
        exact decide_eq_decide.2 Prod.ext_iff.symm
      rw [hq, ← Bool.decide_and]
      exact decide_eq_decide.2 (by rw [List.cons.injEq])
theorem refSameF_calls (w : World) (A A' : Option Addr) (c c' : Nat) (qs rs : List Prm) (h : Kd.C prmK w A qs.length qs) (h' : Kd.C prmK w A' rs.length rs) :
    Calls Try.prog 23 #[.slice A qs.length c, .slice A' rs.length c'] w fun e w' => e = .returned (.bool (decide (qs = rs))) ∧ Drawn0 w w' := by
  have := refSame_calls w A c (qs.map toS) A' c' (rs.map toS) (by rw [List.length_map]; exact toS_C h) (by rw [List.length_map]; exact toS_C h')
  rwa [List.length_map, List.length_map, sameP_toS] at this
theorem paramFinds_row {w : World} (A : Option Addr) (c : Nat) (qs : List Prm) (h : Kd.C prmK w A qs.length qs) (hc : qs.length ≤ c) (hq : qs.length * 32 ≤ 140737488351232 ∧ ∀ x ∈ qs, True ∧ x.2.length * 1 ≤ 140737488351232 ∧ ∀ b ∈ x.2, True)
    (A' : Option Addr) (c' : Nat) (rs : List Prm) (h' : Kd.C prmK w A' rs.length rs) (hc' : rs.length ≤ c') (hr : rs.length * 32 ≤ 140737488351232 ∧ ∀ x ∈ rs, True ∧ x.2.length * 1 ≤ 140737488351232 ∧ ∀ b ∈ x.2, True) (n : Int) (hn : (Lit.int .u16 n).wf = true) :
    Calls Try.prog 9 #[.slice A qs.length c, .slice A' rs.length c', .int .u16 n] w fun e w' => e = .returned (.bool true) ∧ Below w.heap.size w w' := by
  obtain ⟨kind, rfl⟩ : ∃ k : UInt16, n = (k.toNat : Int) := ⟨_, (u16_of_wf hn).symm⟩
  have HF := Lib.hid (find_calls w A c kind qs h (fun p hp => by have := (hq.2 p hp).2.1; omega))
  have HRF := Lib.hid (fun (W : World) (hb : Below w.heap.size w W) => refFind_calls W A c kind qs (Kd.C_below h hb))
  have HS1 := Lib.hid (fun (W : World) (hb : Below w.heap.size w W) => sameF_calls W A A' c c' qs rs (Kd.C_below h hb) (Kd.C_below h' hb))
  have HS2 := Lib.hid (fun (W : World) (hb : Below w.heap.size w W) => refSameF_calls W A A' c c' qs rs (Kd.C_below h hb) (Kd.C_below h' hb))
  have HS3 := Lib.hid (fun (W : World) (hb : Below w.heap.size w W) => sameF_calls W A A c c qs qs (Kd.C_below h hb) (Kd.C_below h hb))
  rw [decide_eq_true rfl] at HS3
  clear h h' hc hc' hq hr hn
  generalize (findB kind qs).1 = b at *
  generalize (findB kind qs).2 = ok at *
  generalize decide (qs = rs) = r at *
  generalize (kind.toNat : Int) = t at *
  have hss : ((bstr b).toList == (bstr b).toList) = true := by simp
  have hoo : (ok == ok) = true := by simp
  have hrr : (r == r) = true := by simp
  go_enter Try.func9, Try.ntmps9
  go_wp2_with fail
  refine HF.out.mono ?_
  rintro e w1 ⟨A1, c1, rfl, hC1, hB1⟩
  have HC1 := Lib.hid hC1
  have HB1 := Lib.hid hB1
  clear hC1 hB1
  go_wp2_with fail
  refine (HRF.out w1 HB1.out).mono ?_
  rintro e w2 ⟨A2, c2, rfl, hC2, ⟨m, rfl⟩⟩
  have r1 := run_bstr (c := c1) (Kd.C_drewN HC1.out m)
  have r2 := run_bstr (c := c2) hC2
  have HB2 := Lib.hid (pw_below_drewN HB1.out m)
  clear hC2
  generalize w1.drewN m = W2 at *
  go_wp2_with fail
  refine (HS1.out W2 HB2.out).mono ?_
  rintro e w3 ⟨rfl, hB3⟩
  have HB3 := Lib.hid (below_then HB2.out HB2.out.size hB3)
  clear hB3 r1 r2
  go_wp2_with fail
  refine (HS2.out w3 HB3.out).mono ?_
  rintro e w4 ⟨rfl, ⟨m4, rfl⟩⟩
  have HB4 := Lib.hid (pw_below_drewN HB3.out m4)
  generalize w3.drewN m4 = W4 at *
  go_wp2_with fail
  refine (HS3.out W4 HB4.out).mono ?_
  rintro e w5 ⟨rfl, hB5⟩
  have HB5 := Lib.hid (below_then HB4.out HB4.out.size hB5)
  clear hB5
  go_wp2_with fail
  refine (alive_calls _).mono ?_
  rintro e w9 ⟨rfl, hB9⟩
  go_wp2
  go_ret
  exact ⟨rfl, below_then HB5.out HB5.out.size hB9⟩
end Go.Proofs.Ytjlgddmcjccbeaa.ParDec
