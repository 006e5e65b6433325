/- Find and Same; the reference's; the statement ParamFinds: walked. -/
import Derived.Test.YtjlgddmcjccbeaaParFindB
namespace Go.Proofs.Ytjlgddmcjccbeaa.ParDec
open Go.RowKit Go.Proofs.YtjlgddmcjccbeaaW.PrintWords Go.Proofs.Ytjlgddmcjccbeaa.PParamCauses Go.Proofs.Ytjlgddmcjccbeaa.ParCauses Go.Proofs.Ytjlgddmcjccbeaa.Base
set_option linter.unusedVariables false
set_option linter.unusedSimpArgs false
/-- The value of the first one, and whether there is one. -/
def findB (kind : UInt16) : List Prm → List UInt8 × Bool
  | [] => ([], false)
  | p :: r => if p.1 = kind then (p.2, true) else findB kind r
theorem findI_some (kind : UInt16) (qs : List Prm) (n : Nat) : (findI kind n qs = -1 ∧ findB kind qs = ([], false)) ∨ ∃ i, i < qs.length ∧ findI kind n qs = ((n + i : Nat) : Int) ∧ findB kind qs = ((qs.getD i zP).2, true) := by
  induction qs generalizing n with
  | nil => exact Or.inl ⟨rfl, rfl⟩
  | cons p r ih =>
    unfold findI findB
    by_cases h : p.1 = kind
    · rw [if_pos h, if_pos h]
      exact Or.inr ⟨0, by simp, rfl, rfl⟩
    · rw [if_neg h, if_neg h]
      rcases ih (n + 1) with h1 | ⟨i, hi, h1, h2⟩
      · exact Or.inl h1
      · exact Or.inr ⟨i + 1, by simpa using hi, by rw [h1]; congr 1; omega, by rw [h2]; rfl⟩
theorem find_calls (w : World) (A : Option Addr) (c : Nat) (kind : UInt16) (qs : List Prm) (h : Kd.C prmK w A qs.length qs) (hsz : ∀ p ∈ qs, p.2.length ≤ 140737488355328) :
    Calls Try.prog 26 #[.slice A qs.length c, .int .u16 (kind.toNat : Int)] w fun e w' => ∃ A1 c1, e = .returned (.tuple #[.slice A1 (findB kind qs).1.length c1, .bool (findB kind qs).2]) ∧ byte.C w' A1 (findB kind qs).1.length (findB kind qs).1 ∧ Below w.heap.size w w' := by
  have hm := h.2.1
  have hg := cell_of_row _ w.heap.size 0 _ _ _ (heap_alloc_new w (.cells #[.int .u16 (kind.toNat : Int)] 34))
  have HI := Lib.hid (index_calls (w.alloc (.cells #[.int .u16 (kind.toNat : Int)] 34)) A c w.heap.size kind qs (Kd.C_alloc h _) hg)
  have H := Lib.hid h
  clear h hg
  have hmf : ∀ (fn : Fn) (first cap : Array Value) (w : World), (Instr.makeFunc fn first cap).run Try.prog w = .ok (.func fn first cap) w := fun _ _ _ _ => rfl
  generalize (kind.toNat : Int) = t at *
  rcases findI_some kind qs 0 with ⟨h1, h2⟩ | ⟨i, hi, h1, h2⟩
  · rw [h1] at HI
    rw [h2]
    clear h1 h2
    go_enter Try.func26, Try.ntmps26
    go_wp2_with fail
    refine HI.out.mono ?_
    rintro e w1 ⟨rfl, hB1⟩
    have HB1 := Lib.hid (below_then (below_alloc (Below.refl w.heap.size w) _) (by simp) hB1)
    clear hB1
    go_wp2
    go_ret2
    exact ⟨none, 0, rfl, Kd.C_nil _ _, HB1.out⟩
  · rw [h1, Nat.zero_add] at HI
    rw [h2]
    clear h1 h2
    have hB := hsz (qs.getD i zP) (by rw [getD_lt _ _ _ hi]; exact List.getElem_mem _)
    have HA := Lib.hid (fun (W : World) (hb : Below w.heap.size w W) => at_prm (Kd.C_below H.out hb) i hi)
    generalize qs.getD i zP = p at *
    have HC := Lib.hid (fun (W : World) (B : Option Addr) (d : Nat) (b0 : byte.C W B p.2.length p.2) => clone_calls B d p.2 W b0 hB)
    unfold RetR at HC
    dsimp only
    generalize p.2.length = n at *
    go_enter Try.func26, Try.ntmps26
    go_wp2_with fail
    refine HI.out.mono ?_
    rintro e w1 ⟨rfl, hB1⟩
    have HB1 := Lib.hid (below_then (below_alloc (Below.refl w.heap.size w) _) (by simp) hB1)
    clear hB1
    obtain ⟨ad, B, d, rfl, x0, y0, z0, b0⟩ := HA.out w1 HB1.out
    have HB0 := Lib.hid b0
    clear b0 x0
    go_wp2_with fail
    refine (HC.out w1 B d HB0.out).mono ?_
    rintro e w2 ⟨v, rfl, hR, hB2⟩
    obtain ⟨A1, c1, hv, hle, hC⟩ := Kd.R_reads hR
    have HB2 := Lib.hid (below_then HB1.out HB1.out.size hB2)
    have hlen : p.2.length = n := HB0.out.1
    rw [hlen] at hv hC
    subst hv
    have HC2 := Lib.hid hC
    clear hR hC hB2 hle hlen
    go_wp2
    go_ret2
    exact ⟨A1, c1, rfl, HC2.out, HB2.out⟩
theorem refFind_calls (w : World) (A : Option Addr) (c : Nat) (kind : UInt16) (qs : List Prm) (h : Kd.C prmK w A qs.length qs) :
    Calls Try.prog 27 #[.slice A qs.length c, .int .u16 (kind.toNat : Int)] w fun e w' => ∃ A1 c1, e = .returned (.tuple #[.slice A1 (findB kind qs).1.length c1, .bool (findB kind qs).2]) ∧ byte.C w' A1 (findB kind qs).1.length (findB kind qs).1 ∧ Drawn0 w w' := by
  have hm := h.2.1
  have H := Lib.hid h
  clear h
  go_enter Try.func27, Try.ntmps27
  go_wp2
  go_loopw [6] (fun v6 w' => ∃ i : Nat, i ≤ qs.length ∧ v6 = .int .i64 i ∧ Hid (findB kind qs = findB kind (qs.drop i)) ∧ Drawn0 w w') (fun v6 _ => qs.length - (intOf v6).toNat)
  case atStart => exact ⟨0, by omega, rfl, rfl, Drawn0.refl _⟩
  case round =>
    obtain ⟨i, hi, rfl, HS, ⟨m, rfl⟩⟩ := hrel
    by_cases hlt : i < qs.length
    · obtain ⟨ad, B, d, rfl, x0, y0, z0, b0⟩ := at_prm H.out i hlt
      have hd := HS.out
      rw [drop_prm qs i hlt] at hd
      have hdec : ((qs.getD i zP).1 = kind) ↔ (((qs.getD i zP).1.toNat : Int) = (kind.toNat : Int)) := ⟨fun e => by rw [e], fun e => UInt16.toNat_inj.1 (by omega)⟩
      generalize qs.getD i zP = p at *
      have HB0 := Lib.hid (Kd.C_drewN b0 m)
      clear b0
      by_cases hk : p.1 = kind
      · have HD := Lib.hid (show findB kind qs = (p.2, true) by rw [hd]; unfold findB; rw [if_pos hk])
        have hk2 := hdec.1 hk
        have hk3 : ((p.1.toNat : Int) == (kind.toNat : Int)) = true := by simp [hk2]
        clear hd hk hk2 hdec
        generalize (kind.toNat : Int) = t at *
        generalize (p.1.toNat : Int) = t' at *
        generalize hn : p.2.length = n at *
        have HN := Lib.hid hn
        clear hn
        go_wp2
        go_ret2
        refine ⟨B, d, ?_, ?_, drawn2 (by first | exact ⟨_, rfl⟩ | exact ⟨_, World.drewN_drewN ..⟩)⟩
        · rw [HD.out, HN.out]; rfl
        · rw [HD.out, HN.out]; exact HB0.out
      · have HD := Lib.hid (show findB kind qs = findB kind (qs.drop (i + 1)) by rw [hd]; conv => lhs; unfold findB; rw [if_neg hk])
        have hk3 : ((p.1.toNat : Int) == (kind.toNat : Int)) = false := by simpa using fun e => hk (hdec.2 e)
        clear hd hk hdec HB0
        generalize (kind.toNat : Int) = t at *
        generalize (p.1.toNat : Int) = t' at *
        generalize p.2.length = n at *
        go_wp2
        go_roundw
        case rel => exact ⟨i + 1, by omega, by go_num, HD, drawn2 (by first | exact ⟨_, rfl⟩ | exact ⟨_, World.drewN_drewN ..⟩)⟩
        case measure => simp [intOf]; omega
    · obtain rfl : i = qs.length := by omega
      have HD := Lib.hid (show findB kind qs = ([], false) by rw [HS.out, List.drop_length]; rfl)
      go_wp2
      go_ret2
      refine ⟨none, 0, ?_, ?_, drawn2 ⟨_, rfl⟩⟩
      · rw [HD.out]; rfl
      · rw [HD.out]; exact Kd.C_nil _ _
end Go.Proofs.Ytjlgddmcjccbeaa.ParDec
