/- Lists that are the same, in the reference: walked. -/
import Derived.Test.YtjlgddmcjccbeaaParUser
import Derived.WalkSpells
namespace Go.Proofs.Ytjlgddmcjccbeaa.ParCauses
open Go.RowKit Go.Proofs.YtjlgddmcjccbeaaW.PrintWords Go.Proofs.Ytjlgddmcjccbeaa.PParamCauses Go.Proofs.Ytjlgddmcjccbeaa.Base
set_option linter.unusedVariables false
set_option linter.unusedSimpArgs false

def sameQ (p q : S36) : Bool := decide (p.f0 = q.f0) && ((strOfNums p.f1).toList == (strOfNums q.f1).toList)
def sameP : List S36 → List S36 → Bool
  | [], [] => true
  | p :: ps, q :: qs => sameQ p q && sameP ps qs
  | _, _ => false
theorem sameP_refl (ps : List S36) : sameP ps ps = true := by
  induction ps with
  | nil => rfl
  | cons p ps ih => simp [sameP, sameQ, ih]
theorem sameP_length : ∀ (ps qs : List S36), ps.length ≠ qs.length → sameP ps qs = false
  | [], [], h => absurd rfl h
  | [], _ :: _, _ => rfl
  | _ :: _, [], _ => rfl
  | p :: ps, q :: qs, h => by
    unfold sameP
    rw [sameP_length ps qs (by simpa using h), Bool.and_false]
theorem rd_drop (ps : List S36) (i : Nat) (h : i < ps.length) : ps.drop i = rd_T36 ps (i : Int) :: ps.drop (i + 1) := by
  rw [List.drop_eq_getElem_cons h]
  unfold rd_T36
  rw [Int.toNat_natCast]
  simp [List.getD_eq_getElem?_getD, h]
theorem refSame_calls (w : World) (A0 : Option Addr) (c0 : Nat) (l0 : List S36) (A1 : Option Addr) (c1 : Nat) (l1 : List S36) (h0 : Kd.C k36 w A0 l0.length l0) (h1 : Kd.C k36 w A1 l1.length l1) :
    Calls Try.prog 23 #[.slice A0 l0.length c0, .slice A1 l1.length c1] w fun e w' => e = .returned (.bool (sameP l0 l1)) ∧ Drawn0 w w' := by
  have m0 := h0.2.1
  by_cases hl : l0.length = l1.length
  · go_enter Try.func23, Try.ntmps23
    go_wp2
    go_loopw [5] (fun v5 w' => ∃ i : Nat, i ≤ l0.length ∧ v5 = .int .i64 i ∧ Hid (sameP l0 l1 = sameP (l0.drop i) (l1.drop i)) ∧ Drawn0 w w') (fun v5 _ => l0.length - (intOf v5).toNat)
    case atStart => exact ⟨0, by omega, rfl, rfl, Drawn0.refl _⟩
    case round =>
      obtain ⟨i, hi, rfl, HS, ⟨m, rfl⟩⟩ := hrel
      by_cases hlt : i < l0.length
      · obtain ⟨ad0, B0, d0, rfl, x0, y0, z0, b0⟩ := at_T36 h0 (i : Int) (by omega) (by omega)
        obtain ⟨ad1, B1, d1, rfl, x1, y1, z1, b1⟩ := at_T36 h1 (i : Int) (by omega) (by omega)
        rw [Int.toNat_natCast] at x0 y0 x1 y1
        have hd := HS.out
        rw [rd_drop l0 i hlt, rd_drop l1 i (by omega)] at hd
        generalize rd_T36 l0 (i : Int) = p at *
        generalize rd_T36 l1 (i : Int) = q at *
        have r0 := fun n => Kd.C_string (P := Try.prog) (c := d0) Try.underlying23 Try.underlying5 Try.underlying9 (Kd.C_drewN b0 n)
        have r1 := fun n => Kd.C_string (P := Try.prog) (c := d1) Try.underlying23 Try.underlying5 Try.underlying9 (Kd.C_drewN b1 n)
        by_cases hf : p.f0 = q.f0
        · have hf1 : (p.f0 != q.f0) = false := by simp [hf]
          cases hb : ((strOfNums p.f1).toList == (strOfNums q.f1).toList) with
          | true =>
            have hb1 : ((strOfNums p.f1).toList != (strOfNums q.f1).toList) = false := by simpa using hb
            have HD := Lib.hid (show sameP l0 l1 = sameP (l0.drop (i + 1)) (l1.drop (i + 1)) by rw [hd]; simp [sameP, sameQ, hf, hb])
            clear hd
            go_wp2
            go_quiet (fail)
            go_wp2
            go_roundw
            case rel => exact ⟨i + 1, by omega, by go_num, HD, drawn2 (by first | exact ⟨_, rfl⟩ | exact ⟨_, World.drewN_drewN ..⟩)⟩
            case measure => simp [intOf]; omega
          | false =>
            have hb1 : ((strOfNums p.f1).toList != (strOfNums q.f1).toList) = true := by simp [bne, hb]
            have HD := Lib.hid (show sameP l0 l1 = false by rw [hd]; simp [sameP, sameQ, hf, hb])
            clear hd
            go_wp2
            go_quiet (fail)
            go_wp2
            go_ret
            exact ⟨by rw [HD.out]; rfl, drawn2 (by first | exact ⟨_, rfl⟩ | exact ⟨_, World.drewN_drewN ..⟩)⟩
        · have hf1 : (p.f0 != q.f0) = true := by simp [hf]
          have HD := Lib.hid (show sameP l0 l1 = false by rw [hd]; simp [sameP, sameQ, hf])
          clear hd
          go_wp2
          go_quiet (fail)
          go_wp2
          go_ret
          exact ⟨by rw [HD.out]; rfl, drawn2 (by first | exact ⟨_, rfl⟩ | exact ⟨_, World.drewN_drewN ..⟩)⟩
      · obtain rfl : i = l0.length := by omega
        have HD := Lib.hid (show sameP l0 l1 = true by rw [HS.out, List.drop_length, hl, List.drop_length]; rfl)
        go_wp2
        go_ret
        exact ⟨by rw [HD.out]; rfl, drawn2 ⟨_, rfl⟩⟩
  · have HD := Lib.hid (sameP_length l0 l1 hl)
    have hl2 : ¬ (l0.length : Int) = (l1.length : Int) := by omega
    go_enter Try.func23, Try.ntmps23
    go_wp2
    go_ret
    exact ⟨by rw [HD.out]; rfl, Drawn0.refl _⟩
end Go.Proofs.Ytjlgddmcjccbeaa.ParCauses
