/- slices.IndexFunc and slices.EqualFunc over lists of parameters: walked. -/
import Derived.Test.YtjlgddmcjccbeaaParFindA
import Derived.Deep.LoopGhost
namespace Go.Proofs.Ytjlgddmcjccbeaa.ParDec
open Go.RowKit Go.Proofs.YtjlgddmcjccbeaaW.PrintWords Go.Proofs.Ytjlgddmcjccbeaa.PParamCauses Go.Proofs.Ytjlgddmcjccbeaa.ParCauses Go.Proofs.Ytjlgddmcjccbeaa.Base
set_option linter.unusedVariables false
set_option linter.unusedSimpArgs false
/-- The first one's place from i on, or -1. -/
def findI (kind : UInt16) : Nat → List Prm → Int
  | _, [] => -1
  | i, p :: r => if p.1 = kind then (i : Int) else findI kind (i + 1) r
theorem drop_prm (qs : List Prm) (i : Nat) (h : i < qs.length) : qs.drop i = qs.getD i zP :: qs.drop (i + 1) := by
  rw [List.drop_eq_getElem_cons h]
  simp [List.getD_eq_getElem?_getD, h]
theorem index_calls (w : World) (A : Option Addr) (c g : Nat) (kind : UInt16) (qs : List Prm) (h : Kd.C prmK w A qs.length qs) (hg : w.cell? ⟨g, 0, none⟩ = some (.int .u16 (kind.toNat : Int))) :
    Calls Try.prog 36 #[.slice A qs.length c, .func (.func 37) #[] #[.pointer (some ⟨g, 0, none⟩)]] w fun e w' => e = .returned (.int .i64 (findI kind 0 qs)) ∧ Below w.heap.size w w' := by
  have hm := h.2.1
  have H := Lib.hid h
  have HG := Lib.hid hg
  clear h hg
  go_enter Try.func36, Try.ntmps36
  go_wp2
  go_loopw [8] (fun v8 w' => ∃ i : Nat, i ≤ qs.length ∧ v8 = .int .i64 i ∧ Hid (findI kind 0 qs = findI kind i (qs.drop i)) ∧ Hid (Below w.heap.size w w')) (fun v8 _ => qs.length - (intOf v8).toNat)
  case atStart => exact ⟨0, by omega, rfl, rfl, Below.refl _ _⟩
  case round =>
    obtain ⟨i, hi, rfl, HS, HB⟩ := hrel
    by_cases hlt : i < qs.length
    · obtain ⟨ad, B, d, rfl, x0, y0, z0, b0⟩ := at_prm (Kd.C_below H.out HB.out) i hlt
      have hd := HS.out
      rw [drop_prm qs i hlt] at hd
      generalize qs.getD i zP = p at *
      have HF := Lib.hid (find1_calls p B d g kind wr (pw_cell_below HB.out HG.out))
      clear b0
      unfold prmV at HF
      by_cases hk : p.1 = kind
      · have HD := Lib.hid (show findI kind 0 qs = (i : Int) by rw [hd]; unfold findI; rw [if_pos hk])
        rw [decide_eq_true hk] at HF
        clear hd hk
        generalize p.2.length = n at *
        generalize (p.1.toNat : Int) = t at *
        go_wp2_with fail
        refine HF.out.mono ?_
        rintro e w1 ⟨rfl, hB1⟩
        have HB1 := Lib.hid (below_then HB.out HB.out.size hB1)
        clear hB1
        go_wp2
        go_ret
        exact ⟨by rw [HD.out]; rfl, HB1.out⟩
      · have HD := Lib.hid (show findI kind 0 qs = findI kind (i + 1) (qs.drop (i + 1)) by rw [hd]; conv => lhs; unfold findI; rw [if_neg hk])
        rw [decide_eq_false hk] at HF
        clear hd hk
        generalize p.2.length = n at *
        generalize (p.1.toNat : Int) = t at *
        go_wp2_with fail
        refine HF.out.mono ?_
        rintro e w1 ⟨rfl, hB1⟩
        have HB1 := Lib.hid (below_then HB.out HB.out.size hB1)
        clear hB1
        go_wp2
        go_roundw
        case rel => exact ⟨i + 1, by omega, by go_num, HD, HB1⟩
        case measure => simp [intOf]; omega
    · obtain rfl : i = qs.length := by omega
      have HD := Lib.hid (show findI kind 0 qs = -1 by rw [HS.out, List.drop_length]; rfl)
      go_wp2
      go_ret
      exact ⟨by rw [HD.out]; rfl, HB.out⟩
theorem equalF_calls (w : World) (A A' : Option Addr) (c c' : Nat) (qs rs : List Prm) (h : Kd.C prmK w A qs.length qs) (h' : Kd.C prmK w A' rs.length rs) :
    Calls Try.prog 39 #[.slice A qs.length c, .slice A' rs.length c', .func (.func 40) #[] #[]] w fun e w' => e = .returned (.bool (decide (qs = rs))) ∧ Below w.heap.size w w' := by
  have hm := h.2.1
  have hm' := h'.2.1
  have H := Lib.hid h
  have H' := Lib.hid h'
  clear h h'
  by_cases hL : qs.length = rs.length
  · have hne : (((qs.length : Nat) : Int) != ((rs.length : Nat) : Int)) = false := by simp [hL]
    have HL := Lib.hid hL
    clear hL
    go_enter Try.func39, Try.ntmps39
    go_wp2
    go_loopw [17] (fun v17 w' => ∃ i : Nat, i ≤ qs.length ∧ v17 = .int .i64 i ∧ Hid (decide (qs = rs) = decide (qs.drop i = rs.drop i)) ∧ Hid (Below w.heap.size w w')) (fun v17 _ => qs.length - (intOf v17).toNat)
    case atStart => exact ⟨0, by omega, rfl, rfl, Below.refl _ _⟩
    case round =>
      obtain ⟨i, hi, rfl, HS, HB⟩ := hrel
      by_cases hlt : i < qs.length
      · have hlt' : i < rs.length := by rw [← HL.out]; exact hlt
        obtain ⟨ad, B, d, rfl, x0, y0, z0, b0⟩ := at_prm (Kd.C_below H.out HB.out) i hlt
        obtain ⟨ad', B', d', rfl, x1, y1, z1, b1⟩ := at_prm (Kd.C_below H'.out HB.out) i hlt'
        have hd := HS.out
        rw [drop_prm qs i hlt, drop_prm rs i hlt'] at hd
        generalize qs.getD i zP = p at *
        generalize rs.getD i zP = q at *
        have HF := Lib.hid (fun (W : World) (hb : Below wr.heap.size wr W) => same1_calls p q B B' d d' W (Kd.C_below b0 hb) (Kd.C_below b1 hb))
        have s0 : ∀ o, (wr.alloc o).cell? (ad'.add (i * 2)) = _ := fun o => pw_cell_below (below_alloc (Below.refl _ _) o) x1
        have s1 : ∀ o, (wr.alloc o).cell? ⟨(ad'.add (i * 2)).block, (ad'.add (i * 2)).off + 1, none⟩ = _ := fun o => pw_cell_below (below_alloc (Below.refl _ _) o) y1
        have s2 : (p :: qs.drop (i + 1) = q :: rs.drop (i + 1)) = (p = q ∧ qs.drop (i + 1) = rs.drop (i + 1)) := by simp
        clear b0 b1 x1 y1
        unfold prmV at HF
        by_cases hk : p = q
        · have HD := Lib.hid (show decide (qs = rs) = decide (qs.drop (i + 1) = rs.drop (i + 1)) by rw [hd]; exact decide_eq_decide.2 (by rw [s2]; simp [hk]))
          rw [decide_eq_true hk] at HF
          clear hd hk s2
          generalize p.2.length = n at *
          generalize (p.1.toNat : Int) = t at *
          generalize q.2.length = n' at *
          generalize (q.1.toNat : Int) = t' at *
          go_wp2_with fail
          refine (HF.out _ (below_alloc (below_alloc (Below.refl _ _) _) _)).mono ?_
          rintro e w1 ⟨rfl, hB1⟩
          have HB1 := Lib.hid (below_then HB.out HB.out.size (below_then (below_alloc (below_alloc (Below.refl wr.heap.size wr) _) _) (by simp; omega) hB1))
          clear hB1
          go_wp2
          go_roundw
          case rel => exact ⟨i + 1, by omega, by go_num, HD, HB1⟩
          case measure => simp [intOf]; omega
        · have HD := Lib.hid (show decide (qs = rs) = false by rw [hd]; exact decide_eq_false (fun e => hk (s2.mp e).1))
          rw [decide_eq_false hk] at HF
          clear hd hk s2
          generalize p.2.length = n at *
          generalize (p.1.toNat : Int) = t at *
          generalize q.2.length = n' at *
          generalize (q.1.toNat : Int) = t' at *
          go_wp2_with fail
          refine (HF.out _ (below_alloc (below_alloc (Below.refl _ _) _) _)).mono ?_
          rintro e w1 ⟨rfl, hB1⟩
          have HB1 := Lib.hid (below_then HB.out HB.out.size (below_then (below_alloc (below_alloc (Below.refl wr.heap.size wr) _) _) (by simp; omega) hB1))
          clear hB1
          go_wp2
          go_ret
          exact ⟨by rw [HD.out]; rfl, HB1.out⟩
      · obtain rfl : i = qs.length := by omega
        have HD := Lib.hid (show decide (qs = rs) = true by rw [HS.out, List.drop_length, HL.out, List.drop_length]; rfl)
        go_wp2
        go_ret
        exact ⟨by rw [HD.out]; rfl, HB.out⟩
  · have HD := Lib.hid (show decide (qs = rs) = false from decide_eq_false (fun e => hL (congrArg List.length e)))
    have hl2 : ¬ (qs.length : Int) = (rs.length : Int) := by omega
    go_enter Try.func39, Try.ntmps39
    go_wp2
    go_ret
    exact ⟨by rw [HD.out]; rfl, Below.refl _ _⟩
end Go.Proofs.Ytjlgddmcjccbeaa.ParDec
