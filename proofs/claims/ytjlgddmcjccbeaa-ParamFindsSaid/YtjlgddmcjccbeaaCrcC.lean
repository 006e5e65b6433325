/- The walks of slices.Clone and slices.Equal over bytes. -/
import Derived.Test.YtjlgddmcjccbeaaBaseB
import Derived.WalkSpells
namespace Go.Proofs.Ytjlgddmcjccbeaa.Base
open Go.RowKit Go.Proofs.YtjlgddmcjccbeaaW.PrintWords
set_option linter.unusedVariables false
set_option linter.unusedSimpArgs false


theorem clone_calls (A : Option Addr) (c : Nat) (l : List UInt8) (w : World) (hb : byte.C w A l.length l) (hm : l.length ≤ 140737488355328) :
    Calls Try.prog 38 #[.slice A l.length c] w (RetR byte 5 l w) := by
  cases A with
  | none =>
    have hl : l = [] := by
      rcases Nat.eq_zero_or_pos l.length with h | h
      · exact List.eq_nil_of_length_eq_zero h
      · obtain ⟨ad, e, _⟩ := hb.2.2 h
        cases e
    subst hl
    have he := fun (W : World) => Lib.run_eql_slice_nil (P := Try.prog) W 23 5 none 0 c 0 0 Try.underlying23
    go_enter Try.func38, Try.ntmps38
    go_wp2
    go_ret
    exact ⟨_, rfl, Kd.R_nil _ _ _ _ _, Below.refl _ _⟩
  | some ad =>
    have he := fun (W : World) => Lib.run_eql_slice_nil (P := Try.prog) W 23 5 (some ad) l.length c 0 0 Try.underlying23
    have hO : byte.R 5 (w.alloc (.cells #[] 5)) w.heap.size (fun _ => True) (.slice (some ⟨w.heap.size, 0, none⟩) 0 0) [] := Kd.R_of_own (own_lit_of (enc := fun b : UInt8 => Value.int .u8 (b.toNat : Int)) w w.heap.size 5 [] (Nat.le_refl _) (by simp)) (fun _ _ => trivial)
    have HO := Lib.hid hO
    clear hO
    go_enter Try.func38, Try.ntmps38
    go_wp2_with (at_builtin; go_must (refine Kd.R_append_row (fun b : UInt8 => .int .u8 (b.toNat : Int)) (0 : UInt8) (w0 := w) w.heap.size rfl _ _ 23 5 _ 1 rfl Try.underlying23 info_u8 rfl (by decide) _ [] l (some ad) l.length c (fun _ => True) rfl rfl (fun _ _ => trivial) HO.out (Kd.C_alloc hb _) ((Below.refl _ _).alloc (Nat.le_refl _) _) (by simp) (by simpa using hm) ?_); intro v1 w1 hR1 hB1 _ _; clear hb he)
    go_ret
    exact ⟨_, rfl, hR1, hB1⟩
theorem take_eq_succ {α : Type} (l l' : List α) (k : Nat) (h : k < l.length) (h' : k < l'.length) (ht : l.take k = l'.take k) (he : l[k] = l'[k]) : l.take (k + 1) = l'.take (k + 1) := by
  rw [List.take_succ_eq_append_getElem h, List.take_succ_eq_append_getElem h', ht, he]
theorem equal_calls (A A' : Option Addr) (c c' : Nat) (l l' : List UInt8) (w : World) (hb : byte.C w A l.length l) (hb' : byte.C w A' l'.length l') :
    Calls Try.prog 41 #[.slice A l.length c, .slice A' l'.length c'] w fun e w' => e = .returned (.bool (decide (l = l'))) ∧ Drawn0 w w' := by
  have hlen := hb.2.1
  have hlen' := hb'.2.1
  by_cases hL : l.length = l'.length
  · have hne : (((l.length : Nat) : Int) != ((l'.length : Nat) : Int)) = false := by simp [hL]
    have HL := Lib.hid hL
    clear hL
    go_enter Try.func41, Try.ntmps41
    go_wp2
    go_loopw [13] (fun v13 w' => ∃ k : Nat, k ≤ l.length ∧ v13 = .int .i64 k ∧ Hid (l.take k = l'.take k) ∧ Drawn0 w w') (fun v13 _ => l.length - (intOf v13).toNat)
    case atStart => exact ⟨0, by omega, rfl, rfl, Drawn0.refl _⟩
    case round =>
      obtain ⟨k, hk, rfl, hT, hD⟩ := hrel
      obtain ⟨⟨nd, rfl⟩⟩ := hD
      by_cases hlt : k < l.length
      · have hlt' : k < l'.length := by rw [← HL.out]; exact hlt
        obtain ⟨ad, rfl, hx⟩ := byte_at hb k hlt
        obtain ⟨ad', rfl, hx'⟩ := byte_at hb' k hlt'
        have gx := getD_lt l 0 k hlt
        have gx' := getD_lt l' 0 k hlt'
        generalize l.getD k 0 = p at *
        generalize l'.getD k 0 = p' at *
        have GX := Lib.hid gx
        have GX' := Lib.hid gx'
        clear gx gx'
        by_cases hp : p = p'
        · subst hp
          have ht : (((p.toNat : Nat) : Int) != ((p.toNat : Nat) : Int)) = false := by simp
          generalize ((p.toNat : Nat) : Int) = q at *
          go_wp2
          go_quiet (fail)
          go_wp2
          go_roundw
          case rel => exact ⟨k + 1, by omega, by go_num, take_eq_succ l l' k hlt hlt' hT.out (by rw [← GX.out, ← GX'.out]), drawn2 (by first | exact ⟨_, rfl⟩ | exact ⟨_, World.drewN_drewN ..⟩)⟩
          case measure => simp [intOf]; omega
        · have ht : (((p.toNat : Nat) : Int) != ((p'.toNat : Nat) : Int)) = true := by
            simp only [bne_iff_ne, ne_eq, Int.natCast_inj, UInt8.toNat_inj]
            exact hp
          have HP := Lib.hid hp
          clear hp
          generalize hq : ((p.toNat : Nat) : Int) = q at *
          generalize hq' : ((p'.toNat : Nat) : Int) = q' at *
          clear hq hq'
          go_wp2
          go_quiet (fail)
          go_wp2
          go_ret
          exact ⟨ret_bool (decide_eq_false (fun h => HP.out (by rw [GX.out, GX'.out]; simp [h]))).symm, drawn2 (by first | exact ⟨_, rfl⟩ | exact ⟨_, World.drewN_drewN ..⟩)⟩
      · obtain rfl : k = l.length := by omega
        go_wp2
        go_ret
        refine ⟨ret_bool (decide_eq_true ?_).symm, Drawn0.mk ⟨nd, rfl⟩⟩
        have := hT.out
        rwa [List.take_length, HL.out, List.take_length] at this
  · have hne : (((l.length : Nat) : Int) != ((l'.length : Nat) : Int)) = true := by simp; omega
    have HL := Lib.hid hL
    clear hL
    go_enter Try.func41, Try.ntmps41
    go_wp2
    go_ret
    exact ⟨ret_bool (decide_eq_false (fun h => HL.out (congrArg List.length h))).symm, Drawn0.refl _⟩
end Go.Proofs.Ytjlgddmcjccbeaa.Base
