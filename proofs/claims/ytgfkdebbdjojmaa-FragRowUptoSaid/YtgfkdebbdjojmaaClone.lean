/- The walk of slices.Clone over bytes. -/
import Derived.Test.YtgfkdebbdjojmaaBaseB
import Derived.WalkSpells
namespace Go.Proofs.Ytgfkdebbdjojmaa.Base
open Go.RowKit Go.Proofs.YtgfkdebbdjojmaaW.PrintWords
set_option linter.unusedVariables false
set_option linter.unusedSimpArgs false


theorem clone_calls (A : Option Addr) (c : Nat) (l : List UInt8) (w : World) (hb : byte.C w A l.length l) (hm : l.length ≤ 140737488355328) :
    Calls Try.prog 19 #[.slice A l.length c] w (RetR byte 5 l w) := by
  cases A with
  | none =>
    have hl : l = [] := by
      rcases Nat.eq_zero_or_pos l.length with h | h
      · exact List.eq_nil_of_length_eq_zero h
      · obtain ⟨ad, e, _⟩ := hb.2.2 h
        cases e
    subst hl
    have he := fun (W : World) => Lib.run_eql_slice_nil (P := Try.prog) W 22 5 none 0 c 0 0 Try.underlying22
    go_enter Try.func19, Try.ntmps19
    go_wp2
    go_ret
    exact ⟨_, rfl, Kd.R_nil _ _ _ _ _, Below.refl _ _⟩
  | some ad =>
    have he := fun (W : World) => Lib.run_eql_slice_nil (P := Try.prog) W 22 5 (some ad) l.length c 0 0 Try.underlying22
    have hO : byte.R 5 (w.alloc (.cells #[] 5)) w.heap.size (fun _ => True) (.slice (some ⟨w.heap.size, 0, none⟩) 0 0) [] := Kd.R_of_own (own_lit_of (enc := fun b : UInt8 => Value.int .u8 (b.toNat : Int)) w w.heap.size 5 [] (Nat.le_refl _) (by simp)) (fun _ _ => trivial)
    have HO := Lib.hid hO
    clear hO
    go_enter Try.func19, Try.ntmps19
    go_wp2_with (at_builtin; go_must (refine Kd.R_append_row (fun b : UInt8 => .int .u8 (b.toNat : Int)) (0 : UInt8) (w0 := w) w.heap.size rfl _ _ 22 5 _ 1 rfl Try.underlying22 info_u8 rfl (by decide) _ [] l (some ad) l.length c (fun _ => True) rfl rfl (fun _ _ => trivial) HO.out (Kd.C_alloc hb _) ((Below.refl _ _).alloc (Nat.le_refl _) _) (by simp) (by simpa using hm) ?_); intro v1 w1 hR1 hB1 _ _; clear hb he)
    go_ret
    exact ⟨_, rfl, hR1, hB1⟩
end Go.Proofs.Ytgfkdebbdjojmaa.Base
