/- Pieces handed in; the statement FragJoins where they weigh little: walked. -/
import Derived.Test.YtgfkdebbdjojmaaFragK
import Derived.Test.YtgfkdebbdjojmaaOpensP
namespace Go.Proofs.Ytgfkdebbdjojmaa.Frag
open Go.RowKit Go.Proofs.YtgfkdebbdjojmaaW.PrintWords Go.Proofs.Ytgfkdebbdjojmaa.Base
set_option linter.unusedVariables false
set_option linter.unusedSimpArgs false
def wtPc (x : Pc) : Nat := 1 + (1 + ((x.2.2.map fun _ => 1).sum + 1)) + 1
def shPc (x : Pc) : Prop := True ∧ True ∧ x.2.2.length * 1 ≤ 140737488351232 ∧ ∀ b ∈ x.2.2, True
theorem open_pcP : OpensP 42 pcK wtPc shPc :=
  OpensP.struct Try.underlying42 (by kernel_rfl) (Seg.cons (OpensP.of (Opens.bool Try.underlying4)) rfl (by kernel_rfl) (Seg.cons (OpensP.of (Opens.bool Try.underlying4)) rfl (by kernel_rfl) (Seg.one OpensP.bytes rfl (by kernel_rfl))))
theorem open_pcsP : OpensP 23 (Kd.slice 42 pcK) (fun xs => (xs.map wtPc).sum + 1) (fun xs => xs.length * 32 ≤ 140737488351232 ∧ ∀ x ∈ xs, shPc x) := OpensP.slice open_pcP Try.underlying23 (by kernel_rfl) 32 (by kernel_rfl)
theorem sum_wt (l : List Pc) : (l.map (·.2.2.length)).sum ≤ (l.map wtPc).sum := by
  induction l with
  | nil => simp
  | cons x r ih =>
    simp only [List.map_cons, List.sum_cons]
    have : x.2.2.length ≤ wtPc x := by unfold wtPc; rw [sum_ones]; omega
    omega
theorem fragJoins_upto {w : World} (A : Option Addr) (c : Nat) (l : List Pc) (h : Kd.C pcK w A l.length l) (hc : l.length ≤ c) (hp : l.length * 32 ≤ 140737488351232 ∧ ∀ x ∈ l, shPc x) (hw : (l.map wtPc).sum + 1 ≤ 1048576) :
    Calls Try.prog 4 #[.slice A l.length c] w fun e w' => e = .returned (.bool true) ∧ Below w.heap.size w w' :=
  fragJoins_row A c l h hc (by have := sum_wt l; omega) (by omega)
end Go.Proofs.Ytgfkdebbdjojmaa.Frag
