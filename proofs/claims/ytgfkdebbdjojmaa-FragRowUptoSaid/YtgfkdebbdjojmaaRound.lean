/- A region in the round of a range over a function, walked as anywhere. -/
import Derived.Test.YtgfkdebbdjojmaaFragA
import Derived.RangeFuncFrom
import Derived.RangeFuncLeaves
import Derived.RangeFuncBox
import Derived.RangeFuncCalls
import Derived.Shelf.Abstract
import Derived.OwnWalkIn
import Derived.TacticsInMore
import Derived.LoopNIn
import Derived.LoopIn
namespace Go.Proofs.Ytgfkdebbdjojmaa.Frag
open Go.RowKit Go.Proofs.YtgfkdebbdjojmaaW.PrintWords Go.Proofs.YtgfkdebbdjojmaaW.PrintLast Go.Proofs.Ytgfkdebbdjojmaa.Base
set_option linter.unusedVariables false
set_option linter.unusedSimpArgs false
section
variable {P : Program} {n l : Nat}
theorem rows_in {row : String} {args : Array Value} {w : World} {R R' : Value → World → Prop} (h : Rows P row args w R) (hr : ∀ v w', R v w' → R' v w') : RowsIn (Fence.wide.inRound l) n P row args w R' := by
  intro c cs _
  obtain ⟨v, w', h1, h2⟩ := h c cs
  exact ⟨v, w', hr _ _ h1, stepsIn_wide.2 h2⟩
theorem uponIn_of {o : Oper} {a : Act} {next next' : Act → World → Prop} {Q : Exit → Act → World → Prop} (hn : ∀ a w, next a w → next' a w) (r : Result Next) (h : o.upon P a next Q r) : o.uponIn (Fence.wide.inRound l) n P a next' Q r := by
  unfold Oper.upon at h
  split at h
  · exact hn _ _ h
  · exact hn _ _ h
  · exact hn _ _ h
  · refine ⟨(fun hd => by cases hd), (CallsIn.inRound l (callsIn_wide.2 h)).mono fun e w' hR => ?_⟩
    cases e with
    | returned v => exact hn _ _ hR
    | panicked c => exact hR
    | outgrown => exact hR
  · exact ⟨(fun hd => by cases hd), rows_in h (fun v w' hR => hn _ _ hR)⟩
  · exact h
  · exact h.elim
theorem wpOpsIn_of {ops : Array Oper} {Q : Exit → Act → World → Prop} (hL : ¬ LetsOut Q) (hd : ∀ (i : Nat) (o : Oper), ops[i]? = some o → ∀ c, o.op ≠ .defer c) (k : List Nat) : ∀ (a : Act) (w : World), wpOps P ops Q k a w → wpOpsIn (Fence.wide.inRound l) n P ops Q k a w := by
  induction k with
  | nil => exact fun a w h => h
  | cons i rest ih =>
    intro a w h
    unfold wpOps at h
    unfold wpOpsIn
    cases ho : ops[i]? with
    | none =>
      rw [ho] at h
      exact ih a w h
    | some o =>
      rw [ho] at h
      by_cases hw : Region.wanted o (yielded ops a.tmps) = true
      · simp only [hw, if_true] at h ⊢
        rcases h with h | h
        · refine ⟨fun f _ => trivial, ?_⟩
          rw [Oper.semAt_plain _ _ _ (hd i o ho)]
          exact uponIn_of (fun a w h => ih a w h) _ h
        · exact absurd h.2 hL
      · simp only [hw, if_false, Bool.false_eq_true] at h ⊢
        exact ⟨fun f _ => trivial, ih _ _ h⟩
end
section
variable {P : Program} {n r : Nat} {ops : Array Oper} {Q : Exit → Act → World → Prop} {S : World → Prop} {ds : List Nat}
theorem startR_ {id m : Nat} {a : Act} {w : World} (l : Array Bool) (hm : P.follows .mixedOrders = true) (hn : ops.size = m) (hl : Array.replicate m false = l) (hS : S w.drew) (hL : ¬ LetsOut Q) (hd : ∀ (i : Nat) (o : Oper), ops[i]? = some o → ∀ c, o.op ≠ .defer c)
    (h : S w.drew → wpAnyLast P .any ops Q S ds m l a w.drew) : (Code.region id ops true).wpIn (Fence.wide.inRound r) n P Q a w := by
  subst hn
  subst hl
  refine wpIn_region_draw fun t => wpOpsIn_of hL hd _ a _ ?_
  simp only [Region.schedule, hm, Bool.true_or, if_true]
  exact wpAny_sound ops.size t _ a _ (wpAny_of_last _ _ _ _ (h hS))
end
end Go.Proofs.Ytgfkdebbdjojmaa.Frag
