/- The deferred function of Join and Runs: walked. -/
import Derived.Test.YtgfkdebbdjojmaaFragA
import Derived.Defers
import Derived.Recover
import Derived.Laws.Pointers
namespace Go.Proofs.Ytgfkdebbdjojmaa.Frag
open Go.RowKit Go.Proofs.YtgfkdebbdjojmaaW.PrintWords Go.Proofs.Ytgfkdebbdjojmaa.Base
set_option linter.unusedVariables false
set_option linter.unusedSimpArgs false
def faultV (p : Nat) (code : Int) : Value := .iface 62 (.agg #[.int .i64 (p : Int), .int .i64 code])
theorem caught_idle (a b : Addr) (w : World) :
    CallsD Try.prog 20 #[.pointer (some a), .pointer (some b)] .returning w fun e u' w' => e = .returned (.tuple #[]) ∧ u' = .returning ∧ w' = w := by
  refine callsD_of_wpS Try.func20 rfl fun c₀ cs hu => ?_
  apply wpS_seq
  apply wpS_region
  simp [wpOpsS, go_sem, recoverD, hu, Try.ntmps20, Exit.thenS]
  have ht : (#[Value.pointer (some a), Value.pointer (some b)] ++ ((Array.replicate 24 undef).setIfInBounds 5 Value.nilIface).setIfInBounds 2 Value.nilIface) = #[.pointer (some a), .pointer (some b), undef, undef, .nilIface, undef, undef, .nilIface, undef, undef, undef, undef, undef, undef, undef, undef, undef, undef, undef, undef, undef, undef, undef, undef, undef, undef] := by kernel_rfl
  rw [ht]
  refine wpS_of_wp ?_
  go_wp2
  cases c₀
  simp_all [bodyPostS, results, Try.results20]
theorem caught_fault (b c : Nat) (p : Nat) (code : Int) (older : List PanicEntry) (w : World) (x1 x2 : Value) (t1 t2 : TypeId)
    (h1 : w.heap[b]? = some (.cells #[x1] t1 (0, 0))) (h2 : w.heap[c]? = some (.cells #[x2] t2 (0, 0))) (hbc : b ≠ c) :
    CallsD Try.prog 20 #[.pointer (some ⟨b, 0, none⟩), .pointer (some ⟨c, 0, none⟩)] (.panicking ({ v := faultV p code, recovered := false } :: older)) w fun e u' w' => e = .returned (.tuple #[]) ∧ u' = .panicking ({ v := faultV p code, recovered := true } :: older) ∧
      w'.heap[b]? = some (.cells #[.int .i64 (p : Int)] t1 (0, 0)) ∧ w'.heap[c]? = some (.cells #[.int .i64 code] t2 (0, 0)) ∧ Only (fun k => k = b ∨ k = c) w w' := by
  unfold faultV
  refine callsD_of_wpS Try.func20 rfl fun c₀ cs hu => ?_
  apply wpS_seq
  apply wpS_region
  simp [wpOpsS, go_sem, recoverD, hu, Try.ntmps20, Exit.thenS]
  generalize hfv : (Value.iface 62 (.agg #[.int .i64 (p : Int), .int .i64 code])) = fv at *
  have ht : ∀ fv : Value, (#[Value.pointer (some ⟨b, 0, none⟩), Value.pointer (some ⟨c, 0, none⟩)] ++ ((Array.replicate 24 undef).setIfInBounds 5 fv).setIfInBounds 2 fv) = #[.pointer (some ⟨b, 0, none⟩), .pointer (some ⟨c, 0, none⟩), undef, undef, fv, undef, undef, fv, undef, undef, undef, undef, undef, undef, undef, undef, undef, undef, undef, undef, undef, undef, undef, undef, undef, undef] := fun fv => by kernel_rfl
  rw [ht]
  subst hfv
  have hta : ∀ W : World, (Instr.typeAssert (Value.iface 62 (Value.agg #[Value.int IntKind.i64 ↑p, Value.int IntKind.i64 code])) 20 62 true).run Try.prog W = .ok (.tuple #[Value.agg #[Value.int IntKind.i64 ↑p, Value.int IntKind.i64 code], .bool true]) W := fun W => by rfl
  refine wpS_of_wp ?_
  have n1 := blk_lt h1
  have n2 := blk_lt h2
  have H1 := Lib.hid (blk_alloc h1 (.cells #[.int .i64 (p : Int), .int .i64 code] 62))
  have H2 := Lib.hid (blk_alloc h2 (.cells #[.int .i64 (p : Int), .int .i64 code] 62))
  have H3 := Lib.hid (heap_alloc_new w (.cells #[.int .i64 (p : Int), .int .i64 code] 62))
  have HO := Lib.hid ((Only.refl (fun k => k = b ∨ k = c) w).alloc (.cells #[.int .i64 (p : Int), .int .i64 code] 62))
  clear h1 h2
  go_upto_region 5 with (fail)
  have e1 : b ≠ w.heap.size := by omega
  have e2 : c ≠ w.heap.size := by omega
  clear n1 n2
  generalize w.alloc (.cells #[.int .i64 (p : Int), .int .i64 code] 62) = W5 at *
  generalize w.heap.size = g at *
  have k1 := blk_cell H1.out 0
  have k2 := blk_cell H2.out 0
  have k3 := blk_cell H3.out 0
  have k4 := blk_cell H3.out 1
  have f1 := blk_frozen H1.out 0
  have f2 := blk_frozen H2.out 0
  go_region
  clear k1 k2 k3 k4 f1 f2
  show bodyPostS _ _ _ _ _ _ _ _ _
  cases c₀
  simp only at hu
  subst hu
  refine ⟨rfl, _, rfl, _, results_none rfl _ _ _, rfl, rfl, ?_, ?_, ?_⟩
  · exact blk_drew (blk_far (p := ⟨c, 0, none⟩) (blk_put H1.out 0 _ rfl) hbc _)
  · exact blk_drew (blk_put (blk_far (p := ⟨b, 0, none⟩) H2.out (Ne.symm hbc) _) 0 _ rfl)
  · exact ((HO.out.setCell (p := ⟨b, 0, none⟩) (fun _ => Or.inl rfl) _).setCell (p := ⟨c, 0, none⟩) (fun _ => Or.inr rfl) _).drew
end Go.Proofs.Ytgfkdebbdjojmaa.Frag
