/- The reference's Check of what is refused ahead of the seal: walked. -/
import Derived.Test.YthdemajmlidefaaCkM
namespace Go.Proofs.Ythdemajmlidefaa.Ck
open Go.RowKit Go.Proofs.YthdemajmlidefaaW.PrintWords Go.Proofs.YthdemajmlidefaaW.PrintLast Go.Proofs.Ythdemajmlidefaa.Base Go.Proofs.Ythdemajmlidefaa.Mac
set_option linter.unusedVariables false
set_option linter.unusedSimpArgs false
set_option maxRecDepth 100000 in
theorem refCheck_time (w : World) (k : List UInt8) (A : Option Addr) (n c : Nat) (now : Int) (ht : timeB now = false) :
    Calls Try.prog 12 #[.agg (keyV k), .int .i64 now, .slice A n c] w (ChkP (zF, 0, 1) w) := by
  have hcase : now < 0 ∨ (¬ now < 0 ∧ now > 1099511627776) := by
    unfold timeB at ht
    by_cases a : now < 0
    · exact Or.inl a
    · refine Or.inr ⟨a, ?_⟩
      by_cases b : now ≤ 1099511627776
      · rw [decide_eq_true (by omega), decide_eq_true b] at ht
        cases ht
      · omega
  have HO := Lib.hid (show ((w.alloc (.cells (keyV k) 23)).alloc (.cells (offV zF) 27)).heap[w.heap.size + 1]? = some (.cells (offV zF) 27 (0, 0)) by have h := blk_new (w.alloc (.cells (keyV k) 23)) (.cells (offV zF) 27); rw [World.size_alloc] at h; exact h)
  have HB := Lib.hid (below_alloc (below_alloc (Below.refl w.heap.size w) (.cells (keyV k) 23)) (.cells (offV zF) 27))
  clear ht
  generalize keyV k = KV at *
  rcases hcase with j0 | ⟨j0, j1⟩
  · go_enter Try.func12, Try.ntmps12
    go_wp2_with ((refine wpList_store_row rfl 27 _ _ rfl (w.heap.size + 1) (offV zF) rfl rfl 27 (offV zF) HO.out (by kernel_rfl) rfl (by simp [offV, Value.oneCell']) ?_))
    refine bodyPost_ret (results_ctt rfl _ _ (w.heap.size + 1) 27 _ (0, 0) _ rfl (setRow_heap _ _ _ (offV zF) _ _ HO.out) Try.underlying27 rfl (by kernel_rfl)) rfl ?_
    exact ⟨rfl, below_setRow HB.out (by omega) _⟩
  · go_enter Try.func12, Try.ntmps12
    go_wp2_with ((refine wpList_store_row rfl 27 _ _ rfl (w.heap.size + 1) (offV zF) rfl rfl 27 (offV zF) HO.out (by kernel_rfl) rfl (by simp [offV, Value.oneCell']) ?_))
    refine bodyPost_ret (results_ctt rfl _ _ (w.heap.size + 1) 27 _ (0, 0) _ rfl (setRow_heap _ _ _ (offV zF) _ _ HO.out) Try.underlying27 rfl (by kernel_rfl)) rfl ?_
    exact ⟨rfl, below_setRow HB.out (by omega) _⟩
set_option maxRecDepth 100000 in
theorem refCheck_look (w : World) (k : List UInt8) (A : Option Addr) (c : Nat) (l : List UInt8) (hb : byte.C w A l.length l) (hc : l.length ≤ c) (now : Int) (ht : timeB now = true) (h : lookB l = false) :
    Calls Try.prog 12 #[.agg (keyV k), .int .i64 now, .slice A l.length c] w (ChkP (zF, 0, 210) w) := by
  have j0 : ¬ now < 0 := by
    unfold timeB at ht
    rw [Bool.and_eq_true] at ht
    have := of_decide_eq_true ht.1
    omega
  have j1 : ¬ now > 1099511627776 := by
    unfold timeB at ht
    rw [Bool.and_eq_true] at ht
    have := of_decide_eq_true ht.2
    omega
  have HO := Lib.hid (show ((w.alloc (.cells (keyV k) 23)).alloc (.cells (offV zF) 27)).heap[w.heap.size + 1]? = some (.cells (offV zF) 27 (0, 0)) by have h := blk_new (w.alloc (.cells (keyV k) 23)) (.cells (offV zF) 27); rw [World.size_alloc] at h; exact h)
  have HB := Lib.hid (below_alloc (below_alloc (Below.refl w.heap.size w) (.cells (keyV k) 23)) (.cells (offV zF) 27))
  have HLK := Lib.hid (fun (W : World) (hW : Below w.heap.size w W) => refLook_bad W A c l (Kd.C_below hb hW) hc h)
  unfold NoLook at HLK
  have hov : offV zF = #[.int .u16 0, .int .u16 0, .int .u32 0, .int .u32 0, .int .u32 0, .int .u32 0, .int .u32 0, .int .u16 0, .int .u16 0, .int .u32 0, .int .u32 0] := rfl
  rw [hov] at HLK
  clear hb ht h hov
  generalize l.length = N at *
  generalize keyV k = KV at *
  go_enter Try.func12, Try.ntmps12
  go_wp2_with fail
  refine (HLK.out _ HB.out).mono ?_
  rintro e w1 ⟨rfl, hB1⟩
  have HO1 := Lib.hid (blk_alloc (blk_below HO.out hB1) (.cells #[.int .u16 0, .int .u16 0, .int .u32 0, .int .u32 0, .int .u32 0, .int .u32 0, .int .u32 0, .int .u16 0, .int .u16 0, .int .u32 0, .int .u32 0] 27))
  have HB1 := Lib.hid ((below_then HB.out HB.out.size hB1).alloc (below_then HB.out HB.out.size hB1).size (.cells #[.int .u16 0, .int .u16 0, .int .u32 0, .int .u32 0, .int .u32 0, .int .u32 0, .int .u32 0, .int .u16 0, .int .u16 0, .int .u32 0, .int .u32 0] 27))
  clear hB1 HLK
  go_wp2_with (refine wpList_store_row rfl 27 _ _ rfl (w.heap.size + 1) (offV zF) rfl rfl 27 (offV zF) HO1.out (by kernel_rfl) rfl (by simp [offV, Value.oneCell']) ?_)
  refine bodyPost_ret (results_ctt rfl _ _ (w.heap.size + 1) 27 _ (0, 0) _ rfl (setRow_heap _ _ _ (offV zF) _ _ HO1.out) Try.underlying27 rfl (by kernel_rfl)) rfl ?_
  exact ⟨rfl, below_setRow HB1.out (by omega) _⟩
theorem refCheck_calls (w : World) (k : List UInt8) (hk : k.length = 16) (A : Option Addr) (c : Nat) (l : List UInt8) (hb : byte.C w A l.length l) (hc : l.length ≤ c) (now : Int) :
    Calls Try.prog 12 #[.agg (keyV k), .int .i64 now, .slice A l.length c] w (ChkP (chkA k l now) w) := by
  unfold chkA
  cases ht : timeB now with
  | false => rw [if_pos rfl]; exact refCheck_time w k A l.length c now ht
  | true =>
    rw [if_neg (by decide)]
    cases h : lookB l with
    | false => rw [if_pos rfl]; exact refCheck_look w k A c l hb hc now ht h
    | true => rw [if_neg (by decide)]; exact refCheck_main w k hk A c l hb hc now ht h
end Go.Proofs.Ythdemajmlidefaa.Ck
