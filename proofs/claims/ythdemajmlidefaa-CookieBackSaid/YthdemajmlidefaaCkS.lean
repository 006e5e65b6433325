/- The statement CookieBack, walked. -/
import Derived.Test.YthdemajmlidefaaCkR
namespace Go.Proofs.Ythdemajmlidefaa.Ck
open Go.RowKit Go.Proofs.YthdemajmlidefaaW.PrintWords Go.Proofs.YthdemajmlidefaaW.PrintLast Go.Proofs.Ythdemajmlidefaa.Base Go.Proofs.Ythdemajmlidefaa.Mac
set_option linter.unusedVariables false
set_option linter.unusedSimpArgs false

theorem i64_of {n : Int} (h : (Lit.int .i64 n).wf = true) : -9223372036854775808 ≤ n ∧ n ≤ 9223372036854775807 := by
  simp [Lit.wf, IntKind.min, IntKind.max, IntKind.signed, IntKind.bits] at h
  omega
set_option maxRecDepth 100000 in
set_option maxHeartbeats 1000000 in
theorem cookieBack_bad (k : List UInt8) (hk : k.length = 16) (now life : Int) (x : Nat → Nat) (u : Int) (w : World) (h : (timeB now && lifeB life) = false) :
    Calls Try.prog 6 #[.agg (keyV k), .int .i64 now, .int .i64 life, .agg (offV x), .int .u32 u] w fun e w' => e = .returned (.bool true) ∧ Below w.heap.size w w' := by
  have HM := Lib.hid (fun W : World => make_bad W k x now life h)
  unfold offV at HM ⊢
  have HK := Lib.hid (show ((w.alloc (.cells (keyV k) 23)).alloc (.cells (#[.int .u16 (x 2 : Nat), .int .u16 (x 3 : Nat), .int .u32 (x 4 : Nat), .int .u32 (x 5 : Nat), .int .u32 (x 6 : Nat), .int .u32 (x 7 : Nat), .int .u32 (x 8 : Nat), .int .u16 (x 9 : Nat), .int .u16 (x 10 : Nat), .int .u32 (x 11 : Nat), .int .u32 (x 12 : Nat)]) 27)).heap[w.heap.size]? = some (.cells (keyV k) 23 (0, 0)) from blk_alloc (blk_new _ _) _)
  have HO := Lib.hid (show ((w.alloc (.cells (keyV k) 23)).alloc (.cells (#[.int .u16 (x 2 : Nat), .int .u16 (x 3 : Nat), .int .u32 (x 4 : Nat), .int .u32 (x 5 : Nat), .int .u32 (x 6 : Nat), .int .u32 (x 7 : Nat), .int .u32 (x 8 : Nat), .int .u16 (x 9 : Nat), .int .u16 (x 10 : Nat), .int .u32 (x 11 : Nat), .int .u32 (x 12 : Nat)]) 27)).heap[w.heap.size + 1]? = some (.cells (#[.int .u16 (x 2 : Nat), .int .u16 (x 3 : Nat), .int .u32 (x 4 : Nat), .int .u32 (x 5 : Nat), .int .u32 (x 6 : Nat), .int .u32 (x 7 : Nat), .int .u32 (x 8 : Nat), .int .u16 (x 9 : Nat), .int .u16 (x 10 : Nat), .int .u32 (x 11 : Nat), .int .u32 (x 12 : Nat)]) 27 (0, 0)) by have h := blk_new (w.alloc (.cells (keyV k) 23)) (.cells (#[.int .u16 (x 2 : Nat), .int .u16 (x 3 : Nat), .int .u32 (x 4 : Nat), .int .u32 (x 5 : Nat), .int .u32 (x 6 : Nat), .int .u32 (x 7 : Nat), .int .u32 (x 8 : Nat), .int .u16 (x 9 : Nat), .int .u16 (x 10 : Nat), .int .u32 (x 11 : Nat), .int .u32 (x 12 : Nat)]) 27); rw [World.size_alloc] at h; exact h)
  have HB := Lib.hid (below_alloc (below_alloc (Below.refl w.heap.size w) (.cells (keyV k) 23)) (.cells (#[.int .u16 (x 2 : Nat), .int .u16 (x 3 : Nat), .int .u32 (x 4 : Nat), .int .u32 (x 5 : Nat), .int .u32 (x 6 : Nat), .int .u32 (x 7 : Nat), .int .u32 (x 8 : Nat), .int .u16 (x 9 : Nat), .int .u16 (x 10 : Nat), .int .u32 (x 11 : Nat), .int .u32 (x 12 : Nat)]) 27))
  have HKS := Lib.hid (key_size hk)
  clear h
  generalize keyV k = KV at *
  go_enter Try.func6, Try.ntmps6
  go_wp2_with (first | (refine wpList_load_row rfl 23 _ rfl w.heap.size rfl 23 KV (0, 0) _ HK.out Try.underlying23 rfl HKS.out ?_) | (refine wpList_load_row rfl 27 _ rfl (w.heap.size + 1) rfl 27 #[.int .u16 (x 2 : Nat), .int .u16 (x 3 : Nat), .int .u32 (x 4 : Nat), .int .u32 (x 5 : Nat), .int .u32 (x 6 : Nat), .int .u32 (x 7 : Nat), .int .u32 (x 8 : Nat), .int .u16 (x 9 : Nat), .int .u16 (x 10 : Nat), .int .u32 (x 11 : Nat), .int .u32 (x 12 : Nat)] (0, 0) _ HO.out Try.underlying27 rfl (by kernel_rfl) ?_))
  refine (HM.out _).mono ?_
  rintro e0 w1 ⟨rfl, hB1⟩
  replace HB := Lib.hid (below_then HB.out HB.out.size hB1)
  clear hB1 HM HK HO
  go_wp2_with fail
  refine (alive_calls _).mono ?_
  rintro e0 w9 ⟨rfl, hB9⟩
  go_wp2
  go_ret
  exact ⟨rfl, below_then HB.out HB.out.size hB9⟩
set_option maxRecDepth 100000 in
set_option maxHeartbeats 1000000 in
theorem cookieBack_far (k : List UInt8) (hk : k.length = 16) (now life : Int) (x : Nat → Nat) (u : Int) (w : World) (L : List UInt8) (hM : ∀ w, Calls Try.prog 8 #[.agg (keyV k), .int .i64 now, .int .i64 life, .agg (offV x)] w (MakR L 0 w))
    (hn : 0 ≤ now ∧ now ≤ 1099511627776) (hl : 1 ≤ life ∧ life ≤ 2147483648) (hu : 0 ≤ u ∧ u ≤ 4294967295) (h : now > 1099511627776 - u) :
    Calls Try.prog 6 #[.agg (keyV k), .int .i64 now, .int .i64 life, .agg (offV x), .int .u32 u] w fun e w' => e = .returned (.bool true) ∧ Below w.heap.size w w' := by
  have HM := Lib.hid hM
  unfold offV at HM ⊢
  have HK := Lib.hid (show ((w.alloc (.cells (keyV k) 23)).alloc (.cells (#[.int .u16 (x 2 : Nat), .int .u16 (x 3 : Nat), .int .u32 (x 4 : Nat), .int .u32 (x 5 : Nat), .int .u32 (x 6 : Nat), .int .u32 (x 7 : Nat), .int .u32 (x 8 : Nat), .int .u16 (x 9 : Nat), .int .u16 (x 10 : Nat), .int .u32 (x 11 : Nat), .int .u32 (x 12 : Nat)]) 27)).heap[w.heap.size]? = some (.cells (keyV k) 23 (0, 0)) from blk_alloc (blk_new _ _) _)
  have HO := Lib.hid (show ((w.alloc (.cells (keyV k) 23)).alloc (.cells (#[.int .u16 (x 2 : Nat), .int .u16 (x 3 : Nat), .int .u32 (x 4 : Nat), .int .u32 (x 5 : Nat), .int .u32 (x 6 : Nat), .int .u32 (x 7 : Nat), .int .u32 (x 8 : Nat), .int .u16 (x 9 : Nat), .int .u16 (x 10 : Nat), .int .u32 (x 11 : Nat), .int .u32 (x 12 : Nat)]) 27)).heap[w.heap.size + 1]? = some (.cells (#[.int .u16 (x 2 : Nat), .int .u16 (x 3 : Nat), .int .u32 (x 4 : Nat), .int .u32 (x 5 : Nat), .int .u32 (x 6 : Nat), .int .u32 (x 7 : Nat), .int .u32 (x 8 : Nat), .int .u16 (x 9 : Nat), .int .u16 (x 10 : Nat), .int .u32 (x 11 : Nat), .int .u32 (x 12 : Nat)]) 27 (0, 0)) by have h := blk_new (w.alloc (.cells (keyV k) 23)) (.cells (#[.int .u16 (x 2 : Nat), .int .u16 (x 3 : Nat), .int .u32 (x 4 : Nat), .int .u32 (x 5 : Nat), .int .u32 (x 6 : Nat), .int .u32 (x 7 : Nat), .int .u32 (x 8 : Nat), .int .u16 (x 9 : Nat), .int .u16 (x 10 : Nat), .int .u32 (x 11 : Nat), .int .u32 (x 12 : Nat)]) 27); rw [World.size_alloc] at h; exact h)
  have HB := Lib.hid (below_alloc (below_alloc (Below.refl w.heap.size w) (.cells (keyV k) 23)) (.cells (#[.int .u16 (x 2 : Nat), .int .u16 (x 3 : Nat), .int .u32 (x 4 : Nat), .int .u32 (x 5 : Nat), .int .u32 (x 6 : Nat), .int .u32 (x 7 : Nat), .int .u32 (x 8 : Nat), .int .u16 (x 9 : Nat), .int .u16 (x 10 : Nat), .int .u32 (x 11 : Nat), .int .u32 (x 12 : Nat)]) 27))
  have HKS := Lib.hid (key_size hk)
  clear hM
  have h' : 1099511627776 - u < now := h
  have hn0 := hn.1
  have hn1 := hn.2
  have hu0 := hu.1
  have hu1 := hu.2
  clear hn hl hu
  generalize keyV k = KV at *
  go_enter Try.func6, Try.ntmps6
  go_wp2_with (first | (refine wpList_load_row rfl 23 _ rfl w.heap.size rfl 23 KV (0, 0) _ HK.out Try.underlying23 rfl HKS.out ?_) | (refine wpList_load_row rfl 27 _ rfl (w.heap.size + 1) rfl 27 #[.int .u16 (x 2 : Nat), .int .u16 (x 3 : Nat), .int .u32 (x 4 : Nat), .int .u32 (x 5 : Nat), .int .u32 (x 6 : Nat), .int .u32 (x 7 : Nat), .int .u32 (x 8 : Nat), .int .u16 (x 9 : Nat), .int .u16 (x 10 : Nat), .int .u32 (x 11 : Nat), .int .u32 (x 12 : Nat)] (0, 0) _ HO.out Try.underlying27 rfl (by kernel_rfl) ?_))
  refine (HM.out _).mono ?_
  rintro e0 w1 ⟨A1, c1, rfl, hc1, hC1, hB1⟩
  replace HB := Lib.hid (below_then HB.out HB.out.size hB1)
  clear hB1 hC1 HM HK HO
  generalize L.length = N at *
  go_wp2_with fail
  refine (alive_calls _).mono ?_
  rintro e0 w9 ⟨rfl, hB9⟩
  go_wp2
  go_ret
  exact ⟨rfl, below_then HB.out HB.out.size hB9⟩
def ChkQ (L : List UInt8) (k : List UInt8) (m : Int) (y : Nat → Nat) (t cd : Int) : Prop := ∀ (W : World) (A : Option Addr) (c : Nat), byte.C W A L.length L → L.length ≤ c → Calls Try.prog 11 #[.agg (keyV k), .int .i64 m, .slice A L.length c] W fun e w' => e = .returned (.tuple #[.agg #[.int .u16 (y 2 : Nat), .int .u16 (y 3 : Nat), .int .u32 (y 4 : Nat), .int .u32 (y 5 : Nat), .int .u32 (y 6 : Nat), .int .u32 (y 7 : Nat), .int .u32 (y 8 : Nat), .int .u16 (y 9 : Nat), .int .u16 (y 10 : Nat), .int .u32 (y 11 : Nat), .int .u32 (y 12 : Nat)], .int .i64 t, .int .i64 cd]) ∧ Below W.heap.size W w'
set_option maxRecDepth 100000 in
set_option maxHeartbeats 1000000 in
theorem cookieBack_late (k : List UInt8) (hk : k.length = 16) (now life : Int) (x y : Nat → Nat) (u : Int) (w : World) (L : List UInt8) (hM : ∀ w, Calls Try.prog 8 #[.agg (keyV k), .int .i64 now, .int .i64 life, .agg (offV x)] w (MakR L 0 w))
    (hn : 0 ≤ now ∧ now ≤ 1099511627776) (hl : 1 ≤ life ∧ life ≤ 2147483648) (hu : 0 ≤ u ∧ u ≤ 4294967295) (h : ¬ now > 1099511627776 - u) (h9 : ¬ u ≤ life) (hQ : ChkQ L k (now + u) y (u - life) 211) :
    Calls Try.prog 6 #[.agg (keyV k), .int .i64 now, .int .i64 life, .agg (offV x), .int .u32 u] w fun e w' => e = .returned (.bool true) ∧ Below w.heap.size w w' := by
  have HM := Lib.hid hM
  have HQ := Lib.hid hQ
  unfold ChkQ at HQ
  unfold offV at HM ⊢
  have HK := Lib.hid (show ((w.alloc (.cells (keyV k) 23)).alloc (.cells (#[.int .u16 (x 2 : Nat), .int .u16 (x 3 : Nat), .int .u32 (x 4 : Nat), .int .u32 (x 5 : Nat), .int .u32 (x 6 : Nat), .int .u32 (x 7 : Nat), .int .u32 (x 8 : Nat), .int .u16 (x 9 : Nat), .int .u16 (x 10 : Nat), .int .u32 (x 11 : Nat), .int .u32 (x 12 : Nat)]) 27)).heap[w.heap.size]? = some (.cells (keyV k) 23 (0, 0)) from blk_alloc (blk_new _ _) _)
  have HO := Lib.hid (show ((w.alloc (.cells (keyV k) 23)).alloc (.cells (#[.int .u16 (x 2 : Nat), .int .u16 (x 3 : Nat), .int .u32 (x 4 : Nat), .int .u32 (x 5 : Nat), .int .u32 (x 6 : Nat), .int .u32 (x 7 : Nat), .int .u32 (x 8 : Nat), .int .u16 (x 9 : Nat), .int .u16 (x 10 : Nat), .int .u32 (x 11 : Nat), .int .u32 (x 12 : Nat)]) 27)).heap[w.heap.size + 1]? = some (.cells (#[.int .u16 (x 2 : Nat), .int .u16 (x 3 : Nat), .int .u32 (x 4 : Nat), .int .u32 (x 5 : Nat), .int .u32 (x 6 : Nat), .int .u32 (x 7 : Nat), .int .u32 (x 8 : Nat), .int .u16 (x 9 : Nat), .int .u16 (x 10 : Nat), .int .u32 (x 11 : Nat), .int .u32 (x 12 : Nat)]) 27 (0, 0)) by have h := blk_new (w.alloc (.cells (keyV k) 23)) (.cells (#[.int .u16 (x 2 : Nat), .int .u16 (x 3 : Nat), .int .u32 (x 4 : Nat), .int .u32 (x 5 : Nat), .int .u32 (x 6 : Nat), .int .u32 (x 7 : Nat), .int .u32 (x 8 : Nat), .int .u16 (x 9 : Nat), .int .u16 (x 10 : Nat), .int .u32 (x 11 : Nat), .int .u32 (x 12 : Nat)]) 27); rw [World.size_alloc] at h; exact h)
  have HB := Lib.hid (below_alloc (below_alloc (Below.refl w.heap.size w) (.cells (keyV k) 23)) (.cells (#[.int .u16 (x 2 : Nat), .int .u16 (x 3 : Nat), .int .u32 (x 4 : Nat), .int .u32 (x 5 : Nat), .int .u32 (x 6 : Nat), .int .u32 (x 7 : Nat), .int .u32 (x 8 : Nat), .int .u16 (x 9 : Nat), .int .u16 (x 10 : Nat), .int .u32 (x 11 : Nat), .int .u32 (x 12 : Nat)]) 27))
  have HKS := Lib.hid (key_size hk)
  clear hM hQ
  have h' : ¬ 1099511627776 - u < now := h
  have hn0 := hn.1
  have hn1 := hn.2
  have hu0 := hu.1
  have hu1 := hu.2
  have hl0 := hl.1
  have hl1 := hl.2
  have q1 : (u - life == u - life) = true := by simp
  clear hn hl hu
  generalize keyV k = KV at *
  go_enter Try.func6, Try.ntmps6
  go_wp2_with (first | (refine wpList_load_row rfl 23 _ rfl w.heap.size rfl 23 KV (0, 0) _ HK.out Try.underlying23 rfl HKS.out ?_) | (refine wpList_load_row rfl 27 _ rfl (w.heap.size + 1) rfl 27 #[.int .u16 (x 2 : Nat), .int .u16 (x 3 : Nat), .int .u32 (x 4 : Nat), .int .u32 (x 5 : Nat), .int .u32 (x 6 : Nat), .int .u32 (x 7 : Nat), .int .u32 (x 8 : Nat), .int .u16 (x 9 : Nat), .int .u16 (x 10 : Nat), .int .u32 (x 11 : Nat), .int .u32 (x 12 : Nat)] (0, 0) _ HO.out Try.underlying27 rfl (by kernel_rfl) ?_))
  refine (HM.out _).mono ?_
  rintro e0 w1 ⟨A1, c1, rfl, hc1, hC1, hB1⟩
  have HK1 := Lib.hid (blk_below HK.out hB1)
  have HO1 := Lib.hid (blk_below HO.out hB1)
  have HB1 := Lib.hid (below_then HB.out HB.out.size hB1)
  have HC1 := Lib.hid hC1
  have HL1 := Lib.hid hc1
  clear hB1 hC1 hc1 HM HK HO HB
  generalize L.length = N at *
  go_wp2_with (refine wpList_load_row rfl 23 _ rfl w.heap.size rfl 23 KV (0, 0) _ HK1.out Try.underlying23 rfl HKS.out ?_)
  refine (HQ.out _ A1 c1 HC1.out HL1.out).mono ?_
  rintro e0 w2 ⟨rfl, hB2⟩
  have HB2 := Lib.hid ((below_then HB1.out HB1.out.size hB2).alloc (below_then HB1.out HB1.out.size hB2).size (.cells #[.int .u16 (y 2 : Nat), .int .u16 (y 3 : Nat), .int .u32 (y 4 : Nat), .int .u32 (y 5 : Nat), .int .u32 (y 6 : Nat), .int .u32 (y 7 : Nat), .int .u32 (y 8 : Nat), .int .u16 (y 9 : Nat), .int .u16 (y 10 : Nat), .int .u32 (y 11 : Nat), .int .u32 (y 12 : Nat)] 27))
  clear hB2 HB1 HK1 HO1 HC1 HL1 HQ
  go_wp2_with fail
  refine (alive_calls _).mono ?_
  rintro e0 w9 ⟨rfl, hB9⟩
  go_wp2
  go_ret
  exact ⟨rfl, below_then HB2.out HB2.out.size hB9⟩
set_option maxRecDepth 100000 in
set_option maxHeartbeats 1000000 in
theorem cookieBack_in (k : List UInt8) (hk : k.length = 16) (now life : Int) (x : Nat → Nat) (u : Int) (w : World) (L : List UInt8) (hM : ∀ w, Calls Try.prog 8 #[.agg (keyV k), .int .i64 now, .int .i64 life, .agg (offV x)] w (MakR L 0 w))
    (hn : 0 ≤ now ∧ now ≤ 1099511627776) (hl : 1 ≤ life ∧ life ≤ 2147483648) (hu : 0 ≤ u ∧ u ≤ 4294967295) (h : ¬ now > 1099511627776 - u) (h9 : u ≤ life) (hQ : ChkQ L k (now + u) x 0 0) :
    Calls Try.prog 6 #[.agg (keyV k), .int .i64 now, .int .i64 life, .agg (offV x), .int .u32 u] w fun e w' => e = .returned (.bool true) ∧ Below w.heap.size w w' := by
  have HM := Lib.hid hM
  have HQ := Lib.hid hQ
  unfold ChkQ at HQ
  unfold offV at HM ⊢
  have HK := Lib.hid (show ((w.alloc (.cells (keyV k) 23)).alloc (.cells (#[.int .u16 (x 2 : Nat), .int .u16 (x 3 : Nat), .int .u32 (x 4 : Nat), .int .u32 (x 5 : Nat), .int .u32 (x 6 : Nat), .int .u32 (x 7 : Nat), .int .u32 (x 8 : Nat), .int .u16 (x 9 : Nat), .int .u16 (x 10 : Nat), .int .u32 (x 11 : Nat), .int .u32 (x 12 : Nat)]) 27)).heap[w.heap.size]? = some (.cells (keyV k) 23 (0, 0)) from blk_alloc (blk_new _ _) _)
  have HO := Lib.hid (show ((w.alloc (.cells (keyV k) 23)).alloc (.cells (#[.int .u16 (x 2 : Nat), .int .u16 (x 3 : Nat), .int .u32 (x 4 : Nat), .int .u32 (x 5 : Nat), .int .u32 (x 6 : Nat), .int .u32 (x 7 : Nat), .int .u32 (x 8 : Nat), .int .u16 (x 9 : Nat), .int .u16 (x 10 : Nat), .int .u32 (x 11 : Nat), .int .u32 (x 12 : Nat)]) 27)).heap[w.heap.size + 1]? = some (.cells (#[.int .u16 (x 2 : Nat), .int .u16 (x 3 : Nat), .int .u32 (x 4 : Nat), .int .u32 (x 5 : Nat), .int .u32 (x 6 : Nat), .int .u32 (x 7 : Nat), .int .u32 (x 8 : Nat), .int .u16 (x 9 : Nat), .int .u16 (x 10 : Nat), .int .u32 (x 11 : Nat), .int .u32 (x 12 : Nat)]) 27 (0, 0)) by have h := blk_new (w.alloc (.cells (keyV k) 23)) (.cells (#[.int .u16 (x 2 : Nat), .int .u16 (x 3 : Nat), .int .u32 (x 4 : Nat), .int .u32 (x 5 : Nat), .int .u32 (x 6 : Nat), .int .u32 (x 7 : Nat), .int .u32 (x 8 : Nat), .int .u16 (x 9 : Nat), .int .u16 (x 10 : Nat), .int .u32 (x 11 : Nat), .int .u32 (x 12 : Nat)]) 27); rw [World.size_alloc] at h; exact h)
  have HB := Lib.hid (below_alloc (below_alloc (Below.refl w.heap.size w) (.cells (keyV k) 23)) (.cells (#[.int .u16 (x 2 : Nat), .int .u16 (x 3 : Nat), .int .u32 (x 4 : Nat), .int .u32 (x 5 : Nat), .int .u32 (x 6 : Nat), .int .u32 (x 7 : Nat), .int .u32 (x 8 : Nat), .int .u16 (x 9 : Nat), .int .u16 (x 10 : Nat), .int .u32 (x 11 : Nat), .int .u32 (x 12 : Nat)]) 27))
  have HKS := Lib.hid (key_size hk)
  clear hM hQ
  have h' : ¬ 1099511627776 - u < now := h
  have hn0 := hn.1
  have hn1 := hn.2
  have hu0 := hu.1
  have hu1 := hu.2
  clear hn hl hu
  generalize keyV k = KV at *
  go_enter Try.func6, Try.ntmps6
  go_wp2_with (first | (refine wpList_load_row rfl 23 _ rfl w.heap.size rfl 23 KV (0, 0) _ HK.out Try.underlying23 rfl HKS.out ?_) | (refine wpList_load_row rfl 27 _ rfl (w.heap.size + 1) rfl 27 #[.int .u16 (x 2 : Nat), .int .u16 (x 3 : Nat), .int .u32 (x 4 : Nat), .int .u32 (x 5 : Nat), .int .u32 (x 6 : Nat), .int .u32 (x 7 : Nat), .int .u32 (x 8 : Nat), .int .u16 (x 9 : Nat), .int .u16 (x 10 : Nat), .int .u32 (x 11 : Nat), .int .u32 (x 12 : Nat)] (0, 0) _ HO.out Try.underlying27 rfl (by kernel_rfl) ?_))
  refine (HM.out _).mono ?_
  rintro e0 w1 ⟨A1, c1, rfl, hc1, hC1, hB1⟩
  have HK1 := Lib.hid (blk_below HK.out hB1)
  have HO1 := Lib.hid (blk_below HO.out hB1)
  have HB1 := Lib.hid (below_then HB.out HB.out.size hB1)
  have HC1 := Lib.hid hC1
  have HL1 := Lib.hid hc1
  clear hB1 hC1 hc1 HM HK HO HB
  generalize L.length = N at *
  go_wp2_with (refine wpList_load_row rfl 23 _ rfl w.heap.size rfl 23 KV (0, 0) _ HK1.out Try.underlying23 rfl HKS.out ?_)
  refine (HQ.out _ A1 c1 HC1.out HL1.out).mono ?_
  rintro e0 w2 ⟨rfl, hB2⟩
  have HO3 := Lib.hid (blk_alloc (blk_below HO1.out hB2) (.cells #[.int .u16 (x 2 : Nat), .int .u16 (x 3 : Nat), .int .u32 (x 4 : Nat), .int .u32 (x 5 : Nat), .int .u32 (x 6 : Nat), .int .u32 (x 7 : Nat), .int .u32 (x 8 : Nat), .int .u16 (x 9 : Nat), .int .u16 (x 10 : Nat), .int .u32 (x 11 : Nat), .int .u32 (x 12 : Nat)] 27))
  have HO4 := Lib.hid (blk_new w2 (.cells #[.int .u16 (x 2 : Nat), .int .u16 (x 3 : Nat), .int .u32 (x 4 : Nat), .int .u32 (x 5 : Nat), .int .u32 (x 6 : Nat), .int .u32 (x 7 : Nat), .int .u32 (x 8 : Nat), .int .u16 (x 9 : Nat), .int .u16 (x 10 : Nat), .int .u32 (x 11 : Nat), .int .u32 (x 12 : Nat)] 27))
  have HB2 := Lib.hid ((below_then HB1.out HB1.out.size hB2).alloc (below_then HB1.out HB1.out.size hB2).size (.cells #[.int .u16 (x 2 : Nat), .int .u16 (x 3 : Nat), .int .u32 (x 4 : Nat), .int .u32 (x 5 : Nat), .int .u32 (x 6 : Nat), .int .u32 (x 7 : Nat), .int .u32 (x 8 : Nat), .int .u16 (x 9 : Nat), .int .u16 (x 10 : Nat), .int .u32 (x 11 : Nat), .int .u32 (x 12 : Nat)] 27))
  clear hB2 HB1 HK1 HO1 HC1 HL1 HQ
  have a0 := (blk_cell HO3.out 0).trans (show (#[.int .u16 (x 2 : Nat), .int .u16 (x 3 : Nat), .int .u32 (x 4 : Nat), .int .u32 (x 5 : Nat), .int .u32 (x 6 : Nat), .int .u32 (x 7 : Nat), .int .u32 (x 8 : Nat), .int .u16 (x 9 : Nat), .int .u16 (x 10 : Nat), .int .u32 (x 11 : Nat), .int .u32 (x 12 : Nat)] : Array Value)[0]? = some (.int .u16 (x 2 : Nat)) from rfl)
  have b0 := (blk_cell HO4.out 0).trans (show (#[.int .u16 (x 2 : Nat), .int .u16 (x 3 : Nat), .int .u32 (x 4 : Nat), .int .u32 (x 5 : Nat), .int .u32 (x 6 : Nat), .int .u32 (x 7 : Nat), .int .u32 (x 8 : Nat), .int .u16 (x 9 : Nat), .int .u16 (x 10 : Nat), .int .u32 (x 11 : Nat), .int .u32 (x 12 : Nat)] : Array Value)[0]? = some (.int .u16 (x 2 : Nat)) from rfl)
  have a1 := (blk_cell HO3.out 1).trans (show (#[.int .u16 (x 2 : Nat), .int .u16 (x 3 : Nat), .int .u32 (x 4 : Nat), .int .u32 (x 5 : Nat), .int .u32 (x 6 : Nat), .int .u32 (x 7 : Nat), .int .u32 (x 8 : Nat), .int .u16 (x 9 : Nat), .int .u16 (x 10 : Nat), .int .u32 (x 11 : Nat), .int .u32 (x 12 : Nat)] : Array Value)[1]? = some (.int .u16 (x 3 : Nat)) from rfl)
  have b1 := (blk_cell HO4.out 1).trans (show (#[.int .u16 (x 2 : Nat), .int .u16 (x 3 : Nat), .int .u32 (x 4 : Nat), .int .u32 (x 5 : Nat), .int .u32 (x 6 : Nat), .int .u32 (x 7 : Nat), .int .u32 (x 8 : Nat), .int .u16 (x 9 : Nat), .int .u16 (x 10 : Nat), .int .u32 (x 11 : Nat), .int .u32 (x 12 : Nat)] : Array Value)[1]? = some (.int .u16 (x 3 : Nat)) from rfl)
  have a2 := (blk_cell HO3.out 2).trans (show (#[.int .u16 (x 2 : Nat), .int .u16 (x 3 : Nat), .int .u32 (x 4 : Nat), .int .u32 (x 5 : Nat), .int .u32 (x 6 : Nat), .int .u32 (x 7 : Nat), .int .u32 (x 8 : Nat), .int .u16 (x 9 : Nat), .int .u16 (x 10 : Nat), .int .u32 (x 11 : Nat), .int .u32 (x 12 : Nat)] : Array Value)[2]? = some (.int .u32 (x 4 : Nat)) from rfl)
  have b2 := (blk_cell HO4.out 2).trans (show (#[.int .u16 (x 2 : Nat), .int .u16 (x 3 : Nat), .int .u32 (x 4 : Nat), .int .u32 (x 5 : Nat), .int .u32 (x 6 : Nat), .int .u32 (x 7 : Nat), .int .u32 (x 8 : Nat), .int .u16 (x 9 : Nat), .int .u16 (x 10 : Nat), .int .u32 (x 11 : Nat), .int .u32 (x 12 : Nat)] : Array Value)[2]? = some (.int .u32 (x 4 : Nat)) from rfl)
  have a3 := (blk_cell HO3.out 3).trans (show (#[.int .u16 (x 2 : Nat), .int .u16 (x 3 : Nat), .int .u32 (x 4 : Nat), .int .u32 (x 5 : Nat), .int .u32 (x 6 : Nat), .int .u32 (x 7 : Nat), .int .u32 (x 8 : Nat), .int .u16 (x 9 : Nat), .int .u16 (x 10 : Nat), .int .u32 (x 11 : Nat), .int .u32 (x 12 : Nat)] : Array Value)[3]? = some (.int .u32 (x 5 : Nat)) from rfl)
  have b3 := (blk_cell HO4.out 3).trans (show (#[.int .u16 (x 2 : Nat), .int .u16 (x 3 : Nat), .int .u32 (x 4 : Nat), .int .u32 (x 5 : Nat), .int .u32 (x 6 : Nat), .int .u32 (x 7 : Nat), .int .u32 (x 8 : Nat), .int .u16 (x 9 : Nat), .int .u16 (x 10 : Nat), .int .u32 (x 11 : Nat), .int .u32 (x 12 : Nat)] : Array Value)[3]? = some (.int .u32 (x 5 : Nat)) from rfl)
  have a4 := (blk_cell HO3.out 4).trans (show (#[.int .u16 (x 2 : Nat), .int .u16 (x 3 : Nat), .int .u32 (x 4 : Nat), .int .u32 (x 5 : Nat), .int .u32 (x 6 : Nat), .int .u32 (x 7 : Nat), .int .u32 (x 8 : Nat), .int .u16 (x 9 : Nat), .int .u16 (x 10 : Nat), .int .u32 (x 11 : Nat), .int .u32 (x 12 : Nat)] : Array Value)[4]? = some (.int .u32 (x 6 : Nat)) from rfl)
  have b4 := (blk_cell HO4.out 4).trans (show (#[.int .u16 (x 2 : Nat), .int .u16 (x 3 : Nat), .int .u32 (x 4 : Nat), .int .u32 (x 5 : Nat), .int .u32 (x 6 : Nat), .int .u32 (x 7 : Nat), .int .u32 (x 8 : Nat), .int .u16 (x 9 : Nat), .int .u16 (x 10 : Nat), .int .u32 (x 11 : Nat), .int .u32 (x 12 : Nat)] : Array Value)[4]? = some (.int .u32 (x 6 : Nat)) from rfl)
  have a5 := (blk_cell HO3.out 5).trans (show (#[.int .u16 (x 2 : Nat), .int .u16 (x 3 : Nat), .int .u32 (x 4 : Nat), .int .u32 (x 5 : Nat), .int .u32 (x 6 : Nat), .int .u32 (x 7 : Nat), .int .u32 (x 8 : Nat), .int .u16 (x 9 : Nat), .int .u16 (x 10 : Nat), .int .u32 (x 11 : Nat), .int .u32 (x 12 : Nat)] : Array Value)[5]? = some (.int .u32 (x 7 : Nat)) from rfl)
  have b5 := (blk_cell HO4.out 5).trans (show (#[.int .u16 (x 2 : Nat), .int .u16 (x 3 : Nat), .int .u32 (x 4 : Nat), .int .u32 (x 5 : Nat), .int .u32 (x 6 : Nat), .int .u32 (x 7 : Nat), .int .u32 (x 8 : Nat), .int .u16 (x 9 : Nat), .int .u16 (x 10 : Nat), .int .u32 (x 11 : Nat), .int .u32 (x 12 : Nat)] : Array Value)[5]? = some (.int .u32 (x 7 : Nat)) from rfl)
  have a6 := (blk_cell HO3.out 6).trans (show (#[.int .u16 (x 2 : Nat), .int .u16 (x 3 : Nat), .int .u32 (x 4 : Nat), .int .u32 (x 5 : Nat), .int .u32 (x 6 : Nat), .int .u32 (x 7 : Nat), .int .u32 (x 8 : Nat), .int .u16 (x 9 : Nat), .int .u16 (x 10 : Nat), .int .u32 (x 11 : Nat), .int .u32 (x 12 : Nat)] : Array Value)[6]? = some (.int .u32 (x 8 : Nat)) from rfl)
  have b6 := (blk_cell HO4.out 6).trans (show (#[.int .u16 (x 2 : Nat), .int .u16 (x 3 : Nat), .int .u32 (x 4 : Nat), .int .u32 (x 5 : Nat), .int .u32 (x 6 : Nat), .int .u32 (x 7 : Nat), .int .u32 (x 8 : Nat), .int .u16 (x 9 : Nat), .int .u16 (x 10 : Nat), .int .u32 (x 11 : Nat), .int .u32 (x 12 : Nat)] : Array Value)[6]? = some (.int .u32 (x 8 : Nat)) from rfl)
  have a7 := (blk_cell HO3.out 7).trans (show (#[.int .u16 (x 2 : Nat), .int .u16 (x 3 : Nat), .int .u32 (x 4 : Nat), .int .u32 (x 5 : Nat), .int .u32 (x 6 : Nat), .int .u32 (x 7 : Nat), .int .u32 (x 8 : Nat), .int .u16 (x 9 : Nat), .int .u16 (x 10 : Nat), .int .u32 (x 11 : Nat), .int .u32 (x 12 : Nat)] : Array Value)[7]? = some (.int .u16 (x 9 : Nat)) from rfl)
  have b7 := (blk_cell HO4.out 7).trans (show (#[.int .u16 (x 2 : Nat), .int .u16 (x 3 : Nat), .int .u32 (x 4 : Nat), .int .u32 (x 5 : Nat), .int .u32 (x 6 : Nat), .int .u32 (x 7 : Nat), .int .u32 (x 8 : Nat), .int .u16 (x 9 : Nat), .int .u16 (x 10 : Nat), .int .u32 (x 11 : Nat), .int .u32 (x 12 : Nat)] : Array Value)[7]? = some (.int .u16 (x 9 : Nat)) from rfl)
  have a8 := (blk_cell HO3.out 8).trans (show (#[.int .u16 (x 2 : Nat), .int .u16 (x 3 : Nat), .int .u32 (x 4 : Nat), .int .u32 (x 5 : Nat), .int .u32 (x 6 : Nat), .int .u32 (x 7 : Nat), .int .u32 (x 8 : Nat), .int .u16 (x 9 : Nat), .int .u16 (x 10 : Nat), .int .u32 (x 11 : Nat), .int .u32 (x 12 : Nat)] : Array Value)[8]? = some (.int .u16 (x 10 : Nat)) from rfl)
  have b8 := (blk_cell HO4.out 8).trans (show (#[.int .u16 (x 2 : Nat), .int .u16 (x 3 : Nat), .int .u32 (x 4 : Nat), .int .u32 (x 5 : Nat), .int .u32 (x 6 : Nat), .int .u32 (x 7 : Nat), .int .u32 (x 8 : Nat), .int .u16 (x 9 : Nat), .int .u16 (x 10 : Nat), .int .u32 (x 11 : Nat), .int .u32 (x 12 : Nat)] : Array Value)[8]? = some (.int .u16 (x 10 : Nat)) from rfl)
  have a9 := (blk_cell HO3.out 9).trans (show (#[.int .u16 (x 2 : Nat), .int .u16 (x 3 : Nat), .int .u32 (x 4 : Nat), .int .u32 (x 5 : Nat), .int .u32 (x 6 : Nat), .int .u32 (x 7 : Nat), .int .u32 (x 8 : Nat), .int .u16 (x 9 : Nat), .int .u16 (x 10 : Nat), .int .u32 (x 11 : Nat), .int .u32 (x 12 : Nat)] : Array Value)[9]? = some (.int .u32 (x 11 : Nat)) from rfl)
  have b9 := (blk_cell HO4.out 9).trans (show (#[.int .u16 (x 2 : Nat), .int .u16 (x 3 : Nat), .int .u32 (x 4 : Nat), .int .u32 (x 5 : Nat), .int .u32 (x 6 : Nat), .int .u32 (x 7 : Nat), .int .u32 (x 8 : Nat), .int .u16 (x 9 : Nat), .int .u16 (x 10 : Nat), .int .u32 (x 11 : Nat), .int .u32 (x 12 : Nat)] : Array Value)[9]? = some (.int .u32 (x 11 : Nat)) from rfl)
  have a10 := (blk_cell HO3.out 10).trans (show (#[.int .u16 (x 2 : Nat), .int .u16 (x 3 : Nat), .int .u32 (x 4 : Nat), .int .u32 (x 5 : Nat), .int .u32 (x 6 : Nat), .int .u32 (x 7 : Nat), .int .u32 (x 8 : Nat), .int .u16 (x 9 : Nat), .int .u16 (x 10 : Nat), .int .u32 (x 11 : Nat), .int .u32 (x 12 : Nat)] : Array Value)[10]? = some (.int .u32 (x 12 : Nat)) from rfl)
  have b10 := (blk_cell HO4.out 10).trans (show (#[.int .u16 (x 2 : Nat), .int .u16 (x 3 : Nat), .int .u32 (x 4 : Nat), .int .u32 (x 5 : Nat), .int .u32 (x 6 : Nat), .int .u32 (x 7 : Nat), .int .u32 (x 8 : Nat), .int .u16 (x 9 : Nat), .int .u16 (x 10 : Nat), .int .u32 (x 11 : Nat), .int .u32 (x 12 : Nat)] : Array Value)[10]? = some (.int .u32 (x 12 : Nat)) from rfl)
  go_wp2_with fail
  refine (alive_calls _).mono ?_
  rintro e0 w9 ⟨rfl, hB9⟩
  go_wp2
  go_ret
  exact ⟨rfl, below_then HB2.out HB2.out.size hB9⟩
theorem cookieBack_row (k : List UInt8) (hk : k.length = 16) (now : Int) (hn : (Lit.int .i64 now).wf = true) (life : Int) (hl : (Lit.int .i64 life).wf = true) (x : Nat → Nat) (hx : ∀ i, 2 ≤ i → i < 13 → x i < 256 ^ nF i) (u : Int) (hu : (Lit.int .u32 u).wf = true) {w : World} :
    Calls Try.prog 6 #[.agg (keyV k), .int .i64 now, .int .i64 life, .agg (offV x), .int .u32 u] w fun e w' => e = .returned (.bool true) ∧ Below w.heap.size w w' := by
  have hu' := Go.bounds_u32 hu
  cases h : (timeB now && lifeB life) with
  | false => exact cookieBack_bad k hk now life x u w h
  | true =>
    rw [Bool.and_eq_true] at h
    have h1 := time_of h.1
    have h2 := life_of h.2
    have h1' := h1
    have h2' := h2
    obtain ⟨a, rfl⟩ := Int.eq_ofNat_of_zero_le h1.1
    obtain ⟨b, rfl⟩ := Int.eq_ofNat_of_zero_le (Int.le_trans (by decide) h2.1)
    have hf := with_fit (a := a) (b := b) (by omega) (by omega) hx
    have hM := fun w => (make_good w k hk (withF x a b) (by show a ≤ _; omega) (by show 1 ≤ b; omega) (by show b ≤ _; omega) hf).mono fun e w' => makR_good
    by_cases hfar : (a : Int) > 1099511627776 - u
    · exact cookieBack_far k hk a b x u w _ hM h1' h2' hu' hfar
    · have ht : timeB ((a : Int) + u) = true := by unfold timeB; rw [Bool.and_eq_true]; exact ⟨decide_eq_true (by omega), decide_eq_true (by omega)⟩
      have hc := chk_make k (withF x a b) ((a : Int) + u) ht (by show a ≤ _; omega) (by show 1 ≤ b; omega) (by show b ≤ _; omega) hf
      have hca : ((withF x a b 0 : Nat) : Int) = a := rfl
      have hcb : ((withF x a b 1 : Nat) : Int) = b := rfl
      rw [hca, hcb] at hc
      by_cases h9 : u ≤ b
      · refine cookieBack_in k hk a b x u w _ hM h1' h2' hu' hfar h9 (fun W A c hC hle => ?_)
        have := check_calls W k hk A c _ hC hle ((a : Int) + u)
        rw [hc, if_neg (by omega)] at this
        unfold ChkP at this
        rw [make_off k (withF x a b) hf] at this
        exact this
      · refine cookieBack_late k hk a b x zF u w _ hM h1' h2' hu' hfar h9 (fun W A c hC hle => ?_)
        have := check_calls W k hk A c _ hC hle ((a : Int) + u)
        rw [hc, if_pos (by omega)] at this
        unfold ChkP at this
        rw [show ((a : Int) + u - a - b) = u - b by omega] at this
        exact this
end Go.Proofs.Ythdemajmlidefaa.Ck
