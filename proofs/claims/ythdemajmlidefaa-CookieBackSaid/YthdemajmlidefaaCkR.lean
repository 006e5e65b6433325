/- The statement CookieMakes, walked. -/
import Derived.Test.YthdemajmlidefaaCkP
import Derived.Test.YthdemajmlidefaaOpenOff
namespace Go.Proofs.Ythdemajmlidefaa.Ck
open Go.RowKit Go.Proofs.YthdemajmlidefaaW.PrintWords Go.Proofs.YthdemajmlidefaaW.PrintLast Go.Proofs.Ythdemajmlidefaa.Base Go.Proofs.Ythdemajmlidefaa.Mac
set_option linter.unusedVariables false
set_option linter.unusedSimpArgs false

/-- A cookie handed back, or none. -/
def MakR (l : List UInt8) (t : Int) (w : World) (e : Ending) (w' : World) : Prop := ∃ A c, e = .returned (.tuple #[.slice A l.length c, .int .i64 t]) ∧ l.length ≤ c ∧ byte.C w' A l.length l ∧ Below w.heap.size w w'
theorem makR_good {k : List UInt8} {x : Nat → Nat} {w : World} {e : Ending} {w' : World} (h : MakeP k x w e w') : MakR (makeL k x) 0 w e w' := by
  obtain ⟨v, rfl, hR, hB⟩ := h
  obtain ⟨A, c, rfl, hle, hC⟩ := Kd.R_reads hR
  exact ⟨A, c, rfl, hle, hC, hB⟩
theorem makR_bad {w : World} {e : Ending} {w' : World} (h : e = .returned (.tuple #[.slice none 0 0, .int .i64 1]) ∧ Below w.heap.size w w') : MakR [] 1 w e w' :=
  ⟨none, 0, h.1, Nat.le_refl _, Kd.C_nil byte w', h.2⟩
theorem time_of {n : Int} (h : timeB n = true) : 0 ≤ n ∧ n ≤ 1099511627776 := by
  unfold timeB at h
  rw [Bool.and_eq_true] at h
  exact ⟨of_decide_eq_true h.1, of_decide_eq_true h.2⟩
theorem life_of {n : Int} (h : lifeB n = true) : 1 ≤ n ∧ n ≤ 2147483648 := by
  unfold lifeB at h
  rw [Bool.and_eq_true] at h
  exact ⟨of_decide_eq_true h.1, of_decide_eq_true h.2⟩
theorem makes_both (k : List UInt8) (hk : k.length = 16) (now life : Int) (x : Nat → Nat) (hx : ∀ i, 2 ≤ i → i < 13 → x i < 256 ^ nF i) : ∃ (l : List UInt8) (t : Int),
    (∀ w, Calls Try.prog 8 #[.agg (keyV k), .int .i64 now, .int .i64 life, .agg (offV x)] w (MakR l t w)) ∧
    (∀ w, Calls Try.prog 9 #[.agg (keyV k), .int .i64 now, .int .i64 life, .agg (offV x)] w (MakR l t w)) := by
  cases h : (timeB now && lifeB life) with
  | false => exact ⟨[], 1, fun w => (make_bad w k x now life h).mono fun e w' => makR_bad, fun w => (refMake_bad w k x now life h).mono fun e w' => makR_bad⟩
  | true =>
    rw [Bool.and_eq_true] at h
    have h1 := time_of h.1
    have h2 := life_of h.2
    obtain ⟨a, rfl⟩ := Int.eq_ofNat_of_zero_le h1.1
    obtain ⟨b, rfl⟩ := Int.eq_ofNat_of_zero_le (Int.le_trans (by decide) h2.1)
    have hf := with_fit (a := a) (b := b) (by omega) (by omega) hx
    exact ⟨makeL k (withF x a b), 0, fun w => (make_good w k hk (withF x a b) (by show a ≤ _; omega) (by show 1 ≤ b; omega) (by show b ≤ _; omega) hf).mono fun e w' => makR_good, fun w => (refMake_good w k hk (withF x a b) (by show a ≤ _; omega) (by show 1 ≤ b; omega) (by show b ≤ _; omega) hf).mono fun e w' => makR_good⟩
set_option maxRecDepth 100000 in
set_option maxHeartbeats 1000000 in
theorem cookieMakes_row (k : List UInt8) (hk : k.length = 16) (now : Int) (hn : (Lit.int .i64 now).wf = true) (life : Int) (hl : (Lit.int .i64 life).wf = true) (x : Nat → Nat) (hx : ∀ i, 2 ≤ i → i < 13 → x i < 256 ^ nF i) {w : World} :
    Calls Try.prog 3 #[.agg (keyV k), .int .i64 now, .int .i64 life, .agg (offV x)] w fun e w' => e = .returned (.bool true) ∧ Below w.heap.size w w' := by
  obtain ⟨l, t, h1, h2⟩ := makes_both k hk now life x hx
  have H1 := Lib.hid h1
  have H2 := Lib.hid h2
  have HK := Lib.hid (show ((w.alloc (.cells (keyV k) 23)).alloc (.cells (offV x) 27)).heap[w.heap.size]? = some (.cells (keyV k) 23 (0, 0)) from blk_alloc (blk_new _ _) _)
  have HO := Lib.hid (show ((w.alloc (.cells (keyV k) 23)).alloc (.cells (offV x) 27)).heap[w.heap.size + 1]? = some (.cells (offV x) 27 (0, 0)) by have h := blk_new (w.alloc (.cells (keyV k) 23)) (.cells (offV x) 27); rw [World.size_alloc] at h; exact h)
  have HB := Lib.hid (below_alloc (below_alloc (Below.refl w.heap.size w) (.cells (keyV k) 23)) (.cells (offV x) 27))
  have HKS := Lib.hid (key_size hk)
  have HOS := Lib.hid (show (Try.prog.info? 27).map (·.size) = some (offV x).size by kernel_rfl)
  clear h1 h2 hn hl hx
  have e1 : (t == t) = true := by simp
  have e2 : ((bstr l).toList == (bstr l).toList) = true := by simp
  have HC0 := Lib.hid (fun (W : World) (A : Option Addr) (c : Nat) (h : byte.C W A l.length l) => run_bstr (c := c) h)
  generalize bstr l = bl at *
  generalize keyV k = KV at *
  generalize offV x = OV at *
  go_enter Try.func3, Try.ntmps3
  go_wp2_with (first | (refine wpList_load_row rfl 23 _ rfl w.heap.size rfl 23 KV (0, 0) _ HK.out Try.underlying23 rfl HKS.out ?_) | (refine wpList_load_row rfl 27 _ rfl (w.heap.size + 1) rfl 27 OV (0, 0) _ HO.out Try.underlying27 rfl HOS.out ?_))
  refine (H1.out _).mono ?_
  rintro e0 w1 ⟨A1, c1, rfl, hc1, hC1, hB1⟩
  replace HK := Lib.hid (blk_below HK.out hB1)
  replace HO := Lib.hid (blk_below HO.out hB1)
  replace HB := Lib.hid (below_then HB.out HB.out.size hB1)
  have HC1 := Lib.hid hC1
  clear hB1 hC1 H1
  go_wp2_with (first | (refine wpList_load_row rfl 23 _ rfl w.heap.size rfl 23 KV (0, 0) _ HK.out Try.underlying23 rfl HKS.out ?_) | (refine wpList_load_row rfl 27 _ rfl (w.heap.size + 1) rfl 27 OV (0, 0) _ HO.out Try.underlying27 rfl HOS.out ?_))
  refine (H2.out _).mono ?_
  rintro e0 w2 ⟨A2, c2, rfl, hc2, hC2, hB2⟩
  replace HB := Lib.hid (below_then HB.out HB.out.size hB2)
  have r1 := HC0.out _ _ c1 (Kd.C_below HC1.out hB2)
  have r2 := HC0.out _ _ c2 hC2
  clear hB2 hC2 H2 HK HO HC1 HC0
  generalize l.length = N at *
  go_wp2_with fail
  refine (alive_calls _).mono ?_
  rintro e0 w9 ⟨rfl, hB9⟩
  go_wp2
  go_ret
  exact ⟨rfl, below_then HB.out HB.out.size hB9⟩
end Go.Proofs.Ythdemajmlidefaa.Ck
