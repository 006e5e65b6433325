/- Make: walked. -/
import Derived.Test.YthdemajmlidefaaCkD
import Derived.Test.YthdemajmlidefaaCkMac
namespace Go.Proofs.Ythdemajmlidefaa.Ck
open Go.RowKit Go.Proofs.YthdemajmlidefaaW.PrintWords Go.Proofs.YthdemajmlidefaaW.PrintLast Go.Proofs.Ythdemajmlidefaa.Base Go.Proofs.Ythdemajmlidefaa.Mac
set_option linter.unusedVariables false
set_option linter.unusedSimpArgs false
def makeT3 : Bool × List (List Nat × List Nat) := (true, [([], []), ([], []), ([], []), ([0, 1, 2], [0, 1, 2]), ([3], [3]), ([], []), ([4, 5, 5], [4, 5]), ([6, 6, 0, 1, 2, 3, 4, 5, 6], [6])])
def makeB3 : List Nat := [0, 0, 0, 7, 15, 0, 63, 127]
theorem maketab3 : Go.Proofs.YthdemajmlidefaaW.PrintLast.rtab .any (Go.Proofs.YthdemajmlidefaaW.PrintLast.opsOf Try.f8 3) = makeT3 := by kernel_rfl
theorem makebits3 : Go.Proofs.YthdemajmlidefaaW.PrintLast.waitsOk makeT3.2 makeB3 = true := by kernel_rfl
def offV (x : Nat → Nat) : Array Value := #[.int .u16 (x 2 : Nat), .int .u16 (x 3 : Nat), .int .u32 (x 4 : Nat), .int .u32 (x 5 : Nat), .int .u32 (x 6 : Nat), .int .u32 (x 7 : Nat), .int .u32 (x 8 : Nat), .int .u16 (x 9 : Nat), .int .u16 (x 10 : Nat), .int .u32 (x 11 : Nat), .int .u32 (x 12 : Nat)]
/-- A cookie. -/
def makeL (k : List UInt8) (x : Nat → Nat) : List UInt8 := sealN x 13 ++ textL (sumS k [sealN x 13])
def timeB (n : Int) : Bool := decide (0 ≤ n) && decide (n ≤ 1099511627776)
def lifeB (n : Int) : Bool := decide (1 ≤ n) && decide (n ≤ 2147483648)
theorem isTime_calls (n : Int) (w : World) : Calls Try.prog 17 #[.int .i64 n] w fun e w' => e = .returned (.bool (timeB n)) ∧ w = w' := by
  unfold timeB
  by_cases h0 : 0 ≤ n
  · by_cases h1 : n ≤ 1099511627776
    all_goals
      simp only [h0, h1, decide_true, decide_false, Bool.and_true, Bool.and_false]
      go_enter Try.func17, Try.ntmps17
      go_wp2
      go_ret
      exact ⟨rfl, rfl⟩
  · simp only [h0, decide_false, Bool.false_and]
    go_enter Try.func17, Try.ntmps17
    go_wp2
    go_ret
    exact ⟨rfl, rfl⟩
theorem isLife_calls (n : Int) (w : World) : Calls Try.prog 18 #[.int .i64 n] w fun e w' => e = .returned (.bool (lifeB n)) ∧ w = w' := by
  unfold lifeB
  by_cases h0 : 1 ≤ n
  · by_cases h1 : n ≤ 2147483648
    all_goals
      simp only [h0, h1, decide_true, decide_false, Bool.and_true, Bool.and_false]
      go_enter Try.func18, Try.ntmps18
      go_wp2
      go_ret
      exact ⟨rfl, rfl⟩
  · simp only [h0, decide_false, Bool.false_and]
    go_enter Try.func18, Try.ntmps18
    go_wp2
    go_ret
    exact ⟨rfl, rfl⟩
theorem one_C {w : World} {A : Option Addr} {c : Nat} {p : List UInt8} (hC : byte.C w A p.length p) (hc : p.length ≤ c) : bytesK.C (w.alloc (.cells #[.slice A p.length c] 28)) (some ⟨w.heap.size, 0, none⟩) [p].length [p] := by
  refine row_lit bytesK rfl w 28 [.slice A p.length c] [p] rfl (by simp) ?_
  intro j v q h1 h2
  match j, h1, h2 with
  | 0, h1, h2 => obtain rfl := Option.some.inj h1; obtain rfl := Option.some.inj h2; exact K_bytes hC hc
  | j + 1, h1, h2 => cases h1
theorem fit_63 {x : Nat → Nat} (h0 : x 0 ≤ 1099511627776) (hx : ∀ i, i < 13 → x i < 256 ^ nF i) : ∀ i, i < 13 → x i < 9223372036854775808 := by
  intro i hi
  have hv := hx i hi
  match i, hi with
  | 0, _ => omega
  | 1, _ | 2, _ | 3, _ | 4, _ | 5, _ | 6, _ | 7, _ | 8, _ | 9, _ | 10, _ | 11, _ | 12, _ => exact Nat.lt_of_lt_of_le hv (by decide)
theorem row_len (l : List UInt8) (h : l.length = 48) : (rowL [l]).length ≤ 140737488355328 := by
  unfold rowL
  simp [textL_length, h]
def MakeP (k : List UInt8) (x : Nat → Nat) (w : World) (e : Ending) (w' : World) : Prop := ∃ v, e = .returned (.tuple #[v, .int .i64 0]) ∧ byte.R 5 w' w.heap.size (fun _ => True) v (makeL k x) ∧ Below w.heap.size w w'
set_option maxHeartbeats 2000000 in
theorem make_good (w : World) (k : List UInt8) (hk : k.length = 16) (x : Nat → Nat) (h0 : x 0 ≤ 1099511627776) (h1 : 1 ≤ x 1) (h2 : x 1 ≤ 2147483648) (hx : ∀ i, i < 13 → x i < 256 ^ nF i) :
    Calls Try.prog 8 #[.agg (keyV k), .int .i64 (x 0 : Nat), .int .i64 (x 1 : Nat), .agg (offV x)] w (MakeP k x w) := by
  have HX := Lib.hid hx
  have H63 := Lib.hid (fit_63 h0 hx)
  have hT := fun W => isTime_calls (x 0 : Nat) W
  have hL := fun W => isLife_calls (x 1 : Nat) W
  rw [show timeB (x 0 : Nat) = true by unfold timeB; simp; omega] at hT
  rw [show lifeB (x 1 : Nat) = true by unfold lifeB; simp; omega] at hL
  have HK := Lib.hid (show ((w.alloc (.cells (keyV k) 23)).alloc (.cells (offV x) 27)).heap[w.heap.size]? = some (.cells (keyV k) 23 (0, 0)) from blk_alloc (blk_new _ _) _)
  have HO := Lib.hid (show ((w.alloc (.cells (keyV k) 23)).alloc (.cells (offV x) 27)).heap[w.heap.size + 1]? = some (.cells (offV x) 27 (0, 0)) by have h := blk_new (w.alloc (.cells (keyV k) 23)) (.cells (offV x) 27); rw [World.size_alloc] at h; exact h)
  have HB0 := Lib.hid (below_alloc (below_alloc (Below.refl w.heap.size w) (.cells (keyV k) 23)) (.cells (offV x) 27))
  have HKS := Lib.hid (key_size hk)
  have HSM := Lib.hid (fun (W : World) (A : Option Addr) (c : Nat) (h : bytesK.C W A [sealN x 13].length [sealN x 13]) => sum_calls W k hk A c [sealN x 13] h (Nat.le_trans (row_len _ (sealN_length x 13)) (by decide)))
  have HTX := Lib.hid (fun W : World => text_calls W (sumS k [sealN x 13]))
  have HML := Lib.hid (show makeL k x = sealN x 13 ++ textL (sumS k [sealN x 13]) from rfl)
  have hsl : (sealN x 13).length = 48 := sealN_length x 13
  have htl : (textL (sumS k [sealN x 13])).length = 8 := rfl
  clear hx h0 h1 h2
  go_enter Try.func8, Try.ntmps8
  go_upto_region 3 with (first | (go_at_call 17; refine (hT _).mono ?_; rintro e w' ⟨rfl, rfl⟩) | (go_at_call 18; refine (hL _).mono ?_; rintro e w' ⟨rfl, rfl⟩))
  clear hT hL
  generalize ((w.alloc (.cells (keyV k) 23)).alloc (.cells (offV x) 27)) = W0 at *
  have hsz0 := HB0.out.size
  generalize hg7 : w.heap.size + 1 = g7 at *
  have B := True.intro
  refine start_ (n := 8) (S := fun w' => True) (ds := []) #[false, false, false, false, false, false, false, false] (by kernel_rfl) rfl rfl trivial (fun hHeld => ?_)
  refine with_tabW maketab3 makebits3 (fun HT_ HW_ => ?_)
  refine pure_ (i := 1) (N := some 20) (v := ?_) (a' := ?_) #[false, true, false, false, false, false, false, false] rfl rfl (any_of HT_.out (by kernel_rfl)) (fun _ _ _ h => h) (Or.inl ⟨by rfl, ?_⟩) ?_ ?_
  rotate_left
  · intro w'
    go_simp
    with_reducible rfl
  rotate_left
  · simp only [Act.put, List.setIfInBounds_toArray, List.set_cons_zero, List.set_cons_succ, i64_w, i32_w]
    rfl
  refine pure_ (i := 2) (N := some 21) (v := ?_) (a' := ?_) #[false, true, true, false, false, false, false, false] rfl rfl (any_of HT_.out (by kernel_rfl)) (fun _ _ _ h => h) (Or.inl ⟨by rfl, ?_⟩) ?_ ?_
  rotate_left
  · intro w'
    go_simp
    with_reducible rfl
  rotate_left
  · simp only [Act.put, List.setIfInBounds_toArray, List.set_cons_zero, List.set_cons_succ, i64_w, i32_w]
    rfl
  refine inv_at [0, 3, 4, 5, 6, 7] (fun a0_ b a w' => ∃ (s9 : Nat) (ad9 : Addr) (v9 : Value) (m4_ : Value) (m5_ : Value) (m7_ : Value), a = putSel a0_ b [(0, 19, .agg #[.int .u16 (x 2 : Nat), .int .u16 (x 3 : Nat), .int .u32 (x 4 : Nat), .int .u32 (x 5 : Nat), .int .u32 (x 6 : Nat), .int .u32 (x 7 : Nat), .int .u32 (x 8 : Nat), .int .u16 (x 9 : Nat), .int .u16 (x 10 : Nat), .int .u32 (x 11 : Nat), .int .u32 (x 12 : Nat)]), (3, 22, .agg #[.int .u16 (x 2 : Nat), .int .u16 (x 3 : Nat), .int .u32 (x 4 : Nat), .int .u32 (x 5 : Nat), .int .u32 (x 6 : Nat), .int .u32 (x 7 : Nat), .int .u32 (x 8 : Nat), .int .u16 (x 9 : Nat), .int .u16 (x 10 : Nat), .int .u32 (x 11 : Nat), .int .u32 (x 12 : Nat), .int .i64 (x 0 : Nat), .int .i64 (x 1 : Nat)]), (4, 23, m4_), (5, 24, m5_), (6, 25, v9), (7, 10, m7_)] ∧ (Below W0.heap.size W0 w') ∧ (b 4 = true → b 6 = false → w'.heap[s9]? = some (.cells (stV x) STT (0, 0))) ∧ (b 5 = true → b 6 = false → ∀ i, i < 13 → FldAt w' ad9 i) ∧ (b 6 = true → byte.R 5 w' W0.heap.size (fun _ => True) v9 (sealN x 13)) ∧ (b 4 = true → (m4_ : Value) = .pointer (some ⟨s9, 0, none⟩)) ∧ (b 5 = true → (m5_ : Value) = .slice (some ad9) 13 13) ∧ (b 7 = true → (m7_ : Value) = v9)) HT_.out HW_.out (by kernel_rfl) (by kernel_rfl) ?_ ?_ ?_
  · exact ⟨0, ⟨0, 0, none⟩, undef, .bool false, .bool false, .bool false, by simp only [putSel, Bool.false_eq_true, if_false], below_drew (Below.refl _ _), fun h_ => absurd h_ (by decide), fun h_ => absurd h_ (by decide), fun h_ => absurd h_ (by decide), fun h_ => absurd h_ (by decide), fun h_ => absurd h_ (by decide), fun h_ => absurd h_ (by decide)⟩
  · skip
    clear B
    refine steps_cons ?_ ?_
    · rintro b a w' ⟨s9, ad9, v9, m4_, m5_, m7_, ha, Q_B, Q_S, Q_F, Q_R, Q_X4_, Q_X5_, Q_X7_⟩ hb_ hon hoff
      refine ⟨_, rfl, fun K hK => ?_⟩
      have e7 : a.tmps[7]? = some (.pointer (some ⟨g7, 0, none⟩)) := by rw [ha]; exact (putSel_off rfl).trans rfl
      replace ha := Aside0.mk ha
      have B := Aside0.mk Q_B
      refine value_ (w1 := w') (v := .agg #[.int .u16 (x 2 : Nat), .int .u16 (x 3 : Nat), .int .u32 (x 4 : Nat), .int .u32 (x 5 : Nat), .int .u32 (x 6 : Nat), .int .u32 (x 7 : Nat), .int .u32 (x 8 : Nat), .int .u16 (x 9 : Nat), .int .u16 (x 10 : Nat), .int .u32 (x 11 : Nat), .int .u32 (x 12 : Nat)]) (by rfl) rfl (exec_load_row 27 (.tmp 7) rfl (eval_of e7) (blk_below HO.out B.out) Try.underlying27 rfl (by kernel_rfl)) ?_
      refine hK.out _ _ ⟨s9, ad9, v9, m4_, m5_, m7_, (by rw [ha.out]; exact putSel_upk 0 hb_ rfl rfl rfl), B.out, fun h0_ _ => absurd ((hoff 4 (by kernel_rfl)).symm.trans h0_) (by decide), fun h0_ h1_ => (Q_F h0_ h1_), fun h0_ => absurd ((hoff 6 (by kernel_rfl)).symm.trans h0_) (by decide), fun h0_ => absurd ((hoff 4 (by kernel_rfl)).symm.trans h0_) (by decide), Q_X5_, fun h0_ => absurd ((hoff 7 (by kernel_rfl)).symm.trans h0_) (by decide)⟩
    refine steps_cons ?_ ?_
    · rintro b a w' ⟨s9, ad9, v9, m4_, m5_, m7_, ha, Q_B, Q_S, Q_F, Q_R, Q_X4_, Q_X5_, Q_X7_⟩ hb_ hon hoff
      refine ⟨_, rfl, fun K hK => ?_⟩
      have e19 : a.tmps[19]? = some (.agg #[.int .u16 (x 2 : Nat), .int .u16 (x 3 : Nat), .int .u32 (x 4 : Nat), .int .u32 (x 5 : Nat), .int .u32 (x 6 : Nat), .int .u32 (x 7 : Nat), .int .u32 (x 8 : Nat), .int .u16 (x 9 : Nat), .int .u16 (x 10 : Nat), .int .u32 (x 11 : Nat), .int .u32 (x 12 : Nat)]) := by rw [ha]; exact putSel_on (e := (0, 19, .agg #[.int .u16 (x 2 : Nat), .int .u16 (x 3 : Nat), .int .u32 (x 4 : Nat), .int .u32 (x 5 : Nat), .int .u32 (x 6 : Nat), .int .u32 (x 7 : Nat), .int .u32 (x 8 : Nat), .int .u16 (x 9 : Nat), .int .u16 (x 10 : Nat), .int .u32 (x 11 : Nat), .int .u32 (x 12 : Nat)])) 0 rfl rfl (hon 0 (by kernel_rfl)) rfl
      have e20 : a.tmps[20]? = some (.int .i64 (x 0 : Nat)) := by rw [ha]; exact (putSel_off rfl).trans rfl
      have e21 : a.tmps[21]? = some (.int .i64 (x 1 : Nat)) := by rw [ha]; exact (putSel_off rfl).trans rfl
      replace ha := Aside0.mk ha
      have B := Aside0.mk Q_B
      refine value_ (w1 := w') (v := .agg #[.int .u16 (x 2 : Nat), .int .u16 (x 3 : Nat), .int .u32 (x 4 : Nat), .int .u32 (x 5 : Nat), .int .u32 (x 6 : Nat), .int .u32 (x 7 : Nat), .int .u32 (x 8 : Nat), .int .u16 (x 9 : Nat), .int .u16 (x 10 : Nat), .int .u32 (x 11 : Nat), .int .u32 (x 12 : Nat), .int .i64 (x 0 : Nat), .int .i64 (x 1 : Nat)]) (by rfl) rfl (by go_simp; try rfl) ?_
      refine hK.out _ _ ⟨s9, ad9, v9, m4_, m5_, m7_, (by rw [ha.out]; exact putSel_upk 1 hb_ rfl rfl rfl), B.out, fun h0_ _ => absurd ((hoff 4 (by kernel_rfl)).symm.trans h0_) (by decide), fun h0_ h1_ => (Q_F h0_ h1_), fun h0_ => absurd ((hoff 6 (by kernel_rfl)).symm.trans h0_) (by decide), fun h0_ => absurd ((hoff 4 (by kernel_rfl)).symm.trans h0_) (by decide), Q_X5_, fun h0_ => absurd ((hoff 7 (by kernel_rfl)).symm.trans h0_) (by decide)⟩
    refine steps_cons ?_ ?_
    · rintro b a w' ⟨s9, ad9, v9, m4_, m5_, m7_, ha, Q_B, Q_S, Q_F, Q_R, Q_X4_, Q_X5_, Q_X7_⟩ hb_ hon hoff
      refine ⟨_, rfl, fun K hK => ?_⟩
      have e22 : a.tmps[22]? = some (.agg #[.int .u16 (x 2 : Nat), .int .u16 (x 3 : Nat), .int .u32 (x 4 : Nat), .int .u32 (x 5 : Nat), .int .u32 (x 6 : Nat), .int .u32 (x 7 : Nat), .int .u32 (x 8 : Nat), .int .u16 (x 9 : Nat), .int .u16 (x 10 : Nat), .int .u32 (x 11 : Nat), .int .u32 (x 12 : Nat), .int .i64 (x 0 : Nat), .int .i64 (x 1 : Nat)]) := by rw [ha]; exact putSel_on (e := (3, 22, .agg #[.int .u16 (x 2 : Nat), .int .u16 (x 3 : Nat), .int .u32 (x 4 : Nat), .int .u32 (x 5 : Nat), .int .u32 (x 6 : Nat), .int .u32 (x 7 : Nat), .int .u32 (x 8 : Nat), .int .u16 (x 9 : Nat), .int .u16 (x 10 : Nat), .int .u32 (x 11 : Nat), .int .u32 (x 12 : Nat), .int .i64 (x 0 : Nat), .int .i64 (x 1 : Nat)])) 1 rfl rfl (hon 3 (by kernel_rfl)) rfl
      replace ha := Aside0.mk ha
      have B := Aside0.mk Q_B
      refine value_ (w1 := w'.alloc (.cells #[.int .u16 (x 2 : Nat), .int .u16 (x 3 : Nat), .int .u32 (x 4 : Nat), .int .u32 (x 5 : Nat), .int .u32 (x 6 : Nat), .int .u32 (x 7 : Nat), .int .u32 (x 8 : Nat), .int .u16 (x 9 : Nat), .int .u16 (x 10 : Nat), .int .u32 (x 11 : Nat), .int .u32 (x 12 : Nat), .int .i64 (x 0 : Nat), .int .i64 (x 1 : Nat)] STT)) (v := .pointer (some ⟨w'.heap.size, 0, none⟩)) (by rfl) rfl (by go_simp; try rfl) ?_
      refine hK.out _ _ ⟨w'.heap.size, ad9, v9, (.pointer (some ⟨w'.heap.size, 0, none⟩)), m5_, m7_, (by rw [ha.out]; exact putSel_upk 2 hb_ rfl rfl rfl), B.out.alloc B.out.size _, fun _ _ => (show (w'.alloc (.cells #[.int .u16 (x 2 : Nat), .int .u16 (x 3 : Nat), .int .u32 (x 4 : Nat), .int .u32 (x 5 : Nat), .int .u32 (x 6 : Nat), .int .u32 (x 7 : Nat), .int .u32 (x 8 : Nat), .int .u16 (x 9 : Nat), .int .u16 (x 10 : Nat), .int .u32 (x 11 : Nat), .int .u32 (x 12 : Nat), .int .i64 (x 0 : Nat), .int .i64 (x 1 : Nat)] STT)).heap[w'.heap.size]? = some (.cells (stV x) STT (0, 0)) from blk_new w' _), fun h0_ h1_ => fun i hi => FldAt.below ((Q_F h0_ h1_) i hi) (below_alloc (Below.refl _ _) _), fun h0_ => absurd ((hoff 6 (by kernel_rfl)).symm.trans h0_) (by decide), fun _ => rfl, Q_X5_, fun h0_ => absurd ((hoff 7 (by kernel_rfl)).symm.trans h0_) (by decide)⟩
    refine steps_cons ?_ ?_
    · rintro b a w' ⟨s9, ad9, v9, m4_, m5_, m7_, ha, Q_B, Q_S, Q_F, Q_R, Q_X4_, Q_X5_, Q_X7_⟩ hb_ hon hoff
      refine ⟨_, rfl, fun K hK => ?_⟩
      replace ha := Aside0.mk ha
      have B := Aside0.mk Q_B
      refine goes_ Try.func20 (by kernel_rfl) rfl #[] (by rfl) rfl rfl (by first | (simp only [List.map_toArray, List.map_cons, List.map_nil, Act.eval, Array.getD_eq_getD_getElem?, Option.getD_some]; done) | (simp only [List.map_toArray, List.map_cons, List.map_nil, Act.eval, Array.getD_eq_getD_getElem?, Option.getD_some]; rfl)) ?_
      refine (fields_calls w').mono ?_
      rintro e w1 ⟨ad1, rfl, hF1, hB1⟩
      refine ⟨_, rfl, ?_⟩
      refine hK.out _ _ ⟨s9, ad1, v9, m4_, (.slice (some ad1) 13 13), m7_, (by rw [ha.out]; exact putSel_upk 3 hb_ rfl rfl rfl), B.out.trans (hB1.mono B.out.size), fun h0_ h1_ => blk_below (Q_S h0_ h1_) hB1, fun _ _ => hF1, fun h0_ => absurd ((hoff 6 (by kernel_rfl)).symm.trans h0_) (by decide), Q_X4_, fun _ => rfl, fun h0_ => absurd ((hoff 7 (by kernel_rfl)).symm.trans h0_) (by decide)⟩
    refine steps_cons ?_ ?_
    · rintro b a w' ⟨s9, ad9, v9, m4_, m5_, m7_, ha, Q_B, Q_S, Q_F, Q_R, Q_X4_, Q_X5_, Q_X7_⟩ hb_ hon hoff
      refine ⟨_, rfl, fun K hK => ?_⟩
      have e23 : a.tmps[23]? = some (m4_) := by rw [ha]; exact putSel_on (e := (4, 23, m4_)) 2 rfl rfl (hon 4 (by kernel_rfl)) rfl
      rw [Q_X4_ (hon 4 (by kernel_rfl))] at e23
      have e24 : a.tmps[24]? = some (m5_) := by rw [ha]; exact putSel_on (e := (5, 24, m5_)) 3 rfl rfl (hon 5 (by kernel_rfl)) rfl
      rw [Q_X5_ (hon 5 (by kernel_rfl))] at e24
      replace ha := Aside0.mk ha
      have B := Aside0.mk Q_B
      have S := Aside0.mk (Q_S (hon 4 (by kernel_rfl)) hb_)
      have F := Aside0.mk (Q_F (hon 5 (by kernel_rfl)) hb_)
      refine goes_ Try.func19 (by kernel_rfl) rfl #[.pointer (some ⟨s9, 0, none⟩), .slice (some ad9) 13 13] (by rfl) rfl rfl (by first | (simp only [List.map_toArray, List.map_cons, List.map_nil, Act.eval, Array.getD_eq_getD_getElem?, Option.getD_some, e23, e24]; done) | (simp only [List.map_toArray, List.map_cons, List.map_nil, Act.eval, Array.getD_eq_getD_getElem?, Option.getD_some, e23, e24]; rfl)) ?_
      refine (write_calls w' s9 ad9 x S.out F.out HX.out H63.out).mono ?_
      rintro e w1 ⟨v1, rfl, hR1, hB1⟩
      refine ⟨_, rfl, ?_⟩
      refine hK.out _ _ ⟨s9, ad9, v1, m4_, m5_, m7_, (by rw [ha.out]; exact putSel_upk 4 hb_ rfl rfl rfl), B.out.trans (hB1.mono B.out.size), fun _ h1_ => absurd ((up_self b 6).symm.trans h1_) (by decide), fun _ h1_ => absurd ((up_self b 6).symm.trans h1_) (by decide), fun _ => Kd.R_lower hR1 B.out.size, Q_X4_, Q_X5_, fun h0_ => absurd ((hoff 7 (by kernel_rfl)).symm.trans h0_) (by decide)⟩
    refine steps_cons ?_ ?_
    · rintro b a w' ⟨s9, ad9, v9, m4_, m5_, m7_, ha, Q_B, Q_S, Q_F, Q_R, Q_X4_, Q_X5_, Q_X7_⟩ hb_ hon hoff
      refine ⟨_, rfl, fun K hK => ?_⟩
      have e25 : a.tmps[25]? = some (v9) := by rw [ha]; exact putSel_on (e := (6, 25, v9)) 4 rfl rfl (hon 6 (by kernel_rfl)) rfl
      replace ha := Aside0.mk ha
      have B := Aside0.mk Q_B
      have R := Aside0.mk (Q_R (hon 6 (by kernel_rfl)))
      refine value_ (w1 := w') (v := v9) (by rfl) rfl ?_ ?_
      · go_simp
        (try simp only [i64_w])
        try rfl
      refine hK.out _ _ ⟨s9, ad9, v9, m4_, m5_, (v9), (by rw [ha.out]; exact putSel_upk 5 hb_ rfl rfl rfl), Q_B, fun _ h1_ => absurd ((hon 6 (by kernel_rfl)).symm.trans h1_) (by decide), fun _ h1_ => absurd ((hon 6 (by kernel_rfl)).symm.trans h1_) (by decide), Q_R, Q_X4_, Q_X5_, fun _ => rfl⟩
    exact steps_nil
  rintro b a w' hall ⟨s9, ad9, v9, m4_, m5_, m7_, ha, Q_B, Q_S, Q_F, Q_R, Q_X4_, Q_X5_, Q_X7_⟩
  clear B
  have hb0_ := hall 0 (by kernel_rfl)
  have hb3_ := hall 3 (by kernel_rfl)
  have hb4_ := hall 4 (by kernel_rfl)
  have hb5_ := hall 5 (by kernel_rfl)
  have hb6_ := hall 6 (by kernel_rfl)
  have hb7_ := hall 7 (by kernel_rfl)
  subst ha
  obtain rfl := Q_X4_ hb4_
  obtain rfl := Q_X5_ hb5_
  obtain rfl := Q_X7_ hb7_
  simp only [putSel, hb0_, hb3_, hb4_, hb5_, hb6_, hb7_, if_true, Act.put, List.setIfInBounds_toArray, List.set_cons_zero, List.set_cons_succ]
  have B := Aside0.mk Q_B
  clear Q_B
  clear Q_S
  clear Q_F
  have R := Aside0.mk (Q_R hb6_)
  clear Q_R
  clear hall hb0_ hb3_ hb4_ hb5_ hb6_ hb7_
  have HR3 := Lib.hid (Kd.R_lower R.out hsz0)
  have HB3 := Lib.hid (HB0.out.trans (B.out.mono hsz0))
  have HK3 := Lib.hid (blk_below HK.out B.out)
  clear B R
  generalize keyV k = KV at *
  generalize textL (sumS k [sealN x 13]) = tx at *
  generalize ((sumS k [sealN x 13]).toNat : Int) = sm at *
  generalize sealN x 13 = sl at *
  obtain ⟨As, cs, rfl, hle, hC⟩ := Kd.R_reads HR3.out
  have H1C := Lib.hid (one_C hC hle)
  clear hC
  have hsl2 : sl.length ≤ 48 := by omega
  have htl2 : tx.length ≤ 8 := by omega
  have HRS := Lib.hid (fun o => Kd.R_alloc HR3.out o)
  have HBA := Lib.hid (fun o => HB3.out.alloc HB3.out.size o)
  clear hsl htl hle HR3
  go_wp2_with (refine wpList_load_row rfl 23 _ rfl w.heap.size rfl 23 KV (0, 0) _ HK3.out Try.underlying23 rfl HKS.out ?_)
  refine (HSM.out _ _ 1 H1C.out).mono ?_
  rintro e w5 ⟨rfl, hB5⟩
  have HB5 := Lib.hid (below_then (HBA.out _) (HBA.out _).size hB5)
  have HR5 := Lib.hid (Kd.R_below (HRS.out _) hB5)
  clear hB5
  go_wp2_with fail
  refine (HTX.out w5).mono ?_
  rintro e w6 ⟨v6, rfl, hR6, hB6⟩
  obtain ⟨At, ct, rfl, hlt, hCt⟩ := Kd.R_reads hR6
  have HB6 := Lib.hid (below_then HB5.out HB5.out.size hB6)
  have HR6 := Lib.hid (Kd.R_below HR5.out hB6)
  have HC6 := Lib.hid hCt
  clear hB6 hR6 hCt hlt
  go_wp2_with (at_builtin; go_must (refine Kd.R_append_row (fun b : UInt8 => .int .u8 (b.toNat : Int)) (0 : UInt8) (w0 := w) w.heap.size rfl _ _ 28 5 _ 1 rfl Try.underlying28 info_u8 rfl (by decide) (.slice As sl.length cs) sl tx At tx.length ct (fun _ => True) rfl rfl (fun _ _ => trivial) HR6.out HC6.out HB6.out HB6.out.size (by omega) ?_); intro v7 w7 hR7 hB7 _ _; have HR7 := Lib.hid hR7; have HB7 := Lib.hid hB7; clear hR7 hB7)
  go_ret2
  exact ⟨v7, rfl, by rw [HML.out]; exact HR7.out, HB7.out⟩
/-- No cookie. -/
theorem make_bad (w : World) (k : List UInt8) (x : Nat → Nat) (now life : Int) (h : (timeB now && lifeB life) = false) :
    Calls Try.prog 8 #[.agg (keyV k), .int .i64 now, .int .i64 life, .agg (offV x)] w fun e w' => e = .returned (.tuple #[.slice none 0 0, .int .i64 1]) ∧ Below w.heap.size w w' := by
  have hT := fun W => isTime_calls now W
  have hL := fun W => isLife_calls life W
  have HB0 := Lib.hid (below_alloc (below_alloc (Below.refl w.heap.size w) (.cells (keyV k) 23)) (.cells (offV x) 27))
  generalize keyV k = KV at *
  generalize offV x = OV at *
  generalize timeB now = b1 at *
  generalize lifeB life = b2 at *
  cases b1
  · clear h
    go_enter Try.func8, Try.ntmps8
    go_wp2_with (first | (go_at_call 17; refine (hT _).mono ?_; rintro e w' ⟨rfl, rfl⟩) | (go_at_call 18; refine (hL _).mono ?_; rintro e w' ⟨rfl, rfl⟩))
    go_ret2
    exact ⟨rfl, HB0.out⟩
  · obtain rfl : b2 = false := h
    go_enter Try.func8, Try.ntmps8
    go_wp2_with (first | (go_at_call 17; refine (hT _).mono ?_; rintro e w' ⟨rfl, rfl⟩) | (go_at_call 18; refine (hL _).mono ?_; rintro e w' ⟨rfl, rfl⟩))
    go_ret2
    exact ⟨rfl, HB0.out⟩
end Go.Proofs.Ythdemajmlidefaa.Ck
