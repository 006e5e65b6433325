/- The statement ParamCauses, walked. -/
import Derived.Test.YtjlgddmcjccbeaaParSame
import Derived.Test.YtjlgddmcjccbeaaRegB
import Derived.OpenShut
namespace Go.Proofs.Ytjlgddmcjccbeaa.ParCauses
open Go.RowKit Go.Proofs.YtjlgddmcjccbeaaW.PrintWords Go.Proofs.YtjlgddmcjccbeaaW.PrintLast Go.Proofs.Ytjlgddmcjccbeaa.PParamCauses Go.Proofs.Ytjlgddmcjccbeaa.Base
set_option linter.unusedVariables false
set_option linter.unusedSimpArgs false
theorem alive_run : ∃ k, ropewalklaw05_alive.f k = some true := ⟨20, by decide +kernel⟩
theorem alive_calls (w : World) : Calls Try.prog 14 #[] w fun e w' => e = .returned (.bool true) ∧ Below w.heap.size w w' := by
  obtain ⟨k, hk⟩ := alive_run
  exact ropewalklaw05_alive.calls k true w hk
theorem u16w (n : Int) : IntKind.u16.wrap n = n % 65536 := by simp [IntKind.wrap, IntKind.bits, IntKind.signed]
def fourI (n : Int) : List Int := [(n / 16777216) % 256, (n / 65536) % 256, (n / 256) % 256, n % 256]
theorem four_f (n : Int) (h0 : 0 ≤ n) (h1 : n ≤ 4294967295) : param_four.f n = some (fourI n) := by
  unfold param_four.f param_two.f
  simp only [Option.bind_some, u16w]
  rw [if_pos (by simp), Option.bind_some, if_pos (by simp), Option.bind_some]
  unfold fourI
  have e1 : n / 65536 % 65536 / 256 % 256 = n / 16777216 % 256 := by omega
  have e2 : n / 65536 % 65536 % 256 = n / 65536 % 256 := by omega
  have e3 : n % 65536 / 256 % 256 = n / 256 % 256 := by omega
  have e4 : n % 65536 % 256 = n % 256 := by omega
  simp [e1, e2, e3, e4]
theorem stale_f (n : Int) (h0 : 0 ≤ n) (h1 : n ≤ 4294967295) : param_Stale.f n = some (3, fourI n) := by unfold param_Stale.f; rw [four_f n h0 h1]; rfl
theorem noData_f (n : Int) (h0 : 0 ≤ n) (h1 : n ≤ 4294967295) : param_NoData.f n = some (9, fourI n) := by unfold param_NoData.f; rw [four_f n h0 h1]; rfl
theorem refStale_f (n : Int) : ropewalkref05_Stale.f n = some (3, fourI n) := rfl
theorem refNoData_f (n : Int) : ropewalkref05_NoData.f n = some (9, fourI n) := rfl
def strI (n : Int) : List Int := [n / 256 % 256, n % 256, 0, 0]
theorem stream_f (n : Int) : param_Stream.f n = some (1, strI n) := by
  unfold param_Stream.f param_two.f
  simp only [Option.bind_some]
  rw [if_pos (by simp), Option.bind_some, if_pos (by simp)]
  rfl
theorem refStream_f (n : Int) : ropewalkref05_Stream.f n = some (1, strI n) := by
  unfold ropewalkref05_Stream.f ropewalkref05_Two.f
  simp only [Option.bind_some]
  rw [if_pos (by simp)]
  rfl
def causesT3 : Bool × List (List Nat × List Nat) := (true, [([], []), ([], []), ([1], [1]), ([], []), ([3], [3]), ([4, 2], [4]), ([], []), ([6, 5], [6]), ([0, 2, 5, 7], [0, 2, 5, 7]), ([8, 7, 0, 1, 2, 3, 4, 5, 6, 7, 8], [8])])
def causesB3 : List Nat := [0, 0, 2, 0, 8, 30, 0, 126, 255, 511]
theorem causestab3 : Go.Proofs.YtjlgddmcjccbeaaW.PrintLast.rtab .any (Go.Proofs.YtjlgddmcjccbeaaW.PrintLast.opsOf Try.f4 3) = causesT3 := by kernel_rfl
theorem causesbits3 : Go.Proofs.YtjlgddmcjccbeaaW.PrintLast.waitsOk causesT3.2 causesB3 = true := by kernel_rfl
def causesT4 : Bool × List (List Nat × List Nat) := (true, [([], []), ([], []), ([1], [1]), ([], []), ([3], [3]), ([4, 2], [4]), ([], []), ([6, 5], [6]), ([0, 2, 5, 7], [0, 2, 5, 7]), ([8, 7, 0, 1, 2, 3, 4, 5, 6, 7, 8], [8])])
def causesB4 : List Nat := [0, 0, 2, 0, 8, 30, 0, 126, 255, 511]
theorem causestab4 : Go.Proofs.YtjlgddmcjccbeaaW.PrintLast.rtab .any (Go.Proofs.YtjlgddmcjccbeaaW.PrintLast.opsOf Try.f4 4) = causesT4 := by kernel_rfl
theorem causesbits4 : Go.Proofs.YtjlgddmcjccbeaaW.PrintLast.waitsOk causesT4.2 causesB4 = true := by kernel_rfl
theorem quad_C {w : World} {p1 p2 p3 p4 : S36} {A1 A2 A3 A4 : Option Addr} {c1 c2 c3 c4 : Nat} (l1 : p1.f1.length ≤ c1) (g1 : (Kd.int .u8).C w A1 p1.f1.length p1.f1) (l2 : p2.f1.length ≤ c2) (g2 : (Kd.int .u8).C w A2 p2.f1.length p2.f1) (l3 : p3.f1.length ≤ c3) (g3 : (Kd.int .u8).C w A3 p3.f1.length p3.f1) (l4 : p4.f1.length ≤ c4) (g4 : (Kd.int .u8).C w A4 p4.f1.length p4.f1) :
    Kd.C k36 (w.alloc (.cells #[.int .u16 p1.f0, .slice A1 p1.f1.length c1, .int .u16 p2.f0, .slice A2 p2.f1.length c2, .int .u16 p3.f0, .slice A3 p3.f1.length c3, .int .u16 p4.f0, .slice A4 p4.f1.length c4] 36)) (some ⟨w.heap.size, 0, none⟩) 4 [p1, p2, p3, p4] := by
  refine ⟨rfl, by decide, fun _ => ⟨_, rfl, fun j p hj => ?_⟩⟩
  have hb := below_alloc (Below.refl w.heap.size w) (.cells #[.int .u16 p1.f0, .slice A1 p1.f1.length c1, .int .u16 p2.f0, .slice A2 p2.f1.length c2, .int .u16 p3.f0, .slice A3 p3.f1.length c3, .int .u16 p4.f0, .slice A4 p4.f1.length c4] 36)
  have hc : ∀ i, (w.alloc (.cells #[.int .u16 p1.f0, .slice A1 p1.f1.length c1, .int .u16 p2.f0, .slice A2 p2.f1.length c2, .int .u16 p3.f0, .slice A3 p3.f1.length c3, .int .u16 p4.f0, .slice A4 p4.f1.length c4] 36)).cell? ⟨w.heap.size, i, none⟩ = #[.int .u16 p1.f0, .slice A1 p1.f1.length c1, .int .u16 p2.f0, .slice A2 p2.f1.length c2, .int .u16 p3.f0, .slice A3 p3.f1.length c3, .int .u16 p4.f0, .slice A4 p4.f1.length c4][i]? := fun i => cell_of_row _ _ _ _ _ _ (heap_alloc_new _ _)
  match j, hj with
  | 0, hj =>
    obtain rfl := Option.some.inj hj
    refine ⟨_, rfl, k36.K_below hb (k36_mk w p1 l1 g1), fun i u hu => ?_⟩
    rw [add_plain, hc]
    match i, hu with
    | 0, hu => exact hu
    | 1, hu => exact hu
    | i + 2, hu => cases hu
  | 1, hj =>
    obtain rfl := Option.some.inj hj
    refine ⟨_, rfl, k36.K_below hb (k36_mk w p2 l2 g2), fun i u hu => ?_⟩
    rw [add_plain, hc]
    match i, hu with
    | 0, hu => exact hu
    | 1, hu => exact hu
    | i + 2, hu => cases hu
  | 2, hj =>
    obtain rfl := Option.some.inj hj
    refine ⟨_, rfl, k36.K_below hb (k36_mk w p3 l3 g3), fun i u hu => ?_⟩
    rw [add_plain, hc]
    match i, hu with
    | 0, hu => exact hu
    | 1, hu => exact hu
    | i + 2, hu => cases hu
  | 3, hj =>
    obtain rfl := Option.some.inj hj
    refine ⟨_, rfl, k36.K_below hb (k36_mk w p4 l4 g4), fun i u hu => ?_⟩
    rw [add_plain, hc]
    match i, hu with
    | 0, hu => exact hu
    | 1, hu => exact hu
    | i + 2, hu => cases hu
  | j + 4, hj => cases hj
set_option maxHeartbeats 4000000 in
theorem paramCauses_row (n : Int) (hn : (Lit.int .u32 n).wf = true) (s : ByteArray) (hs : s.size ≤ 140737488351232) {w : World} :
    Calls Try.prog 4 #[.int .u32 n, .string s] w fun e w' => e = .returned (.bool true) ∧ Below w.heap.size w w' := by
  have hu := Lib.hid (fun W : World => user_calls W s (by omega))
  have hr := Lib.hid (fun W : World => refUser_calls W s (by omega))
  have hbd := bounds_u32 hn
  have hst := stale_f n (by omega) (by omega)
  have hnd := noData_f n (by omega) (by omega)
  generalize userE s = ue at *
  generalize userP s = up at *
  go_enter Try.func4, Try.ntmps4
  go_wp2_with fail
  refine (hu.out _).mono ?_
  rintro e w1 ⟨A1, c1, rfl, hl1, hC1, hB1⟩
  have HC1_ := Lib.hid hC1
  have HC1l := Lib.hid hl1
  have HB1 := Lib.hid hB1
  clear hC1 hl1 hB1
  go_wp2_with fail
  refine (hr.out _).mono ?_
  rintro e w2 ⟨A2, c2, rfl, hl2, hC2, hB2⟩
  have HK5 := Lib.hid (show (w2.alloc (.cells #[.int .u16 up.f0, .slice A2 up.f1.length c2] 36)).heap[w1.heap.size]? = some (.cells #[.int .u16 up.f0, .slice A1 up.f1.length c1] 36 (0, 0)) from blk_alloc (blk_below (heap_alloc_new w1 _) hB2) _)
  have HK7 := Lib.hid (show (w2.alloc (.cells #[.int .u16 up.f0, .slice A2 up.f1.length c2] 36)).heap[w2.heap.size]? = some (.cells #[.int .u16 up.f0, .slice A2 up.f1.length c2] 36 (0, 0)) from heap_alloc_new _ _)
  have HC2l := Lib.hid hl2
  have HC2 := Lib.hid (Kd.C_alloc hC2 (.cells #[.int .u16 up.f0, .slice A2 up.f1.length c2] 36))
  have HB2 := Lib.hid ((HB1.out.alloc HB1.out.size (.cells #[.int .u16 up.f0, .slice A1 up.f1.length c1] 36)).trans (hB2.mono (by simp; have := HB1.out.size; omega)))
  have HB3 := Lib.hid (HB2.out.alloc HB2.out.size (.cells #[.int .u16 up.f0, .slice A2 up.f1.length c2] 36))
  have HC1 := Lib.hid (Kd.C_alloc (Kd.C_below (Kd.C_alloc HC1_.out (.cells #[.int .u16 up.f0, .slice A1 up.f1.length c1] 36)) hB2) (.cells #[.int .u16 up.f0, .slice A2 up.f1.length c2] 36))
  clear hC2 hl2 hB2 HC1_ HB1
  go_upto_region 3 with (fail)
  generalize w2.alloc (.cells #[.int .u16 up.f0, .slice A2 up.f1.length c2] 36) = W0 at *
  generalize w1.heap.size = g5 at *
  generalize w2.heap.size = g7 at *
  have B := True.intro
  refine start_ (n := 10) (S := fun w' => True) (ds := []) #[false, false, false, false, false, false, false, false, false, false] (by kernel_rfl) rfl rfl trivial (fun hHeld => ?_)
  refine with_tabW causestab3 causesbits3 (fun HT_ HW_ => ?_)
  refine pure_ (i := 1) (N := some 22) (v := ?_) (a' := ?_) #[false, true, false, false, false, false, false, false, false, false] rfl rfl (any_of HT_.out (by kernel_rfl)) (fun _ _ _ h => h) (Or.inl ⟨by rfl, ?_⟩) ?_ ?_
  rotate_left
  · intro w'
    go_simp
    with_reducible rfl
  rotate_left
  · simp only [Act.put, List.setIfInBounds_toArray, List.set_cons_zero, List.set_cons_succ, i64_w, i32_w]
    rfl
  refine pure_ (i := 3) (N := some 24) (v := ?_) (a' := ?_) #[false, true, false, true, false, false, false, false, false, false] rfl rfl (any_of HT_.out (by kernel_rfl)) (fun _ _ _ h => h) (Or.inl ⟨by rfl, ?_⟩) ?_ ?_
  rotate_left
  · intro w'
    go_simp
    with_reducible rfl
  rotate_left
  · simp only [Act.put, List.setIfInBounds_toArray, List.set_cons_zero, List.set_cons_succ, i64_w, i32_w]
    rfl
  refine pure_ (i := 6) (N := some 27) (v := ?_) (a' := ?_) #[false, true, false, true, false, false, true, false, false, false] rfl rfl (any_of HT_.out (by kernel_rfl)) (fun _ _ _ h => h) (Or.inl ⟨by rfl, ?_⟩) ?_ ?_
  rotate_left
  · intro w'
    go_simp
    with_reducible rfl
  rotate_left
  · simp only [Act.put, List.setIfInBounds_toArray, List.set_cons_zero, List.set_cons_succ, i64_w, i32_w]
    rfl
  refine inv_at [0, 2, 4, 5, 7, 8, 9] (fun a0_ b a w' => ∃ (A1_ : Option Addr) (c1_ : Nat) (A2_ : Option Addr) (c2_ : Nat) (A3_ : Option Addr) (c3_ : Nat) (g9 : Nat) (m2_ : Value) (m5_ : Value) (m7_ : Value) (m8_ : Value) (m9_ : Value), a = putSel a0_ b [(0, 21, .agg #[.int .u16 up.f0, .slice A1 up.f1.length c1]), (2, 23, m2_), (4, 25, .int .u16 (n % 65536)), (5, 26, m5_), (7, 28, m7_), (8, 29, m8_), (9, 9, m9_)] ∧ (Below W0.heap.size W0 w') ∧ (b 2 = true → (Kd.int .u8).C w' A1_ (fourI n).length (fourI n)) ∧ (b 2 = true → (fourI n).length ≤ c1_) ∧ (b 5 = true → (Kd.int .u8).C w' A2_ (strI (n % 65536)).length (strI (n % 65536))) ∧ (b 5 = true → (strI (n % 65536)).length ≤ c2_) ∧ (b 7 = true → (Kd.int .u8).C w' A3_ (fourI n).length (fourI n)) ∧ (b 7 = true → (fourI n).length ≤ c3_) ∧ (b 8 = true → Kd.C k36 w' (some ⟨g9, 0, none⟩) 4 [up, (⟨3, fourI n⟩ : S36), (⟨1, strI (n % 65536)⟩ : S36), (⟨9, fourI n⟩ : S36)]) ∧ (b 2 = true → (m2_ : Value) = .agg #[.int .u16 3, .slice A1_ (fourI n).length c1_]) ∧ (b 5 = true → (m5_ : Value) = .agg #[.int .u16 1, .slice A2_ (strI (n % 65536)).length c2_]) ∧ (b 7 = true → (m7_ : Value) = .agg #[.int .u16 9, .slice A3_ (fourI n).length c3_]) ∧ (b 8 = true → (m8_ : Value) = .slice (some ⟨g9, 0, none⟩) 4 4) ∧ (b 9 = true → (m9_ : Value) = .slice (some ⟨g9, 0, none⟩) 4 4)) HT_.out HW_.out (by kernel_rfl) (by kernel_rfl) ?_ ?_ ?_
  · exact ⟨none, 0, none, 0, none, 0, 0, .bool false, .bool false, .bool false, .bool false, .bool false, by simp only [putSel, Bool.false_eq_true, if_false], below_drew (Below.refl _ _), fun h_ => absurd h_ (by decide), fun h_ => absurd h_ (by decide), fun h_ => absurd h_ (by decide), fun h_ => absurd h_ (by decide), fun h_ => absurd h_ (by decide), fun h_ => absurd h_ (by decide), fun h_ => absurd h_ (by decide), fun h_ => absurd h_ (by decide), fun h_ => absurd h_ (by decide), fun h_ => absurd h_ (by decide), fun h_ => absurd h_ (by decide), fun h_ => absurd h_ (by decide)⟩
  · skip
    clear B
    refine steps_cons ?_ ?_
    · rintro b a w' ⟨A1_, c1_, A2_, c2_, A3_, c3_, g9, m2_, m5_, m7_, m8_, m9_, ha, Q_B, Q_C1, Q_E1, Q_C2, Q_E2, Q_C3, Q_E3, Q_D, Q_X2_, Q_X5_, Q_X7_, Q_X8_, Q_X9_⟩ hb_ hon hoff
      refine ⟨_, rfl, fun K hK => ?_⟩
      have e5 : a.tmps[5]? = some (.pointer (some ⟨g5, 0, none⟩)) := by rw [ha]; exact (putSel_off rfl).trans rfl
      replace ha := Aside0.mk ha
      have B := Aside0.mk Q_B
      refine value_ (w1 := w') (v := .agg #[.int .u16 up.f0, .slice A1 up.f1.length c1]) (by rfl) rfl (exec_load_row 36 (.tmp 5) rfl (eval_of e5) (blk_below HK5.out B.out) Try.underlying36 rfl (by kernel_rfl)) ?_
      refine hK.out _ _ ⟨A1_, c1_, A2_, c2_, A3_, c3_, g9, m2_, m5_, m7_, m8_, m9_, (by rw [ha.out]; exact putSel_upk 0 hb_ rfl rfl rfl), B.out, fun h0_ => (Q_C1 h0_), Q_E1, fun h0_ => (Q_C2 h0_), Q_E2, fun h0_ => (Q_C3 h0_), Q_E3, fun h0_ => absurd ((hoff 8 (by kernel_rfl)).symm.trans h0_) (by decide), Q_X2_, Q_X5_, Q_X7_, fun h0_ => absurd ((hoff 8 (by kernel_rfl)).symm.trans h0_) (by decide), fun h0_ => absurd ((hoff 9 (by kernel_rfl)).symm.trans h0_) (by decide)⟩
    refine steps_cons ?_ ?_
    · rintro b a w' ⟨A1_, c1_, A2_, c2_, A3_, c3_, g9, m2_, m5_, m7_, m8_, m9_, ha, Q_B, Q_C1, Q_E1, Q_C2, Q_E2, Q_C3, Q_E3, Q_D, Q_X2_, Q_X5_, Q_X7_, Q_X8_, Q_X9_⟩ hb_ hon hoff
      refine ⟨_, rfl, fun K hK => ?_⟩
      have e22 : a.tmps[22]? = some (.int .u32 n) := by rw [ha]; exact (putSel_off rfl).trans rfl
      replace ha := Aside0.mk ha
      have B := Aside0.mk Q_B
      refine goes_ Try.func17 (by kernel_rfl) rfl #[.int .u32 n] (by rfl) rfl rfl (by first | (simp only [List.map_toArray, List.map_cons, List.map_nil, Act.eval, Array.getD_eq_getD_getElem?, Option.getD_some, e22]; done) | (simp only [List.map_toArray, List.map_cons, List.map_nil, Act.eval, Array.getD_eq_getD_getElem?, Option.getD_some, e22]; rfl)) ?_
      refine (param_Stale.calls n _ _ w' hst).mono ?_
      rintro e w1 ⟨v, rfl, hR, hB1⟩; obtain ⟨A9, c9, rfl, hle9, hC9⟩ := Kd.R_reads hR
      refine ⟨_, rfl, ?_⟩
      refine hK.out _ _ ⟨A9, c9, A2_, c2_, A3_, c3_, g9, (.agg #[.int .u16 3, .slice A9 (fourI n).length c9]), m5_, m7_, m8_, m9_, (by rw [ha.out]; exact putSel_upk 1 hb_ rfl rfl rfl), B.out.trans (hB1.mono B.out.size), fun _ => hC9, fun _ => hle9, fun h0_ => absurd ((hoff 5 (by kernel_rfl)).symm.trans h0_) (by decide), fun h0_ => absurd ((hoff 5 (by kernel_rfl)).symm.trans h0_) (by decide), fun h0_ => absurd ((hoff 7 (by kernel_rfl)).symm.trans h0_) (by decide), fun h0_ => absurd ((hoff 7 (by kernel_rfl)).symm.trans h0_) (by decide), fun h0_ => absurd ((hoff 8 (by kernel_rfl)).symm.trans h0_) (by decide), fun _ => rfl, fun h0_ => absurd ((hoff 5 (by kernel_rfl)).symm.trans h0_) (by decide), fun h0_ => absurd ((hoff 7 (by kernel_rfl)).symm.trans h0_) (by decide), fun h0_ => absurd ((hoff 8 (by kernel_rfl)).symm.trans h0_) (by decide), fun h0_ => absurd ((hoff 9 (by kernel_rfl)).symm.trans h0_) (by decide)⟩
    refine steps_cons ?_ ?_
    · rintro b a w' ⟨A1_, c1_, A2_, c2_, A3_, c3_, g9, m2_, m5_, m7_, m8_, m9_, ha, Q_B, Q_C1, Q_E1, Q_C2, Q_E2, Q_C3, Q_E3, Q_D, Q_X2_, Q_X5_, Q_X7_, Q_X8_, Q_X9_⟩ hb_ hon hoff
      refine ⟨_, rfl, fun K hK => ?_⟩
      have e24 : a.tmps[24]? = some (.int .u32 n) := by rw [ha]; exact (putSel_off rfl).trans rfl
      replace ha := Aside0.mk ha
      have B := Aside0.mk Q_B
      refine value_ (w1 := w') (v := .int .u16 (n % 65536)) (by rfl) rfl ?_ ?_
      · go_simp
        (try simp only [i64_w])
        try rfl
      refine hK.out _ _ ⟨A1_, c1_, A2_, c2_, A3_, c3_, g9, m2_, m5_, m7_, m8_, m9_, (by rw [ha.out]; exact putSel_upk 2 hb_ rfl rfl rfl), Q_B, Q_C1, Q_E1, fun h0_ => absurd ((hoff 5 (by kernel_rfl)).symm.trans h0_) (by decide), fun h0_ => absurd ((hoff 5 (by kernel_rfl)).symm.trans h0_) (by decide), fun h0_ => absurd ((hoff 7 (by kernel_rfl)).symm.trans h0_) (by decide), fun h0_ => absurd ((hoff 7 (by kernel_rfl)).symm.trans h0_) (by decide), fun h0_ => absurd ((hoff 8 (by kernel_rfl)).symm.trans h0_) (by decide), Q_X2_, fun h0_ => absurd ((hoff 5 (by kernel_rfl)).symm.trans h0_) (by decide), fun h0_ => absurd ((hoff 7 (by kernel_rfl)).symm.trans h0_) (by decide), fun h0_ => absurd ((hoff 8 (by kernel_rfl)).symm.trans h0_) (by decide), fun h0_ => absurd ((hoff 9 (by kernel_rfl)).symm.trans h0_) (by decide)⟩
    refine steps_cons ?_ ?_
    · rintro b a w' ⟨A1_, c1_, A2_, c2_, A3_, c3_, g9, m2_, m5_, m7_, m8_, m9_, ha, Q_B, Q_C1, Q_E1, Q_C2, Q_E2, Q_C3, Q_E3, Q_D, Q_X2_, Q_X5_, Q_X7_, Q_X8_, Q_X9_⟩ hb_ hon hoff
      refine ⟨_, rfl, fun K hK => ?_⟩
      have e25 : a.tmps[25]? = some (.int .u16 (n % 65536)) := by rw [ha]; exact putSel_on (e := (4, 25, .int .u16 (n % 65536))) 2 rfl rfl (hon 4 (by kernel_rfl)) rfl
      replace ha := Aside0.mk ha
      have B := Aside0.mk Q_B
      have C1 := Aside0.mk (Q_C1 (hon 2 (by kernel_rfl)))
      have E1 := Aside0.mk (Q_E1 (hon 2 (by kernel_rfl)))
      refine goes_ Try.func18 (by kernel_rfl) rfl #[.int .u16 (n % 65536)] (by rfl) rfl rfl (by first | (simp only [List.map_toArray, List.map_cons, List.map_nil, Act.eval, Array.getD_eq_getD_getElem?, Option.getD_some, e25]; done) | (simp only [List.map_toArray, List.map_cons, List.map_nil, Act.eval, Array.getD_eq_getD_getElem?, Option.getD_some, e25]; rfl)) ?_
      refine (param_Stream.calls (n % 65536) _ _ w' (stream_f _)).mono ?_
      rintro e w1 ⟨v, rfl, hR, hB1⟩; obtain ⟨A9, c9, rfl, hle9, hC9⟩ := Kd.R_reads hR
      refine ⟨_, rfl, ?_⟩
      refine hK.out _ _ ⟨A1_, c1_, A9, c9, A3_, c3_, g9, m2_, (.agg #[.int .u16 1, .slice A9 (strI (n % 65536)).length c9]), m7_, m8_, m9_, (by rw [ha.out]; exact putSel_upk 3 hb_ rfl rfl rfl), B.out.trans (hB1.mono B.out.size), fun _ => Kd.C_below C1.out hB1, Q_E1, fun _ => hC9, fun _ => hle9, fun h0_ => absurd ((hoff 7 (by kernel_rfl)).symm.trans h0_) (by decide), fun h0_ => absurd ((hoff 7 (by kernel_rfl)).symm.trans h0_) (by decide), fun h0_ => absurd ((hoff 8 (by kernel_rfl)).symm.trans h0_) (by decide), Q_X2_, fun _ => rfl, fun h0_ => absurd ((hoff 7 (by kernel_rfl)).symm.trans h0_) (by decide), fun h0_ => absurd ((hoff 8 (by kernel_rfl)).symm.trans h0_) (by decide), fun h0_ => absurd ((hoff 9 (by kernel_rfl)).symm.trans h0_) (by decide)⟩
    refine steps_cons ?_ ?_
    · rintro b a w' ⟨A1_, c1_, A2_, c2_, A3_, c3_, g9, m2_, m5_, m7_, m8_, m9_, ha, Q_B, Q_C1, Q_E1, Q_C2, Q_E2, Q_C3, Q_E3, Q_D, Q_X2_, Q_X5_, Q_X7_, Q_X8_, Q_X9_⟩ hb_ hon hoff
      refine ⟨_, rfl, fun K hK => ?_⟩
      have e27 : a.tmps[27]? = some (.int .u32 n) := by rw [ha]; exact (putSel_off rfl).trans rfl
      replace ha := Aside0.mk ha
      have B := Aside0.mk Q_B
      have C1 := Aside0.mk (Q_C1 (hon 2 (by kernel_rfl)))
      have E1 := Aside0.mk (Q_E1 (hon 2 (by kernel_rfl)))
      have C2 := Aside0.mk (Q_C2 (hon 5 (by kernel_rfl)))
      have E2 := Aside0.mk (Q_E2 (hon 5 (by kernel_rfl)))
      refine goes_ Try.func19 (by kernel_rfl) rfl #[.int .u32 n] (by rfl) rfl rfl (by first | (simp only [List.map_toArray, List.map_cons, List.map_nil, Act.eval, Array.getD_eq_getD_getElem?, Option.getD_some, e27]; done) | (simp only [List.map_toArray, List.map_cons, List.map_nil, Act.eval, Array.getD_eq_getD_getElem?, Option.getD_some, e27]; rfl)) ?_
      refine (param_NoData.calls n _ _ w' hnd).mono ?_
      rintro e w1 ⟨v, rfl, hR, hB1⟩; obtain ⟨A9, c9, rfl, hle9, hC9⟩ := Kd.R_reads hR
      refine ⟨_, rfl, ?_⟩
      refine hK.out _ _ ⟨A1_, c1_, A2_, c2_, A9, c9, g9, m2_, m5_, (.agg #[.int .u16 9, .slice A9 (fourI n).length c9]), m8_, m9_, (by rw [ha.out]; exact putSel_upk 4 hb_ rfl rfl rfl), B.out.trans (hB1.mono B.out.size), fun _ => Kd.C_below C1.out hB1, Q_E1, fun _ => Kd.C_below C2.out hB1, Q_E2, fun _ => hC9, fun _ => hle9, fun h0_ => absurd ((hoff 8 (by kernel_rfl)).symm.trans h0_) (by decide), Q_X2_, Q_X5_, fun _ => rfl, fun h0_ => absurd ((hoff 8 (by kernel_rfl)).symm.trans h0_) (by decide), fun h0_ => absurd ((hoff 9 (by kernel_rfl)).symm.trans h0_) (by decide)⟩
    refine steps_cons ?_ ?_
    · rintro b a w' ⟨A1_, c1_, A2_, c2_, A3_, c3_, g9, m2_, m5_, m7_, m8_, m9_, ha, Q_B, Q_C1, Q_E1, Q_C2, Q_E2, Q_C3, Q_E3, Q_D, Q_X2_, Q_X5_, Q_X7_, Q_X8_, Q_X9_⟩ hb_ hon hoff
      refine ⟨_, rfl, fun K hK => ?_⟩
      have e21 : a.tmps[21]? = some (.agg #[.int .u16 up.f0, .slice A1 up.f1.length c1]) := by rw [ha]; exact putSel_on (e := (0, 21, .agg #[.int .u16 up.f0, .slice A1 up.f1.length c1])) 0 rfl rfl (hon 0 (by kernel_rfl)) rfl
      have e23 : a.tmps[23]? = some (m2_) := by rw [ha]; exact putSel_on (e := (2, 23, m2_)) 1 rfl rfl (hon 2 (by kernel_rfl)) rfl
      rw [Q_X2_ (hon 2 (by kernel_rfl))] at e23
      have e26 : a.tmps[26]? = some (m5_) := by rw [ha]; exact putSel_on (e := (5, 26, m5_)) 3 rfl rfl (hon 5 (by kernel_rfl)) rfl
      rw [Q_X5_ (hon 5 (by kernel_rfl))] at e26
      have e28 : a.tmps[28]? = some (m7_) := by rw [ha]; exact putSel_on (e := (7, 28, m7_)) 4 rfl rfl (hon 7 (by kernel_rfl)) rfl
      rw [Q_X7_ (hon 7 (by kernel_rfl))] at e28
      replace ha := Aside0.mk ha
      have B := Aside0.mk Q_B
      have C1 := Aside0.mk (Q_C1 (hon 2 (by kernel_rfl)))
      have E1 := Aside0.mk (Q_E1 (hon 2 (by kernel_rfl)))
      have C2 := Aside0.mk (Q_C2 (hon 5 (by kernel_rfl)))
      have E2 := Aside0.mk (Q_E2 (hon 5 (by kernel_rfl)))
      have C3 := Aside0.mk (Q_C3 (hon 7 (by kernel_rfl)))
      have E3 := Aside0.mk (Q_E3 (hon 7 (by kernel_rfl)))
      refine value_ (w1 := w'.alloc (.cells #[.int .u16 up.f0, .slice A1 up.f1.length c1, .int .u16 3, .slice A1_ (fourI n).length c1_, .int .u16 1, .slice A2_ (strI (n % 65536)).length c2_, .int .u16 9, .slice A3_ (fourI n).length c3_] 36)) (v := .slice (some ⟨w'.heap.size, 0, none⟩) 4 4) (by rfl) rfl (by go_simp; try rfl) ?_
      refine hK.out _ _ ⟨A1_, c1_, A2_, c2_, A3_, c3_, w'.heap.size, m2_, m5_, m7_, (.slice (some ⟨w'.heap.size, 0, none⟩) 4 4), m9_, (by rw [ha.out]; exact putSel_upk 5 hb_ rfl rfl rfl), B.out.alloc B.out.size _, fun _ => Kd.C_alloc C1.out _, Q_E1, fun _ => Kd.C_alloc C2.out _, Q_E2, fun _ => Kd.C_alloc C3.out _, Q_E3, fun _ => quad_C HC1l.out (Kd.C_below HC1.out B.out) E1.out C1.out E2.out C2.out E3.out C3.out, Q_X2_, Q_X5_, Q_X7_, fun _ => rfl, fun h0_ => absurd ((hoff 9 (by kernel_rfl)).symm.trans h0_) (by decide)⟩
    refine steps_cons ?_ ?_
    · rintro b a w' ⟨A1_, c1_, A2_, c2_, A3_, c3_, g9, m2_, m5_, m7_, m8_, m9_, ha, Q_B, Q_C1, Q_E1, Q_C2, Q_E2, Q_C3, Q_E3, Q_D, Q_X2_, Q_X5_, Q_X7_, Q_X8_, Q_X9_⟩ hb_ hon hoff
      refine ⟨_, rfl, fun K hK => ?_⟩
      have e29 : a.tmps[29]? = some (m8_) := by rw [ha]; exact putSel_on (e := (8, 29, m8_)) 5 rfl rfl (hon 8 (by kernel_rfl)) rfl
      rw [Q_X8_ (hon 8 (by kernel_rfl))] at e29
      replace ha := Aside0.mk ha
      have B := Aside0.mk Q_B
      have C1 := Aside0.mk (Q_C1 (hon 2 (by kernel_rfl)))
      have E1 := Aside0.mk (Q_E1 (hon 2 (by kernel_rfl)))
      have C2 := Aside0.mk (Q_C2 (hon 5 (by kernel_rfl)))
      have E2 := Aside0.mk (Q_E2 (hon 5 (by kernel_rfl)))
      have C3 := Aside0.mk (Q_C3 (hon 7 (by kernel_rfl)))
      have E3 := Aside0.mk (Q_E3 (hon 7 (by kernel_rfl)))
      have D := Aside0.mk (Q_D (hon 8 (by kernel_rfl)))
      refine value_ (w1 := w') (v := .slice (some ⟨g9, 0, none⟩) 4 4) (by rfl) rfl ?_ ?_
      · go_simp
        (try simp only [i64_w])
        try rfl
      refine hK.out _ _ ⟨A1_, c1_, A2_, c2_, A3_, c3_, g9, m2_, m5_, m7_, m8_, (.slice (some ⟨g9, 0, none⟩) 4 4), (by rw [ha.out]; exact putSel_upk 6 hb_ rfl rfl rfl), Q_B, Q_C1, Q_E1, Q_C2, Q_E2, Q_C3, Q_E3, Q_D, Q_X2_, Q_X5_, Q_X7_, Q_X8_, fun _ => rfl⟩
    exact steps_nil
  rintro b a w' hall ⟨A1_, c1_, A2_, c2_, A3_, c3_, g9, m2_, m5_, m7_, m8_, m9_, ha, Q_B, Q_C1, Q_E1, Q_C2, Q_E2, Q_C3, Q_E3, Q_D, Q_X2_, Q_X5_, Q_X7_, Q_X8_, Q_X9_⟩
  clear B
  have hb0_ := hall 0 (by kernel_rfl)
  have hb2_ := hall 2 (by kernel_rfl)
  have hb4_ := hall 4 (by kernel_rfl)
  have hb5_ := hall 5 (by kernel_rfl)
  have hb7_ := hall 7 (by kernel_rfl)
  have hb8_ := hall 8 (by kernel_rfl)
  have hb9_ := hall 9 (by kernel_rfl)
  subst ha
  obtain rfl := Q_X2_ hb2_
  obtain rfl := Q_X5_ hb5_
  obtain rfl := Q_X7_ hb7_
  obtain rfl := Q_X8_ hb8_
  obtain rfl := Q_X9_ hb9_
  simp only [putSel, hb0_, hb2_, hb4_, hb5_, hb7_, hb8_, hb9_, if_true, Act.put, List.setIfInBounds_toArray, List.set_cons_zero, List.set_cons_succ]
  have B := Aside0.mk Q_B
  clear Q_B
  have C1 := Aside0.mk (Q_C1 hb2_)
  clear Q_C1
  have E1 := Aside0.mk (Q_E1 hb2_)
  clear Q_E1
  have C2 := Aside0.mk (Q_C2 hb5_)
  clear Q_C2
  have E2 := Aside0.mk (Q_E2 hb5_)
  clear Q_E2
  have C3 := Aside0.mk (Q_C3 hb7_)
  clear Q_C3
  have E3 := Aside0.mk (Q_E3 hb7_)
  clear Q_E3
  have D := Aside0.mk (Q_D hb8_)
  clear Q_D
  clear hall hb0_ hb2_ hb4_ hb5_ hb7_ hb8_ hb9_
  have HD1 := Lib.hid D.out
  have HW1 := Lib.hid B.out
  clear B D C1 C2 C3 E1 E2 E3
  generalize w' = W1 at *
  generalize g9 = gx at *
  have HK7b := Lib.hid (blk_below HK7.out HW1.out)
  have HC2b := Lib.hid (Kd.C_below HC2.out HW1.out)
  have HC2bl := HC2l
  go_upto_region 4 with (fail)
  have B := True.intro
  refine start_ (n := 10) (S := fun w' => True) (ds := []) #[false, false, false, false, false, false, false, false, false, false] (by kernel_rfl) rfl rfl trivial (fun hHeld => ?_)
  refine with_tabW causestab4 causesbits4 (fun HT_ HW_ => ?_)
  refine pure_ (i := 1) (N := some 31) (v := ?_) (a' := ?_) #[false, true, false, false, false, false, false, false, false, false] rfl rfl (any_of HT_.out (by kernel_rfl)) (fun _ _ _ h => h) (Or.inl ⟨by rfl, ?_⟩) ?_ ?_
  rotate_left
  · intro w'
    go_simp
    with_reducible rfl
  rotate_left
  · simp only [Act.put, List.setIfInBounds_toArray, List.set_cons_zero, List.set_cons_succ, i64_w, i32_w]
    rfl
  refine pure_ (i := 3) (N := some 33) (v := ?_) (a' := ?_) #[false, true, false, true, false, false, false, false, false, false] rfl rfl (any_of HT_.out (by kernel_rfl)) (fun _ _ _ h => h) (Or.inl ⟨by rfl, ?_⟩) ?_ ?_
  rotate_left
  · intro w'
    go_simp
    with_reducible rfl
  rotate_left
  · simp only [Act.put, List.setIfInBounds_toArray, List.set_cons_zero, List.set_cons_succ, i64_w, i32_w]
    rfl
  refine pure_ (i := 6) (N := some 36) (v := ?_) (a' := ?_) #[false, true, false, true, false, false, true, false, false, false] rfl rfl (any_of HT_.out (by kernel_rfl)) (fun _ _ _ h => h) (Or.inl ⟨by rfl, ?_⟩) ?_ ?_
  rotate_left
  · intro w'
    go_simp
    with_reducible rfl
  rotate_left
  · simp only [Act.put, List.setIfInBounds_toArray, List.set_cons_zero, List.set_cons_succ, i64_w, i32_w]
    rfl
  refine inv_at [0, 2, 4, 5, 7, 8, 9] (fun a0_ b a w' => ∃ (A1_ : Option Addr) (c1_ : Nat) (A2_ : Option Addr) (c2_ : Nat) (A3_ : Option Addr) (c3_ : Nat) (g9 : Nat) (m2_ : Value) (m5_ : Value) (m7_ : Value) (m8_ : Value) (m9_ : Value), a = putSel a0_ b [(0, 30, .agg #[.int .u16 up.f0, .slice A2 up.f1.length c2]), (2, 32, m2_), (4, 34, .int .u16 (n % 65536)), (5, 35, m5_), (7, 37, m7_), (8, 38, m8_), (9, 10, m9_)] ∧ (Below W1.heap.size W1 w') ∧ (b 2 = true → (Kd.int .u8).C w' A1_ (fourI n).length (fourI n)) ∧ (b 2 = true → (fourI n).length ≤ c1_) ∧ (b 5 = true → (Kd.int .u8).C w' A2_ (strI (n % 65536)).length (strI (n % 65536))) ∧ (b 5 = true → (strI (n % 65536)).length ≤ c2_) ∧ (b 7 = true → (Kd.int .u8).C w' A3_ (fourI n).length (fourI n)) ∧ (b 7 = true → (fourI n).length ≤ c3_) ∧ (b 8 = true → Kd.C k36 w' (some ⟨g9, 0, none⟩) 4 [up, (⟨3, fourI n⟩ : S36), (⟨1, strI (n % 65536)⟩ : S36), (⟨9, fourI n⟩ : S36)]) ∧ (b 2 = true → (m2_ : Value) = .agg #[.int .u16 3, .slice A1_ (fourI n).length c1_]) ∧ (b 5 = true → (m5_ : Value) = .agg #[.int .u16 1, .slice A2_ (strI (n % 65536)).length c2_]) ∧ (b 7 = true → (m7_ : Value) = .agg #[.int .u16 9, .slice A3_ (fourI n).length c3_]) ∧ (b 8 = true → (m8_ : Value) = .slice (some ⟨g9, 0, none⟩) 4 4) ∧ (b 9 = true → (m9_ : Value) = .slice (some ⟨g9, 0, none⟩) 4 4)) HT_.out HW_.out (by kernel_rfl) (by kernel_rfl) ?_ ?_ ?_
  · exact ⟨none, 0, none, 0, none, 0, 0, .bool false, .bool false, .bool false, .bool false, .bool false, by simp only [putSel, Bool.false_eq_true, if_false], below_drew (Below.refl _ _), fun h_ => absurd h_ (by decide), fun h_ => absurd h_ (by decide), fun h_ => absurd h_ (by decide), fun h_ => absurd h_ (by decide), fun h_ => absurd h_ (by decide), fun h_ => absurd h_ (by decide), fun h_ => absurd h_ (by decide), fun h_ => absurd h_ (by decide), fun h_ => absurd h_ (by decide), fun h_ => absurd h_ (by decide), fun h_ => absurd h_ (by decide), fun h_ => absurd h_ (by decide)⟩
  · skip
    clear B
    refine steps_cons ?_ ?_
    · rintro b a w' ⟨A1_, c1_, A2_, c2_, A3_, c3_, g9, m2_, m5_, m7_, m8_, m9_, ha, Q_B, Q_C1, Q_E1, Q_C2, Q_E2, Q_C3, Q_E3, Q_D, Q_X2_, Q_X5_, Q_X7_, Q_X8_, Q_X9_⟩ hb_ hon hoff
      refine ⟨_, rfl, fun K hK => ?_⟩
      have e7 : a.tmps[7]? = some (.pointer (some ⟨g7, 0, none⟩)) := by rw [ha]; exact (putSel_off rfl).trans rfl
      replace ha := Aside0.mk ha
      have B := Aside0.mk Q_B
      refine value_ (w1 := w') (v := .agg #[.int .u16 up.f0, .slice A2 up.f1.length c2]) (by rfl) rfl (exec_load_row 36 (.tmp 7) rfl (eval_of e7) (blk_below HK7b.out B.out) Try.underlying36 rfl (by kernel_rfl)) ?_
      refine hK.out _ _ ⟨A1_, c1_, A2_, c2_, A3_, c3_, g9, m2_, m5_, m7_, m8_, m9_, (by rw [ha.out]; exact putSel_upk 0 hb_ rfl rfl rfl), B.out, fun h0_ => (Q_C1 h0_), Q_E1, fun h0_ => (Q_C2 h0_), Q_E2, fun h0_ => (Q_C3 h0_), Q_E3, fun h0_ => absurd ((hoff 8 (by kernel_rfl)).symm.trans h0_) (by decide), Q_X2_, Q_X5_, Q_X7_, fun h0_ => absurd ((hoff 8 (by kernel_rfl)).symm.trans h0_) (by decide), fun h0_ => absurd ((hoff 9 (by kernel_rfl)).symm.trans h0_) (by decide)⟩
    refine steps_cons ?_ ?_
    · rintro b a w' ⟨A1_, c1_, A2_, c2_, A3_, c3_, g9, m2_, m5_, m7_, m8_, m9_, ha, Q_B, Q_C1, Q_E1, Q_C2, Q_E2, Q_C3, Q_E3, Q_D, Q_X2_, Q_X5_, Q_X7_, Q_X8_, Q_X9_⟩ hb_ hon hoff
      refine ⟨_, rfl, fun K hK => ?_⟩
      have e31 : a.tmps[31]? = some (.int .u32 n) := by rw [ha]; exact (putSel_off rfl).trans rfl
      replace ha := Aside0.mk ha
      have B := Aside0.mk Q_B
      refine goes_ Try.func20 (by kernel_rfl) rfl #[.int .u32 n] (by rfl) rfl rfl (by first | (simp only [List.map_toArray, List.map_cons, List.map_nil, Act.eval, Array.getD_eq_getD_getElem?, Option.getD_some, e31]; done) | (simp only [List.map_toArray, List.map_cons, List.map_nil, Act.eval, Array.getD_eq_getD_getElem?, Option.getD_some, e31]; rfl)) ?_
      refine (ropewalkref05_Stale.calls n _ _ w' (refStale_f n)).mono ?_
      rintro e w1 ⟨v, rfl, hR, hB1⟩; obtain ⟨A9, c9, rfl, hle9, hC9⟩ := Kd.R_reads hR
      refine ⟨_, rfl, ?_⟩
      refine hK.out _ _ ⟨A9, c9, A2_, c2_, A3_, c3_, g9, (.agg #[.int .u16 3, .slice A9 (fourI n).length c9]), m5_, m7_, m8_, m9_, (by rw [ha.out]; exact putSel_upk 1 hb_ rfl rfl rfl), B.out.trans (hB1.mono B.out.size), fun _ => hC9, fun _ => hle9, fun h0_ => absurd ((hoff 5 (by kernel_rfl)).symm.trans h0_) (by decide), fun h0_ => absurd ((hoff 5 (by kernel_rfl)).symm.trans h0_) (by decide), fun h0_ => absurd ((hoff 7 (by kernel_rfl)).symm.trans h0_) (by decide), fun h0_ => absurd ((hoff 7 (by kernel_rfl)).symm.trans h0_) (by decide), fun h0_ => absurd ((hoff 8 (by kernel_rfl)).symm.trans h0_) (by decide), fun _ => rfl, fun h0_ => absurd ((hoff 5 (by kernel_rfl)).symm.trans h0_) (by decide), fun h0_ => absurd ((hoff 7 (by kernel_rfl)).symm.trans h0_) (by decide), fun h0_ => absurd ((hoff 8 (by kernel_rfl)).symm.trans h0_) (by decide), fun h0_ => absurd ((hoff 9 (by kernel_rfl)).symm.trans h0_) (by decide)⟩
    refine steps_cons ?_ ?_
    · rintro b a w' ⟨A1_, c1_, A2_, c2_, A3_, c3_, g9, m2_, m5_, m7_, m8_, m9_, ha, Q_B, Q_C1, Q_E1, Q_C2, Q_E2, Q_C3, Q_E3, Q_D, Q_X2_, Q_X5_, Q_X7_, Q_X8_, Q_X9_⟩ hb_ hon hoff
      refine ⟨_, rfl, fun K hK => ?_⟩
      have e33 : a.tmps[33]? = some (.int .u32 n) := by rw [ha]; exact (putSel_off rfl).trans rfl
      replace ha := Aside0.mk ha
      have B := Aside0.mk Q_B
      refine value_ (w1 := w') (v := .int .u16 (n % 65536)) (by rfl) rfl ?_ ?_
      · go_simp
        (try simp only [i64_w])
        try rfl
      refine hK.out _ _ ⟨A1_, c1_, A2_, c2_, A3_, c3_, g9, m2_, m5_, m7_, m8_, m9_, (by rw [ha.out]; exact putSel_upk 2 hb_ rfl rfl rfl), Q_B, Q_C1, Q_E1, fun h0_ => absurd ((hoff 5 (by kernel_rfl)).symm.trans h0_) (by decide), fun h0_ => absurd ((hoff 5 (by kernel_rfl)).symm.trans h0_) (by decide), fun h0_ => absurd ((hoff 7 (by kernel_rfl)).symm.trans h0_) (by decide), fun h0_ => absurd ((hoff 7 (by kernel_rfl)).symm.trans h0_) (by decide), fun h0_ => absurd ((hoff 8 (by kernel_rfl)).symm.trans h0_) (by decide), Q_X2_, fun h0_ => absurd ((hoff 5 (by kernel_rfl)).symm.trans h0_) (by decide), fun h0_ => absurd ((hoff 7 (by kernel_rfl)).symm.trans h0_) (by decide), fun h0_ => absurd ((hoff 8 (by kernel_rfl)).symm.trans h0_) (by decide), fun h0_ => absurd ((hoff 9 (by kernel_rfl)).symm.trans h0_) (by decide)⟩
    refine steps_cons ?_ ?_
    · rintro b a w' ⟨A1_, c1_, A2_, c2_, A3_, c3_, g9, m2_, m5_, m7_, m8_, m9_, ha, Q_B, Q_C1, Q_E1, Q_C2, Q_E2, Q_C3, Q_E3, Q_D, Q_X2_, Q_X5_, Q_X7_, Q_X8_, Q_X9_⟩ hb_ hon hoff
      refine ⟨_, rfl, fun K hK => ?_⟩
      have e34 : a.tmps[34]? = some (.int .u16 (n % 65536)) := by rw [ha]; exact putSel_on (e := (4, 34, .int .u16 (n % 65536))) 2 rfl rfl (hon 4 (by kernel_rfl)) rfl
      replace ha := Aside0.mk ha
      have B := Aside0.mk Q_B
      have C1 := Aside0.mk (Q_C1 (hon 2 (by kernel_rfl)))
      have E1 := Aside0.mk (Q_E1 (hon 2 (by kernel_rfl)))
      refine goes_ Try.func21 (by kernel_rfl) rfl #[.int .u16 (n % 65536)] (by rfl) rfl rfl (by first | (simp only [List.map_toArray, List.map_cons, List.map_nil, Act.eval, Array.getD_eq_getD_getElem?, Option.getD_some, e34]; done) | (simp only [List.map_toArray, List.map_cons, List.map_nil, Act.eval, Array.getD_eq_getD_getElem?, Option.getD_some, e34]; rfl)) ?_
      refine (ropewalkref05_Stream.calls (n % 65536) _ _ w' (refStream_f _)).mono ?_
      rintro e w1 ⟨v, rfl, hR, hB1⟩; obtain ⟨A9, c9, rfl, hle9, hC9⟩ := Kd.R_reads hR
      refine ⟨_, rfl, ?_⟩
      refine hK.out _ _ ⟨A1_, c1_, A9, c9, A3_, c3_, g9, m2_, (.agg #[.int .u16 1, .slice A9 (strI (n % 65536)).length c9]), m7_, m8_, m9_, (by rw [ha.out]; exact putSel_upk 3 hb_ rfl rfl rfl), B.out.trans (hB1.mono B.out.size), fun _ => Kd.C_below C1.out hB1, Q_E1, fun _ => hC9, fun _ => hle9, fun h0_ => absurd ((hoff 7 (by kernel_rfl)).symm.trans h0_) (by decide), fun h0_ => absurd ((hoff 7 (by kernel_rfl)).symm.trans h0_) (by decide), fun h0_ => absurd ((hoff 8 (by kernel_rfl)).symm.trans h0_) (by decide), Q_X2_, fun _ => rfl, fun h0_ => absurd ((hoff 7 (by kernel_rfl)).symm.trans h0_) (by decide), fun h0_ => absurd ((hoff 8 (by kernel_rfl)).symm.trans h0_) (by decide), fun h0_ => absurd ((hoff 9 (by kernel_rfl)).symm.trans h0_) (by decide)⟩
    refine steps_cons ?_ ?_
    · rintro b a w' ⟨A1_, c1_, A2_, c2_, A3_, c3_, g9, m2_, m5_, m7_, m8_, m9_, ha, Q_B, Q_C1, Q_E1, Q_C2, Q_E2, Q_C3, Q_E3, Q_D, Q_X2_, Q_X5_, Q_X7_, Q_X8_, Q_X9_⟩ hb_ hon hoff
      refine ⟨_, rfl, fun K hK => ?_⟩
      have e36 : a.tmps[36]? = some (.int .u32 n) := by rw [ha]; exact (putSel_off rfl).trans rfl
      replace ha := Aside0.mk ha
      have B := Aside0.mk Q_B
      have C1 := Aside0.mk (Q_C1 (hon 2 (by kernel_rfl)))
      have E1 := Aside0.mk (Q_E1 (hon 2 (by kernel_rfl)))
      have C2 := Aside0.mk (Q_C2 (hon 5 (by kernel_rfl)))
      have E2 := Aside0.mk (Q_E2 (hon 5 (by kernel_rfl)))
      refine goes_ Try.func22 (by kernel_rfl) rfl #[.int .u32 n] (by rfl) rfl rfl (by first | (simp only [List.map_toArray, List.map_cons, List.map_nil, Act.eval, Array.getD_eq_getD_getElem?, Option.getD_some, e36]; done) | (simp only [List.map_toArray, List.map_cons, List.map_nil, Act.eval, Array.getD_eq_getD_getElem?, Option.getD_some, e36]; rfl)) ?_
      refine (ropewalkref05_NoData.calls n _ _ w' (refNoData_f n)).mono ?_
      rintro e w1 ⟨v, rfl, hR, hB1⟩; obtain ⟨A9, c9, rfl, hle9, hC9⟩ := Kd.R_reads hR
      refine ⟨_, rfl, ?_⟩
      refine hK.out _ _ ⟨A1_, c1_, A2_, c2_, A9, c9, g9, m2_, m5_, (.agg #[.int .u16 9, .slice A9 (fourI n).length c9]), m8_, m9_, (by rw [ha.out]; exact putSel_upk 4 hb_ rfl rfl rfl), B.out.trans (hB1.mono B.out.size), fun _ => Kd.C_below C1.out hB1, Q_E1, fun _ => Kd.C_below C2.out hB1, Q_E2, fun _ => hC9, fun _ => hle9, fun h0_ => absurd ((hoff 8 (by kernel_rfl)).symm.trans h0_) (by decide), Q_X2_, Q_X5_, fun _ => rfl, fun h0_ => absurd ((hoff 8 (by kernel_rfl)).symm.trans h0_) (by decide), fun h0_ => absurd ((hoff 9 (by kernel_rfl)).symm.trans h0_) (by decide)⟩
    refine steps_cons ?_ ?_
    · rintro b a w' ⟨A1_, c1_, A2_, c2_, A3_, c3_, g9, m2_, m5_, m7_, m8_, m9_, ha, Q_B, Q_C1, Q_E1, Q_C2, Q_E2, Q_C3, Q_E3, Q_D, Q_X2_, Q_X5_, Q_X7_, Q_X8_, Q_X9_⟩ hb_ hon hoff
      refine ⟨_, rfl, fun K hK => ?_⟩
      have e30 : a.tmps[30]? = some (.agg #[.int .u16 up.f0, .slice A2 up.f1.length c2]) := by rw [ha]; exact putSel_on (e := (0, 30, .agg #[.int .u16 up.f0, .slice A2 up.f1.length c2])) 0 rfl rfl (hon 0 (by kernel_rfl)) rfl
      have e32 : a.tmps[32]? = some (m2_) := by rw [ha]; exact putSel_on (e := (2, 32, m2_)) 1 rfl rfl (hon 2 (by kernel_rfl)) rfl
      rw [Q_X2_ (hon 2 (by kernel_rfl))] at e32
      have e35 : a.tmps[35]? = some (m5_) := by rw [ha]; exact putSel_on (e := (5, 35, m5_)) 3 rfl rfl (hon 5 (by kernel_rfl)) rfl
      rw [Q_X5_ (hon 5 (by kernel_rfl))] at e35
      have e37 : a.tmps[37]? = some (m7_) := by rw [ha]; exact putSel_on (e := (7, 37, m7_)) 4 rfl rfl (hon 7 (by kernel_rfl)) rfl
      rw [Q_X7_ (hon 7 (by kernel_rfl))] at e37
      replace ha := Aside0.mk ha
      have B := Aside0.mk Q_B
      have C1 := Aside0.mk (Q_C1 (hon 2 (by kernel_rfl)))
      have E1 := Aside0.mk (Q_E1 (hon 2 (by kernel_rfl)))
      have C2 := Aside0.mk (Q_C2 (hon 5 (by kernel_rfl)))
      have E2 := Aside0.mk (Q_E2 (hon 5 (by kernel_rfl)))
      have C3 := Aside0.mk (Q_C3 (hon 7 (by kernel_rfl)))
      have E3 := Aside0.mk (Q_E3 (hon 7 (by kernel_rfl)))
      refine value_ (w1 := w'.alloc (.cells #[.int .u16 up.f0, .slice A2 up.f1.length c2, .int .u16 3, .slice A1_ (fourI n).length c1_, .int .u16 1, .slice A2_ (strI (n % 65536)).length c2_, .int .u16 9, .slice A3_ (fourI n).length c3_] 36)) (v := .slice (some ⟨w'.heap.size, 0, none⟩) 4 4) (by rfl) rfl (by go_simp; try rfl) ?_
      refine hK.out _ _ ⟨A1_, c1_, A2_, c2_, A3_, c3_, w'.heap.size, m2_, m5_, m7_, (.slice (some ⟨w'.heap.size, 0, none⟩) 4 4), m9_, (by rw [ha.out]; exact putSel_upk 5 hb_ rfl rfl rfl), B.out.alloc B.out.size _, fun _ => Kd.C_alloc C1.out _, Q_E1, fun _ => Kd.C_alloc C2.out _, Q_E2, fun _ => Kd.C_alloc C3.out _, Q_E3, fun _ => quad_C HC2bl.out (Kd.C_below HC2b.out B.out) E1.out C1.out E2.out C2.out E3.out C3.out, Q_X2_, Q_X5_, Q_X7_, fun _ => rfl, fun h0_ => absurd ((hoff 9 (by kernel_rfl)).symm.trans h0_) (by decide)⟩
    refine steps_cons ?_ ?_
    · rintro b a w' ⟨A1_, c1_, A2_, c2_, A3_, c3_, g9, m2_, m5_, m7_, m8_, m9_, ha, Q_B, Q_C1, Q_E1, Q_C2, Q_E2, Q_C3, Q_E3, Q_D, Q_X2_, Q_X5_, Q_X7_, Q_X8_, Q_X9_⟩ hb_ hon hoff
      refine ⟨_, rfl, fun K hK => ?_⟩
      have e38 : a.tmps[38]? = some (m8_) := by rw [ha]; exact putSel_on (e := (8, 38, m8_)) 5 rfl rfl (hon 8 (by kernel_rfl)) rfl
      rw [Q_X8_ (hon 8 (by kernel_rfl))] at e38
      replace ha := Aside0.mk ha
      have B := Aside0.mk Q_B
      have C1 := Aside0.mk (Q_C1 (hon 2 (by kernel_rfl)))
      have E1 := Aside0.mk (Q_E1 (hon 2 (by kernel_rfl)))
      have C2 := Aside0.mk (Q_C2 (hon 5 (by kernel_rfl)))
      have E2 := Aside0.mk (Q_E2 (hon 5 (by kernel_rfl)))
      have C3 := Aside0.mk (Q_C3 (hon 7 (by kernel_rfl)))
      have E3 := Aside0.mk (Q_E3 (hon 7 (by kernel_rfl)))
      have D := Aside0.mk (Q_D (hon 8 (by kernel_rfl)))
      refine value_ (w1 := w') (v := .slice (some ⟨g9, 0, none⟩) 4 4) (by rfl) rfl ?_ ?_
      · go_simp
        (try simp only [i64_w])
        try rfl
      refine hK.out _ _ ⟨A1_, c1_, A2_, c2_, A3_, c3_, g9, m2_, m5_, m7_, m8_, (.slice (some ⟨g9, 0, none⟩) 4 4), (by rw [ha.out]; exact putSel_upk 6 hb_ rfl rfl rfl), Q_B, Q_C1, Q_E1, Q_C2, Q_E2, Q_C3, Q_E3, Q_D, Q_X2_, Q_X5_, Q_X7_, Q_X8_, fun _ => rfl⟩
    exact steps_nil
  rintro b a w' hall ⟨A1_, c1_, A2_, c2_, A3_, c3_, g9, m2_, m5_, m7_, m8_, m9_, ha, Q_B, Q_C1, Q_E1, Q_C2, Q_E2, Q_C3, Q_E3, Q_D, Q_X2_, Q_X5_, Q_X7_, Q_X8_, Q_X9_⟩
  clear B
  have hb0_ := hall 0 (by kernel_rfl)
  have hb2_ := hall 2 (by kernel_rfl)
  have hb4_ := hall 4 (by kernel_rfl)
  have hb5_ := hall 5 (by kernel_rfl)
  have hb7_ := hall 7 (by kernel_rfl)
  have hb8_ := hall 8 (by kernel_rfl)
  have hb9_ := hall 9 (by kernel_rfl)
  subst ha
  obtain rfl := Q_X2_ hb2_
  obtain rfl := Q_X5_ hb5_
  obtain rfl := Q_X7_ hb7_
  obtain rfl := Q_X8_ hb8_
  obtain rfl := Q_X9_ hb9_
  simp only [putSel, hb0_, hb2_, hb4_, hb5_, hb7_, hb8_, hb9_, if_true, Act.put, List.setIfInBounds_toArray, List.set_cons_zero, List.set_cons_succ]
  have B := Aside0.mk Q_B
  clear Q_B
  have C1 := Aside0.mk (Q_C1 hb2_)
  clear Q_C1
  have E1 := Aside0.mk (Q_E1 hb2_)
  clear Q_E1
  have C2 := Aside0.mk (Q_C2 hb5_)
  clear Q_C2
  have E2 := Aside0.mk (Q_E2 hb5_)
  clear Q_E2
  have C3 := Aside0.mk (Q_C3 hb7_)
  clear Q_C3
  have E3 := Aside0.mk (Q_E3 hb7_)
  clear Q_E3
  have D := Aside0.mk (Q_D hb8_)
  clear Q_D
  clear hall hb0_ hb2_ hb4_ hb5_ hb7_ hb8_ hb9_
  have hsame := refSame_calls w' (some ⟨gx, 0, none⟩) 4 [up, (⟨3, fourI n⟩ : S36), (⟨1, strI (n % 65536)⟩ : S36), (⟨9, fourI n⟩ : S36)] (some ⟨g9, 0, none⟩) 4 [up, (⟨3, fourI n⟩ : S36), (⟨1, strI (n % 65536)⟩ : S36), (⟨9, fourI n⟩ : S36)] (Kd.C_below HD1.out B.out) D.out
  rw [sameP_refl] at hsame
  have HSM := Lib.hid hsame
  have HB4 := Lib.hid (HB3.out.trans ((HW1.out.trans (B.out.mono HW1.out.size)).mono HB3.out.size))
  clear hsame B D C1 C2 C3 E1 E2 E3
  go_wp2_with fail
  refine HSM.out.mono ?_
  rintro e w8 ⟨rfl, ⟨m8, rfl⟩⟩
  go_wp2_with fail
  refine (alive_calls _).mono ?_
  rintro e w9 ⟨rfl, hB9⟩
  go_wp2
  go_ret
  exact ⟨rfl, (pw_below_drewN HB4.out m8).trans (hB9.mono HB4.out.size)⟩
end Go.Proofs.Ytjlgddmcjccbeaa.ParCauses
