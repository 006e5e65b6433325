/- The statement CookieOwn, walked. -/
import Derived.Test.YthdemajmlidefaaCkP
namespace Go.Proofs.Ythdemajmlidefaa.Ck
open Go.RowKit Go.Proofs.YthdemajmlidefaaW.PrintWords Go.Proofs.YthdemajmlidefaaW.PrintLast Go.Proofs.Ythdemajmlidefaa.Base Go.Proofs.Ythdemajmlidefaa.Mac
set_option linter.unusedVariables false
set_option linter.unusedSimpArgs false
theorem chk_code (k l : List UInt8) (now : Int) : (chkA k l now).2.2 = 1 ∨ (chkA k l now).2.2 = 210 ∨ (lookB l = true ∧ sealOk k l = true ∧ ((chkA k l now).2.2 = 0 ∨ (chkA k l now).2.2 = 211)) := by
  unfold chkA
  cases ht : timeB now with
  | false => rw [if_pos rfl]; exact .inl rfl
  | true =>
    rw [if_neg (by decide)]
    cases h : lookB l with
    | false => rw [if_pos rfl]; exact .inr (.inl rfl)
    | true =>
      rw [if_neg (by decide)]
      unfold chkS
      cases hs : sealOk k l with
      | false => rw [if_pos rfl]; exact .inr (.inl rfl)
      | true =>
        rw [if_neg (by decide)]
        refine .inr (.inr ⟨rfl, rfl, ?_⟩)
        split
        · exact .inr rfl
        · exact .inl rfl
def cookieOwnT6 : Bool × List (List Nat × List Nat) := (true, [([], []), ([0], [0]), ([1], [1]), ([], []), ([], []), ([4], [4]), ([5], [5]), ([3, 6], [3, 6]), ([7, 7], [7]), ([8], [8]), ([2, 9], [2, 9]), ([10, 8], [10]), ([11, 11], [11]), ([11, 12], [11, 12]), ([13, 12, 0, 1, 2, 3, 4, 5, 6, 7, 8, 9, 10, 11, 12, 13], [13])])
def cookieOwnB6 : List Nat := [0, 1, 3, 0, 0, 16, 48, 120, 248, 504, 1023, 2047, 4095, 8191, 16383]
theorem cookieOwntab6 : Go.Proofs.YthdemajmlidefaaW.PrintLast.rtab .any (Go.Proofs.YthdemajmlidefaaW.PrintLast.opsOf Try.f7 6) = cookieOwnT6 := by kernel_rfl
theorem cookieOwnbits6 : Go.Proofs.YthdemajmlidefaaW.PrintLast.waitsOk cookieOwnT6.2 cookieOwnB6 = true := by kernel_rfl
set_option maxRecDepth 100000 in
set_option maxHeartbeats 1000000 in
theorem cookieOwn_good (k : List UInt8) (hk : k.length = 16) (now : Int) (w : World) (A : Option Addr) (c : Nat) (l : List UInt8) (hb : byte.C w A l.length l) (hc : l.length ≤ c) (h : lookB l = true) (hs : sealOk k l = true) (x : Nat → Nat) (t e : Int) (he : e = 0 ∨ e = 211)
    (h1 : ∀ w, byte.C w A l.length l → Calls Try.prog 11 #[.agg (keyV k), .int .i64 now, .slice A l.length c] w fun r w' => r = .returned (.tuple #[.agg #[.int .u16 (x 2 : Nat), .int .u16 (x 3 : Nat), .int .u32 (x 4 : Nat), .int .u32 (x 5 : Nat), .int .u32 (x 6 : Nat), .int .u32 (x 7 : Nat), .int .u32 (x 8 : Nat), .int .u16 (x 9 : Nat), .int .u16 (x 10 : Nat), .int .u32 (x 11 : Nat), .int .u32 (x 12 : Nat)], .int .i64 t, .int .i64 e]) ∧ Below w.heap.size w w') :
    Calls Try.prog 7 #[.agg (keyV k), .int .i64 now, .slice A l.length c] w fun e w' => e = .returned (.bool true) ∧ Below w.heap.size w w' := by
  obtain ⟨hl, _, _, _⟩ := of_decide_eq_true h
  have HK := Lib.hid (blk_new w (.cells (keyV k) 23))
  have HB := Lib.hid (below_alloc (Below.refl w.heap.size w) (.cells (keyV k) 23))
  have HKS := Lib.hid (key_size hk)
  have HLK := Lib.hid (fun (W : World) (hW : Below w.heap.size w W) => h1 W (Kd.C_below hb hW))
  obtain ⟨ht1, ht2, ht3⟩ := take_bytes hb hc 48 48 rfl (by omega)
  obtain ⟨A4, hd1, hd2, hd3⟩ := drop_bytes hb hc 48 48 rfl (by omega)
  have HSM := Lib.hid (fun (W : World) (A : Option Addr) (c : Nat) (h : bytesK.C W A [l.take 48].length [l.take 48]) => refSum_calls W k hk A c [l.take 48] h (row_len _ (by rw [List.length_take, hl]; rfl)))
  have HTX := Lib.hid (fun W : World => refText_calls W (sumS k [l.take 48]))
  have hse : l.drop 48 = textL (sumS k [l.take 48]) := of_decide_eq_true hs
  rw [hse] at hd1 hd2
  have hne : ((bstr (textL (sumS k [l.take 48]))).toList == (bstr (textL (sumS k [l.take 48]))).toList) = true := by simp
  have HNE := Lib.hid hne
  have g1 : (decide (e = 0) || decide (e = 211)) = true := by rcases he with rfl | rfl <;> rfl
  clear hne hse hs
  have HT2 := Lib.hid ht2
  have HD2 := Lib.hid hd2
  have HLE := Lib.hid ht3
  have HC := Lib.hid hb
  clear hb ht2 hd2 hd3 ht3 h h1
  generalize textL (sumS k [l.take 48]) = tx at *
  generalize ((sumS k [l.take 48]).toNat : Int) = sm at *
  generalize l.take 48 = lt at *
  generalize hN : l.length = N at *
  have hN56 : (N : Int) = 56 := by omega
  clear hN hl
  generalize keyV k = KV at *
  go_enter Try.func7, Try.ntmps7
  go_wp2_with (refine wpList_load_row rfl 23 _ rfl w.heap.size rfl 23 KV (0, 0) _ HK.out Try.underlying23 rfl HKS.out ?_)
  refine (HLK.out _ HB.out).mono ?_
  rintro e0 w1 ⟨rfl, hB1⟩
  have HK1 := Lib.hid (blk_below HK.out hB1)
  have HB1 := Lib.hid (below_then HB.out HB.out.size hB1)
  clear hB1 HLK g1
  rcases he with rfl | rfl
  all_goals
    go_upto_region 6 with (fail)
    have HBA := Lib.hid (HB1.out.alloc HB1.out.size (.cells #[.int .u16 (x 2 : Nat), .int .u16 (x 3 : Nat), .int .u32 (x 4 : Nat), .int .u32 (x 5 : Nat), .int .u32 (x 6 : Nat), .int .u32 (x 7 : Nat), .int .u32 (x 8 : Nat), .int .u16 (x 9 : Nat), .int .u16 (x 10 : Nat), .int .u32 (x 11 : Nat), .int .u32 (x 12 : Nat)] 27))
    have HLT := Lib.hid (Kd.C_below HT2.out HBA.out)
    have HLD := Lib.hid (Kd.C_below HD2.out HBA.out)
    replace HK := Lib.hid (blk_alloc HK1.out (.cells #[.int .u16 (x 2 : Nat), .int .u16 (x 3 : Nat), .int .u32 (x 4 : Nat), .int .u32 (x 5 : Nat), .int .u32 (x 6 : Nat), .int .u32 (x 7 : Nat), .int .u32 (x 8 : Nat), .int .u16 (x 9 : Nat), .int .u16 (x 10 : Nat), .int .u32 (x 11 : Nat), .int .u32 (x 12 : Nat)] 27))
    clear HK1 HB1 HB HT2 HD2
    generalize hg9 : w1.heap.size = gx at *
    revert HBA HLT HLD HK
    generalize w1.alloc (.cells #[.int .u16 (x 2 : Nat), .int .u16 (x 3 : Nat), .int .u32 (x 4 : Nat), .int .u32 (x 5 : Nat), .int .u32 (x 6 : Nat), .int .u32 (x 7 : Nat), .int .u32 (x 8 : Nat), .int .u16 (x 9 : Nat), .int .u16 (x 10 : Nat), .int .u32 (x 11 : Nat), .int .u32 (x 12 : Nat)] 27) = W
    intro HBA HLT HLD HK
    have B := True.intro
    refine start_ (n := 15) (S := fun w' => True) (ds := []) #[false, false, false, false, false, false, false, false, false, false, false, false, false, false, false] (by kernel_rfl) rfl rfl trivial (fun hHeld => ?_)
    refine with_tabW cookieOwntab6 cookieOwnbits6 (fun HT_ HW_ => ?_)
    refine pure_ (i := 0) (N := some 28) (v := ?_) (a' := ?_) #[true, false, false, false, false, false, false, false, false, false, false, false, false, false, false] rfl rfl (any_of HT_.out (by kernel_rfl)) (fun _ _ _ h => h) (Or.inl ⟨by rfl, ?_⟩) ?_ ?_
    rotate_left
    · intro w'
      go_simp
      with_reducible rfl
    rotate_left
    · simp only [Act.put, List.setIfInBounds_toArray, List.set_cons_zero, List.set_cons_succ, i64_w, i32_w]
      rfl
    refine pure_ (i := 4) (N := some 32) (v := ?_) (a' := ?_) #[true, false, false, false, true, false, false, false, false, false, false, false, false, false, false] rfl rfl (any_of HT_.out (by kernel_rfl)) (fun _ _ _ h => h) (Or.inl ⟨by rfl, ?_⟩) ?_ ?_
    rotate_left
    · intro w'
      go_simp
      with_reducible rfl
    rotate_left
    · simp only [Act.put, List.setIfInBounds_toArray, List.set_cons_zero, List.set_cons_succ, i64_w, i32_w]
      rfl
    refine inv_at [1, 2, 3, 5, 6, 7, 8, 9, 10, 11, 12, 13, 14] (fun a0_ b a w' => ∃ (g9 : Nat) (At : Option Addr) (ct : Nat) (m6_ : Value) (m8_ : Value), a = putSel a0_ b [(1, 29, .slice A4 tx.length (c - 48)), (2, 30, .string (bstr tx)), (3, 31, .agg KV), (5, 33, .slice A lt.length c), (6, 34, m6_), (7, 35, .int .u64 sm), (8, 36, m8_), (9, 37, .string (bstr tx)), (10, 38, .bool true), (11, 39, .bool true), (12, 40, .bool true), (13, 41, .bool true), (14, 6, .bool true)] ∧ (Below W.heap.size W w') ∧ (b 6 = true → bytesK.C w' (some ⟨g9, 0, none⟩) [lt].length [lt]) ∧ (b 8 = true → byte.C w' At tx.length tx) ∧ (b 6 = true → (m6_ : Value) = .slice (some ⟨g9, 0, none⟩) 1 1) ∧ (b 8 = true → (m8_ : Value) = .slice At tx.length ct)) HT_.out HW_.out (by kernel_rfl) (by kernel_rfl) ?_ ?_ ?_
    · exact ⟨0, none, 0, .bool false, .bool false, by simp only [putSel, Bool.false_eq_true, if_false], below_drew (Below.refl _ _), fun h_ => absurd h_ (by decide), fun h_ => absurd h_ (by decide), fun h_ => absurd h_ (by decide), fun h_ => absurd h_ (by decide)⟩
    · skip
      clear B
      refine steps_cons ?_ ?_
      · rintro b a w' ⟨g9, At, ct, m6_, m8_, ha, Q_B, Q_C, Q_X, Q_X6_, Q_X8_⟩ hb_ hon hoff
        refine ⟨_, rfl, fun K hK => ?_⟩
        have e28 : a.tmps[28]? = some (.slice A N c) := by rw [ha]; exact (putSel_off rfl).trans rfl
        replace ha := Aside0.mk ha
        have B := Aside0.mk Q_B
        refine value_ (w1 := w') (v := .slice A4 tx.length (c - 48)) (by rfl) rfl ?_ ?_
        · go_simp
          (try simp only [i64_w])
          try rfl
        refine hK.out _ _ ⟨g9, At, ct, m6_, m8_, (by rw [ha.out]; exact putSel_upk 0 hb_ rfl rfl rfl), Q_B, Q_C, Q_X, Q_X6_, Q_X8_⟩
      refine steps_cons ?_ ?_
      · rintro b a w' ⟨g9, At, ct, m6_, m8_, ha, Q_B, Q_C, Q_X, Q_X6_, Q_X8_⟩ hb_ hon hoff
        refine ⟨_, rfl, fun K hK => ?_⟩
        have e29 : a.tmps[29]? = some (.slice A4 tx.length (c - 48)) := by rw [ha]; exact putSel_on (e := (1, 29, .slice A4 tx.length (c - 48))) 0 rfl rfl (hon 1 (by kernel_rfl)) rfl
        replace ha := Aside0.mk ha
        have B := Aside0.mk Q_B
        have r1 := run_bstr (c := c - 48) (Kd.C_below HLD.out B.out)
        refine value_ (w1 := w') (v := .string (bstr tx)) (by rfl) rfl (by go_simp; try rfl) ?_
        refine hK.out _ _ ⟨g9, At, ct, m6_, m8_, (by rw [ha.out]; exact putSel_upk 1 hb_ rfl rfl rfl), B.out, fun h0_ => (Q_C h0_), fun h0_ => (Q_X h0_), Q_X6_, Q_X8_⟩
      refine steps_cons ?_ ?_
      · rintro b a w' ⟨g9, At, ct, m6_, m8_, ha, Q_B, Q_C, Q_X, Q_X6_, Q_X8_⟩ hb_ hon hoff
        refine ⟨_, rfl, fun K hK => ?_⟩
        have e3 : a.tmps[3]? = some (.pointer (some ⟨w.heap.size, 0, none⟩)) := by rw [ha]; exact (putSel_off rfl).trans rfl
        replace ha := Aside0.mk ha
        have B := Aside0.mk Q_B
        refine value_ (w1 := w') (v := .agg KV) (by rfl) rfl (exec_load_row 23 (.tmp 3) rfl (eval_of e3) (blk_below HK.out B.out) Try.underlying23 rfl HKS.out) ?_
        refine hK.out _ _ ⟨g9, At, ct, m6_, m8_, (by rw [ha.out]; exact putSel_upk 2 hb_ rfl rfl rfl), B.out, fun h0_ => (Q_C h0_), fun h0_ => absurd ((hoff 8 (by kernel_rfl)).symm.trans h0_) (by decide), Q_X6_, fun h0_ => absurd ((hoff 8 (by kernel_rfl)).symm.trans h0_) (by decide)⟩
      refine steps_cons ?_ ?_
      · rintro b a w' ⟨g9, At, ct, m6_, m8_, ha, Q_B, Q_C, Q_X, Q_X6_, Q_X8_⟩ hb_ hon hoff
        refine ⟨_, rfl, fun K hK => ?_⟩
        have e32 : a.tmps[32]? = some (.slice A N c) := by rw [ha]; exact (putSel_off rfl).trans rfl
        replace ha := Aside0.mk ha
        have B := Aside0.mk Q_B
        refine value_ (w1 := w') (v := .slice A lt.length c) (by rfl) rfl ?_ ?_
        · go_simp
          (try simp only [i64_w])
          try rfl
        refine hK.out _ _ ⟨g9, At, ct, m6_, m8_, (by rw [ha.out]; exact putSel_upk 3 hb_ rfl rfl rfl), Q_B, fun h0_ => absurd ((hoff 6 (by kernel_rfl)).symm.trans h0_) (by decide), fun h0_ => absurd ((hoff 8 (by kernel_rfl)).symm.trans h0_) (by decide), fun h0_ => absurd ((hoff 6 (by kernel_rfl)).symm.trans h0_) (by decide), fun h0_ => absurd ((hoff 8 (by kernel_rfl)).symm.trans h0_) (by decide)⟩
      refine steps_cons ?_ ?_
      · rintro b a w' ⟨g9, At, ct, m6_, m8_, ha, Q_B, Q_C, Q_X, Q_X6_, Q_X8_⟩ hb_ hon hoff
        refine ⟨_, rfl, fun K hK => ?_⟩
        have e33 : a.tmps[33]? = some (.slice A lt.length c) := by rw [ha]; exact putSel_on (e := (5, 33, .slice A lt.length c)) 3 rfl rfl (hon 5 (by kernel_rfl)) rfl
        replace ha := Aside0.mk ha
        have B := Aside0.mk Q_B
        refine value_ (w1 := w'.alloc (.cells #[.slice A lt.length c] 28)) (v := .slice (some ⟨w'.heap.size, 0, none⟩) 1 1) (by rfl) rfl (by go_simp; try rfl) ?_
        refine hK.out _ _ ⟨w'.heap.size, At, ct, (.slice (some ⟨w'.heap.size, 0, none⟩) 1 1), m8_, (by rw [ha.out]; exact putSel_upk 4 hb_ rfl rfl rfl), B.out.alloc B.out.size _, fun _ => one_C (Kd.C_below HLT.out B.out) HLE.out, fun h0_ => absurd ((hoff 8 (by kernel_rfl)).symm.trans h0_) (by decide), fun _ => rfl, fun h0_ => absurd ((hoff 8 (by kernel_rfl)).symm.trans h0_) (by decide)⟩
      refine steps_cons ?_ ?_
      · rintro b a w' ⟨g9, At, ct, m6_, m8_, ha, Q_B, Q_C, Q_X, Q_X6_, Q_X8_⟩ hb_ hon hoff
        refine ⟨_, rfl, fun K hK => ?_⟩
        have e31 : a.tmps[31]? = some (.agg KV) := by rw [ha]; exact putSel_on (e := (3, 31, .agg KV)) 2 rfl rfl (hon 3 (by kernel_rfl)) rfl
        have e34 : a.tmps[34]? = some (m6_) := by rw [ha]; exact putSel_on (e := (6, 34, m6_)) 4 rfl rfl (hon 6 (by kernel_rfl)) rfl
        rw [Q_X6_ (hon 6 (by kernel_rfl))] at e34
        replace ha := Aside0.mk ha
        have B := Aside0.mk Q_B
        have C := Aside0.mk (Q_C (hon 6 (by kernel_rfl)))
        refine goes_ Try.func16 (by kernel_rfl) rfl #[.agg KV, .slice (some ⟨g9, 0, none⟩) 1 1] (by rfl) rfl rfl (by first | (simp only [List.map_toArray, List.map_cons, List.map_nil, Act.eval, Array.getD_eq_getD_getElem?, Option.getD_some, e31, e34]; done) | (simp only [List.map_toArray, List.map_cons, List.map_nil, Act.eval, Array.getD_eq_getD_getElem?, Option.getD_some, e31, e34]; rfl)) ?_
        refine (HSM.out w' (some ⟨g9, 0, none⟩) 1 C.out).mono ?_
        rintro e w1 ⟨rfl, hB1⟩
        refine ⟨_, rfl, ?_⟩
        refine hK.out _ _ ⟨g9, At, ct, m6_, m8_, (by rw [ha.out]; exact putSel_upk 5 hb_ rfl rfl rfl), B.out.trans (hB1.mono B.out.size), fun _ => Kd.C_below C.out hB1, fun h0_ => absurd ((hoff 8 (by kernel_rfl)).symm.trans h0_) (by decide), Q_X6_, fun h0_ => absurd ((hoff 8 (by kernel_rfl)).symm.trans h0_) (by decide)⟩
      refine steps_cons ?_ ?_
      · rintro b a w' ⟨g9, At, ct, m6_, m8_, ha, Q_B, Q_C, Q_X, Q_X6_, Q_X8_⟩ hb_ hon hoff
        refine ⟨_, rfl, fun K hK => ?_⟩
        have e35 : a.tmps[35]? = some (.int .u64 sm) := by rw [ha]; exact putSel_on (e := (7, 35, .int .u64 sm)) 5 rfl rfl (hon 7 (by kernel_rfl)) rfl
        replace ha := Aside0.mk ha
        have B := Aside0.mk Q_B
        have C := Aside0.mk (Q_C (hon 6 (by kernel_rfl)))
        refine goes_ Try.func15 (by kernel_rfl) rfl #[.int .u64 sm] (by rfl) rfl rfl (by first | (simp only [List.map_toArray, List.map_cons, List.map_nil, Act.eval, Array.getD_eq_getD_getElem?, Option.getD_some, e35]; done) | (simp only [List.map_toArray, List.map_cons, List.map_nil, Act.eval, Array.getD_eq_getD_getElem?, Option.getD_some, e35]; rfl)) ?_
        refine (HTX.out w').mono ?_
        rintro e w1 ⟨v1, rfl, hR1, hB1⟩; obtain ⟨A6, c6, rfl, hle6, hC6⟩ := Kd.R_reads hR1
        refine ⟨_, rfl, ?_⟩
        refine hK.out _ _ ⟨g9, A6, c6, m6_, (.slice A6 tx.length c6), (by rw [ha.out]; exact putSel_upk 6 hb_ rfl rfl rfl), B.out.trans (hB1.mono B.out.size), fun _ => Kd.C_below C.out hB1, fun _ => hC6, Q_X6_, fun _ => rfl⟩
      refine steps_cons ?_ ?_
      · rintro b a w' ⟨g9, At, ct, m6_, m8_, ha, Q_B, Q_C, Q_X, Q_X6_, Q_X8_⟩ hb_ hon hoff
        refine ⟨_, rfl, fun K hK => ?_⟩
        have e36 : a.tmps[36]? = some (m8_) := by rw [ha]; exact putSel_on (e := (8, 36, m8_)) 6 rfl rfl (hon 8 (by kernel_rfl)) rfl
        rw [Q_X8_ (hon 8 (by kernel_rfl))] at e36
        replace ha := Aside0.mk ha
        have B := Aside0.mk Q_B
        have C := Aside0.mk (Q_C (hon 6 (by kernel_rfl)))
        have X := Aside0.mk (Q_X (hon 8 (by kernel_rfl)))
        have r2 := run_bstr (c := ct) X.out
        refine value_ (w1 := w') (v := .string (bstr tx)) (by rfl) rfl (by go_simp; try rfl) ?_
        refine hK.out _ _ ⟨g9, At, ct, m6_, m8_, (by rw [ha.out]; exact putSel_upk 7 hb_ rfl rfl rfl), B.out, fun _ => C.out, fun _ => X.out, Q_X6_, Q_X8_⟩
      refine steps_cons ?_ ?_
      · rintro b a w' ⟨g9, At, ct, m6_, m8_, ha, Q_B, Q_C, Q_X, Q_X6_, Q_X8_⟩ hb_ hon hoff
        refine ⟨_, rfl, fun K hK => ?_⟩
        have e30 : a.tmps[30]? = some (.string (bstr tx)) := by rw [ha]; exact putSel_on (e := (2, 30, .string (bstr tx))) 1 rfl rfl (hon 2 (by kernel_rfl)) rfl
        have e37 : a.tmps[37]? = some (.string (bstr tx)) := by rw [ha]; exact putSel_on (e := (9, 37, .string (bstr tx))) 7 rfl rfl (hon 9 (by kernel_rfl)) rfl
        replace ha := Aside0.mk ha
        have B := Aside0.mk Q_B
        have C := Aside0.mk (Q_C (hon 6 (by kernel_rfl)))
        have X := Aside0.mk (Q_X (hon 8 (by kernel_rfl)))
        refine value_ (w1 := w') (v := .bool true) (by rfl) rfl (by go_simp; first | done | exact HNE.out | rw [HNE.out]) ?_
        refine hK.out _ _ ⟨g9, At, ct, m6_, m8_, (by rw [ha.out]; exact putSel_upk 8 hb_ rfl rfl rfl), B.out, fun _ => C.out, fun _ => X.out, Q_X6_, Q_X8_⟩
      refine steps_cons ?_ ?_
      · rintro b a w' ⟨g9, At, ct, m6_, m8_, ha, Q_B, Q_C, Q_X, Q_X6_, Q_X8_⟩ hb_ hon hoff
        refine ⟨_, rfl, fun K hK => ?_⟩
        have e38 : a.tmps[38]? = some (.bool true) := by rw [ha]; exact putSel_on (e := (10, 38, .bool true)) 8 rfl rfl (hon 10 (by kernel_rfl)) rfl
        replace ha := Aside0.mk ha
        have B := Aside0.mk Q_B
        have C := Aside0.mk (Q_C (hon 6 (by kernel_rfl)))
        have X := Aside0.mk (Q_X (hon 8 (by kernel_rfl)))
        refine value_ (w1 := w') (v := .bool true) (by rfl) rfl ?_ ?_
        · go_simp
          (try simp only [i64_w])
          try rfl
        refine hK.out _ _ ⟨g9, At, ct, m6_, m8_, (by rw [ha.out]; exact putSel_upk 9 hb_ rfl rfl rfl), Q_B, Q_C, Q_X, Q_X6_, Q_X8_⟩
      refine steps_cons ?_ ?_
      · rintro b a w' ⟨g9, At, ct, m6_, m8_, ha, Q_B, Q_C, Q_X, Q_X6_, Q_X8_⟩ hb_ hon hoff
        refine ⟨_, rfl, fun K hK => ?_⟩
        have e39 : a.tmps[39]? = some (.bool true) := by rw [ha]; exact putSel_on (e := (11, 39, .bool true)) 9 rfl rfl (hon 11 (by kernel_rfl)) rfl
        replace ha := Aside0.mk ha
        have B := Aside0.mk Q_B
        have C := Aside0.mk (Q_C (hon 6 (by kernel_rfl)))
        have X := Aside0.mk (Q_X (hon 8 (by kernel_rfl)))
        refine goes_ Try.func10 (by kernel_rfl) rfl #[] (wanted_on rfl rfl rfl (e39.trans (by first | rfl | (simp [*]; done)))) rfl rfl (by first | (simp only [List.map_toArray, List.map_cons, List.map_nil, Act.eval, Array.getD_eq_getD_getElem?, Option.getD_some, e39]; done) | (simp only [List.map_toArray, List.map_cons, List.map_nil, Act.eval, Array.getD_eq_getD_getElem?, Option.getD_some, e39]; rfl)) ?_
        refine (alive_calls w').mono ?_
        rintro e w1 ⟨rfl, hB1⟩
        refine ⟨_, rfl, ?_⟩
        refine hK.out _ _ ⟨g9, At, ct, m6_, m8_, (by rw [ha.out]; exact putSel_upk 10 hb_ rfl rfl rfl), B.out.trans (hB1.mono B.out.size), fun _ => Kd.C_below C.out hB1, fun _ => Kd.C_below X.out hB1, Q_X6_, Q_X8_⟩
      refine steps_cons ?_ ?_
      · rintro b a w' ⟨g9, At, ct, m6_, m8_, ha, Q_B, Q_C, Q_X, Q_X6_, Q_X8_⟩ hb_ hon hoff
        refine ⟨_, rfl, fun K hK => ?_⟩
        have e39 : a.tmps[39]? = some (.bool true) := by rw [ha]; exact putSel_on (e := (11, 39, .bool true)) 9 rfl rfl (hon 11 (by kernel_rfl)) rfl
        have e40 : a.tmps[40]? = some (.bool true) := by rw [ha]; exact putSel_on (e := (12, 40, .bool true)) 10 rfl rfl (hon 12 (by kernel_rfl)) rfl
        replace ha := Aside0.mk ha
        have B := Aside0.mk Q_B
        have C := Aside0.mk (Q_C (hon 6 (by kernel_rfl)))
        have X := Aside0.mk (Q_X (hon 8 (by kernel_rfl)))
        refine value_ (w1 := w') (v := .bool true) (by rfl) rfl ?_ ?_
        · go_simp
          (try simp only [i64_w])
          try rfl
        refine hK.out _ _ ⟨g9, At, ct, m6_, m8_, (by rw [ha.out]; exact putSel_upk 11 hb_ rfl rfl rfl), Q_B, Q_C, Q_X, Q_X6_, Q_X8_⟩
      refine steps_cons ?_ ?_
      · rintro b a w' ⟨g9, At, ct, m6_, m8_, ha, Q_B, Q_C, Q_X, Q_X6_, Q_X8_⟩ hb_ hon hoff
        refine ⟨_, rfl, fun K hK => ?_⟩
        have e41 : a.tmps[41]? = some (.bool true) := by rw [ha]; exact putSel_on (e := (13, 41, .bool true)) 11 rfl rfl (hon 13 (by kernel_rfl)) rfl
        replace ha := Aside0.mk ha
        have B := Aside0.mk Q_B
        have C := Aside0.mk (Q_C (hon 6 (by kernel_rfl)))
        have X := Aside0.mk (Q_X (hon 8 (by kernel_rfl)))
        refine value_ (w1 := w') (v := .bool true) (by rfl) rfl ?_ ?_
        · go_simp
          (try simp only [i64_w])
          try rfl
        refine hK.out _ _ ⟨g9, At, ct, m6_, m8_, (by rw [ha.out]; exact putSel_upk 12 hb_ rfl rfl rfl), Q_B, Q_C, Q_X, Q_X6_, Q_X8_⟩
      exact steps_nil
    rintro b a w' hall ⟨g9, At, ct, m6_, m8_, ha, Q_B, Q_C, Q_X, Q_X6_, Q_X8_⟩
    clear B
    have hb1_ := hall 1 (by kernel_rfl)
    have hb2_ := hall 2 (by kernel_rfl)
    have hb3_ := hall 3 (by kernel_rfl)
    have hb5_ := hall 5 (by kernel_rfl)
    have hb6_ := hall 6 (by kernel_rfl)
    have hb7_ := hall 7 (by kernel_rfl)
    have hb8_ := hall 8 (by kernel_rfl)
    have hb9_ := hall 9 (by kernel_rfl)
    have hb10_ := hall 10 (by kernel_rfl)
    have hb11_ := hall 11 (by kernel_rfl)
    have hb12_ := hall 12 (by kernel_rfl)
    have hb13_ := hall 13 (by kernel_rfl)
    have hb14_ := hall 14 (by kernel_rfl)
    subst ha
    obtain rfl := Q_X6_ hb6_
    obtain rfl := Q_X8_ hb8_
    simp only [putSel, hb1_, hb2_, hb3_, hb5_, hb6_, hb7_, hb8_, hb9_, hb10_, hb11_, hb12_, hb13_, hb14_, if_true, Act.put, List.setIfInBounds_toArray, List.set_cons_zero, List.set_cons_succ]
    have B := Aside0.mk Q_B
    clear Q_B
    have C := Aside0.mk (Q_C hb6_)
    clear Q_C
    have X := Aside0.mk (Q_X hb8_)
    clear Q_X
    clear hall hb1_ hb2_ hb3_ hb5_ hb6_ hb7_ hb8_ hb9_ hb10_ hb11_ hb12_ hb13_ hb14_
    have HB3 := Lib.hid (HBA.out.trans (B.out.mono HBA.out.size))
    clear B C X HBA HLT HLD HK HSM HTX HNE
    go_wp2
    go_ret
    exact ⟨rfl, HB3.out⟩
set_option maxRecDepth 100000 in
set_option maxHeartbeats 1000000 in
theorem cookieOwn_row (k : List UInt8) (hk : k.length = 16) (now : Int) (hn : (Lit.int .i64 now).wf = true) {w : World} (A : Option Addr) (c : Nat) (l : List UInt8) (hb : byte.C w A l.length l) (hc : l.length ≤ c) (hm : c ≤ 140737488351232) :
    Calls Try.prog 7 #[.agg (keyV k), .int .i64 now, .slice A l.length c] w fun e w' => e = .returned (.bool true) ∧ Below w.heap.size w w' := by
  have h1 := fun w hb => check_calls w k hk A c l hb hc now
  unfold ChkP at h1
  have hcode := chk_code k l now
  generalize hca : chkA k l now = ca at *
  obtain ⟨x, t, e⟩ := ca
  have hx1 := h1
  unfold offV at h1
  have hcase : (e ≠ 0 ∧ e ≠ 211) ∨ (lookB l = true ∧ sealOk k l = true ∧ (e = 0 ∨ e = 211)) := by
    rcases hcode with h | h | h
    · exact .inl ⟨by show e ≠ 0; have : e = 1 := h; omega, by have : e = 1 := h; omega⟩
    · exact .inl ⟨by show e ≠ 0; have : e = 210 := h; omega, by have : e = 210 := h; omega⟩
    · exact .inr h
  rcases hcase with ⟨he0, he1⟩ | ⟨hlk, hs, he⟩
  · have HK := Lib.hid (blk_new w (.cells (keyV k) 23))
    have HB := Lib.hid (below_alloc (Below.refl w.heap.size w) (.cells (keyV k) 23))
    have HKS := Lib.hid (key_size hk)
    have HLK := Lib.hid (fun (W : World) (hW : Below w.heap.size w W) => h1 W (Kd.C_below hb hW))
    clear h1 hx1 hcode hca hb
    generalize hN : l.length = N at *
    generalize keyV k = KV at *
    go_enter Try.func7, Try.ntmps7
    go_wp2_with (refine wpList_load_row rfl 23 _ rfl w.heap.size rfl 23 KV (0, 0) _ HK.out Try.underlying23 rfl HKS.out ?_)
    refine (HLK.out _ HB.out).mono ?_
    rintro e0 w1 ⟨rfl, hB1⟩
    have HB2 := Lib.hid ((below_then HB.out HB.out.size hB1).alloc (below_then HB.out HB.out.size hB1).size (.cells #[.int .u16 (x 2 : Nat), .int .u16 (x 3 : Nat), .int .u32 (x 4 : Nat), .int .u32 (x 5 : Nat), .int .u32 (x 6 : Nat), .int .u32 (x 7 : Nat), .int .u32 (x 8 : Nat), .int .u16 (x 9 : Nat), .int .u16 (x 10 : Nat), .int .u32 (x 11 : Nat), .int .u32 (x 12 : Nat)] 27))
    clear hB1 HLK HB HK
    have j0 : (e != 0) = true := by simpa using he0
    have j1 : (e != 211) = true := by simpa using he1
    go_wp2_with fail
    refine (alive_calls _).mono ?_
    rintro e0 w9 ⟨rfl, hB9⟩
    go_wp2
    go_ret
    exact ⟨rfl, below_then HB2.out HB2.out.size hB9⟩
  · exact cookieOwn_good k hk now w A c l hb hc hlk hs x t e he h1
end Go.Proofs.Ythdemajmlidefaa.Ck
