/- The reference's Check: walked. -/
import Derived.Test.YthdemajmlidefaaCkL
namespace Go.Proofs.Ythdemajmlidefaa.Ck
open Go.RowKit Go.Proofs.YthdemajmlidefaaW.PrintWords Go.Proofs.YthdemajmlidefaaW.PrintLast Go.Proofs.Ythdemajmlidefaa.Base Go.Proofs.Ythdemajmlidefaa.Mac
set_option linter.unusedVariables false
set_option linter.unusedSimpArgs false
def refCheckT6 : Bool × List (List Nat × List Nat) := (true, [([], []), ([0], [0]), ([1], [1]), ([], []), ([], []), ([4], [4]), ([5], [5]), ([3, 6], [3, 6]), ([7, 7], [7]), ([8], [8]), ([2, 9], [2, 9])])
def refCheckB6 : List Nat := [0, 1, 3, 0, 0, 16, 48, 120, 248, 504, 1023]
theorem refChecktab6 : Go.Proofs.YthdemajmlidefaaW.PrintLast.rtab .any (Go.Proofs.YthdemajmlidefaaW.PrintLast.opsOf Try.f12 6) = refCheckT6 := by kernel_rfl
theorem refCheckbits6 : Go.Proofs.YthdemajmlidefaaW.PrintLast.waitsOk refCheckT6.2 refCheckB6 = true := by kernel_rfl
set_option maxRecDepth 100000 in
set_option maxHeartbeats 1000000 in
theorem refCheck_main (w : World) (k : List UInt8) (hk : k.length = 16) (A : Option Addr) (c : Nat) (l : List UInt8) (hb : byte.C w A l.length l) (hc : l.length ≤ c) (now : Int) (ht : timeB now = true) (h : lookB l = true) :
    Calls Try.prog 12 #[.agg (keyV k), .int .i64 now, .slice A l.length c] w (ChkP (chkS (sealOk k l) now (valF l)) w) := by
  obtain ⟨hl, h0, h1, h2⟩ := of_decide_eq_true h
  have htt : 0 ≤ now ∧ now ≤ 1099511627776 := by
    unfold timeB at ht
    rw [Bool.and_eq_true] at ht
    exact ⟨of_decide_eq_true ht.1, of_decide_eq_true ht.2⟩
  have HK := Lib.hid (show ((w.alloc (.cells (keyV k) 23)).alloc (.cells (offV zF) 27)).heap[w.heap.size]? = some (.cells (keyV k) 23 (0, 0)) from blk_alloc (blk_new _ _) _)
  have HO := Lib.hid (show ((w.alloc (.cells (keyV k) 23)).alloc (.cells (offV zF) 27)).heap[w.heap.size + 1]? = some (.cells (offV zF) 27 (0, 0)) by have h := blk_new (w.alloc (.cells (keyV k) 23)) (.cells (offV zF) 27); rw [World.size_alloc] at h; exact h)
  have HB := Lib.hid (below_alloc (below_alloc (Below.refl w.heap.size w) (.cells (keyV k) 23)) (.cells (offV zF) 27))
  have HKS := Lib.hid (key_size hk)
  have HLK := Lib.hid (fun (W : World) (hW : Below w.heap.size w W) => refLook_good W A c l (Kd.C_below hb hW) hc h)
  obtain ⟨ht1, ht2, ht3⟩ := take_bytes hb hc 48 48 rfl (by omega)
  obtain ⟨A4, hd1, hd2, hd3⟩ := drop_bytes hb hc 48 48 rfl (by omega)
  have HSM := Lib.hid (fun (W : World) (A : Option Addr) (c : Nat) (h : bytesK.C W A [l.take 48].length [l.take 48]) => refSum_calls W k hk A c [l.take 48] h (row_len _ (by rw [List.length_take, hl]; rfl)))
  have HTX := Lib.hid (fun W : World => refText_calls W (sumS k [l.take 48]))
  have hne : ((bstr (l.drop 48)).toList == (bstr (textL (sumS k [l.take 48]))).toList) = sealOk k l := bstr_eq (l.drop 48) (textL (sumS k [l.take 48]))
  have HNE := Lib.hid hne
  have hn0 := htt.1
  have hn1 := htt.2
  have j0 : ¬ now < 0 := by omega
  have j1 : ¬ now > 1099511627776 := by omega
  clear hne
  have HT2 := Lib.hid ht2
  have HD2 := Lib.hid hd2
  have HLE := Lib.hid ht3
  have HC := Lib.hid hb
  clear hb ht2 hd2 hd3 ht3 ht h
  generalize sealOk k l = bb at *
  generalize textL (sumS k [l.take 48]) = tx at *
  generalize ((sumS k [l.take 48]).toNat : Int) = sm at *
  generalize l.take 48 = lt at *
  generalize l.drop 48 = ld at *
  generalize valF l = x at *
  unfold offV at HLK
  generalize hN : l.length = N at *
  clear hN hl
  generalize keyV k = KV at *
  go_enter Try.func12, Try.ntmps12
  go_wp2_with fail
  refine (HLK.out _ HB.out).mono ?_
  rintro e w1 ⟨rfl, hB1⟩
  have HK1 := Lib.hid (blk_below HK.out hB1)
  have HO1 := Lib.hid (blk_below HO.out hB1)
  have HB1 := Lib.hid (below_then HB.out HB.out.size hB1)
  have HN1 := Lib.hid (blk_new w1 (.cells #[.int .u16 (x 2 : Nat), .int .u16 (x 3 : Nat), .int .u32 (x 4 : Nat), .int .u32 (x 5 : Nat), .int .u32 (x 6 : Nat), .int .u32 (x 7 : Nat), .int .u32 (x 8 : Nat), .int .u16 (x 9 : Nat), .int .u16 (x 10 : Nat), .int .u32 (x 11 : Nat), .int .u32 (x 12 : Nat)] 27))
  clear hB1 HLK
  go_upto_region 6 with (fail)
  have HBA := Lib.hid (HB1.out.alloc HB1.out.size (.cells #[.int .u16 (x 2 : Nat), .int .u16 (x 3 : Nat), .int .u32 (x 4 : Nat), .int .u32 (x 5 : Nat), .int .u32 (x 6 : Nat), .int .u32 (x 7 : Nat), .int .u32 (x 8 : Nat), .int .u16 (x 9 : Nat), .int .u16 (x 10 : Nat), .int .u32 (x 11 : Nat), .int .u32 (x 12 : Nat)] 27))
  have HLT := Lib.hid (Kd.C_below HT2.out HBA.out)
  have HLD := Lib.hid (Kd.C_below HD2.out HBA.out)
  replace HK := Lib.hid (blk_alloc HK1.out (.cells #[.int .u16 (x 2 : Nat), .int .u16 (x 3 : Nat), .int .u32 (x 4 : Nat), .int .u32 (x 5 : Nat), .int .u32 (x 6 : Nat), .int .u32 (x 7 : Nat), .int .u32 (x 8 : Nat), .int .u16 (x 9 : Nat), .int .u16 (x 10 : Nat), .int .u32 (x 11 : Nat), .int .u32 (x 12 : Nat)] 27))
  have HO2 := Lib.hid (blk_alloc HO1.out (.cells #[.int .u16 (x 2 : Nat), .int .u16 (x 3 : Nat), .int .u32 (x 4 : Nat), .int .u32 (x 5 : Nat), .int .u32 (x 6 : Nat), .int .u32 (x 7 : Nat), .int .u32 (x 8 : Nat), .int .u16 (x 9 : Nat), .int .u16 (x 10 : Nat), .int .u32 (x 11 : Nat), .int .u32 (x 12 : Nat)] 27))
  clear HK1 HO1 HB1 HB HO HT2 HD2
  generalize hg9 : w1.heap.size = gx at *
  have hWW : w1.alloc (.cells #[.int .u16 (x 2 : Nat), .int .u16 (x 3 : Nat), .int .u32 (x 4 : Nat), .int .u32 (x 5 : Nat), .int .u32 (x 6 : Nat), .int .u32 (x 7 : Nat), .int .u32 (x 8 : Nat), .int .u16 (x 9 : Nat), .int .u16 (x 10 : Nat), .int .u32 (x 11 : Nat), .int .u32 (x 12 : Nat)] 27) = w1.alloc (.cells #[.int .u16 (x 2 : Nat), .int .u16 (x 3 : Nat), .int .u32 (x 4 : Nat), .int .u32 (x 5 : Nat), .int .u32 (x 6 : Nat), .int .u32 (x 7 : Nat), .int .u32 (x 8 : Nat), .int .u16 (x 9 : Nat), .int .u16 (x 10 : Nat), .int .u32 (x 11 : Nat), .int .u32 (x 12 : Nat)] 27) := rfl
  revert HBA HLT HLD HK HO2 HN1
  generalize w1.alloc (.cells #[.int .u16 (x 2 : Nat), .int .u16 (x 3 : Nat), .int .u32 (x 4 : Nat), .int .u32 (x 5 : Nat), .int .u32 (x 6 : Nat), .int .u32 (x 7 : Nat), .int .u32 (x 8 : Nat), .int .u16 (x 9 : Nat), .int .u16 (x 10 : Nat), .int .u32 (x 11 : Nat), .int .u32 (x 12 : Nat)] 27) = W
  intro HBA HLT HLD HK HO2 HN1
  have B := True.intro
  refine start_ (n := 11) (S := fun w' => True) (ds := []) #[false, false, false, false, false, false, false, false, false, false, false] (by kernel_rfl) rfl rfl trivial (fun hHeld => ?_)
  refine with_tabW refChecktab6 refCheckbits6 (fun HT_ HW_ => ?_)
  refine pure_ (i := 0) (N := some 31) (v := ?_) (a' := ?_) #[true, false, false, false, false, false, false, false, false, false, false] rfl rfl (any_of HT_.out (by kernel_rfl)) (fun _ _ _ h => h) (Or.inl ⟨by rfl, ?_⟩) ?_ ?_
  rotate_left
  · intro w'
    go_simp
    with_reducible rfl
  rotate_left
  · simp only [Act.put, List.setIfInBounds_toArray, List.set_cons_zero, List.set_cons_succ, i64_w, i32_w]
    rfl
  refine pure_ (i := 4) (N := some 35) (v := ?_) (a' := ?_) #[true, false, false, false, true, false, false, false, false, false, false] rfl rfl (any_of HT_.out (by kernel_rfl)) (fun _ _ _ h => h) (Or.inl ⟨by rfl, ?_⟩) ?_ ?_
  rotate_left
  · intro w'
    go_simp
    with_reducible rfl
  rotate_left
  · simp only [Act.put, List.setIfInBounds_toArray, List.set_cons_zero, List.set_cons_succ, i64_w, i32_w]
    rfl
  refine inv_at [1, 2, 3, 5, 6, 7, 8, 9, 10] (fun a0_ b a w' => ∃ (g9 : Nat) (At : Option Addr) (ct : Nat) (m6_ : Value) (m8_ : Value), a = putSel a0_ b [(1, 32, .slice A4 ld.length (c - 48)), (2, 33, .string (bstr ld)), (3, 34, .agg KV), (5, 36, .slice A lt.length c), (6, 37, m6_), (7, 38, .int .u64 sm), (8, 39, m8_), (9, 40, .string (bstr tx)), (10, 41, .bool (!bb))] ∧ (Below W.heap.size W w') ∧ (b 6 = true → bytesK.C w' (some ⟨g9, 0, none⟩) [lt].length [lt]) ∧ (b 8 = true → byte.C w' At tx.length tx) ∧ (b 6 = true → (m6_ : Value) = .slice (some ⟨g9, 0, none⟩) 1 1) ∧ (b 8 = true → (m8_ : Value) = .slice At tx.length ct)) HT_.out HW_.out (by kernel_rfl) (by kernel_rfl) ?_ ?_ ?_
  · exact ⟨0, none, 0, .bool false, .bool false, by simp only [putSel, Bool.false_eq_true, if_false], below_drew (Below.refl _ _), fun h_ => absurd h_ (by decide), fun h_ => absurd h_ (by decide), fun h_ => absurd h_ (by decide), fun h_ => absurd h_ (by decide)⟩
  · skip
    clear B
    refine steps_cons ?_ ?_
    · rintro b a w' ⟨g9, At, ct, m6_, m8_, ha, Q_B, Q_C, Q_X, Q_X6_, Q_X8_⟩ hb_ hon hoff
      refine ⟨_, rfl, fun K hK => ?_⟩
      have e31 : a.tmps[31]? = some (.slice A N c) := by rw [ha]; exact (putSel_off rfl).trans rfl
      replace ha := Aside0.mk ha
      have B := Aside0.mk Q_B
      refine value_ (w1 := w') (v := .slice A4 ld.length (c - 48)) (by rfl) rfl ?_ ?_
      · go_simp
        (try simp only [i64_w])
        try rfl
      refine hK.out _ _ ⟨g9, At, ct, m6_, m8_, (by rw [ha.out]; exact putSel_upk 0 hb_ rfl rfl rfl), Q_B, Q_C, Q_X, Q_X6_, Q_X8_⟩
    refine steps_cons ?_ ?_
    · rintro b a w' ⟨g9, At, ct, m6_, m8_, ha, Q_B, Q_C, Q_X, Q_X6_, Q_X8_⟩ hb_ hon hoff
      refine ⟨_, rfl, fun K hK => ?_⟩
      have e32 : a.tmps[32]? = some (.slice A4 ld.length (c - 48)) := by rw [ha]; exact putSel_on (e := (1, 32, .slice A4 ld.length (c - 48))) 0 rfl rfl (hon 1 (by kernel_rfl)) rfl
      replace ha := Aside0.mk ha
      have B := Aside0.mk Q_B
      have r1 := run_bstr (c := c - 48) (Kd.C_below HLD.out B.out)
      refine value_ (w1 := w') (v := .string (bstr ld)) (by rfl) rfl (by go_simp; try rfl) ?_
      refine hK.out _ _ ⟨g9, At, ct, m6_, m8_, (by rw [ha.out]; exact putSel_upk 1 hb_ rfl rfl rfl), B.out, fun h0_ => (Q_C h0_), fun h0_ => (Q_X h0_), Q_X6_, Q_X8_⟩
    refine steps_cons ?_ ?_
    · rintro b a w' ⟨g9, At, ct, m6_, m8_, ha, Q_B, Q_C, Q_X, Q_X6_, Q_X8_⟩ hb_ hon hoff
      refine ⟨_, rfl, fun K hK => ?_⟩
      have e3 : a.tmps[3]? = some (.pointer (some ⟨w.heap.size, 0, none⟩)) := by rw [ha]; exact (putSel_off rfl).trans rfl
      replace ha := Aside0.mk ha
      have B := Aside0.mk Q_B
      refine value_ (w1 := w') (v := .agg KV) (by rfl) rfl (exec_load_row 23 (.tmp 3) rfl (eval_of e3) (blk_below HK.out B.out) Try.underlying23 rfl HKS.out) ?_
      refine hK.out _ _ ⟨g9, At, ct, m6_, m8_, (by rw [ha.out]; exact putSel_upk 2 hb_ rfl rfl rfl), B.out, fun h0_ => (Q_C h0_), fun h0_ => absurd ((hoff 8 (by kernel_rfl)).symm.trans h0_) (by decide), Q_X6_, fun h0_ => absurd ((hoff 8 (by kernel_rfl)).symm.trans h0_) (by decide)⟩
    refine steps_cons ?_ ?_
    · rintro b a w' ⟨g9, At, ct, m6_, m8_, ha, Q_B, Q_C, Q_X, Q_X6_, Q_X8_⟩ hb_ hon hoff
      refine ⟨_, rfl, fun K hK => ?_⟩
      have e35 : a.tmps[35]? = some (.slice A N c) := by rw [ha]; exact (putSel_off rfl).trans rfl
      replace ha := Aside0.mk ha
      have B := Aside0.mk Q_B
      refine value_ (w1 := w') (v := .slice A lt.length c) (by rfl) rfl ?_ ?_
      · go_simp
        (try simp only [i64_w])
        try rfl
      refine hK.out _ _ ⟨g9, At, ct, m6_, m8_, (by rw [ha.out]; exact putSel_upk 3 hb_ rfl rfl rfl), Q_B, fun h0_ => absurd ((hoff 6 (by kernel_rfl)).symm.trans h0_) (by decide), fun h0_ => absurd ((hoff 8 (by kernel_rfl)).symm.trans h0_) (by decide), fun h0_ => absurd ((hoff 6 (by kernel_rfl)).symm.trans h0_) (by decide), fun h0_ => absurd ((hoff 8 (by kernel_rfl)).symm.trans h0_) (by decide)⟩
    refine steps_cons ?_ ?_
    · rintro b a w' ⟨g9, At, ct, m6_, m8_, ha, Q_B, Q_C, Q_X, Q_X6_, Q_X8_⟩ hb_ hon hoff
      refine ⟨_, rfl, fun K hK => ?_⟩
      have e36 : a.tmps[36]? = some (.slice A lt.length c) := by rw [ha]; exact putSel_on (e := (5, 36, .slice A lt.length c)) 3 rfl rfl (hon 5 (by kernel_rfl)) rfl
      replace ha := Aside0.mk ha
      have B := Aside0.mk Q_B
      refine value_ (w1 := w'.alloc (.cells #[.slice A lt.length c] 28)) (v := .slice (some ⟨w'.heap.size, 0, none⟩) 1 1) (by rfl) rfl (by go_simp; try rfl) ?_
      refine hK.out _ _ ⟨w'.heap.size, At, ct, (.slice (some ⟨w'.heap.size, 0, none⟩) 1 1), m8_, (by rw [ha.out]; exact putSel_upk 4 hb_ rfl rfl rfl), B.out.alloc B.out.size _, fun _ => one_C (Kd.C_below HLT.out B.out) HLE.out, fun h0_ => absurd ((hoff 8 (by kernel_rfl)).symm.trans h0_) (by decide), fun _ => rfl, fun h0_ => absurd ((hoff 8 (by kernel_rfl)).symm.trans h0_) (by decide)⟩
    refine steps_cons ?_ ?_
    · rintro b a w' ⟨g9, At, ct, m6_, m8_, ha, Q_B, Q_C, Q_X, Q_X6_, Q_X8_⟩ hb_ hon hoff
      refine ⟨_, rfl, fun K hK => ?_⟩
      have e34 : a.tmps[34]? = some (.agg KV) := by rw [ha]; exact putSel_on (e := (3, 34, .agg KV)) 2 rfl rfl (hon 3 (by kernel_rfl)) rfl
      have e37 : a.tmps[37]? = some (m6_) := by rw [ha]; exact putSel_on (e := (6, 37, m6_)) 4 rfl rfl (hon 6 (by kernel_rfl)) rfl
      rw [Q_X6_ (hon 6 (by kernel_rfl))] at e37
      replace ha := Aside0.mk ha
      have B := Aside0.mk Q_B
      have C := Aside0.mk (Q_C (hon 6 (by kernel_rfl)))
      refine goes_ Try.func16 (by kernel_rfl) rfl #[.agg KV, .slice (some ⟨g9, 0, none⟩) 1 1] (by rfl) rfl rfl (by first | (simp only [List.map_toArray, List.map_cons, List.map_nil, Act.eval, Array.getD_eq_getD_getElem?, Option.getD_some, e34, e37]; done) | (simp only [List.map_toArray, List.map_cons, List.map_nil, Act.eval, Array.getD_eq_getD_getElem?, Option.getD_some, e34, e37]; rfl)) ?_
      refine (HSM.out w' (some ⟨g9, 0, none⟩) 1 C.out).mono ?_
      rintro e w1 ⟨rfl, hB1⟩
      refine ⟨_, rfl, ?_⟩
      refine hK.out _ _ ⟨g9, At, ct, m6_, m8_, (by rw [ha.out]; exact putSel_upk 5 hb_ rfl rfl rfl), B.out.trans (hB1.mono B.out.size), fun _ => Kd.C_below C.out hB1, fun h0_ => absurd ((hoff 8 (by kernel_rfl)).symm.trans h0_) (by decide), Q_X6_, fun h0_ => absurd ((hoff 8 (by kernel_rfl)).symm.trans h0_) (by decide)⟩
    refine steps_cons ?_ ?_
    · rintro b a w' ⟨g9, At, ct, m6_, m8_, ha, Q_B, Q_C, Q_X, Q_X6_, Q_X8_⟩ hb_ hon hoff
      refine ⟨_, rfl, fun K hK => ?_⟩
      have e38 : a.tmps[38]? = some (.int .u64 sm) := by rw [ha]; exact putSel_on (e := (7, 38, .int .u64 sm)) 5 rfl rfl (hon 7 (by kernel_rfl)) rfl
      replace ha := Aside0.mk ha
      have B := Aside0.mk Q_B
      have C := Aside0.mk (Q_C (hon 6 (by kernel_rfl)))
      refine goes_ Try.func15 (by kernel_rfl) rfl #[.int .u64 sm] (by rfl) rfl rfl (by first | (simp only [List.map_toArray, List.map_cons, List.map_nil, Act.eval, Array.getD_eq_getD_getElem?, Option.getD_some, e38]; done) | (simp only [List.map_toArray, List.map_cons, List.map_nil, Act.eval, Array.getD_eq_getD_getElem?, Option.getD_some, e38]; rfl)) ?_
      refine (HTX.out w').mono ?_
      rintro e w1 ⟨v1, rfl, hR1, hB1⟩; obtain ⟨A6, c6, rfl, hle6, hC6⟩ := Kd.R_reads hR1
      refine ⟨_, rfl, ?_⟩
      refine hK.out _ _ ⟨g9, A6, c6, m6_, (.slice A6 tx.length c6), (by rw [ha.out]; exact putSel_upk 6 hb_ rfl rfl rfl), B.out.trans (hB1.mono B.out.size), fun _ => Kd.C_below C.out hB1, fun _ => hC6, Q_X6_, fun _ => rfl⟩
    refine steps_cons ?_ ?_
    · rintro b a w' ⟨g9, At, ct, m6_, m8_, ha, Q_B, Q_C, Q_X, Q_X6_, Q_X8_⟩ hb_ hon hoff
      refine ⟨_, rfl, fun K hK => ?_⟩
      have e39 : a.tmps[39]? = some (m8_) := by rw [ha]; exact putSel_on (e := (8, 39, m8_)) 6 rfl rfl (hon 8 (by kernel_rfl)) rfl
      rw [Q_X8_ (hon 8 (by kernel_rfl))] at e39
      replace ha := Aside0.mk ha
      have B := Aside0.mk Q_B
      have C := Aside0.mk (Q_C (hon 6 (by kernel_rfl)))
      have X := Aside0.mk (Q_X (hon 8 (by kernel_rfl)))
      have r2 := run_bstr (c := ct) X.out
      refine value_ (w1 := w') (v := .string (bstr tx)) (by rfl) rfl (by go_simp; try rfl) ?_
      refine hK.out _ _ ⟨g9, At, ct, m6_, m8_, (by rw [ha.out]; exact putSel_upk 7 hb_ rfl rfl rfl), B.out, fun _ => C.out, fun _ => X.out, Q_X6_, Q_X8_⟩
    refine steps_cons ?_ ?_
    · rintro b a w' ⟨g9, At, ct, m6_, m8_, ha, Q_B, Q_C, Q_X, Q_X6_, Q_X8_⟩ hb_ hon hoff
      refine ⟨_, rfl, fun K hK => ?_⟩
      have e33 : a.tmps[33]? = some (.string (bstr ld)) := by rw [ha]; exact putSel_on (e := (2, 33, .string (bstr ld))) 1 rfl rfl (hon 2 (by kernel_rfl)) rfl
      have e40 : a.tmps[40]? = some (.string (bstr tx)) := by rw [ha]; exact putSel_on (e := (9, 40, .string (bstr tx))) 7 rfl rfl (hon 9 (by kernel_rfl)) rfl
      replace ha := Aside0.mk ha
      have B := Aside0.mk Q_B
      have C := Aside0.mk (Q_C (hon 6 (by kernel_rfl)))
      have X := Aside0.mk (Q_X (hon 8 (by kernel_rfl)))
      refine value_ (w1 := w') (v := .bool (!bb)) (by rfl) rfl (by go_simp; first | done | exact HNE.out | rw [HNE.out]) ?_
      refine hK.out _ _ ⟨g9, At, ct, m6_, m8_, (by rw [ha.out]; exact putSel_upk 8 hb_ rfl rfl rfl), B.out, fun _ => C.out, fun _ => X.out, Q_X6_, Q_X8_⟩
    exact steps_nil
  rintro b a w' hall ⟨g9, At, ct, m6_, m8_, ha, Q_B, Q_C, Q_X, Q_X6_, Q_X8_⟩
  clear B
  have hb1_ := hall 1 (by kernel_rfl)
  have hb2_ := hall 2 (by kernel_rfl)
  have hb3_ := hall 3 (by kernel_rfl)
  have hb5_ := hall 5 (by kernel_rfl)
  have hb6_ := hall 6 (by kernel_rfl)
  have hb7_ := hall 7 (by kernel_rfl)
  have hb8_ := hall 8 (by kernel_rfl)
  have hb9_ := hall 9 (by kernel_rfl)
  have hb10_ := hall 10 (by kernel_rfl)
  subst ha
  obtain rfl := Q_X6_ hb6_
  obtain rfl := Q_X8_ hb8_
  simp only [putSel, hb1_, hb2_, hb3_, hb5_, hb6_, hb7_, hb8_, hb9_, hb10_, if_true, Act.put, List.setIfInBounds_toArray, List.set_cons_zero, List.set_cons_succ]
  have B := Aside0.mk Q_B
  clear Q_B
  have C := Aside0.mk (Q_C hb6_)
  clear Q_C
  have X := Aside0.mk (Q_X hb8_)
  clear Q_X
  clear hall hb1_ hb2_ hb3_ hb5_ hb6_ hb7_ hb8_ hb9_ hb10_
  have HO3 := Lib.hid (blk_below HO2.out B.out)
  have HN3 := Lib.hid (blk_below HN1.out B.out)
  have HB3 := Lib.hid (HBA.out.trans (B.out.mono HBA.out.size))
  clear B C X HO2 HN1 HBA HLT HLD HK HSM HTX HNE
  have z0 : ((x 0 : Nat) : Int) ≤ 1099511627776 := by omega
  have z1 : ((x 1 : Nat) : Int) ≤ 2147483648 := by omega
  cases bb with
  | false =>
    have hS : chkS false now x = (zF, 0, 210) := rfl
    rw [hS]
    go_wp2_with (refine wpList_store_row rfl 27 _ _ rfl (w.heap.size + 1) (offV zF) rfl rfl 27 (offV zF) HO3.out (by kernel_rfl) rfl (by simp [offV, Value.oneCell']) ?_)
    refine bodyPost_ret (results_ctt rfl _ _ (w.heap.size + 1) 27 _ (0, 0) _ rfl (setRow_heap _ _ _ (offV zF) _ _ HO3.out) Try.underlying27 rfl (by kernel_rfl)) rfl ?_
    refine ⟨?_, below_setRow HB3.out (by omega) _⟩
    rfl
  | true =>
    by_cases hgt : now > ((x 0 : Nat) : Int) + ((x 1 : Nat) : Int)
    · have hgt2 : ((x 0 : Nat) : Int) + ((x 1 : Nat) : Int) < now := hgt
      have hS : chkS true now x = (zF, now - (x 0 : Nat) - (x 1 : Nat), 211) := by unfold chkS; rw [if_neg (by decide), if_pos hgt]
      rw [hS]
      go_wp2_with (refine wpList_store_row rfl 27 _ _ rfl (w.heap.size + 1) (offV zF) rfl rfl 27 (offV zF) HO3.out (by kernel_rfl) rfl (by simp [offV, Value.oneCell']) ?_)
      refine bodyPost_ret (results_ctt rfl _ _ (w.heap.size + 1) 27 _ (0, 0) _ rfl (setRow_heap _ _ _ (offV zF) _ _ HO3.out) Try.underlying27 rfl (by kernel_rfl)) rfl ?_
      refine ⟨?_, below_setRow HB3.out (by omega) _⟩
      rfl
    · have hS : chkS true now x = (x, 0, 0) := by unfold chkS; rw [if_neg (by decide), if_neg hgt]
      rw [hS]
      go_wp2_with (first | (refine wpList_load_row rfl 27 _ rfl gx rfl 27 #[.int .u16 (x 2 : Nat), .int .u16 (x 3 : Nat), .int .u32 (x 4 : Nat), .int .u32 (x 5 : Nat), .int .u32 (x 6 : Nat), .int .u32 (x 7 : Nat), .int .u32 (x 8 : Nat), .int .u16 (x 9 : Nat), .int .u16 (x 10 : Nat), .int .u32 (x 11 : Nat), .int .u32 (x 12 : Nat)] (0, 0) _ HN3.out Try.underlying27 rfl (by kernel_rfl) ?_) | (refine wpList_store_row rfl 27 _ _ rfl (w.heap.size + 1) #[.int .u16 (x 2 : Nat), .int .u16 (x 3 : Nat), .int .u32 (x 4 : Nat), .int .u32 (x 5 : Nat), .int .u32 (x 6 : Nat), .int .u32 (x 7 : Nat), .int .u32 (x 8 : Nat), .int .u16 (x 9 : Nat), .int .u16 (x 10 : Nat), .int .u32 (x 11 : Nat), .int .u32 (x 12 : Nat)] rfl rfl 27 (offV zF) HO3.out (by kernel_rfl) rfl (by simp [Value.oneCell']) ?_))
      refine bodyPost_ret (results_ctt rfl _ _ (w.heap.size + 1) 27 _ (0, 0) _ rfl (setRow_heap _ _ _ #[.int .u16 (x 2 : Nat), .int .u16 (x 3 : Nat), .int .u32 (x 4 : Nat), .int .u32 (x 5 : Nat), .int .u32 (x 6 : Nat), .int .u32 (x 7 : Nat), .int .u32 (x 8 : Nat), .int .u16 (x 9 : Nat), .int .u16 (x 10 : Nat), .int .u32 (x 11 : Nat), .int .u32 (x 12 : Nat)] _ _ HO3.out) Try.underlying27 rfl (by kernel_rfl)) rfl ?_
      refine ⟨?_, below_setRow HB3.out (by omega) _⟩
      rfl
end Go.Proofs.Ythdemajmlidefaa.Ck
