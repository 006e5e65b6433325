/- The statement MacTexts, walked. -/
import Derived.Test.YtemomlohmnclkaaMacM
import Derived.Test.YtemomlohmnclkaaRegB
namespace Go.Proofs.Ytemomlohmnclkaa.Mac
open Go.RowKit Go.Proofs.YtemomlohmnclkaaW.PrintWords Go.Proofs.YtemomlohmnclkaaW.PrintLast Go.Proofs.Ytemomlohmnclkaa.Base
set_option linter.unusedVariables false
set_option linter.unusedSimpArgs false
def macTextsT2 : Bool × List (List Nat × List Nat) := (true, [([], []), ([0], [0]), ([], []), ([2], [2]), ([3], [3]), ([1, 4], [1, 4]), ([5, 3], [5]), ([6], [6]), ([6], [6]), ([7, 8, 6, 6], [6, 7, 8]), ([6], [6]), ([10, 6], [6, 10]), ([6], [6]), ([12, 9, 6], [6, 12]), ([13, 6], [6, 13]), ([11, 14, 6], [6, 11, 14]), ([9, 15, 6], [6, 9, 15]), ([6, 16], [6, 16]), ([17, 13], [17]), ([18], [18]), ([18], [18]), ([19, 20, 18, 18], [18, 19, 20]), ([21, 18], [18, 21]), ([18, 22], [18, 22]), ([23, 21], [23]), ([24, 24], [24]), ([25, 24], [24, 25]), ([24, 26], [24, 26])])
def macTextsB2 : List Nat := [0, 1, 0, 4, 12, 31, 63, 127, 127, 511, 127, 1151, 127, 5119, 13311, 32767, 65535, 131071, 262143, 524287, 524287, 2097151, 4194303, 8388607, 16777215, 33554431, 67108863, 134217727]
theorem macTextstab2 : Go.Proofs.YtemomlohmnclkaaW.PrintLast.rtab .any (Go.Proofs.YtemomlohmnclkaaW.PrintLast.opsOf Try.f4 2) = macTextsT2 := by kernel_rfl
theorem macTextsbits2 : Go.Proofs.YtemomlohmnclkaaW.PrintLast.waitsOk macTextsT2.2 macTextsB2 = true := by kernel_rfl
theorem xor8 (a b : UInt8) : bits .xor .u8 (a.toNat : Int) (b.toNat : Int) = ((a ^^^ b).toNat : Int) := by
  have ha := a.toNat_lt
  have hb := b.toNat_lt
  have ha' : a.toNat % 2 ^ 8 = a.toNat := Nat.mod_eq_of_lt ha
  have hb' : b.toNat % 2 ^ 8 = b.toNat := Nat.mod_eq_of_lt hb
  have h := Nat.xor_lt_two_pow (n := 8) ha hb
  have e : (BitVec.ofNat 8 a.toNat ^^^ BitVec.ofNat 8 b.toNat).toNat = a.toNat ^^^ b.toNat := by rw [BitVec.toNat_xor, BitVec.toNat_ofNat, BitVec.toNat_ofNat, ha', hb']
  have e2 : bits .xor .u8 (a.toNat : Int) (b.toNat : Int) = IntKind.u8.wrap ((BitVec.ofNat 8 a.toNat ^^^ BitVec.ofNat 8 b.toNat).toNat : Nat) := by
    rfl
  rw [e2, e, IntKind.wrap_u8, UInt8.toNat_xor]
  omega
theorem R_form {w : World} {base t : Nat} {ok : Nat → Prop} {v : Value} {q : List UInt8} (h : byte.R t w base ok v q) (hq : 0 < q.length) : ∃ g cap, v = .slice (some ⟨g, 0, none⟩) q.length cap ∧ base ≤ g := by
  obtain ⟨A1, c1, rfl⟩ := Kd.R_slice h
  obtain ⟨inner, ho⟩ := Kd.R_own h
  rcases ho.2 with ⟨h0, h1⟩ | ⟨g, cap, cur, h0, hb, _⟩
  · injection h0 with h0 h2 h3
    omega
  · injection h0 with h0 h2 h3
    subst h0
    exact ⟨g, c1, rfl, hb⟩
theorem set_xor_eq (l : List UInt8) (j : Nat) (b : UInt8) (hj : j < l.length) : decide (l.set j (l.getD j 0 ^^^ b) = l) = decide (b = 0) := by
  refine decide_eq_decide.2 ⟨fun h => ?_, fun h => ?_⟩
  · have := congrArg (fun q => q.getD j 0) h
    simp only [getD_lt _ _ _ hj, getD_lt _ _ _ (show j < (l.set j _).length by simpa using hj), List.getElem_set_self] at this
    have h2 := congrArg (fun z => l[j] ^^^ z) this
    simpa [← UInt8.xor_assoc] using h2
  · subst h
    rw [UInt8.xor_zero, getD_lt _ _ _ hj, List.set_getElem_self]
set_option maxHeartbeats 4000000 in
theorem macTexts_row (x : UInt64) {w : World} (A : Option Addr) (c : Nat) (l : List UInt8) (hb : byte.C w A l.length l) (hc : l.length ≤ c) (hm : c ≤ 140737488351232) (at_ : Int) (bt : UInt8) :
    Calls Try.prog 4 #[.int .u64 (x.toNat : Int), .slice A l.length c, .int .i64 at_, .int .u8 (bt.toNat : Int)] w fun e w' => e = .returned (.bool true) ∧ Below w.heap.size w w' := by
  have HTX := Lib.hid (fun W => text_calls W x)
  have HRT := Lib.hid (fun W => refText_calls W x)
  have HSM := Lib.hid (fun W A c l hb => same_calls W A c l x hb)
  have hsl := fun (W : World) (h : byte.C W A l.length l) => same_calls W A c l x h
  have hl8 : (textL x).length = 8 := rfl
  obtain ⟨j, hj, hj8⟩ : ∃ j : Nat, wrap64 ((IntKind.u64.wrap at_).tmod 8) = (j : Int) ∧ j < 8 := by
    have h1 : 0 ≤ IntKind.u64.wrap at_ := by rw [u64w]; omega
    have h2 : (IntKind.u64.wrap at_).tmod 8 = IntKind.u64.wrap at_ % 8 := Int.tmod_eq_emod_of_nonneg h1
    refine ⟨(IntKind.u64.wrap at_ % 8).toNat, ?_, by omega⟩
    rw [h2]
    unfold wrap64
    omega
  have hx := xor8 ((textL x).getD j 0) bt
  have hset := set_xor_eq (textL x) j bt (by omega)
  generalize textL x = tx at *
  have HQ := Lib.hid (bstr_eq l tx)
  have HC0 := Lib.hid hb
  generalize hr : decide (l = tx) = r at *
  have HR0 := Lib.hid hr
  have HSL := Lib.hid hsl
  clear hb hr hsl
  generalize hxi : ((x.toNat : Nat) : Int) = xi at *
  generalize hbi : ((bt.toNat : Nat) : Int) = bi at *
  have HBI := Lib.hid hbi
  clear hxi hbi
  have HSET := Lib.hid hset
  have HX := Lib.hid hx
  have HJ := Lib.hid hj
  have HL8 := Lib.hid hl8
  clear hset hx hj hl8
  go_enter Try.func4, Try.ntmps4
  go_wp2_with fail
  refine (HTX.out _).mono ?_
  rintro e W0 ⟨v, rfl, hR, hB0⟩
  obtain ⟨g, ct, rfl, hgb⟩ := R_form hR (by rw [HL8.out]; decide)
  have HT := Lib.hid (R_C hR)
  have HC := Lib.hid (Kd.C_below HC0.out hB0)
  have HST := Lib.hid (fun (W : World) (A : Option Addr) (c : Nat) (h : byte.C W A tx.length tx) => HSM.out W A c tx h)
  rw [show decide (tx = tx) = true by simp] at HST
  have HRR := Lib.hid hR
  have HB0 := Lib.hid hB0
  clear hR hB0
  go_upto_region 2 with (fail)
  have B := True.intro
  refine start_ (n := 28) (S := fun w' => True) (ds := []) #[false, false, false, false, false, false, false, false, false, false, false, false, false, false, false, false, false, false, false, false, false, false, false, false, false, false, false, false] (by kernel_rfl) rfl rfl trivial (fun hHeld => ?_)
  refine with_tabW macTextstab2 macTextsbits2 (fun HT_ HW_ => ?_)
  refine pure_ (i := 0) (N := some 12) (v := ?_) (a' := ?_) #[true, false, false, false, false, false, false, false, false, false, false, false, false, false, false, false, false, false, false, false, false, false, false, false, false, false, false, false] rfl rfl (any_of HT_.out (by kernel_rfl)) (fun _ _ _ h => h) (Or.inl ⟨by rfl, ?_⟩) ?_ ?_
  rotate_left
  · intro w'
    go_simp
    with_reducible rfl
  rotate_left
  · simp only [Act.put, List.setIfInBounds_toArray, List.set_cons_zero, List.set_cons_succ, i64_w, i32_w]
    rfl
  refine pure_ (i := 2) (N := some 14) (v := ?_) (a' := ?_) #[true, false, true, false, false, false, false, false, false, false, false, false, false, false, false, false, false, false, false, false, false, false, false, false, false, false, false, false] rfl rfl (any_of HT_.out (by kernel_rfl)) (fun _ _ _ h => h) (Or.inl ⟨by rfl, ?_⟩) ?_ ?_
  rotate_left
  · intro w'
    go_simp
    with_reducible rfl
  rotate_left
  · simp only [Act.put, List.setIfInBounds_toArray, List.set_cons_zero, List.set_cons_succ, i64_w, i32_w]
    rfl
  refine inv_at [1, 3, 4, 5, 6, 7, 8, 9, 10, 11, 12, 13, 14, 15, 16, 17, 18, 19, 20, 21, 22, 23, 24, 25, 26, 27] (fun a0_ b a w' => ∃ (A1 : Option Addr) (c1 : Nat) (A2 : Option Addr) (c2 : Nat) (m3_ : Value) (m13_ : Value), a = putSel a0_ b [(1, 13, .string (bstr tx)), (3, 15, m3_), (4, 16, .string (bstr tx)), (5, 17, .bool false), (6, 18, .bool false), (7, 19, .slice A l.length c), (8, 20, .int .u64 xi), (9, 21, .bool r), (10, 22, .slice A l.length c), (11, 23, .string (bstr l)), (12, 24, .int .u64 xi), (13, 25, m13_), (14, 26, .string (bstr tx)), (15, 27, .bool r), (16, 28, .bool false), (17, 29, .bool false), (18, 30, .bool false), (19, 31, .slice (some ⟨g, 0, none⟩) tx.length ct), (20, 32, .int .u64 xi), (21, 33, .bool true), (22, 34, .bool false), (23, 35, .bool false), (24, 36, .bool false), (25, 37, .bool true), (26, 38, .bool false), (27, 39, .bool false)] ∧ (Below W0.heap.size W0 w') ∧ (b 3 = true → byte.C w' A1 tx.length tx) ∧ (b 13 = true → byte.C w' A2 tx.length tx) ∧ (b 3 = true → (m3_ : Value) = .slice A1 tx.length c1) ∧ (b 13 = true → (m13_ : Value) = .slice A2 tx.length c2)) HT_.out HW_.out (by kernel_rfl) (by kernel_rfl) ?_ ?_ ?_
  · exact ⟨none, 0, none, 0, .bool false, .bool false, by simp only [putSel, Bool.false_eq_true, if_false], below_drew (Below.refl _ _), fun h_ => absurd h_ (by decide), fun h_ => absurd h_ (by decide), fun h_ => absurd h_ (by decide), fun h_ => absurd h_ (by decide)⟩
  · skip
    clear B
    refine steps_cons ?_ ?_
    · rintro b a w' ⟨A1, c1, A2, c2, m3_, m13_, ha, Q_B, Q_C1, Q_C2, Q_X3_, Q_X13_⟩ hb_ hon hoff
      refine ⟨_, rfl, fun K hK => ?_⟩
      have e12 : a.tmps[12]? = some (.slice (some ⟨g, 0, none⟩) tx.length ct) := by rw [ha]; exact (putSel_off rfl).trans rfl
      replace ha := Aside0.mk ha
      have B := Aside0.mk Q_B
      have hs := run_bstr (c := ct) (Kd.C_below HT.out B.out)
      refine value_ (w1 := w') (v := .string (bstr tx)) (by rfl) rfl ?_ ?_
      · go_simp
        (try simp only [i64_w])
        try rfl
      refine hK.out _ _ ⟨A1, c1, A2, c2, m3_, m13_, (by rw [ha.out]; exact putSel_upk 0 hb_ rfl rfl rfl), Q_B, Q_C1, fun h0_ => absurd ((hoff 13 (by kernel_rfl)).symm.trans h0_) (by decide), Q_X3_, fun h0_ => absurd ((hoff 13 (by kernel_rfl)).symm.trans h0_) (by decide)⟩
    refine steps_cons ?_ ?_
    · rintro b a w' ⟨A1, c1, A2, c2, m3_, m13_, ha, Q_B, Q_C1, Q_C2, Q_X3_, Q_X13_⟩ hb_ hon hoff
      refine ⟨_, rfl, fun K hK => ?_⟩
      have e14 : a.tmps[14]? = some (.int .u64 xi) := by rw [ha]; exact (putSel_off rfl).trans rfl
      replace ha := Aside0.mk ha
      have B := Aside0.mk Q_B
      refine goes_ Try.func11 (by kernel_rfl) rfl #[.int .u64 xi] (by rfl) rfl rfl (by first | (simp only [List.map_toArray, List.map_cons, List.map_nil, Act.eval, Array.getD_eq_getD_getElem?, Option.getD_some, e14]; done) | (simp only [List.map_toArray, List.map_cons, List.map_nil, Act.eval, Array.getD_eq_getD_getElem?, Option.getD_some, e14]; rfl)) ?_
      refine (HRT.out w').mono ?_
      rintro e w1 ⟨v, rfl, hR, hB1⟩; obtain ⟨A9, c9, rfl, hle9, hC9⟩ := Kd.R_reads hR
      refine ⟨_, rfl, ?_⟩
      refine hK.out _ _ ⟨A9, c9, A2, c2, (.slice A9 tx.length c9), m13_, (by rw [ha.out]; exact putSel_upk 1 hb_ rfl rfl rfl), B.out.trans (hB1.mono B.out.size), fun _ => hC9, fun h0_ => absurd ((hoff 13 (by kernel_rfl)).symm.trans h0_) (by decide), fun _ => rfl, fun h0_ => absurd ((hoff 13 (by kernel_rfl)).symm.trans h0_) (by decide)⟩
    refine steps_cons ?_ ?_
    · rintro b a w' ⟨A1, c1, A2, c2, m3_, m13_, ha, Q_B, Q_C1, Q_C2, Q_X3_, Q_X13_⟩ hb_ hon hoff
      refine ⟨_, rfl, fun K hK => ?_⟩
      have e15 : a.tmps[15]? = some (m3_) := by rw [ha]; exact putSel_on (e := (3, 15, m3_)) 1 rfl rfl (hon 3 (by kernel_rfl)) rfl
      rw [Q_X3_ (hon 3 (by kernel_rfl))] at e15
      replace ha := Aside0.mk ha
      have B := Aside0.mk Q_B
      have C1 := Aside0.mk (Q_C1 (hon 3 (by kernel_rfl)))
      have hs := run_bstr (c := c1) (C1.out)
      refine value_ (w1 := w') (v := .string (bstr tx)) (by rfl) rfl ?_ ?_
      · go_simp
        (try simp only [i64_w])
        try rfl
      refine hK.out _ _ ⟨A1, c1, A2, c2, m3_, m13_, (by rw [ha.out]; exact putSel_upk 2 hb_ rfl rfl rfl), Q_B, Q_C1, fun h0_ => absurd ((hoff 13 (by kernel_rfl)).symm.trans h0_) (by decide), Q_X3_, fun h0_ => absurd ((hoff 13 (by kernel_rfl)).symm.trans h0_) (by decide)⟩
    refine steps_cons ?_ ?_
    · rintro b a w' ⟨A1, c1, A2, c2, m3_, m13_, ha, Q_B, Q_C1, Q_C2, Q_X3_, Q_X13_⟩ hb_ hon hoff
      refine ⟨_, rfl, fun K hK => ?_⟩
      have e13 : a.tmps[13]? = some (.string (bstr tx)) := by rw [ha]; exact putSel_on (e := (1, 13, .string (bstr tx))) 0 rfl rfl (hon 1 (by kernel_rfl)) rfl
      have e16 : a.tmps[16]? = some (.string (bstr tx)) := by rw [ha]; exact putSel_on (e := (4, 16, .string (bstr tx))) 2 rfl rfl (hon 4 (by kernel_rfl)) rfl
      replace ha := Aside0.mk ha
      have B := Aside0.mk Q_B
      have C1 := Aside0.mk (Q_C1 (hon 3 (by kernel_rfl)))
      have hq := bstr_eq tx tx
      refine value_ (w1 := w') (v := .bool false) (by rfl) rfl ?_ ?_
      · go_simp
        (try simp only [i64_w])
        try rfl
      refine hK.out _ _ ⟨A1, c1, A2, c2, m3_, m13_, (by rw [ha.out]; exact putSel_upk 3 hb_ rfl rfl rfl), Q_B, Q_C1, fun h0_ => absurd ((hoff 13 (by kernel_rfl)).symm.trans h0_) (by decide), Q_X3_, fun h0_ => absurd ((hoff 13 (by kernel_rfl)).symm.trans h0_) (by decide)⟩
    refine steps_cons ?_ ?_
    · rintro b a w' ⟨A1, c1, A2, c2, m3_, m13_, ha, Q_B, Q_C1, Q_C2, Q_X3_, Q_X13_⟩ hb_ hon hoff
      refine ⟨_, rfl, fun K hK => ?_⟩
      have e17 : a.tmps[17]? = some (.bool false) := by rw [ha]; exact putSel_on (e := (5, 17, .bool false)) 3 rfl rfl (hon 5 (by kernel_rfl)) rfl
      replace ha := Aside0.mk ha
      have B := Aside0.mk Q_B
      have C1 := Aside0.mk (Q_C1 (hon 3 (by kernel_rfl)))
      refine value_ (w1 := w') (v := .bool false) (by rfl) rfl ?_ ?_
      · go_simp
        (try simp only [i64_w])
        try rfl
      refine hK.out _ _ ⟨A1, c1, A2, c2, m3_, m13_, (by rw [ha.out]; exact putSel_upk 4 hb_ rfl rfl rfl), Q_B, Q_C1, fun h0_ => absurd ((hoff 13 (by kernel_rfl)).symm.trans h0_) (by decide), Q_X3_, fun h0_ => absurd ((hoff 13 (by kernel_rfl)).symm.trans h0_) (by decide)⟩
    refine steps_cons ?_ ?_
    · rintro b a w' ⟨A1, c1, A2, c2, m3_, m13_, ha, Q_B, Q_C1, Q_C2, Q_X3_, Q_X13_⟩ hb_ hon hoff
      refine ⟨_, rfl, fun K hK => ?_⟩
      have e1 : a.tmps[1]? = some (.slice A l.length c) := by rw [ha]; exact (putSel_off rfl).trans rfl
      have e18 : a.tmps[18]? = some (.bool false) := by rw [ha]; exact putSel_on (e := (6, 18, .bool false)) 4 rfl rfl (hon 6 (by kernel_rfl)) rfl
      replace ha := Aside0.mk ha
      have B := Aside0.mk Q_B
      have C1 := Aside0.mk (Q_C1 (hon 3 (by kernel_rfl)))
      refine value_ (w1 := w') (v := .slice A l.length c) (wanted_on rfl rfl rfl (e18.trans (by first | rfl | (simp [*]; done)))) rfl ?_ ?_
      · go_simp
        (try simp only [i64_w])
        try rfl
      refine hK.out _ _ ⟨A1, c1, A2, c2, m3_, m13_, (by rw [ha.out]; exact putSel_upk 5 hb_ rfl rfl rfl), Q_B, Q_C1, fun h0_ => absurd ((hoff 13 (by kernel_rfl)).symm.trans h0_) (by decide), Q_X3_, fun h0_ => absurd ((hoff 13 (by kernel_rfl)).symm.trans h0_) (by decide)⟩
    refine steps_cons ?_ ?_
    · rintro b a w' ⟨A1, c1, A2, c2, m3_, m13_, ha, Q_B, Q_C1, Q_C2, Q_X3_, Q_X13_⟩ hb_ hon hoff
      refine ⟨_, rfl, fun K hK => ?_⟩
      have e0 : a.tmps[0]? = some (.int .u64 xi) := by rw [ha]; exact (putSel_off rfl).trans rfl
      have e18 : a.tmps[18]? = some (.bool false) := by rw [ha]; exact putSel_on (e := (6, 18, .bool false)) 4 rfl rfl (hon 6 (by kernel_rfl)) rfl
      replace ha := Aside0.mk ha
      have B := Aside0.mk Q_B
      have C1 := Aside0.mk (Q_C1 (hon 3 (by kernel_rfl)))
      refine value_ (w1 := w') (v := .int .u64 xi) (wanted_on rfl rfl rfl (e18.trans (by first | rfl | (simp [*]; done)))) rfl ?_ ?_
      · go_simp
        (try simp only [i64_w])
        try rfl
      refine hK.out _ _ ⟨A1, c1, A2, c2, m3_, m13_, (by rw [ha.out]; exact putSel_upk 6 hb_ rfl rfl rfl), Q_B, Q_C1, fun h0_ => absurd ((hoff 13 (by kernel_rfl)).symm.trans h0_) (by decide), Q_X3_, fun h0_ => absurd ((hoff 13 (by kernel_rfl)).symm.trans h0_) (by decide)⟩
    refine steps_cons ?_ ?_
    · rintro b a w' ⟨A1, c1, A2, c2, m3_, m13_, ha, Q_B, Q_C1, Q_C2, Q_X3_, Q_X13_⟩ hb_ hon hoff
      refine ⟨_, rfl, fun K hK => ?_⟩
      have e19 : a.tmps[19]? = some (.slice A l.length c) := by rw [ha]; exact putSel_on (e := (7, 19, .slice A l.length c)) 5 rfl rfl (hon 7 (by kernel_rfl)) rfl
      have e20 : a.tmps[20]? = some (.int .u64 xi) := by rw [ha]; exact putSel_on (e := (8, 20, .int .u64 xi)) 6 rfl rfl (hon 8 (by kernel_rfl)) rfl
      have e18 : a.tmps[18]? = some (.bool false) := by rw [ha]; exact putSel_on (e := (6, 18, .bool false)) 4 rfl rfl (hon 6 (by kernel_rfl)) rfl
      replace ha := Aside0.mk ha
      have B := Aside0.mk Q_B
      have C1 := Aside0.mk (Q_C1 (hon 3 (by kernel_rfl)))
      refine goes_ Try.func12 (by kernel_rfl) rfl #[.slice A l.length c, .int .u64 xi] (wanted_on rfl rfl rfl (e18.trans (by first | rfl | (simp [*]; done)))) rfl rfl (by first | (simp only [List.map_toArray, List.map_cons, List.map_nil, Act.eval, Array.getD_eq_getD_getElem?, Option.getD_some, e19, e20, e18]; done) | (simp only [List.map_toArray, List.map_cons, List.map_nil, Act.eval, Array.getD_eq_getD_getElem?, Option.getD_some, e19, e20, e18]; rfl)) ?_
      refine (HSL.out w' (Kd.C_below HC.out B.out)).mono ?_
      rintro e w1 ⟨rfl, hB1⟩
      refine ⟨_, rfl, ?_⟩
      refine hK.out _ _ ⟨A1, c1, A2, c2, m3_, m13_, (by rw [ha.out]; exact putSel_upk 7 hb_ rfl rfl rfl), B.out.trans (hB1.mono B.out.size), fun _ => Kd.C_below C1.out hB1, fun h0_ => absurd ((hoff 13 (by kernel_rfl)).symm.trans h0_) (by decide), Q_X3_, fun h0_ => absurd ((hoff 13 (by kernel_rfl)).symm.trans h0_) (by decide)⟩
    refine steps_cons ?_ ?_
    · rintro b a w' ⟨A1, c1, A2, c2, m3_, m13_, ha, Q_B, Q_C1, Q_C2, Q_X3_, Q_X13_⟩ hb_ hon hoff
      refine ⟨_, rfl, fun K hK => ?_⟩
      have e1 : a.tmps[1]? = some (.slice A l.length c) := by rw [ha]; exact (putSel_off rfl).trans rfl
      have e18 : a.tmps[18]? = some (.bool false) := by rw [ha]; exact putSel_on (e := (6, 18, .bool false)) 4 rfl rfl (hon 6 (by kernel_rfl)) rfl
      replace ha := Aside0.mk ha
      have B := Aside0.mk Q_B
      have C1 := Aside0.mk (Q_C1 (hon 3 (by kernel_rfl)))
      refine value_ (w1 := w') (v := .slice A l.length c) (wanted_on rfl rfl rfl (e18.trans (by first | rfl | (simp [*]; done)))) rfl ?_ ?_
      · go_simp
        (try simp only [i64_w])
        try rfl
      refine hK.out _ _ ⟨A1, c1, A2, c2, m3_, m13_, (by rw [ha.out]; exact putSel_upk 8 hb_ rfl rfl rfl), Q_B, Q_C1, Q_C2, Q_X3_, Q_X13_⟩
    refine steps_cons ?_ ?_
    · rintro b a w' ⟨A1, c1, A2, c2, m3_, m13_, ha, Q_B, Q_C1, Q_C2, Q_X3_, Q_X13_⟩ hb_ hon hoff
      refine ⟨_, rfl, fun K hK => ?_⟩
      have e22 : a.tmps[22]? = some (.slice A l.length c) := by rw [ha]; exact putSel_on (e := (10, 22, .slice A l.length c)) 8 rfl rfl (hon 10 (by kernel_rfl)) rfl
      have e18 : a.tmps[18]? = some (.bool false) := by rw [ha]; exact putSel_on (e := (6, 18, .bool false)) 4 rfl rfl (hon 6 (by kernel_rfl)) rfl
      replace ha := Aside0.mk ha
      have B := Aside0.mk Q_B
      have C1 := Aside0.mk (Q_C1 (hon 3 (by kernel_rfl)))
      have hs := run_bstr (c := c) (Kd.C_below HC.out B.out)
      refine value_ (w1 := w') (v := .string (bstr l)) (wanted_on rfl rfl rfl (e18.trans (by first | rfl | (simp [*]; done)))) rfl ?_ ?_
      · go_simp
        (try simp only [i64_w])
        try rfl
      refine hK.out _ _ ⟨A1, c1, A2, c2, m3_, m13_, (by rw [ha.out]; exact putSel_upk 9 hb_ rfl rfl rfl), Q_B, Q_C1, Q_C2, Q_X3_, Q_X13_⟩
    refine steps_cons ?_ ?_
    · rintro b a w' ⟨A1, c1, A2, c2, m3_, m13_, ha, Q_B, Q_C1, Q_C2, Q_X3_, Q_X13_⟩ hb_ hon hoff
      refine ⟨_, rfl, fun K hK => ?_⟩
      have e0 : a.tmps[0]? = some (.int .u64 xi) := by rw [ha]; exact (putSel_off rfl).trans rfl
      have e18 : a.tmps[18]? = some (.bool false) := by rw [ha]; exact putSel_on (e := (6, 18, .bool false)) 4 rfl rfl (hon 6 (by kernel_rfl)) rfl
      replace ha := Aside0.mk ha
      have B := Aside0.mk Q_B
      have C1 := Aside0.mk (Q_C1 (hon 3 (by kernel_rfl)))
      refine value_ (w1 := w') (v := .int .u64 xi) (wanted_on rfl rfl rfl (e18.trans (by first | rfl | (simp [*]; done)))) rfl ?_ ?_
      · go_simp
        (try simp only [i64_w])
        try rfl
      refine hK.out _ _ ⟨A1, c1, A2, c2, m3_, m13_, (by rw [ha.out]; exact putSel_upk 10 hb_ rfl rfl rfl), Q_B, Q_C1, fun h0_ => absurd ((hoff 13 (by kernel_rfl)).symm.trans h0_) (by decide), Q_X3_, fun h0_ => absurd ((hoff 13 (by kernel_rfl)).symm.trans h0_) (by decide)⟩
    refine steps_cons ?_ ?_
    · rintro b a w' ⟨A1, c1, A2, c2, m3_, m13_, ha, Q_B, Q_C1, Q_C2, Q_X3_, Q_X13_⟩ hb_ hon hoff
      refine ⟨_, rfl, fun K hK => ?_⟩
      have e24 : a.tmps[24]? = some (.int .u64 xi) := by rw [ha]; exact putSel_on (e := (12, 24, .int .u64 xi)) 10 rfl rfl (hon 12 (by kernel_rfl)) rfl
      have e18 : a.tmps[18]? = some (.bool false) := by rw [ha]; exact putSel_on (e := (6, 18, .bool false)) 4 rfl rfl (hon 6 (by kernel_rfl)) rfl
      replace ha := Aside0.mk ha
      have B := Aside0.mk Q_B
      have C1 := Aside0.mk (Q_C1 (hon 3 (by kernel_rfl)))
      refine goes_ Try.func11 (by kernel_rfl) rfl #[.int .u64 xi] (wanted_on rfl rfl rfl (e18.trans (by first | rfl | (simp [*]; done)))) rfl rfl (by first | (simp only [List.map_toArray, List.map_cons, List.map_nil, Act.eval, Array.getD_eq_getD_getElem?, Option.getD_some, e24, e18]; done) | (simp only [List.map_toArray, List.map_cons, List.map_nil, Act.eval, Array.getD_eq_getD_getElem?, Option.getD_some, e24, e18]; rfl)) ?_
      refine (HRT.out w').mono ?_
      rintro e w1 ⟨v, rfl, hR, hB1⟩; obtain ⟨A9, c9, rfl, hle9, hC9⟩ := Kd.R_reads hR
      refine ⟨_, rfl, ?_⟩
      refine hK.out _ _ ⟨A1, c1, A9, c9, m3_, (.slice A9 tx.length c9), (by rw [ha.out]; exact putSel_upk 11 hb_ rfl rfl rfl), B.out.trans (hB1.mono B.out.size), fun _ => Kd.C_below C1.out hB1, fun _ => hC9, Q_X3_, fun _ => rfl⟩
    refine steps_cons ?_ ?_
    · rintro b a w' ⟨A1, c1, A2, c2, m3_, m13_, ha, Q_B, Q_C1, Q_C2, Q_X3_, Q_X13_⟩ hb_ hon hoff
      refine ⟨_, rfl, fun K hK => ?_⟩
      have e25 : a.tmps[25]? = some (m13_) := by rw [ha]; exact putSel_on (e := (13, 25, m13_)) 11 rfl rfl (hon 13 (by kernel_rfl)) rfl
      rw [Q_X13_ (hon 13 (by kernel_rfl))] at e25
      have e18 : a.tmps[18]? = some (.bool false) := by rw [ha]; exact putSel_on (e := (6, 18, .bool false)) 4 rfl rfl (hon 6 (by kernel_rfl)) rfl
      replace ha := Aside0.mk ha
      have B := Aside0.mk Q_B
      have C1 := Aside0.mk (Q_C1 (hon 3 (by kernel_rfl)))
      have C2 := Aside0.mk (Q_C2 (hon 13 (by kernel_rfl)))
      have hs := run_bstr (c := c2) (C2.out)
      refine value_ (w1 := w') (v := .string (bstr tx)) (wanted_on rfl rfl rfl (e18.trans (by first | rfl | (simp [*]; done)))) rfl ?_ ?_
      · go_simp
        (try simp only [i64_w])
        try rfl
      refine hK.out _ _ ⟨A1, c1, A2, c2, m3_, m13_, (by rw [ha.out]; exact putSel_upk 12 hb_ rfl rfl rfl), Q_B, Q_C1, Q_C2, Q_X3_, Q_X13_⟩
    refine steps_cons ?_ ?_
    · rintro b a w' ⟨A1, c1, A2, c2, m3_, m13_, ha, Q_B, Q_C1, Q_C2, Q_X3_, Q_X13_⟩ hb_ hon hoff
      refine ⟨_, rfl, fun K hK => ?_⟩
      have e23 : a.tmps[23]? = some (.string (bstr l)) := by rw [ha]; exact putSel_on (e := (11, 23, .string (bstr l))) 9 rfl rfl (hon 11 (by kernel_rfl)) rfl
      have e26 : a.tmps[26]? = some (.string (bstr tx)) := by rw [ha]; exact putSel_on (e := (14, 26, .string (bstr tx))) 12 rfl rfl (hon 14 (by kernel_rfl)) rfl
      have e18 : a.tmps[18]? = some (.bool false) := by rw [ha]; exact putSel_on (e := (6, 18, .bool false)) 4 rfl rfl (hon 6 (by kernel_rfl)) rfl
      replace ha := Aside0.mk ha
      have B := Aside0.mk Q_B
      have C1 := Aside0.mk (Q_C1 (hon 3 (by kernel_rfl)))
      have C2 := Aside0.mk (Q_C2 (hon 13 (by kernel_rfl)))
      have hq := HQ.out
      refine value_ (w1 := w') (v := .bool r) (wanted_on rfl rfl rfl (e18.trans (by first | rfl | (simp [*]; done)))) rfl ?_ ?_
      · go_simp
        (try simp only [i64_w])
        try rfl
      refine hK.out _ _ ⟨A1, c1, A2, c2, m3_, m13_, (by rw [ha.out]; exact putSel_upk 13 hb_ rfl rfl rfl), Q_B, Q_C1, Q_C2, Q_X3_, Q_X13_⟩
    refine steps_cons ?_ ?_
    · rintro b a w' ⟨A1, c1, A2, c2, m3_, m13_, ha, Q_B, Q_C1, Q_C2, Q_X3_, Q_X13_⟩ hb_ hon hoff
      refine ⟨_, rfl, fun K hK => ?_⟩
      have e21 : a.tmps[21]? = some (.bool r) := by rw [ha]; exact putSel_on (e := (9, 21, .bool r)) 7 rfl rfl (hon 9 (by kernel_rfl)) rfl
      have e27 : a.tmps[27]? = some (.bool r) := by rw [ha]; exact putSel_on (e := (15, 27, .bool r)) 13 rfl rfl (hon 15 (by kernel_rfl)) rfl
      have e18 : a.tmps[18]? = some (.bool false) := by rw [ha]; exact putSel_on (e := (6, 18, .bool false)) 4 rfl rfl (hon 6 (by kernel_rfl)) rfl
      replace ha := Aside0.mk ha
      have B := Aside0.mk Q_B
      have C1 := Aside0.mk (Q_C1 (hon 3 (by kernel_rfl)))
      have C2 := Aside0.mk (Q_C2 (hon 13 (by kernel_rfl)))
      refine value_ (w1 := w') (v := .bool false) (wanted_on rfl rfl rfl (e18.trans (by first | rfl | (simp [*]; done)))) rfl ?_ ?_
      · go_simp
        (try simp only [i64_w])
        try rfl
      refine hK.out _ _ ⟨A1, c1, A2, c2, m3_, m13_, (by rw [ha.out]; exact putSel_upk 14 hb_ rfl rfl rfl), Q_B, Q_C1, Q_C2, Q_X3_, Q_X13_⟩
    refine steps_cons ?_ ?_
    · rintro b a w' ⟨A1, c1, A2, c2, m3_, m13_, ha, Q_B, Q_C1, Q_C2, Q_X3_, Q_X13_⟩ hb_ hon hoff
      refine ⟨_, rfl, fun K hK => ?_⟩
      have e18 : a.tmps[18]? = some (.bool false) := by rw [ha]; exact putSel_on (e := (6, 18, .bool false)) 4 rfl rfl (hon 6 (by kernel_rfl)) rfl
      have e28 : a.tmps[28]? = some (.bool false) := by rw [ha]; exact putSel_on (e := (16, 28, .bool false)) 14 rfl rfl (hon 16 (by kernel_rfl)) rfl
      replace ha := Aside0.mk ha
      have B := Aside0.mk Q_B
      have C1 := Aside0.mk (Q_C1 (hon 3 (by kernel_rfl)))
      have C2 := Aside0.mk (Q_C2 (hon 13 (by kernel_rfl)))
      refine value_ (w1 := w') (v := .bool false) (by rfl) rfl ?_ ?_
      · go_simp
        (try simp only [i64_w])
        try rfl
      refine hK.out _ _ ⟨A1, c1, A2, c2, m3_, m13_, (by rw [ha.out]; exact putSel_upk 15 hb_ rfl rfl rfl), Q_B, Q_C1, Q_C2, Q_X3_, Q_X13_⟩
    refine steps_cons ?_ ?_
    · rintro b a w' ⟨A1, c1, A2, c2, m3_, m13_, ha, Q_B, Q_C1, Q_C2, Q_X3_, Q_X13_⟩ hb_ hon hoff
      refine ⟨_, rfl, fun K hK => ?_⟩
      have e29 : a.tmps[29]? = some (.bool false) := by rw [ha]; exact putSel_on (e := (17, 29, .bool false)) 15 rfl rfl (hon 17 (by kernel_rfl)) rfl
      replace ha := Aside0.mk ha
      have B := Aside0.mk Q_B
      have C1 := Aside0.mk (Q_C1 (hon 3 (by kernel_rfl)))
      have C2 := Aside0.mk (Q_C2 (hon 13 (by kernel_rfl)))
      refine value_ (w1 := w') (v := .bool false) (by rfl) rfl ?_ ?_
      · go_simp
        (try simp only [i64_w])
        try rfl
      refine hK.out _ _ ⟨A1, c1, A2, c2, m3_, m13_, (by rw [ha.out]; exact putSel_upk 16 hb_ rfl rfl rfl), Q_B, Q_C1, Q_C2, Q_X3_, Q_X13_⟩
    refine steps_cons ?_ ?_
    · rintro b a w' ⟨A1, c1, A2, c2, m3_, m13_, ha, Q_B, Q_C1, Q_C2, Q_X3_, Q_X13_⟩ hb_ hon hoff
      refine ⟨_, rfl, fun K hK => ?_⟩
      have e9 : a.tmps[9]? = some (.slice (some ⟨g, 0, none⟩) tx.length ct) := by rw [ha]; exact (putSel_off rfl).trans rfl
      have e30 : a.tmps[30]? = some (.bool false) := by rw [ha]; exact putSel_on (e := (18, 30, .bool false)) 16 rfl rfl (hon 18 (by kernel_rfl)) rfl
      replace ha := Aside0.mk ha
      have B := Aside0.mk Q_B
      have C1 := Aside0.mk (Q_C1 (hon 3 (by kernel_rfl)))
      have C2 := Aside0.mk (Q_C2 (hon 13 (by kernel_rfl)))
      refine value_ (w1 := w') (v := .slice (some ⟨g, 0, none⟩) tx.length ct) (wanted_on rfl rfl rfl (e30.trans (by first | rfl | (simp [*]; done)))) rfl ?_ ?_
      · go_simp
        (try simp only [i64_w])
        try rfl
      refine hK.out _ _ ⟨A1, c1, A2, c2, m3_, m13_, (by rw [ha.out]; exact putSel_upk 17 hb_ rfl rfl rfl), Q_B, Q_C1, Q_C2, Q_X3_, Q_X13_⟩
    refine steps_cons ?_ ?_
    · rintro b a w' ⟨A1, c1, A2, c2, m3_, m13_, ha, Q_B, Q_C1, Q_C2, Q_X3_, Q_X13_⟩ hb_ hon hoff
      refine ⟨_, rfl, fun K hK => ?_⟩
      have e0 : a.tmps[0]? = some (.int .u64 xi) := by rw [ha]; exact (putSel_off rfl).trans rfl
      have e30 : a.tmps[30]? = some (.bool false) := by rw [ha]; exact putSel_on (e := (18, 30, .bool false)) 16 rfl rfl (hon 18 (by kernel_rfl)) rfl
      replace ha := Aside0.mk ha
      have B := Aside0.mk Q_B
      have C1 := Aside0.mk (Q_C1 (hon 3 (by kernel_rfl)))
      have C2 := Aside0.mk (Q_C2 (hon 13 (by kernel_rfl)))
      refine value_ (w1 := w') (v := .int .u64 xi) (wanted_on rfl rfl rfl (e30.trans (by first | rfl | (simp [*]; done)))) rfl ?_ ?_
      · go_simp
        (try simp only [i64_w])
        try rfl
      refine hK.out _ _ ⟨A1, c1, A2, c2, m3_, m13_, (by rw [ha.out]; exact putSel_upk 18 hb_ rfl rfl rfl), Q_B, Q_C1, Q_C2, Q_X3_, Q_X13_⟩
    refine steps_cons ?_ ?_
    · rintro b a w' ⟨A1, c1, A2, c2, m3_, m13_, ha, Q_B, Q_C1, Q_C2, Q_X3_, Q_X13_⟩ hb_ hon hoff
      refine ⟨_, rfl, fun K hK => ?_⟩
      have e31 : a.tmps[31]? = some (.slice (some ⟨g, 0, none⟩) tx.length ct) := by rw [ha]; exact putSel_on (e := (19, 31, .slice (some ⟨g, 0, none⟩) tx.length ct)) 17 rfl rfl (hon 19 (by kernel_rfl)) rfl
      have e32 : a.tmps[32]? = some (.int .u64 xi) := by rw [ha]; exact putSel_on (e := (20, 32, .int .u64 xi)) 18 rfl rfl (hon 20 (by kernel_rfl)) rfl
      have e30 : a.tmps[30]? = some (.bool false) := by rw [ha]; exact putSel_on (e := (18, 30, .bool false)) 16 rfl rfl (hon 18 (by kernel_rfl)) rfl
      replace ha := Aside0.mk ha
      have B := Aside0.mk Q_B
      have C1 := Aside0.mk (Q_C1 (hon 3 (by kernel_rfl)))
      have C2 := Aside0.mk (Q_C2 (hon 13 (by kernel_rfl)))
      refine goes_ Try.func12 (by kernel_rfl) rfl #[.slice (some ⟨g, 0, none⟩) tx.length ct, .int .u64 xi] (wanted_on rfl rfl rfl (e30.trans (by first | rfl | (simp [*]; done)))) rfl rfl (by first | (simp only [List.map_toArray, List.map_cons, List.map_nil, Act.eval, Array.getD_eq_getD_getElem?, Option.getD_some, e31, e32, e30]; done) | (simp only [List.map_toArray, List.map_cons, List.map_nil, Act.eval, Array.getD_eq_getD_getElem?, Option.getD_some, e31, e32, e30]; rfl)) ?_
      refine (HST.out w' (some ⟨g, 0, none⟩) ct (Kd.C_below HT.out B.out)).mono ?_
      rintro e w1 ⟨rfl, hB1⟩
      refine ⟨_, rfl, ?_⟩
      refine hK.out _ _ ⟨A1, c1, A2, c2, m3_, m13_, (by rw [ha.out]; exact putSel_upk 19 hb_ rfl rfl rfl), B.out.trans (hB1.mono B.out.size), fun _ => Kd.C_below C1.out hB1, fun _ => Kd.C_below C2.out hB1, Q_X3_, Q_X13_⟩
    refine steps_cons ?_ ?_
    · rintro b a w' ⟨A1, c1, A2, c2, m3_, m13_, ha, Q_B, Q_C1, Q_C2, Q_X3_, Q_X13_⟩ hb_ hon hoff
      refine ⟨_, rfl, fun K hK => ?_⟩
      have e33 : a.tmps[33]? = some (.bool true) := by rw [ha]; exact putSel_on (e := (21, 33, .bool true)) 19 rfl rfl (hon 21 (by kernel_rfl)) rfl
      have e30 : a.tmps[30]? = some (.bool false) := by rw [ha]; exact putSel_on (e := (18, 30, .bool false)) 16 rfl rfl (hon 18 (by kernel_rfl)) rfl
      replace ha := Aside0.mk ha
      have B := Aside0.mk Q_B
      have C1 := Aside0.mk (Q_C1 (hon 3 (by kernel_rfl)))
      have C2 := Aside0.mk (Q_C2 (hon 13 (by kernel_rfl)))
      refine value_ (w1 := w') (v := .bool false) (wanted_on rfl rfl rfl (e30.trans (by first | rfl | (simp [*]; done)))) rfl ?_ ?_
      · go_simp
        (try simp only [i64_w])
        try rfl
      refine hK.out _ _ ⟨A1, c1, A2, c2, m3_, m13_, (by rw [ha.out]; exact putSel_upk 20 hb_ rfl rfl rfl), Q_B, Q_C1, Q_C2, Q_X3_, Q_X13_⟩
    refine steps_cons ?_ ?_
    · rintro b a w' ⟨A1, c1, A2, c2, m3_, m13_, ha, Q_B, Q_C1, Q_C2, Q_X3_, Q_X13_⟩ hb_ hon hoff
      refine ⟨_, rfl, fun K hK => ?_⟩
      have e30 : a.tmps[30]? = some (.bool false) := by rw [ha]; exact putSel_on (e := (18, 30, .bool false)) 16 rfl rfl (hon 18 (by kernel_rfl)) rfl
      have e34 : a.tmps[34]? = some (.bool false) := by rw [ha]; exact putSel_on (e := (22, 34, .bool false)) 20 rfl rfl (hon 22 (by kernel_rfl)) rfl
      replace ha := Aside0.mk ha
      have B := Aside0.mk Q_B
      have C1 := Aside0.mk (Q_C1 (hon 3 (by kernel_rfl)))
      have C2 := Aside0.mk (Q_C2 (hon 13 (by kernel_rfl)))
      refine value_ (w1 := w') (v := .bool false) (by rfl) rfl ?_ ?_
      · go_simp
        (try simp only [i64_w])
        try rfl
      refine hK.out _ _ ⟨A1, c1, A2, c2, m3_, m13_, (by rw [ha.out]; exact putSel_upk 21 hb_ rfl rfl rfl), Q_B, Q_C1, Q_C2, Q_X3_, Q_X13_⟩
    refine steps_cons ?_ ?_
    · rintro b a w' ⟨A1, c1, A2, c2, m3_, m13_, ha, Q_B, Q_C1, Q_C2, Q_X3_, Q_X13_⟩ hb_ hon hoff
      refine ⟨_, rfl, fun K hK => ?_⟩
      have e35 : a.tmps[35]? = some (.bool false) := by rw [ha]; exact putSel_on (e := (23, 35, .bool false)) 21 rfl rfl (hon 23 (by kernel_rfl)) rfl
      replace ha := Aside0.mk ha
      have B := Aside0.mk Q_B
      have C1 := Aside0.mk (Q_C1 (hon 3 (by kernel_rfl)))
      have C2 := Aside0.mk (Q_C2 (hon 13 (by kernel_rfl)))
      refine value_ (w1 := w') (v := .bool false) (by rfl) rfl ?_ ?_
      · go_simp
        (try simp only [i64_w])
        try rfl
      refine hK.out _ _ ⟨A1, c1, A2, c2, m3_, m13_, (by rw [ha.out]; exact putSel_upk 22 hb_ rfl rfl rfl), Q_B, Q_C1, Q_C2, Q_X3_, Q_X13_⟩
    refine steps_cons ?_ ?_
    · rintro b a w' ⟨A1, c1, A2, c2, m3_, m13_, ha, Q_B, Q_C1, Q_C2, Q_X3_, Q_X13_⟩ hb_ hon hoff
      refine ⟨_, rfl, fun K hK => ?_⟩
      have e36 : a.tmps[36]? = some (.bool false) := by rw [ha]; exact putSel_on (e := (24, 36, .bool false)) 22 rfl rfl (hon 24 (by kernel_rfl)) rfl
      replace ha := Aside0.mk ha
      have B := Aside0.mk Q_B
      have C1 := Aside0.mk (Q_C1 (hon 3 (by kernel_rfl)))
      have C2 := Aside0.mk (Q_C2 (hon 13 (by kernel_rfl)))
      refine goes_ Try.func9 (by kernel_rfl) rfl #[] (wanted_on rfl rfl rfl (e36.trans (by first | rfl | (simp [*]; done)))) rfl rfl (by first | (simp only [List.map_toArray, List.map_cons, List.map_nil, Act.eval, Array.getD_eq_getD_getElem?, Option.getD_some, e36]; done) | (simp only [List.map_toArray, List.map_cons, List.map_nil, Act.eval, Array.getD_eq_getD_getElem?, Option.getD_some, e36]; rfl)) ?_
      refine (awake_calls w').mono ?_
      rintro e w1 ⟨rfl, hB1⟩
      refine ⟨_, rfl, ?_⟩
      refine hK.out _ _ ⟨A1, c1, A2, c2, m3_, m13_, (by rw [ha.out]; exact putSel_upk 23 hb_ rfl rfl rfl), B.out.trans (hB1.mono B.out.size), fun _ => Kd.C_below C1.out hB1, fun _ => Kd.C_below C2.out hB1, Q_X3_, Q_X13_⟩
    refine steps_cons ?_ ?_
    · rintro b a w' ⟨A1, c1, A2, c2, m3_, m13_, ha, Q_B, Q_C1, Q_C2, Q_X3_, Q_X13_⟩ hb_ hon hoff
      refine ⟨_, rfl, fun K hK => ?_⟩
      have e37 : a.tmps[37]? = some (.bool true) := by rw [ha]; exact putSel_on (e := (25, 37, .bool true)) 23 rfl rfl (hon 25 (by kernel_rfl)) rfl
      have e36 : a.tmps[36]? = some (.bool false) := by rw [ha]; exact putSel_on (e := (24, 36, .bool false)) 22 rfl rfl (hon 24 (by kernel_rfl)) rfl
      replace ha := Aside0.mk ha
      have B := Aside0.mk Q_B
      have C1 := Aside0.mk (Q_C1 (hon 3 (by kernel_rfl)))
      have C2 := Aside0.mk (Q_C2 (hon 13 (by kernel_rfl)))
      refine value_ (w1 := w') (v := .bool false) (wanted_on rfl rfl rfl (e36.trans (by first | rfl | (simp [*]; done)))) rfl ?_ ?_
      · go_simp
        (try simp only [i64_w])
        try rfl
      refine hK.out _ _ ⟨A1, c1, A2, c2, m3_, m13_, (by rw [ha.out]; exact putSel_upk 24 hb_ rfl rfl rfl), Q_B, Q_C1, Q_C2, Q_X3_, Q_X13_⟩
    refine steps_cons ?_ ?_
    · rintro b a w' ⟨A1, c1, A2, c2, m3_, m13_, ha, Q_B, Q_C1, Q_C2, Q_X3_, Q_X13_⟩ hb_ hon hoff
      refine ⟨_, rfl, fun K hK => ?_⟩
      have e36 : a.tmps[36]? = some (.bool false) := by rw [ha]; exact putSel_on (e := (24, 36, .bool false)) 22 rfl rfl (hon 24 (by kernel_rfl)) rfl
      have e38 : a.tmps[38]? = some (.bool false) := by rw [ha]; exact putSel_on (e := (26, 38, .bool false)) 24 rfl rfl (hon 26 (by kernel_rfl)) rfl
      replace ha := Aside0.mk ha
      have B := Aside0.mk Q_B
      have C1 := Aside0.mk (Q_C1 (hon 3 (by kernel_rfl)))
      have C2 := Aside0.mk (Q_C2 (hon 13 (by kernel_rfl)))
      refine value_ (w1 := w') (v := .bool false) (by rfl) rfl ?_ ?_
      · go_simp
        (try simp only [i64_w])
        try rfl
      refine hK.out _ _ ⟨A1, c1, A2, c2, m3_, m13_, (by rw [ha.out]; exact putSel_upk 25 hb_ rfl rfl rfl), Q_B, Q_C1, Q_C2, Q_X3_, Q_X13_⟩
    exact steps_nil
  rintro b a w' hall ⟨A1, c1, A2, c2, m3_, m13_, ha, Q_B, Q_C1, Q_C2, Q_X3_, Q_X13_⟩
  clear B
  have hb1_ := hall 1 (by kernel_rfl)
  have hb3_ := hall 3 (by kernel_rfl)
  have hb4_ := hall 4 (by kernel_rfl)
  have hb5_ := hall 5 (by kernel_rfl)
  have hb6_ := hall 6 (by kernel_rfl)
  have hb7_ := hall 7 (by kernel_rfl)
  have hb8_ := hall 8 (by kernel_rfl)
  have hb9_ := hall 9 (by kernel_rfl)
  have hb10_ := hall 10 (by kernel_rfl)
  have hb11_ := hall 11 (by kernel_rfl)
  have hb12_ := hall 12 (by kernel_rfl)
  have hb13_ := hall 13 (by kernel_rfl)
  have hb14_ := hall 14 (by kernel_rfl)
  have hb15_ := hall 15 (by kernel_rfl)
  have hb16_ := hall 16 (by kernel_rfl)
  have hb17_ := hall 17 (by kernel_rfl)
  have hb18_ := hall 18 (by kernel_rfl)
  have hb19_ := hall 19 (by kernel_rfl)
  have hb20_ := hall 20 (by kernel_rfl)
  have hb21_ := hall 21 (by kernel_rfl)
  have hb22_ := hall 22 (by kernel_rfl)
  have hb23_ := hall 23 (by kernel_rfl)
  have hb24_ := hall 24 (by kernel_rfl)
  have hb25_ := hall 25 (by kernel_rfl)
  have hb26_ := hall 26 (by kernel_rfl)
  have hb27_ := hall 27 (by kernel_rfl)
  subst ha
  obtain rfl := Q_X3_ hb3_
  obtain rfl := Q_X13_ hb13_
  simp only [putSel, hb1_, hb3_, hb4_, hb5_, hb6_, hb7_, hb8_, hb9_, hb10_, hb11_, hb12_, hb13_, hb14_, hb15_, hb16_, hb17_, hb18_, hb19_, hb20_, hb21_, hb22_, hb23_, hb24_, hb25_, hb26_, hb27_, if_true, Act.put, List.setIfInBounds_toArray, List.set_cons_zero, List.set_cons_succ]
  have B := Aside0.mk Q_B
  clear Q_B
  have C1 := Aside0.mk (Q_C1 hb3_)
  clear Q_C1
  have C2 := Aside0.mk (Q_C2 hb13_)
  clear Q_C2
  clear hall hb1_ hb3_ hb4_ hb5_ hb6_ hb7_ hb8_ hb9_ hb10_ hb11_ hb12_ hb13_ hb14_ hb15_ hb16_ hb17_ hb18_ hb19_ hb20_ hb21_ hb22_ hb23_ hb24_ hb25_ hb26_ hb27_
  have hR1 := Kd.R_below HRR.out B.out
  have hj8' : j < tx.length := by rw [HL8.out]; exact hj8
  obtain ⟨hcl, hfr⟩ := byte_cell hR1 j hj8'
  have hx := HX.out
  have hjj := HJ.out
  have hset := HSET.out
  have hu8 : (tx.set j (tx.getD j 0 ^^^ bt)).length = tx.length := by simp
  generalize tx.getD j 0 = tj at *
  generalize hy : tj ^^^ bt = y at *
  have HP := Lib.hid (byte_put hR1 j ((y.toNat : Nat) : Int) y rfl)
  have HBW := Lib.hid ((HB0.out.trans (B.out.mono HB0.out.size)).setCell (p := ⟨g, j, none⟩) hgb (.int .u8 (y.toNat : Int)))
  generalize hu : tx.set j y = u at *
  have h1 := fun (W : World) (h : byte.C W (some ⟨g, 0, none⟩) u.length u) => HSM.out W (some ⟨g, 0, none⟩) ct u h
  have h2 := fun (W : World) (h : byte.C W (some ⟨g, 0, none⟩) (u.take 7).length (u.take 7)) => HSM.out W (some ⟨g, 0, none⟩) ct (u.take 7) h
  have hle : u.length ≤ ct := by rw [hu8]; exact R_le HRR.out
  have hcut := fun W (h : byte.C W (some ⟨g, 0, none⟩) u.length u) => take_bytes h hle 7 7 rfl (by rw [hu8, HL8.out]; decide)
  have h7 : (u.take 7).length = 7 := by rw [List.length_take, hu8, HL8.out]; rfl
  have hne : decide (u.take 7 = tx) = false := decide_eq_false (fun h => by have := congrArg List.length h; rw [h7, HL8.out] at this; omega)
  rw [hset] at h1
  rw [hne, h7] at h2
  rw [h7] at hcut
  rw [hu8] at h1 hcut
  have hb0 : decide (bt = 0) = decide (bi = 0) := by
    rw [← HBI.out]
    refine decide_eq_decide.2 ⟨fun h => by rw [h]; rfl, fun h => ?_⟩
    have h2 : bt.toNat = 0 := by omega
    exact UInt8.toNat_inj.1 h2
  rw [hb0] at h1
  have HS3 := Lib.hid h1
  have HS4 := Lib.hid h2
  have HCT := Lib.hid hcut
  have HPU := Lib.hid hu8
  clear h1 h2 hcut hb0 hset hu hy hne h7 hu8
  generalize ((y.toNat : Nat) : Int) = yi at *
  go_upto_region 5 with (fail)
  generalize World.setCell _ _ _ = W3 at *
  have HU := Lib.hid (show byte.C W3 (some ⟨g, 0, none⟩) tx.length u by have := R_C HP.out; exact this)
  have HCUT := Lib.hid (HCT.out W3 HU.out).1
  have HV := Lib.hid (HCT.out W3 HU.out).2.1
  have hcut := HCUT.out
  clear B hcl hfr hjj hx
  go_wp2_with fail
  refine (HS3.out _ HU.out).mono ?_
  rintro e w4 ⟨rfl, hB4⟩
  have HV4 := Lib.hid (Kd.C_below HV.out hB4)
  have HB4 := Lib.hid (HBW.out.trans (hB4.mono HBW.out.size))
  clear hB4
  go_wp2_with fail
  refine (HS4.out _ HV4.out).mono ?_
  rintro e w5 ⟨rfl, hB5⟩
  have HB5 := Lib.hid (HB4.out.trans (hB5.mono HB4.out.size))
  go_wp2
  go_ret
  exact ⟨rfl, HB5.out⟩
end Go.Proofs.Ytemomlohmnclkaa.Mac
