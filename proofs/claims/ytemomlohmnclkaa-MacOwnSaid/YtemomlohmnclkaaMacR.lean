/- The statement MacOwn, walked. -/
import Derived.Test.YtemomlohmnclkaaMacO
namespace Go.Proofs.Ytemomlohmnclkaa.Mac
open Go.RowKit Go.Proofs.YtemomlohmnclkaaW.PrintWords Go.Proofs.YtemomlohmnclkaaW.PrintLast Go.Proofs.Ytemomlohmnclkaa.Base
set_option linter.unusedVariables false
set_option linter.unusedSimpArgs false
def macOwnT15 : Bool × List (List Nat × List Nat) := (true, [([], []), ([0], [0]), ([1], [1]), ([], []), ([3, 1], [3]), ([4], [4]), ([2, 5], [2, 5]), ([6, 4], [6]), ([7, 7], [7]), ([7, 8], [7, 8]), ([9, 8, 0, 1, 2, 3, 4, 5, 6, 7, 8, 9], [9])])
def macOwnB15 : List Nat := [0, 1, 3, 0, 11, 27, 63, 127, 255, 511, 1023]
theorem macOwntab15 : Go.Proofs.YtemomlohmnclkaaW.PrintLast.rtab .any (Go.Proofs.YtemomlohmnclkaaW.PrintLast.opsOf Try.f6 15) = macOwnT15 := by kernel_rfl
theorem macOwnbits15 : Go.Proofs.YtemomlohmnclkaaW.PrintLast.waitsOk macOwnT15.2 macOwnB15 = true := by kernel_rfl
theorem two_C {w : World} {A : Option Addr} {c : Nat} {p : List UInt8} (hC : byte.C w A p.length p) (hc : p.length ≤ c) : bytesK.C (w.alloc (.cells #[.slice A p.length c, .slice A p.length c] 24)) (some ⟨w.heap.size, 0, none⟩) [p, p].length [p, p] := by
  refine row_lit bytesK rfl w 24 [.slice A p.length c, .slice A p.length c] [p, p] rfl (by simp) ?_
  intro j v q h1 h2
  match j, h1, h2 with
  | 0, h1, h2 => obtain rfl := Option.some.inj h1; obtain rfl := Option.some.inj h2; exact K_bytes hC hc
  | 1, h1, h2 => obtain rfl := Option.some.inj h1; obtain rfl := Option.some.inj h2; exact K_bytes hC hc
  | j + 2, h1, h2 => cases h1
set_option maxHeartbeats 4000000 in
theorem macOwn_row (k : List UInt8) (hk : k.length = 16) {w : World} (A : Option Addr) (c : Nat) (l : List UInt8) (hb : byte.C w A l.length l) (hc : l.length ≤ c) (hm : c ≤ 140737488351232) :
    Calls Try.prog 6 #[.agg (keyV k), .slice A l.length c] w fun e w' => e = .returned (.bool true) ∧ Below w.heap.size w w' := by
  have HK := Lib.hid (show (w.alloc (.cells (keyV k) 23)).heap[w.heap.size]? = some (.cells (keyV k) 23 (0, 0)) from heap_alloc_new _ _)
  have HB := Lib.hid ((Below.refl w.heap.size w).alloc (Nat.le_refl _) (.cells (keyV k) 23))
  have HC := Lib.hid (Kd.C_below hb HB.out)
  have HGS := Lib.hid (show w.heap.size < (w.alloc (.cells (keyV k) 23)).heap.size by simp)
  have HKK := Lib.hid (key_size hk)
  have HSM := Lib.hid (fun (W : World) (A : Option Addr) (c : Nat) (h : bytesK.C W A [l, l].length [l, l]) => sum_calls W k hk A c [l, l] h (by
    show (rowL [l, l]).length ≤ _
    unfold rowL
    simp [textL_length]
    omega))
  have hmx : l.length ≤ 140737488355328 := by omega
  clear hb
  generalize sumS k [l, l] = z at *
  have HTX := Lib.hid (fun W => text_calls W z)
  have HRT := Lib.hid (fun W => refText_calls W z)
  have htl : (textL z).length ≤ 8 := Nat.le_refl 8
  generalize textL z = tx at *
  generalize hzi : ((z.toNat : Nat) : Int) = zi at *
  clear hzi
  go_enter Try.func6, Try.ntmps6
  go_upto_region 1 with (fail)
  generalize w.alloc (.cells (keyV k) 23) = W0 at *
  generalize keyV k = KV at *
  generalize hg : w.heap.size = g at *
  have HO := Lib.hid (show byte.R 5 (W0.alloc (.cells #[] 5)) W0.heap.size (fun _ => True) (.slice (some ⟨W0.heap.size, 0, none⟩) 0 0) [] from Kd.R_of_own (own_lit_of (enc := fun b : UInt8 => Value.int .u8 (b.toNat : Int)) W0 W0.heap.size 5 [] (Nat.le_refl _) (by simp)) (fun _ _ => trivial))
  go_upto_region 2 with (at_builtin; go_must (refine Kd.R_append_row (fun b : UInt8 => .int .u8 (b.toNat : Int)) (0 : UInt8) (w0 := W0) W0.heap.size rfl _ _ 24 5 _ 1 rfl Try.underlying24 info_u8 rfl (by decide) _ [] l A l.length c (fun _ => True) rfl rfl (fun _ _ => trivial) HO.out (Kd.C_alloc HC.out _) ((Below.refl _ _).alloc (Nat.le_refl _) _) (by simp) (by simpa using hmx) ?_); intro v1 w1 hR1 hB1 _ _)
  rw [List.nil_append] at hR1
  obtain ⟨A1, c1, rfl, hle1, hC1⟩ := Kd.R_reads hR1
  have HK1 := Lib.hid (blk_below HK.out hB1)
  have HC1 := Lib.hid hC1
  have HB1 := Lib.hid hB1
  have HA := Lib.hid (two_C hC1 hle1)
  have HS := Lib.hid (HSM.out _ _ 2 HA.out)
  clear hR1 hC1 hB1 HK HO
  go_wp2_with (refine wpList_load_row rfl 23 _ rfl g rfl 23 KV (0, 0) _ HK1.out Try.underlying23 rfl HKK.out ?_)
  refine HS.out.mono ?_
  rintro e w2 ⟨rfl, hB2⟩
  have HB2 := Lib.hid (show Below W0.heap.size W0 w2 from (HB1.out.alloc HB1.out.size _).trans (hB2.mono (by simp; have := HB1.out.size; omega)))
  have HC2 := Lib.hid (show byte.C w2 A1 l.length l from Kd.C_below HC1.out (((Below.refl _ _).alloc (Nat.le_refl _) _).trans (hB2.mono (by simp))))
  clear hB2 HC1 HB1 HA HS HK1 HSM
  go_wp2
  go_loopw [20] (fun v20 w' => ∃ i : Nat, i ≤ l.length ∧ v20 = .int .i64 i ∧ Hid (byte.C w' A1 l.length l) ∧ Hid (Below W0.heap.size W0 w')) (fun v20 _ => l.length - (intOf v20).toNat)
  case atStart => exact ⟨0, by omega, rfl, HC2, HB2⟩
  case round =>
    clear HC2 HB2
    obtain ⟨i, hi, rfl, HC2, HB2⟩ := hrel
    by_cases hlt : i < l.length
    · obtain ⟨ad1, rfl, hc1⟩ := byte_at HC2.out i hlt
      obtain ⟨ad2, rfl, hc2⟩ := byte_at (Kd.C_below HC.out HB2.out) i hlt
      generalize ((l.getD i 0).toNat : Int) = y at *
      have hyy : (y != y) = false := by simp
      go_wp2
      go_quiet (fail)
      go_wp2
      go_roundw
      case rel => exact ⟨i + 1, by omega, by go_num, Kd.C_below HC2.out (pw_below_drewN (Below.refl _ _) nq), pw_below_drewN HB2.out nq⟩
      case measure => simp [intOf]; omega
    · obtain rfl : i = l.length := by omega
      go_wp2_with fail
      refine (HTX.out _).mono ?_
      rintro e w3 ⟨v, rfl, hR, hB3⟩
      have HB3 := Lib.hid (HB2.out.trans (hB3.mono HB2.out.size))
      obtain ⟨A3, c3, rfl⟩ := Kd.R_slice hR
      generalize hgb : wr.heap.size = gb at *
      have hge : W0.heap.size ≤ gb := by have := HB2.out.size; omega
      have HR := Lib.hid hR
      clear hR hB3 HB2 HC2 hgb
      go_wp2
      go_loopw [37] (fun v37 w' => ∃ (i : Nat) (q : List UInt8), i ≤ tx.length ∧ v37 = .int .i64 i ∧ Hid (q.length = tx.length) ∧ Hid (byte.R 5 w' gb (fun _ => True) (.slice A3 tx.length c3) q) ∧ Hid (Below W0.heap.size W0 w')) (fun v37 _ => tx.length - (intOf v37).toNat)
      case atStart => exact ⟨0, tx, by omega, rfl, rfl, HR, HB3⟩
      case round =>
        clear HR HB3
        obtain ⟨i, q, hi, rfl, HQ, HR, HB3⟩ := hrel
        by_cases hlt : i < tx.length
        · obtain ⟨g3, c3', he, hge3⟩ := R_form HR.out (by rw [HQ.out]; omega)
          injection he with he _ _
          subst he
          obtain ⟨hcl, hfr⟩ := byte_cell HR.out i hlt
          go_wp2
          go_roundw
          case rel => exact ⟨i + 1, q.set i 0, by omega, by go_num, by show _ = _; rw [List.length_set]; exact HQ.out, byte_put HR.out i _ 0 rfl, HB3.out.setCell (p := ⟨g3, i, none⟩) (by show W0.heap.size ≤ g3; omega) _⟩
          case measure => simp [intOf]; omega
        · obtain rfl : i = tx.length := by omega
          clear HR HQ
          go_upto_region 15 with (fail)
          have B := True.intro
          refine start_ (n := 11) (S := fun w' => True) (ds := []) #[false, false, false, false, false, false, false, false, false, false, false] (by kernel_rfl) rfl rfl trivial (fun hHeld => ?_)
          refine with_tabW macOwntab15 macOwnbits15 (fun HT_ HW_ => ?_)
          refine pure_ (i := 0) (N := some 44) (v := ?_) (a' := ?_) #[true, false, false, false, false, false, false, false, false, false, false] rfl rfl (any_of HT_.out (by kernel_rfl)) (fun _ _ _ h => h) (Or.inl ⟨by rfl, ?_⟩) ?_ ?_
          rotate_left
          · intro w'
            go_simp
            with_reducible rfl
          rotate_left
          · simp only [Act.put, List.setIfInBounds_toArray, List.set_cons_zero, List.set_cons_succ, i64_w, i32_w]
            rfl
          refine pure_ (i := 3) (N := some 47) (v := ?_) (a' := ?_) #[true, false, false, true, false, false, false, false, false, false, false] rfl rfl (any_of HT_.out (by kernel_rfl)) (fun _ _ _ h => h) (Or.inl ⟨by rfl, ?_⟩) ?_ ?_
          rotate_left
          · intro w'
            go_simp
            with_reducible rfl
          rotate_left
          · simp only [Act.put, List.setIfInBounds_toArray, List.set_cons_zero, List.set_cons_succ, i64_w, i32_w]
            rfl
          refine inv_at [1, 2, 4, 5, 6, 7, 8, 9, 10] (fun a0_ b a w' => ∃ (A1 : Option Addr) (c1 : Nat) (A2 : Option Addr) (c2 : Nat) (m1_ : Value) (m4_ : Value), a = putSel a0_ b [(1, 45, m1_), (2, 46, .string (bstr tx)), (4, 48, m4_), (5, 49, .string (bstr tx)), (6, 50, .bool true), (7, 51, .bool true), (8, 52, .bool true), (9, 53, .bool true), (10, 4, .bool true)] ∧ (Below wr.heap.size wr w') ∧ (b 1 = true → byte.C w' A1 tx.length tx) ∧ (b 4 = true → byte.C w' A2 tx.length tx) ∧ (b 1 = true → (m1_ : Value) = .slice A1 tx.length c1) ∧ (b 4 = true → (m4_ : Value) = .slice A2 tx.length c2)) HT_.out HW_.out (by kernel_rfl) (by kernel_rfl) ?_ ?_ ?_
          · exact ⟨none, 0, none, 0, .bool false, .bool false, by simp only [putSel, Bool.false_eq_true, if_false], below_drew (Below.refl _ _), fun h_ => absurd h_ (by decide), fun h_ => absurd h_ (by decide), fun h_ => absurd h_ (by decide), fun h_ => absurd h_ (by decide)⟩
          · skip
            clear B
            refine steps_cons ?_ ?_
            · rintro b a w' ⟨A1, c1, A2, c2, m1_, m4_, ha, Q_B, Q_C1, Q_C2, Q_X1_, Q_X4_⟩ hb_ hon hoff
              refine ⟨_, rfl, fun K hK => ?_⟩
              have e44 : a.tmps[44]? = some (.int .u64 zi) := by rw [ha]; exact (putSel_off rfl).trans rfl
              replace ha := Aside0.mk ha
              have B := Aside0.mk Q_B
              refine goes_ Try.func10 (by kernel_rfl) rfl #[.int .u64 zi] (by rfl) rfl rfl (by first | (simp only [List.map_toArray, List.map_cons, List.map_nil, Act.eval, Array.getD_eq_getD_getElem?, Option.getD_some, e44]; done) | (simp only [List.map_toArray, List.map_cons, List.map_nil, Act.eval, Array.getD_eq_getD_getElem?, Option.getD_some, e44]; rfl)) ?_
              refine (HTX.out w').mono ?_
              rintro e w1 ⟨v, rfl, hR, hB1⟩; obtain ⟨A9, c9, rfl, hle9, hC9⟩ := Kd.R_reads hR
              refine ⟨_, rfl, ?_⟩
              refine hK.out _ _ ⟨A9, c9, A2, c2, (.slice A9 tx.length c9), m4_, (by rw [ha.out]; exact putSel_upk 0 hb_ rfl rfl rfl), B.out.trans (hB1.mono B.out.size), fun _ => hC9, fun h0_ => absurd ((hoff 4 (by kernel_rfl)).symm.trans h0_) (by decide), fun _ => rfl, fun h0_ => absurd ((hoff 4 (by kernel_rfl)).symm.trans h0_) (by decide)⟩
            refine steps_cons ?_ ?_
            · rintro b a w' ⟨A1, c1, A2, c2, m1_, m4_, ha, Q_B, Q_C1, Q_C2, Q_X1_, Q_X4_⟩ hb_ hon hoff
              refine ⟨_, rfl, fun K hK => ?_⟩
              have e45 : a.tmps[45]? = some (m1_) := by rw [ha]; exact putSel_on (e := (1, 45, m1_)) 0 rfl rfl (hon 1 (by kernel_rfl)) rfl
              rw [Q_X1_ (hon 1 (by kernel_rfl))] at e45
              replace ha := Aside0.mk ha
              have B := Aside0.mk Q_B
              have C1 := Aside0.mk (Q_C1 (hon 1 (by kernel_rfl)))
              have hs := run_bstr (c := c1) (C1.out)
              refine value_ (w1 := w') (v := .string (bstr tx)) (by rfl) rfl ?_ ?_
              · go_simp
                (try simp only [i64_w])
                try rfl
              refine hK.out _ _ ⟨A1, c1, A2, c2, m1_, m4_, (by rw [ha.out]; exact putSel_upk 1 hb_ rfl rfl rfl), Q_B, Q_C1, Q_C2, Q_X1_, Q_X4_⟩
            refine steps_cons ?_ ?_
            · rintro b a w' ⟨A1, c1, A2, c2, m1_, m4_, ha, Q_B, Q_C1, Q_C2, Q_X1_, Q_X4_⟩ hb_ hon hoff
              refine ⟨_, rfl, fun K hK => ?_⟩
              have e47 : a.tmps[47]? = some (.int .u64 zi) := by rw [ha]; exact (putSel_off rfl).trans rfl
              replace ha := Aside0.mk ha
              have B := Aside0.mk Q_B
              have C1 := Aside0.mk (Q_C1 (hon 1 (by kernel_rfl)))
              refine goes_ Try.func11 (by kernel_rfl) rfl #[.int .u64 zi] (by rfl) rfl rfl (by first | (simp only [List.map_toArray, List.map_cons, List.map_nil, Act.eval, Array.getD_eq_getD_getElem?, Option.getD_some, e47]; done) | (simp only [List.map_toArray, List.map_cons, List.map_nil, Act.eval, Array.getD_eq_getD_getElem?, Option.getD_some, e47]; rfl)) ?_
              refine (HRT.out w').mono ?_
              rintro e w1 ⟨v, rfl, hR, hB1⟩; obtain ⟨A9, c9, rfl, hle9, hC9⟩ := Kd.R_reads hR
              refine ⟨_, rfl, ?_⟩
              refine hK.out _ _ ⟨A1, c1, A9, c9, m1_, (.slice A9 tx.length c9), (by rw [ha.out]; exact putSel_upk 2 hb_ rfl rfl rfl), B.out.trans (hB1.mono B.out.size), fun _ => Kd.C_below C1.out hB1, fun _ => hC9, Q_X1_, fun _ => rfl⟩
            refine steps_cons ?_ ?_
            · rintro b a w' ⟨A1, c1, A2, c2, m1_, m4_, ha, Q_B, Q_C1, Q_C2, Q_X1_, Q_X4_⟩ hb_ hon hoff
              refine ⟨_, rfl, fun K hK => ?_⟩
              have e48 : a.tmps[48]? = some (m4_) := by rw [ha]; exact putSel_on (e := (4, 48, m4_)) 2 rfl rfl (hon 4 (by kernel_rfl)) rfl
              rw [Q_X4_ (hon 4 (by kernel_rfl))] at e48
              replace ha := Aside0.mk ha
              have B := Aside0.mk Q_B
              have C1 := Aside0.mk (Q_C1 (hon 1 (by kernel_rfl)))
              have C2 := Aside0.mk (Q_C2 (hon 4 (by kernel_rfl)))
              have hs := run_bstr (c := c2) (C2.out)
              refine value_ (w1 := w') (v := .string (bstr tx)) (by rfl) rfl ?_ ?_
              · go_simp
                (try simp only [i64_w])
                try rfl
              refine hK.out _ _ ⟨A1, c1, A2, c2, m1_, m4_, (by rw [ha.out]; exact putSel_upk 3 hb_ rfl rfl rfl), Q_B, Q_C1, Q_C2, Q_X1_, Q_X4_⟩
            refine steps_cons ?_ ?_
            · rintro b a w' ⟨A1, c1, A2, c2, m1_, m4_, ha, Q_B, Q_C1, Q_C2, Q_X1_, Q_X4_⟩ hb_ hon hoff
              refine ⟨_, rfl, fun K hK => ?_⟩
              have e46 : a.tmps[46]? = some (.string (bstr tx)) := by rw [ha]; exact putSel_on (e := (2, 46, .string (bstr tx))) 1 rfl rfl (hon 2 (by kernel_rfl)) rfl
              have e49 : a.tmps[49]? = some (.string (bstr tx)) := by rw [ha]; exact putSel_on (e := (5, 49, .string (bstr tx))) 3 rfl rfl (hon 5 (by kernel_rfl)) rfl
              replace ha := Aside0.mk ha
              have B := Aside0.mk Q_B
              have C1 := Aside0.mk (Q_C1 (hon 1 (by kernel_rfl)))
              have C2 := Aside0.mk (Q_C2 (hon 4 (by kernel_rfl)))
              have hq := bstr_eq tx tx
              refine value_ (w1 := w') (v := .bool true) (by rfl) rfl ?_ ?_
              · go_simp
                (try simp only [i64_w])
                try rfl
              refine hK.out _ _ ⟨A1, c1, A2, c2, m1_, m4_, (by rw [ha.out]; exact putSel_upk 4 hb_ rfl rfl rfl), Q_B, Q_C1, Q_C2, Q_X1_, Q_X4_⟩
            refine steps_cons ?_ ?_
            · rintro b a w' ⟨A1, c1, A2, c2, m1_, m4_, ha, Q_B, Q_C1, Q_C2, Q_X1_, Q_X4_⟩ hb_ hon hoff
              refine ⟨_, rfl, fun K hK => ?_⟩
              have e50 : a.tmps[50]? = some (.bool true) := by rw [ha]; exact putSel_on (e := (6, 50, .bool true)) 4 rfl rfl (hon 6 (by kernel_rfl)) rfl
              replace ha := Aside0.mk ha
              have B := Aside0.mk Q_B
              have C1 := Aside0.mk (Q_C1 (hon 1 (by kernel_rfl)))
              have C2 := Aside0.mk (Q_C2 (hon 4 (by kernel_rfl)))
              refine value_ (w1 := w') (v := .bool true) (by rfl) rfl ?_ ?_
              · go_simp
                (try simp only [i64_w])
                try rfl
              refine hK.out _ _ ⟨A1, c1, A2, c2, m1_, m4_, (by rw [ha.out]; exact putSel_upk 5 hb_ rfl rfl rfl), Q_B, Q_C1, Q_C2, Q_X1_, Q_X4_⟩
            refine steps_cons ?_ ?_
            · rintro b a w' ⟨A1, c1, A2, c2, m1_, m4_, ha, Q_B, Q_C1, Q_C2, Q_X1_, Q_X4_⟩ hb_ hon hoff
              refine ⟨_, rfl, fun K hK => ?_⟩
              have e51 : a.tmps[51]? = some (.bool true) := by rw [ha]; exact putSel_on (e := (7, 51, .bool true)) 5 rfl rfl (hon 7 (by kernel_rfl)) rfl
              replace ha := Aside0.mk ha
              have B := Aside0.mk Q_B
              have C1 := Aside0.mk (Q_C1 (hon 1 (by kernel_rfl)))
              have C2 := Aside0.mk (Q_C2 (hon 4 (by kernel_rfl)))
              refine goes_ Try.func9 (by kernel_rfl) rfl #[] (wanted_on rfl rfl rfl (e51.trans (by first | rfl | (simp [*]; done)))) rfl rfl (by first | (simp only [List.map_toArray, List.map_cons, List.map_nil, Act.eval, Array.getD_eq_getD_getElem?, Option.getD_some, e51]; done) | (simp only [List.map_toArray, List.map_cons, List.map_nil, Act.eval, Array.getD_eq_getD_getElem?, Option.getD_some, e51]; rfl)) ?_
              refine (awake_calls w').mono ?_
              rintro e w1 ⟨rfl, hB1⟩
              refine ⟨_, rfl, ?_⟩
              refine hK.out _ _ ⟨A1, c1, A2, c2, m1_, m4_, (by rw [ha.out]; exact putSel_upk 6 hb_ rfl rfl rfl), B.out.trans (hB1.mono B.out.size), fun _ => Kd.C_below C1.out hB1, fun _ => Kd.C_below C2.out hB1, Q_X1_, Q_X4_⟩
            refine steps_cons ?_ ?_
            · rintro b a w' ⟨A1, c1, A2, c2, m1_, m4_, ha, Q_B, Q_C1, Q_C2, Q_X1_, Q_X4_⟩ hb_ hon hoff
              refine ⟨_, rfl, fun K hK => ?_⟩
              have e51 : a.tmps[51]? = some (.bool true) := by rw [ha]; exact putSel_on (e := (7, 51, .bool true)) 5 rfl rfl (hon 7 (by kernel_rfl)) rfl
              have e52 : a.tmps[52]? = some (.bool true) := by rw [ha]; exact putSel_on (e := (8, 52, .bool true)) 6 rfl rfl (hon 8 (by kernel_rfl)) rfl
              replace ha := Aside0.mk ha
              have B := Aside0.mk Q_B
              have C1 := Aside0.mk (Q_C1 (hon 1 (by kernel_rfl)))
              have C2 := Aside0.mk (Q_C2 (hon 4 (by kernel_rfl)))
              refine value_ (w1 := w') (v := .bool true) (by rfl) rfl ?_ ?_
              · go_simp
                (try simp only [i64_w])
                try rfl
              refine hK.out _ _ ⟨A1, c1, A2, c2, m1_, m4_, (by rw [ha.out]; exact putSel_upk 7 hb_ rfl rfl rfl), Q_B, Q_C1, Q_C2, Q_X1_, Q_X4_⟩
            refine steps_cons ?_ ?_
            · rintro b a w' ⟨A1, c1, A2, c2, m1_, m4_, ha, Q_B, Q_C1, Q_C2, Q_X1_, Q_X4_⟩ hb_ hon hoff
              refine ⟨_, rfl, fun K hK => ?_⟩
              have e53 : a.tmps[53]? = some (.bool true) := by rw [ha]; exact putSel_on (e := (9, 53, .bool true)) 7 rfl rfl (hon 9 (by kernel_rfl)) rfl
              replace ha := Aside0.mk ha
              have B := Aside0.mk Q_B
              have C1 := Aside0.mk (Q_C1 (hon 1 (by kernel_rfl)))
              have C2 := Aside0.mk (Q_C2 (hon 4 (by kernel_rfl)))
              refine value_ (w1 := w') (v := .bool true) (by rfl) rfl ?_ ?_
              · go_simp
                (try simp only [i64_w])
                try rfl
              refine hK.out _ _ ⟨A1, c1, A2, c2, m1_, m4_, (by rw [ha.out]; exact putSel_upk 8 hb_ rfl rfl rfl), Q_B, Q_C1, Q_C2, Q_X1_, Q_X4_⟩
            exact steps_nil
          rintro b a w' hall ⟨A1, c1, A2, c2, m1_, m4_, ha, Q_B, Q_C1, Q_C2, Q_X1_, Q_X4_⟩
          clear B
          have hb1_ := hall 1 (by kernel_rfl)
          have hb2_ := hall 2 (by kernel_rfl)
          have hb4_ := hall 4 (by kernel_rfl)
          have hb5_ := hall 5 (by kernel_rfl)
          have hb6_ := hall 6 (by kernel_rfl)
          have hb7_ := hall 7 (by kernel_rfl)
          have hb8_ := hall 8 (by kernel_rfl)
          have hb9_ := hall 9 (by kernel_rfl)
          have hb10_ := hall 10 (by kernel_rfl)
          subst ha
          obtain rfl := Q_X1_ hb1_
          obtain rfl := Q_X4_ hb4_
          simp only [putSel, hb1_, hb2_, hb4_, hb5_, hb6_, hb7_, hb8_, hb9_, hb10_, if_true, Act.put, List.setIfInBounds_toArray, List.set_cons_zero, List.set_cons_succ]
          have B := Aside0.mk Q_B
          clear Q_B
          have C1 := Aside0.mk (Q_C1 hb1_)
          clear Q_C1
          have C2 := Aside0.mk (Q_C2 hb4_)
          clear Q_C2
          clear hall hb1_ hb2_ hb4_ hb5_ hb6_ hb7_ hb8_ hb9_ hb10_
          go_wp2
          go_ret
          exact ⟨rfl, by (try rw [hg]); exact HB.out.trans ((HB3.out.trans (B.out.mono HB3.out.size)).mono (by have := HGS.out; omega))⟩
end Go.Proofs.Ytemomlohmnclkaa.Mac
