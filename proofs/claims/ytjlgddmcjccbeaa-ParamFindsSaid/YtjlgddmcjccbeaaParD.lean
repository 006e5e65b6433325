/- What is read of bytes that are left: walked. -/
import Derived.Test.YtjlgddmcjccbeaaParSame
import Derived.WalkLawsBesides
import Derived.Test.YtjlgddmcjccbeaaWMore
import Derived.Test.YtjlgddmcjccbeaaRegB
namespace Go.Proofs.Ytjlgddmcjccbeaa.ParDec
open Go.RowKit Go.Proofs.YtjlgddmcjccbeaaW.PrintWords Go.Proofs.YtjlgddmcjccbeaaW.PrintLast Go.Proofs.YtjlgddmcjccbeaaW.PrintMore Go.Proofs.Ytjlgddmcjccbeaa.PParamCauses Go.Proofs.Ytjlgddmcjccbeaa.ParCauses Go.Proofs.Ytjlgddmcjccbeaa.Base
attribute [local go_sem] min2_int min_two
set_option linter.unusedVariables false
set_option linter.unusedSimpArgs false

theorem left_calls (w : World) (g : Nat) (A : Option Addr) (n c p : Nat) (k0 : w.cell? ⟨g, 0, none⟩ = some (.slice A n c)) (k1 : w.cell? ⟨g, 1, none⟩ = some (.int .i64 (p : Int))) (hp : p ≤ n) (hn : n ≤ 140737488355328) :
    Calls Try.prog 34 #[.pointer (some ⟨g, 0, none⟩)] w fun e w' => e = .returned (.int .i64 ((n - p : Nat) : Int)) ∧ Drawn0 w w' := by
  have hd : (n : Int) - (p : Int) = ((n - p : Nat) : Int) := by omega
  have hlt : n - p ≤ 140737488355328 := by omega
  generalize n - p = m at *
  go_enter Try.func34, Try.ntmps34
  go_wp2
  go_quiet (fail)
  go_wp2
  go_ret
  exact ⟨rfl, drawn2 ⟨_, rfl⟩⟩
theorem fail_calls (w : World) (g : Nat) (p : Nat) (code : Int) (k1 : w.cell? ⟨g, 1, none⟩ = some (.int .i64 (p : Int))) :
    Calls Try.prog 42 #[.pointer (some ⟨g, 0, none⟩), .int .i64 code] w fun e w' => e = .panicked [{ v := .iface 57 (.agg #[.int .i64 (p : Int), .int .i64 code]), recovered := false }] ∧ w' = w := by
  go_enter Try.func42, Try.ntmps42
  go_wp2
  exact ⟨rfl, rfl, rfl⟩
theorem or_bytes (x y : UInt8) : bits .or .i64 ((x.toNat : Int) * 256) (y.toNat : Int) = ((x.toNat * 256 + y.toNat : Nat) : Int) := by
  have hx : x.toNat < 256 := x.toNat_lt
  have hy : y.toNat < 256 := y.toNat_lt
  have h := (bits_nat .i64 16 (by decide) (fun n h0 h1 => by rw [IntKind.wrap_i64]; omega) (x.toNat * 256) y.toNat (by omega) (by omega)).2
  have e : x.toNat * 256 ||| y.toNat = x.toNat * 256 + y.toNat := by
    have := Nat.shiftLeft_add_eq_or_of_lt (i := 8) (b := y.toNat) (by omega) x.toNat
    rw [Nat.shiftLeft_eq] at this
    exact this.symm
  rw [e] at h
  rw [show ((x.toNat : Int) * 256) = ((x.toNat * 256 : Nat) : Int) from (Int.natCast_mul x.toNat 256).symm]
  exact h
theorem short_calls (w : World) (g : Nat) (A : Option Addr) (l : List UInt8) (c p at_ : Nat) (k0 : w.cell? ⟨g, 0, none⟩ = some (.slice A l.length c)) (k1 : w.cell? ⟨g, 1, none⟩ = some (.int .i64 (p : Int))) (hb : byte.C w A l.length l) (hp : p + at_ + 1 < l.length) (hn : l.length ≤ 140737488355328) :
    Calls Try.prog 43 #[.pointer (some ⟨g, 0, none⟩), .int .i64 (at_ : Int)] w fun e w' => e = .returned (.int .i64 (((l.getD (p + at_) 0).toNat * 256 + (l.getD (p + at_ + 1) 0).toNat : Nat) : Int)) ∧ Drawn0 w w' := by
  obtain ⟨ad, rfl, h0⟩ := byte_at hb (p + at_) (by omega)
  obtain ⟨_, e, h1⟩ := byte_at hb (p + at_ + 1) hp
  cases e
  have ho := or_bytes (l.getD (p + at_) 0) (l.getD (p + at_ + 1) 0)
  have hx : (l.getD (p + at_) 0).toNat < 256 := (l.getD (p + at_) 0).toNat_lt
  have hy : (l.getD (p + at_ + 1) 0).toNat < 256 := (l.getD (p + at_ + 1) 0).toNat_lt
  have e1 : (p : Int) + (at_ : Int) = ((p + at_ : Nat) : Int) := by omega
  have e2 : ((p + at_ : Nat) : Int) + 1 = ((p + at_ + 1 : Nat) : Int) := by omega
  generalize (l.getD (p + at_) 0).toNat * 256 + (l.getD (p + at_ + 1) 0).toNat = r at *
  generalize (l.getD (p + at_) 0).toNat = x at *
  generalize (l.getD (p + at_ + 1) 0).toNat = y at *
  generalize hq1 : p + at_ + 1 = q1 at *
  generalize hq : p + at_ = q at *
  go_enter Try.func43, Try.ntmps43
  go_wp2
  go_quiet (fail)
  go_wp2
  go_ret
  exact ⟨rfl, drawn2 ⟨_, rfl⟩⟩
/-- What is being read: its bytes, how many were read, what came of them. -/
structure LS (w : World) (g : Nat) (A : Option Addr) (n c p : Nat) (v : Value) : Prop where mk :: (out : w.heap[g]? = some (.cells #[.slice A n c, .int .i64 (p : Int), v] 63 (0, 0)))
def skipT0 : Bool × List (List Nat × List Nat) := (true, [([], []), ([0], [0]), ([1], [1]), ([2], [2]), ([], []), ([], []), ([5], [5]), ([4, 6], [4, 6]), ([3, 7], [3, 7]), ([0, 0, 1, 2, 3, 4, 5, 6, 7, 8], [0]), ([9, 0, 1, 2, 3, 4, 5, 6, 7, 8], [9]), ([10, 8, 6, 0, 1, 2, 3, 4, 5, 6, 7, 8], [8, 10])])
def skipB0 : List Nat := [0, 1, 3, 7, 0, 0, 32, 112, 255, 511, 1023, 2047]
theorem skiptab0 : Go.Proofs.YtjlgddmcjccbeaaW.PrintLast.rtab .any (Go.Proofs.YtjlgddmcjccbeaaW.PrintLast.opsOf Try.f44 0) = skipT0 := by kernel_rfl
theorem skipbits0 : Go.Proofs.YtjlgddmcjccbeaaW.PrintLast.waitsOk skipT0.2 skipB0 = true := by kernel_rfl
theorem drawn_below {w w' : World} (h : Drawn0 w w') : Below w.heap.size w w' := by
  obtain ⟨n, rfl⟩ := h
  exact pw_below_drewN (Below.refl _ _) n
theorem drawn_trans {a b c : World} (h : Drawn0 a b) (k : Drawn0 b c) : Drawn0 a c := by
  obtain ⟨n, rfl⟩ := h
  obtain ⟨m, rfl⟩ := k
  exact ⟨n + m, by rw [World.drewN_drewN]⟩
theorem drawn_frozen {w w' : World} {a : Addr} (h : Drawn0 w w') (k : w.frozen? a = false) : w'.frozen? a = false := by
  obtain ⟨n, rfl⟩ := h
  exact k
set_option maxHeartbeats 1000000 in
theorem skip_calls (w : World) (g : Nat) (A : Option Addr) (n c p m : Nat) (v : Value) (hs : LS w g A n c p v) (hp : p ≤ n) (hn : n ≤ 140737488355328) (hm : m ≤ 140737488355328) :
    Calls Try.prog 44 #[.pointer (some ⟨g, 0, none⟩), .int .i64 (m : Int)] w fun e w' => e = .returned (.tuple #[]) ∧ LS w' g A n c (p + min m (n - p)) v ∧ Only (· = g) w w' := by
  have k0 := Lib.hid (show w.cell? ⟨g, 0, none⟩ = some (.slice A n c) from blk_cell hs.out 0)
  have k1 := Lib.hid (show w.cell? ⟨g, 1, none⟩ = some (.int .i64 (p : Int)) from blk_cell hs.out 1)
  have f1 := Lib.hid (blk_frozen hs.out 1)
  obtain ⟨d, hd⟩ : ∃ d, Hid (n - p = d) := ⟨_, rfl⟩
  obtain ⟨mn, hmn⟩ : ∃ mn, Hid (min m d = mn) := ⟨_, rfl⟩
  obtain ⟨q, hqq⟩ : ∃ q, Hid (p + mn = q) := ⟨_, rfl⟩
  have hmin : Hid ((if d < m then (d : Int) else (m : Int)) = (mn : Int)) := by
    show _ = _
    have := hmn.out
    split <;> omega
  have hq : Hid ((p : Int) + (mn : Int) = (q : Int)) := by show _ = _; have := hqq.out; omega
  have hql : q ≤ 140737488355328 := by have := hqq.out; have := hmn.out; have := hd.out; omega
  have hwr : Hid (wrap64 (q : Int) = (q : Int)) := by show _ = _; unfold wrap64; omega
  have hdl : d ≤ 140737488355328 := by have := hd.out; omega
  have hmnl : mn ≤ 140737488355328 := by have := hmn.out; omega
  have HLF := Lib.hid (fun (W : World) (h0 : W.cell? ⟨g, 0, none⟩ = some (.slice A n c)) (h1 : W.cell? ⟨g, 1, none⟩ = some (.int .i64 (p : Int))) => left_calls W g A n c p h0 h1 hp hn)
  rw [hd.out] at HLF
  rw [hd.out, hmn.out, hqq.out]
  go_enter Try.func44, Try.ntmps44
  go_wp2
  have B := True.intro
  refine start_ (n := 12) (S := fun w' => True) (ds := []) #[false, false, false, false, false, false, false, false, false, false, false, false] (by kernel_rfl) rfl rfl trivial (fun hHeld => ?_)
  refine with_tabW skiptab0 skipbits0 (fun HT_ HW_ => ?_)
  refine pure_ (i := 0) (N := some 4) (v := ?_) (a' := ?_) #[true, false, false, false, false, false, false, false, false, false, false, false] rfl rfl (any_of HT_.out (by kernel_rfl)) (fun _ _ _ h => h) (Or.inl ⟨by rfl, ?_⟩) ?_ ?_
  rotate_left
  · intro w'
    go_simp
    with_reducible rfl
  rotate_left
  · simp only [Act.put, List.setIfInBounds_toArray, List.set_cons_zero, List.set_cons_succ, i64_w, i32_w]
    rfl
  refine pure_ (i := 4) (N := some 8) (v := ?_) (a' := ?_) #[true, false, false, false, true, false, false, false, false, false, false, false] rfl rfl (any_of HT_.out (by kernel_rfl)) (fun _ _ _ h => h) (Or.inl ⟨by rfl, ?_⟩) ?_ ?_
  rotate_left
  · intro w'
    go_simp
    with_reducible rfl
  rotate_left
  · simp only [Act.put, List.setIfInBounds_toArray, List.set_cons_zero, List.set_cons_succ, i64_w, i32_w]
    rfl
  refine pure_ (i := 5) (N := some 9) (v := ?_) (a' := ?_) #[true, false, false, false, true, true, false, false, false, false, false, false] rfl rfl (any_of HT_.out (by kernel_rfl)) (fun _ _ _ h => h) (Or.inl ⟨by rfl, ?_⟩) ?_ ?_
  rotate_left
  · intro w'
    go_simp
    with_reducible rfl
  rotate_left
  · simp only [Act.put, List.setIfInBounds_toArray, List.set_cons_zero, List.set_cons_succ, i64_w, i32_w]
    rfl
  refine inv_at [1, 2, 3, 6, 7, 8, 9, 10, 11] (fun a0_ b a w' => a = putSel a0_ b [(1, 5, .pointer (some ⟨g, 0, none⟩)), (2, 6, .pointer (some ⟨g, 1, none⟩)), (3, 7, .int .i64 (p : Int)), (6, 10, .int .i64 (d : Int)), (7, 11, .int .i64 (mn : Int)), (8, 12, .int .i64 (q : Int)), (9, 13, .pointer (some ⟨g, 0, none⟩)), (10, 14, .pointer (some ⟨g, 1, none⟩))] ∧ (b 11 = false → Drawn0 w w') ∧ (b 11 = true → ∃ w2, Drawn0 w w2 ∧ w' = w2.setCell ⟨g, 1, none⟩ (.int .i64 (q : Int)))) HT_.out HW_.out (by kernel_rfl) (by kernel_rfl) ?_ ?_ ?_
  · exact ⟨by simp only [putSel, Bool.false_eq_true, if_false], fun _ => ⟨1, rfl⟩, fun h_ => absurd h_ (by decide)⟩
  · skip
    clear B
    refine steps_cons ?_ ?_
    · rintro b a w' ⟨ha, Q_B, Q_S⟩ hb_ hon hoff
      refine ⟨_, rfl, fun K hK => ?_⟩
      have e4 : a.tmps[4]? = some (.pointer (some ⟨g, 0, none⟩)) := by rw [ha]; exact (putSel_off rfl).trans rfl
      replace ha := Aside0.mk ha
      have B := Aside0.mk (Q_B (hoff 11 (by kernel_rfl)))
      refine value_ (w1 := w') (v := .pointer (some ⟨g, 0, none⟩)) (by rfl) rfl ?_ ?_
      · go_simp
        (try simp only [i64_w])
        try rfl
      refine hK.out _ _ ⟨(by rw [ha.out]; exact putSel_upk 0 hb_ rfl rfl rfl), Q_B, fun h0_ => absurd ((hoff 11 (by kernel_rfl)).symm.trans h0_) (by decide)⟩
    refine steps_cons ?_ ?_
    · rintro b a w' ⟨ha, Q_B, Q_S⟩ hb_ hon hoff
      refine ⟨_, rfl, fun K hK => ?_⟩
      have e5 : a.tmps[5]? = some (.pointer (some ⟨g, 0, none⟩)) := by rw [ha]; exact putSel_on (e := (1, 5, .pointer (some ⟨g, 0, none⟩))) 0 rfl rfl (hon 1 (by kernel_rfl)) rfl
      replace ha := Aside0.mk ha
      have B := Aside0.mk (Q_B (hoff 11 (by kernel_rfl)))
      refine value_ (w1 := w') (v := .pointer (some ⟨g, 1, none⟩)) (by rfl) rfl ?_ ?_
      · go_simp
        (try simp only [i64_w])
        try rfl
      refine hK.out _ _ ⟨(by rw [ha.out]; exact putSel_upk 1 hb_ rfl rfl rfl), Q_B, fun h0_ => absurd ((hoff 11 (by kernel_rfl)).symm.trans h0_) (by decide)⟩
    refine steps_cons ?_ ?_
    · rintro b a w' ⟨ha, Q_B, Q_S⟩ hb_ hon hoff
      refine ⟨_, rfl, fun K hK => ?_⟩
      have e6 : a.tmps[6]? = some (.pointer (some ⟨g, 1, none⟩)) := by rw [ha]; exact putSel_on (e := (2, 6, .pointer (some ⟨g, 1, none⟩))) 1 rfl rfl (hon 2 (by kernel_rfl)) rfl
      replace ha := Aside0.mk ha
      have B := Aside0.mk (Q_B (hoff 11 (by kernel_rfl)))
      have hs := pw_cell_below (drawn_below B.out) k1.out
      refine value_ (w1 := w') (v := .int .i64 (p : Int)) (by rfl) rfl ?_ ?_
      · go_simp
        (try simp only [i64_w])
        try rfl
      refine hK.out _ _ ⟨(by rw [ha.out]; exact putSel_upk 2 hb_ rfl rfl rfl), Q_B, fun h0_ => absurd ((hoff 11 (by kernel_rfl)).symm.trans h0_) (by decide)⟩
    refine steps_cons ?_ ?_
    · rintro b a w' ⟨ha, Q_B, Q_S⟩ hb_ hon hoff
      refine ⟨_, rfl, fun K hK => ?_⟩
      have e9 : a.tmps[9]? = some (.pointer (some ⟨g, 0, none⟩)) := by rw [ha]; exact (putSel_off rfl).trans rfl
      replace ha := Aside0.mk ha
      have B := Aside0.mk (Q_B (hoff 11 (by kernel_rfl)))
      refine goes_ Try.func34 (by kernel_rfl) rfl #[.pointer (some ⟨g, 0, none⟩)] (by rfl) rfl rfl (by first | (simp only [List.map_toArray, List.map_cons, List.map_nil, Act.eval, Array.getD_eq_getD_getElem?, Option.getD_some, e9]; done) | (simp only [List.map_toArray, List.map_cons, List.map_nil, Act.eval, Array.getD_eq_getD_getElem?, Option.getD_some, e9]; rfl)) ?_
      refine (HLF.out w' (pw_cell_below (drawn_below B.out) k0.out) (pw_cell_below (drawn_below B.out) k1.out)).mono ?_
      rintro e w1 ⟨rfl, hD1⟩
      refine ⟨_, rfl, ?_⟩
      refine hK.out _ _ ⟨(by rw [ha.out]; exact putSel_upk 3 hb_ rfl rfl rfl), fun _ => drawn_trans B.out hD1, fun h0_ => absurd ((hoff 11 (by kernel_rfl)).symm.trans h0_) (by decide)⟩
    refine steps_cons ?_ ?_
    · rintro b a w' ⟨ha, Q_B, Q_S⟩ hb_ hon hoff
      refine ⟨_, rfl, fun K hK => ?_⟩
      have e8 : a.tmps[8]? = some (.int .i64 (m : Int)) := by rw [ha]; exact (putSel_off rfl).trans rfl
      have e10 : a.tmps[10]? = some (.int .i64 (d : Int)) := by rw [ha]; exact putSel_on (e := (6, 10, .int .i64 (d : Int))) 3 rfl rfl (hon 6 (by kernel_rfl)) rfl
      replace ha := Aside0.mk ha
      have B := Aside0.mk (Q_B (hoff 11 (by kernel_rfl)))
      have hm2 := hmin.out
      refine value_ (w1 := w') (v := .int .i64 (mn : Int)) (by rfl) rfl ?_ ?_
      · go_simp
        (try simp only [i64_w])
        try rfl
      refine hK.out _ _ ⟨(by rw [ha.out]; exact putSel_upk 4 hb_ rfl rfl rfl), Q_B, fun h0_ => absurd ((hoff 11 (by kernel_rfl)).symm.trans h0_) (by decide)⟩
    refine steps_cons ?_ ?_
    · rintro b a w' ⟨ha, Q_B, Q_S⟩ hb_ hon hoff
      refine ⟨_, rfl, fun K hK => ?_⟩
      have e7 : a.tmps[7]? = some (.int .i64 (p : Int)) := by rw [ha]; exact putSel_on (e := (3, 7, .int .i64 (p : Int))) 2 rfl rfl (hon 3 (by kernel_rfl)) rfl
      have e11 : a.tmps[11]? = some (.int .i64 (mn : Int)) := by rw [ha]; exact putSel_on (e := (7, 11, .int .i64 (mn : Int))) 4 rfl rfl (hon 7 (by kernel_rfl)) rfl
      replace ha := Aside0.mk ha
      have B := Aside0.mk (Q_B (hoff 11 (by kernel_rfl)))
      have hq2 := hq.out
      refine value_ (w1 := w') (v := .int .i64 (q : Int)) (by rfl) rfl (by go_simp; (try simp only [i64_w]); exact hwr.out) ?_
      refine hK.out _ _ ⟨(by rw [ha.out]; exact putSel_upk 5 hb_ rfl rfl rfl), fun _ => B.out, fun h0_ => absurd ((hoff 11 (by kernel_rfl)).symm.trans h0_) (by decide)⟩
    refine steps_cons ?_ ?_
    · rintro b a w' ⟨ha, Q_B, Q_S⟩ hb_ hon hoff
      refine ⟨_, rfl, fun K hK => ?_⟩
      have e4 : a.tmps[4]? = some (.pointer (some ⟨g, 0, none⟩)) := by rw [ha]; exact (putSel_off rfl).trans rfl
      replace ha := Aside0.mk ha
      have B := Aside0.mk (Q_B (hoff 11 (by kernel_rfl)))
      refine value_ (w1 := w') (v := .pointer (some ⟨g, 0, none⟩)) (by rfl) rfl ?_ ?_
      · go_simp
        (try simp only [i64_w])
        try rfl
      refine hK.out _ _ ⟨(by rw [ha.out]; exact putSel_upk 6 hb_ rfl rfl rfl), Q_B, fun h0_ => absurd ((hoff 11 (by kernel_rfl)).symm.trans h0_) (by decide)⟩
    refine steps_cons ?_ ?_
    · rintro b a w' ⟨ha, Q_B, Q_S⟩ hb_ hon hoff
      refine ⟨_, rfl, fun K hK => ?_⟩
      have e13 : a.tmps[13]? = some (.pointer (some ⟨g, 0, none⟩)) := by rw [ha]; exact putSel_on (e := (9, 13, .pointer (some ⟨g, 0, none⟩))) 6 rfl rfl (hon 9 (by kernel_rfl)) rfl
      replace ha := Aside0.mk ha
      have B := Aside0.mk (Q_B (hoff 11 (by kernel_rfl)))
      refine value_ (w1 := w') (v := .pointer (some ⟨g, 1, none⟩)) (by rfl) rfl ?_ ?_
      · go_simp
        (try simp only [i64_w])
        try rfl
      refine hK.out _ _ ⟨(by rw [ha.out]; exact putSel_upk 7 hb_ rfl rfl rfl), Q_B, fun h0_ => absurd ((hoff 11 (by kernel_rfl)).symm.trans h0_) (by decide)⟩
    refine steps_cons ?_ ?_
    · rintro b a w' ⟨ha, Q_B, Q_S⟩ hb_ hon hoff
      refine ⟨_, rfl, fun K hK => ?_⟩
      have e14 : a.tmps[14]? = some (.pointer (some ⟨g, 1, none⟩)) := by rw [ha]; exact putSel_on (e := (10, 14, .pointer (some ⟨g, 1, none⟩))) 7 rfl rfl (hon 10 (by kernel_rfl)) rfl
      have e12 : a.tmps[12]? = some (.int .i64 (q : Int)) := by rw [ha]; exact putSel_on (e := (8, 12, .int .i64 (q : Int))) 5 rfl rfl (hon 8 (by kernel_rfl)) rfl
      replace ha := Aside0.mk ha
      have B := Aside0.mk (Q_B hb_)
      have hf : w'.frozen? ⟨g, 1, none⟩ = false := drawn_frozen B.out f1.out
      have hs := pw_cell_below (drawn_below B.out) k1.out
      refine skip_ (w1 := w'.setCell ⟨g, 1, none⟩ (.int .i64 (q : Int))) (by rfl) rfl (by go_simp; try rfl) ?_
      refine hK.out _ _ ⟨(by rw [ha.out]; exact putSel_none (v := undef) rfl), fun h0_ => absurd ((up_self b 11).symm.trans h0_) (by decide), fun _ => ⟨w', B.out, rfl⟩⟩
    exact steps_nil
  rintro b a w' hall ⟨ha, Q_B, Q_S⟩
  clear B
  have hb1_ := hall 1 (by kernel_rfl)
  have hb2_ := hall 2 (by kernel_rfl)
  have hb3_ := hall 3 (by kernel_rfl)
  have hb6_ := hall 6 (by kernel_rfl)
  have hb7_ := hall 7 (by kernel_rfl)
  have hb8_ := hall 8 (by kernel_rfl)
  have hb9_ := hall 9 (by kernel_rfl)
  have hb10_ := hall 10 (by kernel_rfl)
  have hb11_ := hall 11 (by kernel_rfl)
  subst ha
  simp only [putSel, hb1_, hb2_, hb3_, hb6_, hb7_, hb8_, hb9_, hb10_, hb11_, if_true, Act.put, List.setIfInBounds_toArray, List.set_cons_zero, List.set_cons_succ]
  clear Q_B
  have S := Aside0.mk (Q_S hb11_)
  clear Q_S
  clear hall hb1_ hb2_ hb3_ hb6_ hb7_ hb8_ hb9_ hb10_ hb11_
  go_wp2
  go_end0
  obtain ⟨w2, ⟨nn, rfl⟩, hw2⟩ := S.out
  subst hw2
  exact ⟨rfl, ⟨by have := blk_set (w := w.drewN nn) hs.out 1 (.int .i64 (q : Int)); exact this⟩, ((Only.refl (· = g) w).drewN nn).setCell (p := ⟨g, 1, none⟩) (fun _ => rfl) _⟩
end Go.Proofs.Ytjlgddmcjccbeaa.ParDec
