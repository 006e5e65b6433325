/- One parameter is read, all being well: walked. -/
import Derived.Test.YtjlgddmcjccbeaaParE
namespace Go.Proofs.Ytjlgddmcjccbeaa.ParDec
open Go.RowKit Go.Proofs.YtjlgddmcjccbeaaW.PrintWords Go.Proofs.YtjlgddmcjccbeaaW.PrintLast Go.Proofs.Ytjlgddmcjccbeaa.PParamCauses Go.Proofs.Ytjlgddmcjccbeaa.ParCauses Go.Proofs.Ytjlgddmcjccbeaa.Base
set_option linter.unusedVariables false
set_option linter.unusedSimpArgs false
def nextT7 : Bool × List (List Nat × List Nat) := (true, [([], []), ([], []), ([1], [1]), ([2], [2]), ([3], [3]), ([], []), ([5], [5]), ([6], [6]), ([7], [7]), ([8], [8]), ([], []), ([10], [10]), ([11], [11]), ([12], [12]), ([13], [13]), ([], []), ([15], [15]), ([16], [16]), ([17], [17]), ([18], [18]), ([19], [19]), ([], []), ([21], [21]), ([22], [22]), ([23], [23]), ([24], [24]), ([], []), ([25, 26], [25, 26]), ([14, 20, 27], [14, 20, 27]), ([28, 8], [28]), ([9, 29], [9, 29]), ([30], [30]), ([4, 31, 29], [4, 31]), ([0, 0, 1, 2, 3, 4, 5, 6, 7, 8, 9, 10, 11, 12, 13, 14, 15, 16, 17, 18, 19, 20, 21, 22, 23, 24, 25, 26, 27, 28, 29, 30, 31, 32], [0]), ([33, 0, 1, 2, 3, 4, 5, 6, 7, 8, 9, 10, 11, 12, 13, 14, 15, 16, 17, 18, 19, 20, 21, 22, 23, 24, 25, 26, 27, 28, 29, 30, 31, 32], [33]), ([34, 32, 32, 0, 1, 2, 3, 4, 5, 6, 7, 8, 9, 10, 11, 12, 13, 14, 15, 16, 17, 18, 19, 20, 21, 22, 23, 24, 25, 26, 27, 28, 29, 30, 31, 32], [32, 34])])
def nextB7 : List Nat := [0, 0, 2, 6, 14, 0, 32, 96, 224, 480, 0, 1024, 3072, 7168, 15360, 0, 32768, 98304, 229376, 491520, 1015808, 0, 2097152, 6291456, 14680064, 31457280, 0, 132120576, 268434432, 536870368, 1073741792, 2147483616, 4294967294, 8589934591, 17179869183, 34359738367]
theorem nexttab7 : Go.Proofs.YtjlgddmcjccbeaaW.PrintLast.rtab .any (Go.Proofs.YtjlgddmcjccbeaaW.PrintLast.opsOf Try.f35 7) = nextT7 := by kernel_rfl
theorem nextbits7 : Go.Proofs.YtjlgddmcjccbeaaW.PrintLast.waitsOk nextT7.2 nextB7 = true := by kernel_rfl
theorem mid_bytes {w : World} {A : Option Addr} {c : Nat} {l : List UInt8} (hb : byte.C w A l.length l) (hc : l.length ≤ c) (lo hi : Nat) (h1 : lo ≤ hi) (h2 : hi ≤ l.length) :
    ∃ A', (∀ W : World, (Instr.slice 23 (.slice A l.length c) (some (.int .i64 (lo : Int))) (some (.int .i64 (hi : Int))) none).run Try.prog W = .ok (.slice A' ((l.take hi).drop lo).length (c - lo)) W) ∧ byte.C w A' ((l.take hi).drop lo).length ((l.take hi).drop lo) ∧ ((l.take hi).drop lo).length ≤ c - lo := by
  obtain ⟨i, hi', e1, e2, e3⟩ := info_parts info_u8
  have hl : ((l.take hi).drop lo).length = hi - lo := by rw [List.length_drop, List.length_take]; omega
  refine ⟨_, fun W => ?_, Kd.C_mid hb h1 h2 hc, by omega⟩
  have := cut_mid (P := Try.prog) 23 5 .i64 .i64 Try.underlying23 hi' 1 e2 A l.length c (lo : Int) (hi : Int) (by omega) (by omega) (by omega) hc W
  rw [this, hl]
  rfl
theorem andnot3 (a : Nat) (h : a ≤ 1000000) : bits .andNot .i64 (a : Int) 3 = ((a / 4 * 4 : Nat) : Int) := by
  have e1 : bits .andNot .i64 (a : Int) 3 = IntKind.i64.wrap ((BitVec.ofNat 64 a &&& ~~~(3 : BitVec 64)).toNat : Nat) := rfl
  have e2 : (BitVec.ofNat 64 a &&& ~~~(3 : BitVec 64)).toNat = a / 4 * 4 := by
    have e3 : (BitVec.ofNat 64 a &&& ~~~(3 : BitVec 64)) = (BitVec.ofNat 64 a >>> 2) <<< 2 := by
      apply BitVec.eq_of_getLsbD_eq
      intro i hi
      simp only [BitVec.getLsbD_and, BitVec.getLsbD_not, BitVec.getLsbD_shiftLeft, BitVec.getLsbD_ushiftRight]
      by_cases h0 : i = 0
      · subst h0; simp
      · by_cases h1 : i = 1
        · subst h1; simp
        · have h2 : (3#64).getLsbD i = false := by
            rw [BitVec.getLsbD_ofNat]
            have : Nat.testBit 3 i = false := Nat.testBit_lt_two_pow (by have : 2 ^ 2 ≤ 2 ^ i := Nat.pow_le_pow_right (by decide) (by omega); omega)
            simp [this]
          have h3 : (3#64)[i] = false := by rw [← BitVec.getLsbD_eq_getElem hi]; exact h2
          simp [h3, show ¬ i < 2 by omega, show 2 + (i - 2) = i by omega, hi]
    rw [e3, BitVec.toNat_shiftLeft, BitVec.toNat_ushiftRight, BitVec.toNat_ofNat, Nat.shiftLeft_eq, Nat.shiftRight_eq_div_pow]
    omega
  rw [e1, e2, IntKind.wrap_i64]
  omega
theorem int_of_byte {w : World} {base e : Nat} {ok : Nat → Prop} {v : Value} {l : List UInt8} (h : byte.R e w base ok v l) : (Kd.int .u8).R e w base ok v (l.map fun b => (b.toNat : Int)) := by
  have h1 := Kd.own_of_R h
  refine Kd.R_of_own ?_ h.1
  have e1 : encs (Value.int .u8) (l.map fun b : UInt8 => (b.toNat : Int)) = encs (fun b : UInt8 => Value.int .u8 (b.toNat : Int)) l := by
    simp [encs]
  rw [e1, List.length_map]
  exact h1
set_option maxHeartbeats 4000000 in
theorem next_ok (wB w : World) (base g : Nat) (A : Option Addr) (l : List UInt8) (c p : Nat) (v : Value) (ps : List S36) (hs : LS w g A l.length c p v) (hR : Kd.R k36 36 w base (fun k => k ≠ g) v ps) (hb : byte.C w A l.length l) (hc : l.length ≤ c) (hp : p < l.length) (hn : l.length ≤ 140737488355328) (hl : ps.length ≤ 256) (hgb : base ≤ g) (hB : Below base wB w) (hbw : base ≤ wB.heap.size) (q : S36) (p' : Nat) (he : stepD l p ps.length = .ok (q, p')) :
    Calls Try.prog 35 #[.pointer (some ⟨g, 0, none⟩)] w fun e w' => e = .returned (.tuple #[]) ∧ ∃ v', LS w' g A l.length c p' v' ∧ Kd.R k36 36 w' base (fun k => k ≠ g) v' (ps ++ [q]) ∧ Below base wB w' := by
  have k0 := Lib.hid (show w.cell? ⟨g, 0, none⟩ = some (.slice A l.length c) from blk_cell hs.out 0)
  have k1 := Lib.hid (show w.cell? ⟨g, 1, none⟩ = some (.int .i64 (p : Int)) from blk_cell hs.out 1)
  unfold stepD at he
  by_cases h1 : ps.length = 256
  · rw [if_pos h1] at he; cases he
  rw [if_neg h1] at he
  by_cases h2 : l.length - p < 4
  · rw [if_pos h2] at he; cases he
  rw [if_neg h2] at he
  by_cases h3 : nI l (p + 2) < 4 ∨ l.length - p < nI l (p + 2)
  · rw [if_pos h3] at he; cases he
  rw [if_neg h3] at he
  injection he with he
  have hq : q = ⟨(nI l p : Int), ((l.drop (p + 4)).take (nI l (p + 2) - 4)).map fun b => (b.toNat : Int)⟩ := (congrArg Prod.fst he).symm
  have hp' : p' = p + min ((nI l (p + 2) + 3) / 4 * 4) (l.length - p) := (congrArg Prod.snd he).symm
  clear he
  have hx3 : ¬ nI l (p + 2) < 4 := fun h => h3 (Or.inl h)
  have hx4 : ¬ l.length - p < nI l (p + 2) := fun h => h3 (Or.inr h)
  have hbb : ∀ b : UInt8, b.toNat < 256 := fun b => b.toNat_lt
  have ht65 : nI l p ≤ 65535 := by unfold nI; have := hbb (l.getD p 0); have := hbb (l.getD (p + 1) 0); omega
  have hx65 : nI l (p + 2) ≤ 65535 := by unfold nI; have := hbb (l.getD (p + 2) 0); have := hbb (l.getD (p + 2 + 1) 0); omega
  have hlf := fun q : Nat => left_calls (w.drewN q) g A l.length c p k0.out k1.out (by omega) hn
  have hsh := fun q : Nat => short_calls (w.drewN q) g A l c p 2 k0.out k1.out (Kd.C_drewN hb q) (by omega) hn
  have HSH := Lib.hid (fun (W : World) (h0 : W.cell? ⟨g, 0, none⟩ = some (.slice A l.length c)) (h1 : W.cell? ⟨g, 1, none⟩ = some (.int .i64 (p : Int))) (h : byte.C W A l.length l) => short_calls W g A l c p 0 h0 h1 h (by omega) hn)
  have hsn : (l.getD (p + 2) 0).toNat * 256 + (l.getD (p + 2 + 1) 0).toNat = nI l (p + 2) := rfl
  have hs0 : (l.getD (p + 0) 0).toNat * 256 + (l.getD (p + 0 + 1) 0).toNat = nI l p := rfl
  rw [hsn] at hsh
  rw [hs0] at HSH
  have h2' : ¬ ((l.length - p : Nat) : Int) < 4 := by omega
  have h3' : ¬ ((nI l (p + 2) : Nat) : Int) < 4 := by omega
  have h4' : ¬ ((l.length - p : Nat) : Int) < ((nI l (p + 2) : Nat) : Int) := by omega
  have h1' : ¬ (ps.length : Int) = 256 := by omega
  have hdl : l.length - p ≤ 140737488355328 := by omega
  obtain ⟨Bd, hcut, hCb, hcle⟩ := mid_bytes hb hc (p + 4) (p + nI l (p + 2)) (by omega) (by omega)
  have hqb : ((l.take (p + nI l (p + 2))).drop (p + 4)) = (l.drop (p + 4)).take (nI l (p + 2) - 4) := by
    rw [List.drop_take]
    congr 1
    omega
  rw [← hqb] at hq
  have hbl : ((l.take (p + nI l (p + 2))).drop (p + 4)).length ≤ 140737488355328 := by rw [List.length_drop, List.length_take]; omega
  generalize (l.take (p + nI l (p + 2))).drop (p + 4) = bd at *
  generalize hcd : c - (p + 4) = cd at *
  have hp4 : Hid ((p : Int) + 4 = ((p + 4 : Nat) : Int)) := by show _ = _; omega
  have hpx : Hid ((p : Int) + ((nI l (p + 2) : Nat) : Int) = ((p + nI l (p + 2) : Nat) : Int)) := by show _ = _; omega
  have hpl : p + nI l (p + 2) ≤ 140737488355328 := by omega
  have hpl4 : p + 4 ≤ 140737488355328 := by omega
  have HSK := Lib.hid (fun (W : World) (v' : Value) (h : LS W g A l.length c p v') => skip_calls W g A l.length c p ((nI l (p + 2) + 3) / 4 * 4) v' h (by omega) hn (by omega))
  have han := andnot3 (nI l (p + 2) + 3) (by omega)
  rw [show ((nI l (p + 2) + 3 : Nat) : Int) = ((nI l (p + 2) : Nat) : Int) + 3 by omega] at han
  rw [← hp'] at HSK
  generalize (nI l (p + 2) + 3) / 4 * 4 = mm at *
  generalize p + 4 = p4 at *
  generalize p + nI l (p + 2) = px at *
  generalize nI l (p + 2) = x at *
  generalize nI l p = t at *
  generalize l.length - p = d at *
  obtain ⟨Av, cv, rfl⟩ := Kd.R_slice hR
  have hng := hR.1
  have k2 := Lib.hid (show w.cell? ⟨g, 2, none⟩ = some (.slice Av ps.length cv) from blk_cell hs.out 2)
  have HN := Lib.hid hng
  have HQ := Lib.hid hq
  have HCUT0 := Lib.hid hcut
  have HLS := Lib.hid hs
  have HR0 := Lib.hid hR
  have HC0 := Lib.hid hb
  have HCB0 := Lib.hid hCb
  have HBB0 := Lib.hid hB
  have HLF := Lib.hid hlf
  have HS2 := Lib.hid hsh
  have HAN := Lib.hid han
  clear hng hq hcut hs hR hb hCb hB hlf hsh hp' hsn hs0 hqb han h3 h2 hx3 hx4 h1
  have c0 := k0.out
  have c1 := k1.out
  have c2 := k2.out
  go_enter Try.func35, Try.ntmps35
  go_wp2_with fail
  refine (HLF.out 0).mono ?_
  rintro e w1 ⟨rfl, ⟨m, rfl⟩⟩
  rw [World.drewN_drewN]
  go_wp2_with fail
  refine (HS2.out _).mono ?_
  rintro e w1 ⟨rfl, ⟨m2, rfl⟩⟩
  rw [World.drewN_drewN]
  go_wp2_with fail
  refine (HLF.out _).mono ?_
  rintro e w1 ⟨rfl, ⟨m3, rfl⟩⟩
  rw [World.drewN_drewN]
  go_upto_region 7 with (fail)
  have k0b := Lib.hid (show (w.drewN (m + m2 + m3)).cell? ⟨g, 0, none⟩ = some (.slice A l.length c) from k0.out)
  have k1b := Lib.hid (show (w.drewN (m + m2 + m3)).cell? ⟨g, 1, none⟩ = some (.int .i64 (p : Int)) from k1.out)
  have k2b := Lib.hid (show (w.drewN (m + m2 + m3)).cell? ⟨g, 2, none⟩ = some (.slice Av ps.length cv) from k2.out)
  have HR := Lib.hid (Kd.R_drewN HR0.out (m + m2 + m3))
  have HC := Lib.hid (Kd.C_drewN HC0.out (m + m2 + m3))
  have HBD := Lib.hid (Kd.C_drewN HCB0.out (m + m2 + m3))
  have HBB := Lib.hid (pw_below_drewN HBB0.out (m + m2 + m3))
  have HL7 := Lib.hid (show (w.drewN (m + m2 + m3)).heap[g]? = some (.cells #[.slice A l.length c, .int .i64 (p : Int), .slice Av ps.length cv] 63 (0, 0)) from HLS.out.out)
  clear k0 k1 k2 c0 c1 c2 HR0 HC0 HCB0 HBB0 HLS HLF HS2
  generalize w.drewN (m + m2 + m3) = wS at *
  have hgS : g < wS.heap.size := blk_lt HL7.out
  have hbS : base ≤ wS.heap.size := by have := HBB.out.size; omega
  have HGG := Lib.hid (fun (w2 : World) (h : Below wS.heap.size wS w2) => blk_below HL7.out h)
  have HNG := Lib.hid (fun e : (Value.slice Av ps.length cv).ownBlock = some g => HN.out g e rfl)
  have HM := Lib.hid (fun (w2 : World) (A9 : Option Addr) (c9 : Nat) (hB : Below wS.heap.size wS w2) (h : byte.R 5 w2 wS.heap.size (fun _ => True) (.slice A9 bd.length c9) bd) =>
    show k36.M w2 base (fun k => k ≠ g ∧ some k ≠ (Value.slice Av ps.length cv).ownBlock) ⟨(t : Int), bd.map fun b => (b.toNat : Int)⟩ [.int .u16 (t : Int), .slice A9 bd.length c9] from
      k36_mkM w2 base _ _ (Kd.R_flat (fun h => h) (Kd.R_lower (int_of_byte h) hbS) (fun k hk _ => by
        have h1 := Kd.R_base h k hk
        exact ⟨by omega, fun e => by have := Kd.R_lt HR.out k e.symm; omega⟩)))
  clear HL7
  have hw43 : Hid (IntKind.u16.wrap (t : Int) = (t : Int)) := by show _ = _; rw [show IntKind.u16.wrap (t : Int) = (t : Int) % 65536 by simp [IntKind.wrap, IntKind.bits, IntKind.signed]]; omega
  have hw54 : Hid (wrap64 (p4 : Int) = (p4 : Int)) := by show _ = _; unfold wrap64; omega
  have hw61 : Hid (wrap64 (px : Int) = (px : Int)) := by show _ = _; unfold wrap64; omega
  have k0 := k0b
  have k1 := k1b
  have k2 := k2b
  have HCUT := HCUT0
  have B := True.intro
  refine start_ (n := 36) (S := fun w' => True) (ds := []) #[false, false, false, false, false, false, false, false, false, false, false, false, false, false, false, false, false, false, false, false, false, false, false, false, false, false, false, false, false, false, false, false, false, false, false, false] (by kernel_rfl) rfl rfl trivial (fun hHeld => ?_)
  refine with_tabW nexttab7 nextbits7 (fun HT_ HW_ => ?_)
  refine pure_ (i := 0) (N := some 34) (v := ?_) (a' := ?_) #[true, false, false, false, false, false, false, false, false, false, false, false, false, false, false, false, false, false, false, false, false, false, false, false, false, false, false, false, false, false, false, false, false, false, false, false] rfl rfl (any_of HT_.out (by kernel_rfl)) (fun _ _ _ h => h) (Or.inl ⟨by rfl, ?_⟩) ?_ ?_
  rotate_left
  · intro w'
    go_simp
    with_reducible rfl
  rotate_left
  · simp only [Act.put, List.setIfInBounds_toArray, List.set_cons_zero, List.set_cons_succ, i64_w, i32_w]
    rfl
  refine pure_ (i := 1) (N := some 35) (v := ?_) (a' := ?_) #[true, true, false, false, false, false, false, false, false, false, false, false, false, false, false, false, false, false, false, false, false, false, false, false, false, false, false, false, false, false, false, false, false, false, false, false] rfl rfl (any_of HT_.out (by kernel_rfl)) (fun _ _ _ h => h) (Or.inl ⟨by rfl, ?_⟩) ?_ ?_
  rotate_left
  · intro w'
    go_simp
    with_reducible rfl
  rotate_left
  · simp only [Act.put, List.setIfInBounds_toArray, List.set_cons_zero, List.set_cons_succ, i64_w, i32_w]
    rfl
  refine pure_ (i := 5) (N := some 39) (v := ?_) (a' := ?_) #[true, true, false, false, false, true, false, false, false, false, false, false, false, false, false, false, false, false, false, false, false, false, false, false, false, false, false, false, false, false, false, false, false, false, false, false] rfl rfl (any_of HT_.out (by kernel_rfl)) (fun _ _ _ h => h) (Or.inl ⟨by rfl, ?_⟩) ?_ ?_
  rotate_left
  · intro w'
    go_simp
    with_reducible rfl
  rotate_left
  · simp only [Act.put, List.setIfInBounds_toArray, List.set_cons_zero, List.set_cons_succ, i64_w, i32_w]
    rfl
  refine pure_ (i := 10) (N := some 44) (v := ?_) (a' := ?_) #[true, true, false, false, false, true, false, false, false, false, true, false, false, false, false, false, false, false, false, false, false, false, false, false, false, false, false, false, false, false, false, false, false, false, false, false] rfl rfl (any_of HT_.out (by kernel_rfl)) (fun _ _ _ h => h) (Or.inl ⟨by rfl, ?_⟩) ?_ ?_
  rotate_left
  · intro w'
    go_simp
    with_reducible rfl
  rotate_left
  · simp only [Act.put, List.setIfInBounds_toArray, List.set_cons_zero, List.set_cons_succ, i64_w, i32_w]
    rfl
  refine pure_ (i := 15) (N := some 49) (v := ?_) (a' := ?_) #[true, true, false, false, false, true, false, false, false, false, true, false, false, false, false, true, false, false, false, false, false, false, false, false, false, false, false, false, false, false, false, false, false, false, false, false] rfl rfl (any_of HT_.out (by kernel_rfl)) (fun _ _ _ h => h) (Or.inl ⟨by rfl, ?_⟩) ?_ ?_
  rotate_left
  · intro w'
    go_simp
    with_reducible rfl
  rotate_left
  · simp only [Act.put, List.setIfInBounds_toArray, List.set_cons_zero, List.set_cons_succ, i64_w, i32_w]
    rfl
  refine pure_ (i := 21) (N := some 55) (v := ?_) (a' := ?_) #[true, true, false, false, false, true, false, false, false, false, true, false, false, false, false, true, false, false, false, false, false, true, false, false, false, false, false, false, false, false, false, false, false, false, false, false] rfl rfl (any_of HT_.out (by kernel_rfl)) (fun _ _ _ h => h) (Or.inl ⟨by rfl, ?_⟩) ?_ ?_
  rotate_left
  · intro w'
    go_simp
    with_reducible rfl
  rotate_left
  · simp only [Act.put, List.setIfInBounds_toArray, List.set_cons_zero, List.set_cons_succ, i64_w, i32_w]
    rfl
  refine pure_ (i := 26) (N := some 60) (v := ?_) (a' := ?_) #[true, true, false, false, false, true, false, false, false, false, true, false, false, false, false, true, false, false, false, false, false, true, false, false, false, false, true, false, false, false, false, false, false, false, false, false] rfl rfl (any_of HT_.out (by kernel_rfl)) (fun _ _ _ h => h) (Or.inl ⟨by rfl, ?_⟩) ?_ ?_
  rotate_left
  · intro w'
    go_simp
    with_reducible rfl
  rotate_left
  · simp only [Act.put, List.setIfInBounds_toArray, List.set_cons_zero, List.set_cons_succ, i64_w, i32_w]
    rfl
  refine inv_at [2, 3, 4, 6, 7, 8, 9, 11, 12, 13, 14, 16, 17, 18, 19, 20, 22, 23, 24, 25, 27, 28, 29, 30, 31, 32, 33, 34, 35] (fun a0_ b a w' => ∃ (A9 : Option Addr) (c9 : Nat) (g9 : Nat) (v9 : Value) (m29_ : Value) (m30_ : Value) (m31_ : Value), a = putSel a0_ b [(2, 36, .pointer (some ⟨g, 0, none⟩)), (3, 37, .pointer (some ⟨g, 2, none⟩)), (4, 38, .slice Av ps.length cv), (6, 40, .pointer (some ⟨g, 0, none⟩)), (7, 41, .pointer (some ⟨g, 0, none⟩)), (8, 42, .int .i64 (t : Int)), (9, 43, .int .u16 (t : Int)), (11, 45, .pointer (some ⟨g, 0, none⟩)), (12, 46, .pointer (some ⟨g, 0, none⟩)), (13, 47, .pointer (some ⟨g, 0, none⟩)), (14, 48, .slice A l.length c), (16, 50, .pointer (some ⟨g, 0, none⟩)), (17, 51, .pointer (some ⟨g, 0, none⟩)), (18, 52, .pointer (some ⟨g, 1, none⟩)), (19, 53, .int .i64 (p : Int)), (20, 54, .int .i64 (p4 : Int)), (22, 56, .pointer (some ⟨g, 0, none⟩)), (23, 57, .pointer (some ⟨g, 0, none⟩)), (24, 58, .pointer (some ⟨g, 1, none⟩)), (25, 59, .int .i64 (p : Int)), (27, 61, .int .i64 (px : Int)), (28, 62, .slice Bd bd.length cd), (29, 63, m29_), (30, 64, m30_), (31, 65, m31_), (32, 66, v9), (33, 67, .pointer (some ⟨g, 0, none⟩)), (34, 68, .pointer (some ⟨g, 2, none⟩))] ∧ (b 32 = false → Below wS.heap.size wS w') ∧ (b 29 = true → b 32 = false → byte.R 5 w' wS.heap.size (fun _ => True) (.slice A9 bd.length c9) bd) ∧ (b 31 = true → b 32 = false → ∃ w2, w' = w2.alloc (.cells #[.int .u16 (t : Int), .slice A9 bd.length c9] 36) ∧ g9 = w2.heap.size ∧ Below wS.heap.size wS w2 ∧ byte.R 5 w2 wS.heap.size (fun _ => True) (.slice A9 bd.length c9) bd) ∧ (b 32 = true → b 35 = false → Kd.R k36 36 w' base (fun k => k ≠ g) v9 (ps ++ [⟨(t : Int), bd.map fun b => (b.toNat : Int)⟩]) ∧ Below base wB w' ∧ w'.heap[g]? = some (.cells #[.slice A l.length c, .int .i64 (p : Int), .slice Av ps.length cv] 63 (0, 0))) ∧ (b 35 = true → LS w' g A l.length c p v9 ∧ Kd.R k36 36 w' base (fun k => k ≠ g) v9 (ps ++ [⟨(t : Int), bd.map fun b => (b.toNat : Int)⟩]) ∧ Below base wB w') ∧ (b 29 = true → (m29_ : Value) = .slice A9 bd.length c9) ∧ (b 30 = true → (m30_ : Value) = .agg #[.int .u16 (t : Int), .slice A9 bd.length c9]) ∧ (b 31 = true → (m31_ : Value) = .slice (some ⟨g9, 0, none⟩) 1 1)) HT_.out HW_.out (by kernel_rfl) (by kernel_rfl) ?_ ?_ ?_
  · exact ⟨none, 0, 0, undef, .bool false, .bool false, .bool false, by simp only [putSel, Bool.false_eq_true, if_false], fun _ => below_drew (Below.refl _ _), fun h_ => absurd h_ (by decide), fun h_ => absurd h_ (by decide), fun h_ => absurd h_ (by decide), fun h_ => absurd h_ (by decide), fun h_ => absurd h_ (by decide), fun h_ => absurd h_ (by decide), fun h_ => absurd h_ (by decide)⟩
  · skip
    clear B
    refine steps_cons ?_ ?_
    · rintro b a w' ⟨A9, c9, g9, v9, m29_, m30_, m31_, ha, Q_B, Q_C, Q_W2, Q_S1, Q_S2, Q_X29_, Q_X30_, Q_X31_⟩ hb_ hon hoff
      refine ⟨_, rfl, fun K hK => ?_⟩
      have e35 : a.tmps[35]? = some (.pointer (some ⟨g, 0, none⟩)) := by rw [ha]; exact (putSel_off rfl).trans rfl
      replace ha := Aside0.mk ha
      have B := Aside0.mk (Q_B (hoff 32 (by kernel_rfl)))
      refine value_ (w1 := w') (v := .pointer (some ⟨g, 0, none⟩)) (by rfl) rfl ?_ ?_
      · go_simp
        (try simp only [i64_w])
        try rfl
      refine hK.out _ _ ⟨A9, c9, g9, v9, m29_, m30_, m31_, (by rw [ha.out]; exact putSel_upk 0 hb_ rfl rfl rfl), Q_B, Q_C, Q_W2, fun h0_ _ => absurd ((hoff 32 (by kernel_rfl)).symm.trans h0_) (by decide), fun h0_ => absurd ((hoff 35 (by kernel_rfl)).symm.trans h0_) (by decide), Q_X29_, Q_X30_, Q_X31_⟩
    refine steps_cons ?_ ?_
    · rintro b a w' ⟨A9, c9, g9, v9, m29_, m30_, m31_, ha, Q_B, Q_C, Q_W2, Q_S1, Q_S2, Q_X29_, Q_X30_, Q_X31_⟩ hb_ hon hoff
      refine ⟨_, rfl, fun K hK => ?_⟩
      have e36 : a.tmps[36]? = some (.pointer (some ⟨g, 0, none⟩)) := by rw [ha]; exact putSel_on (e := (2, 36, .pointer (some ⟨g, 0, none⟩))) 0 rfl rfl (hon 2 (by kernel_rfl)) rfl
      replace ha := Aside0.mk ha
      have B := Aside0.mk (Q_B (hoff 32 (by kernel_rfl)))
      refine value_ (w1 := w') (v := .pointer (some ⟨g, 2, none⟩)) (by rfl) rfl ?_ ?_
      · go_simp
        (try simp only [i64_w])
        try rfl
      refine hK.out _ _ ⟨A9, c9, g9, v9, m29_, m30_, m31_, (by rw [ha.out]; exact putSel_upk 1 hb_ rfl rfl rfl), Q_B, Q_C, Q_W2, fun h0_ _ => absurd ((hoff 32 (by kernel_rfl)).symm.trans h0_) (by decide), fun h0_ => absurd ((hoff 35 (by kernel_rfl)).symm.trans h0_) (by decide), Q_X29_, Q_X30_, Q_X31_⟩
    refine steps_cons ?_ ?_
    · rintro b a w' ⟨A9, c9, g9, v9, m29_, m30_, m31_, ha, Q_B, Q_C, Q_W2, Q_S1, Q_S2, Q_X29_, Q_X30_, Q_X31_⟩ hb_ hon hoff
      refine ⟨_, rfl, fun K hK => ?_⟩
      have e37 : a.tmps[37]? = some (.pointer (some ⟨g, 2, none⟩)) := by rw [ha]; exact putSel_on (e := (3, 37, .pointer (some ⟨g, 2, none⟩))) 1 rfl rfl (hon 3 (by kernel_rfl)) rfl
      replace ha := Aside0.mk ha
      have B := Aside0.mk (Q_B (hoff 32 (by kernel_rfl)))
      have hs := pw_cell_below B.out k2.out
      refine value_ (w1 := w') (v := .slice Av ps.length cv) (by rfl) rfl ?_ ?_
      · go_simp
        (try simp only [i64_w])
        try rfl
      refine hK.out _ _ ⟨A9, c9, g9, v9, m29_, m30_, m31_, (by rw [ha.out]; exact putSel_upk 2 hb_ rfl rfl rfl), Q_B, Q_C, Q_W2, fun h0_ _ => absurd ((hoff 32 (by kernel_rfl)).symm.trans h0_) (by decide), fun h0_ => absurd ((hoff 35 (by kernel_rfl)).symm.trans h0_) (by decide), Q_X29_, Q_X30_, Q_X31_⟩
    refine steps_cons ?_ ?_
    · rintro b a w' ⟨A9, c9, g9, v9, m29_, m30_, m31_, ha, Q_B, Q_C, Q_W2, Q_S1, Q_S2, Q_X29_, Q_X30_, Q_X31_⟩ hb_ hon hoff
      refine ⟨_, rfl, fun K hK => ?_⟩
      have e39 : a.tmps[39]? = some (.pointer (some ⟨g, 0, none⟩)) := by rw [ha]; exact (putSel_off rfl).trans rfl
      replace ha := Aside0.mk ha
      have B := Aside0.mk (Q_B (hoff 32 (by kernel_rfl)))
      refine value_ (w1 := w') (v := .pointer (some ⟨g, 0, none⟩)) (by rfl) rfl ?_ ?_
      · go_simp
        (try simp only [i64_w])
        try rfl
      refine hK.out _ _ ⟨A9, c9, g9, v9, m29_, m30_, m31_, (by rw [ha.out]; exact putSel_upk 3 hb_ rfl rfl rfl), Q_B, fun h0_ _ => absurd ((hoff 29 (by kernel_rfl)).symm.trans h0_) (by decide), fun h0_ _ => absurd ((hoff 31 (by kernel_rfl)).symm.trans h0_) (by decide), fun h0_ _ => absurd ((hoff 32 (by kernel_rfl)).symm.trans h0_) (by decide), fun h0_ => absurd ((hoff 35 (by kernel_rfl)).symm.trans h0_) (by decide), fun h0_ => absurd ((hoff 29 (by kernel_rfl)).symm.trans h0_) (by decide), fun h0_ => absurd ((hoff 30 (by kernel_rfl)).symm.trans h0_) (by decide), fun h0_ => absurd ((hoff 31 (by kernel_rfl)).symm.trans h0_) (by decide)⟩
    refine steps_cons ?_ ?_
    · rintro b a w' ⟨A9, c9, g9, v9, m29_, m30_, m31_, ha, Q_B, Q_C, Q_W2, Q_S1, Q_S2, Q_X29_, Q_X30_, Q_X31_⟩ hb_ hon hoff
      refine ⟨_, rfl, fun K hK => ?_⟩
      have e40 : a.tmps[40]? = some (.pointer (some ⟨g, 0, none⟩)) := by rw [ha]; exact putSel_on (e := (6, 40, .pointer (some ⟨g, 0, none⟩))) 3 rfl rfl (hon 6 (by kernel_rfl)) rfl
      replace ha := Aside0.mk ha
      have B := Aside0.mk (Q_B (hoff 32 (by kernel_rfl)))
      refine value_ (w1 := w') (v := .pointer (some ⟨g, 0, none⟩)) (by rfl) rfl ?_ ?_
      · go_simp
        (try simp only [i64_w])
        try rfl
      refine hK.out _ _ ⟨A9, c9, g9, v9, m29_, m30_, m31_, (by rw [ha.out]; exact putSel_upk 4 hb_ rfl rfl rfl), Q_B, fun h0_ _ => absurd ((hoff 29 (by kernel_rfl)).symm.trans h0_) (by decide), fun h0_ _ => absurd ((hoff 31 (by kernel_rfl)).symm.trans h0_) (by decide), fun h0_ _ => absurd ((hoff 32 (by kernel_rfl)).symm.trans h0_) (by decide), fun h0_ => absurd ((hoff 35 (by kernel_rfl)).symm.trans h0_) (by decide), fun h0_ => absurd ((hoff 29 (by kernel_rfl)).symm.trans h0_) (by decide), fun h0_ => absurd ((hoff 30 (by kernel_rfl)).symm.trans h0_) (by decide), fun h0_ => absurd ((hoff 31 (by kernel_rfl)).symm.trans h0_) (by decide)⟩
    refine steps_cons ?_ ?_
    · rintro b a w' ⟨A9, c9, g9, v9, m29_, m30_, m31_, ha, Q_B, Q_C, Q_W2, Q_S1, Q_S2, Q_X29_, Q_X30_, Q_X31_⟩ hb_ hon hoff
      refine ⟨_, rfl, fun K hK => ?_⟩
      have e41 : a.tmps[41]? = some (.pointer (some ⟨g, 0, none⟩)) := by rw [ha]; exact putSel_on (e := (7, 41, .pointer (some ⟨g, 0, none⟩))) 4 rfl rfl (hon 7 (by kernel_rfl)) rfl
      replace ha := Aside0.mk ha
      have B := Aside0.mk (Q_B (hoff 32 (by kernel_rfl)))
      refine goes_ Try.func43 (by kernel_rfl) rfl #[.pointer (some ⟨g, 0, none⟩), .int .i64 0] (by rfl) rfl rfl (by first | (simp only [List.map_toArray, List.map_cons, List.map_nil, Act.eval, Array.getD_eq_getD_getElem?, Option.getD_some, e41]; done) | (simp only [List.map_toArray, List.map_cons, List.map_nil, Act.eval, Array.getD_eq_getD_getElem?, Option.getD_some, e41]; rfl)) ?_
      refine (HSH.out w' (pw_cell_below B.out k0.out) (pw_cell_below B.out k1.out) (Kd.C_below HC.out B.out)).mono ?_
      rintro e w1 ⟨rfl, hD1⟩
      refine ⟨_, rfl, ?_⟩
      refine hK.out _ _ ⟨A9, c9, g9, v9, m29_, m30_, m31_, (by rw [ha.out]; exact putSel_upk 5 hb_ rfl rfl rfl), fun _ => B.out.trans ((drawn_below hD1).mono B.out.size), fun h0_ _ => absurd ((hoff 29 (by kernel_rfl)).symm.trans h0_) (by decide), fun h0_ _ => absurd ((hoff 31 (by kernel_rfl)).symm.trans h0_) (by decide), fun h0_ _ => absurd ((hoff 32 (by kernel_rfl)).symm.trans h0_) (by decide), fun h0_ => absurd ((hoff 35 (by kernel_rfl)).symm.trans h0_) (by decide), fun h0_ => absurd ((hoff 29 (by kernel_rfl)).symm.trans h0_) (by decide), fun h0_ => absurd ((hoff 30 (by kernel_rfl)).symm.trans h0_) (by decide), fun h0_ => absurd ((hoff 31 (by kernel_rfl)).symm.trans h0_) (by decide)⟩
    refine steps_cons ?_ ?_
    · rintro b a w' ⟨A9, c9, g9, v9, m29_, m30_, m31_, ha, Q_B, Q_C, Q_W2, Q_S1, Q_S2, Q_X29_, Q_X30_, Q_X31_⟩ hb_ hon hoff
      refine ⟨_, rfl, fun K hK => ?_⟩
      have e42 : a.tmps[42]? = some (.int .i64 (t : Int)) := by rw [ha]; exact putSel_on (e := (8, 42, .int .i64 (t : Int))) 5 rfl rfl (hon 8 (by kernel_rfl)) rfl
      replace ha := Aside0.mk ha
      have B := Aside0.mk (Q_B (hoff 32 (by kernel_rfl)))
      refine value_ (w1 := w') (v := .int .u16 (t : Int)) (by rfl) rfl (by go_simp; (try simp only [i64_w]); first | done | exact hw43.out) ?_
      refine hK.out _ _ ⟨A9, c9, g9, v9, m29_, m30_, m31_, (by rw [ha.out]; exact putSel_upk 6 hb_ rfl rfl rfl), fun _ => B.out, fun h0_ h1_ => (Q_C h0_ h1_), fun h0_ _ => absurd ((hoff 31 (by kernel_rfl)).symm.trans h0_) (by decide), fun h0_ _ => absurd ((hoff 32 (by kernel_rfl)).symm.trans h0_) (by decide), fun h0_ => absurd ((hoff 35 (by kernel_rfl)).symm.trans h0_) (by decide), Q_X29_, fun h0_ => absurd ((hoff 30 (by kernel_rfl)).symm.trans h0_) (by decide), fun h0_ => absurd ((hoff 31 (by kernel_rfl)).symm.trans h0_) (by decide)⟩
    refine steps_cons ?_ ?_
    · rintro b a w' ⟨A9, c9, g9, v9, m29_, m30_, m31_, ha, Q_B, Q_C, Q_W2, Q_S1, Q_S2, Q_X29_, Q_X30_, Q_X31_⟩ hb_ hon hoff
      refine ⟨_, rfl, fun K hK => ?_⟩
      have e44 : a.tmps[44]? = some (.pointer (some ⟨g, 0, none⟩)) := by rw [ha]; exact (putSel_off rfl).trans rfl
      replace ha := Aside0.mk ha
      have B := Aside0.mk (Q_B (hoff 32 (by kernel_rfl)))
      refine value_ (w1 := w') (v := .pointer (some ⟨g, 0, none⟩)) (by rfl) rfl ?_ ?_
      · go_simp
        (try simp only [i64_w])
        try rfl
      refine hK.out _ _ ⟨A9, c9, g9, v9, m29_, m30_, m31_, (by rw [ha.out]; exact putSel_upk 7 hb_ rfl rfl rfl), Q_B, fun h0_ _ => absurd ((hoff 29 (by kernel_rfl)).symm.trans h0_) (by decide), fun h0_ _ => absurd ((hoff 31 (by kernel_rfl)).symm.trans h0_) (by decide), fun h0_ _ => absurd ((hoff 32 (by kernel_rfl)).symm.trans h0_) (by decide), fun h0_ => absurd ((hoff 35 (by kernel_rfl)).symm.trans h0_) (by decide), fun h0_ => absurd ((hoff 29 (by kernel_rfl)).symm.trans h0_) (by decide), fun h0_ => absurd ((hoff 30 (by kernel_rfl)).symm.trans h0_) (by decide), fun h0_ => absurd ((hoff 31 (by kernel_rfl)).symm.trans h0_) (by decide)⟩
    refine steps_cons ?_ ?_
    · rintro b a w' ⟨A9, c9, g9, v9, m29_, m30_, m31_, ha, Q_B, Q_C, Q_W2, Q_S1, Q_S2, Q_X29_, Q_X30_, Q_X31_⟩ hb_ hon hoff
      refine ⟨_, rfl, fun K hK => ?_⟩
      have e45 : a.tmps[45]? = some (.pointer (some ⟨g, 0, none⟩)) := by rw [ha]; exact putSel_on (e := (11, 45, .pointer (some ⟨g, 0, none⟩))) 7 rfl rfl (hon 11 (by kernel_rfl)) rfl
      replace ha := Aside0.mk ha
      have B := Aside0.mk (Q_B (hoff 32 (by kernel_rfl)))
      refine value_ (w1 := w') (v := .pointer (some ⟨g, 0, none⟩)) (by rfl) rfl ?_ ?_
      · go_simp
        (try simp only [i64_w])
        try rfl
      refine hK.out _ _ ⟨A9, c9, g9, v9, m29_, m30_, m31_, (by rw [ha.out]; exact putSel_upk 8 hb_ rfl rfl rfl), Q_B, fun h0_ _ => absurd ((hoff 29 (by kernel_rfl)).symm.trans h0_) (by decide), fun h0_ _ => absurd ((hoff 31 (by kernel_rfl)).symm.trans h0_) (by decide), fun h0_ _ => absurd ((hoff 32 (by kernel_rfl)).symm.trans h0_) (by decide), fun h0_ => absurd ((hoff 35 (by kernel_rfl)).symm.trans h0_) (by decide), fun h0_ => absurd ((hoff 29 (by kernel_rfl)).symm.trans h0_) (by decide), fun h0_ => absurd ((hoff 30 (by kernel_rfl)).symm.trans h0_) (by decide), fun h0_ => absurd ((hoff 31 (by kernel_rfl)).symm.trans h0_) (by decide)⟩
    refine steps_cons ?_ ?_
    · rintro b a w' ⟨A9, c9, g9, v9, m29_, m30_, m31_, ha, Q_B, Q_C, Q_W2, Q_S1, Q_S2, Q_X29_, Q_X30_, Q_X31_⟩ hb_ hon hoff
      refine ⟨_, rfl, fun K hK => ?_⟩
      have e46 : a.tmps[46]? = some (.pointer (some ⟨g, 0, none⟩)) := by rw [ha]; exact putSel_on (e := (12, 46, .pointer (some ⟨g, 0, none⟩))) 8 rfl rfl (hon 12 (by kernel_rfl)) rfl
      replace ha := Aside0.mk ha
      have B := Aside0.mk (Q_B (hoff 32 (by kernel_rfl)))
      refine value_ (w1 := w') (v := .pointer (some ⟨g, 0, none⟩)) (by rfl) rfl ?_ ?_
      · go_simp
        (try simp only [i64_w])
        try rfl
      refine hK.out _ _ ⟨A9, c9, g9, v9, m29_, m30_, m31_, (by rw [ha.out]; exact putSel_upk 9 hb_ rfl rfl rfl), Q_B, fun h0_ _ => absurd ((hoff 29 (by kernel_rfl)).symm.trans h0_) (by decide), fun h0_ _ => absurd ((hoff 31 (by kernel_rfl)).symm.trans h0_) (by decide), fun h0_ _ => absurd ((hoff 32 (by kernel_rfl)).symm.trans h0_) (by decide), fun h0_ => absurd ((hoff 35 (by kernel_rfl)).symm.trans h0_) (by decide), fun h0_ => absurd ((hoff 29 (by kernel_rfl)).symm.trans h0_) (by decide), fun h0_ => absurd ((hoff 30 (by kernel_rfl)).symm.trans h0_) (by decide), fun h0_ => absurd ((hoff 31 (by kernel_rfl)).symm.trans h0_) (by decide)⟩
    refine steps_cons ?_ ?_
    · rintro b a w' ⟨A9, c9, g9, v9, m29_, m30_, m31_, ha, Q_B, Q_C, Q_W2, Q_S1, Q_S2, Q_X29_, Q_X30_, Q_X31_⟩ hb_ hon hoff
      refine ⟨_, rfl, fun K hK => ?_⟩
      have e47 : a.tmps[47]? = some (.pointer (some ⟨g, 0, none⟩)) := by rw [ha]; exact putSel_on (e := (13, 47, .pointer (some ⟨g, 0, none⟩))) 9 rfl rfl (hon 13 (by kernel_rfl)) rfl
      replace ha := Aside0.mk ha
      have B := Aside0.mk (Q_B (hoff 32 (by kernel_rfl)))
      have hs := pw_cell_below B.out k0.out
      refine value_ (w1 := w') (v := .slice A l.length c) (by rfl) rfl ?_ ?_
      · go_simp
        (try simp only [i64_w])
        try rfl
      refine hK.out _ _ ⟨A9, c9, g9, v9, m29_, m30_, m31_, (by rw [ha.out]; exact putSel_upk 10 hb_ rfl rfl rfl), Q_B, fun h0_ _ => absurd ((hoff 29 (by kernel_rfl)).symm.trans h0_) (by decide), fun h0_ _ => absurd ((hoff 31 (by kernel_rfl)).symm.trans h0_) (by decide), fun h0_ _ => absurd ((hoff 32 (by kernel_rfl)).symm.trans h0_) (by decide), fun h0_ => absurd ((hoff 35 (by kernel_rfl)).symm.trans h0_) (by decide), fun h0_ => absurd ((hoff 29 (by kernel_rfl)).symm.trans h0_) (by decide), fun h0_ => absurd ((hoff 30 (by kernel_rfl)).symm.trans h0_) (by decide), fun h0_ => absurd ((hoff 31 (by kernel_rfl)).symm.trans h0_) (by decide)⟩
    refine steps_cons ?_ ?_
    · rintro b a w' ⟨A9, c9, g9, v9, m29_, m30_, m31_, ha, Q_B, Q_C, Q_W2, Q_S1, Q_S2, Q_X29_, Q_X30_, Q_X31_⟩ hb_ hon hoff
      refine ⟨_, rfl, fun K hK => ?_⟩
      have e49 : a.tmps[49]? = some (.pointer (some ⟨g, 0, none⟩)) := by rw [ha]; exact (putSel_off rfl).trans rfl
      replace ha := Aside0.mk ha
      have B := Aside0.mk (Q_B (hoff 32 (by kernel_rfl)))
      refine value_ (w1 := w') (v := .pointer (some ⟨g, 0, none⟩)) (by rfl) rfl ?_ ?_
      · go_simp
        (try simp only [i64_w])
        try rfl
      refine hK.out _ _ ⟨A9, c9, g9, v9, m29_, m30_, m31_, (by rw [ha.out]; exact putSel_upk 11 hb_ rfl rfl rfl), Q_B, fun h0_ _ => absurd ((hoff 29 (by kernel_rfl)).symm.trans h0_) (by decide), fun h0_ _ => absurd ((hoff 31 (by kernel_rfl)).symm.trans h0_) (by decide), fun h0_ _ => absurd ((hoff 32 (by kernel_rfl)).symm.trans h0_) (by decide), fun h0_ => absurd ((hoff 35 (by kernel_rfl)).symm.trans h0_) (by decide), fun h0_ => absurd ((hoff 29 (by kernel_rfl)).symm.trans h0_) (by decide), fun h0_ => absurd ((hoff 30 (by kernel_rfl)).symm.trans h0_) (by decide), fun h0_ => absurd ((hoff 31 (by kernel_rfl)).symm.trans h0_) (by decide)⟩
    refine steps_cons ?_ ?_
    · rintro b a w' ⟨A9, c9, g9, v9, m29_, m30_, m31_, ha, Q_B, Q_C, Q_W2, Q_S1, Q_S2, Q_X29_, Q_X30_, Q_X31_⟩ hb_ hon hoff
      refine ⟨_, rfl, fun K hK => ?_⟩
      have e50 : a.tmps[50]? = some (.pointer (some ⟨g, 0, none⟩)) := by rw [ha]; exact putSel_on (e := (16, 50, .pointer (some ⟨g, 0, none⟩))) 11 rfl rfl (hon 16 (by kernel_rfl)) rfl
      replace ha := Aside0.mk ha
      have B := Aside0.mk (Q_B (hoff 32 (by kernel_rfl)))
      refine value_ (w1 := w') (v := .pointer (some ⟨g, 0, none⟩)) (by rfl) rfl ?_ ?_
      · go_simp
        (try simp only [i64_w])
        try rfl
      refine hK.out _ _ ⟨A9, c9, g9, v9, m29_, m30_, m31_, (by rw [ha.out]; exact putSel_upk 12 hb_ rfl rfl rfl), Q_B, fun h0_ _ => absurd ((hoff 29 (by kernel_rfl)).symm.trans h0_) (by decide), fun h0_ _ => absurd ((hoff 31 (by kernel_rfl)).symm.trans h0_) (by decide), fun h0_ _ => absurd ((hoff 32 (by kernel_rfl)).symm.trans h0_) (by decide), fun h0_ => absurd ((hoff 35 (by kernel_rfl)).symm.trans h0_) (by decide), fun h0_ => absurd ((hoff 29 (by kernel_rfl)).symm.trans h0_) (by decide), fun h0_ => absurd ((hoff 30 (by kernel_rfl)).symm.trans h0_) (by decide), fun h0_ => absurd ((hoff 31 (by kernel_rfl)).symm.trans h0_) (by decide)⟩
    refine steps_cons ?_ ?_
    · rintro b a w' ⟨A9, c9, g9, v9, m29_, m30_, m31_, ha, Q_B, Q_C, Q_W2, Q_S1, Q_S2, Q_X29_, Q_X30_, Q_X31_⟩ hb_ hon hoff
      refine ⟨_, rfl, fun K hK => ?_⟩
      have e51 : a.tmps[51]? = some (.pointer (some ⟨g, 0, none⟩)) := by rw [ha]; exact putSel_on (e := (17, 51, .pointer (some ⟨g, 0, none⟩))) 12 rfl rfl (hon 17 (by kernel_rfl)) rfl
      replace ha := Aside0.mk ha
      have B := Aside0.mk (Q_B (hoff 32 (by kernel_rfl)))
      refine value_ (w1 := w') (v := .pointer (some ⟨g, 1, none⟩)) (by rfl) rfl ?_ ?_
      · go_simp
        (try simp only [i64_w])
        try rfl
      refine hK.out _ _ ⟨A9, c9, g9, v9, m29_, m30_, m31_, (by rw [ha.out]; exact putSel_upk 13 hb_ rfl rfl rfl), Q_B, fun h0_ _ => absurd ((hoff 29 (by kernel_rfl)).symm.trans h0_) (by decide), fun h0_ _ => absurd ((hoff 31 (by kernel_rfl)).symm.trans h0_) (by decide), fun h0_ _ => absurd ((hoff 32 (by kernel_rfl)).symm.trans h0_) (by decide), fun h0_ => absurd ((hoff 35 (by kernel_rfl)).symm.trans h0_) (by decide), fun h0_ => absurd ((hoff 29 (by kernel_rfl)).symm.trans h0_) (by decide), fun h0_ => absurd ((hoff 30 (by kernel_rfl)).symm.trans h0_) (by decide), fun h0_ => absurd ((hoff 31 (by kernel_rfl)).symm.trans h0_) (by decide)⟩
    refine steps_cons ?_ ?_
    · rintro b a w' ⟨A9, c9, g9, v9, m29_, m30_, m31_, ha, Q_B, Q_C, Q_W2, Q_S1, Q_S2, Q_X29_, Q_X30_, Q_X31_⟩ hb_ hon hoff
      refine ⟨_, rfl, fun K hK => ?_⟩
      have e52 : a.tmps[52]? = some (.pointer (some ⟨g, 1, none⟩)) := by rw [ha]; exact putSel_on (e := (18, 52, .pointer (some ⟨g, 1, none⟩))) 13 rfl rfl (hon 18 (by kernel_rfl)) rfl
      replace ha := Aside0.mk ha
      have B := Aside0.mk (Q_B (hoff 32 (by kernel_rfl)))
      have hs := pw_cell_below B.out k1.out
      refine value_ (w1 := w') (v := .int .i64 (p : Int)) (by rfl) rfl ?_ ?_
      · go_simp
        (try simp only [i64_w])
        try rfl
      refine hK.out _ _ ⟨A9, c9, g9, v9, m29_, m30_, m31_, (by rw [ha.out]; exact putSel_upk 14 hb_ rfl rfl rfl), Q_B, fun h0_ _ => absurd ((hoff 29 (by kernel_rfl)).symm.trans h0_) (by decide), fun h0_ _ => absurd ((hoff 31 (by kernel_rfl)).symm.trans h0_) (by decide), fun h0_ _ => absurd ((hoff 32 (by kernel_rfl)).symm.trans h0_) (by decide), fun h0_ => absurd ((hoff 35 (by kernel_rfl)).symm.trans h0_) (by decide), fun h0_ => absurd ((hoff 29 (by kernel_rfl)).symm.trans h0_) (by decide), fun h0_ => absurd ((hoff 30 (by kernel_rfl)).symm.trans h0_) (by decide), fun h0_ => absurd ((hoff 31 (by kernel_rfl)).symm.trans h0_) (by decide)⟩
    refine steps_cons ?_ ?_
    · rintro b a w' ⟨A9, c9, g9, v9, m29_, m30_, m31_, ha, Q_B, Q_C, Q_W2, Q_S1, Q_S2, Q_X29_, Q_X30_, Q_X31_⟩ hb_ hon hoff
      refine ⟨_, rfl, fun K hK => ?_⟩
      have e53 : a.tmps[53]? = some (.int .i64 (p : Int)) := by rw [ha]; exact putSel_on (e := (19, 53, .int .i64 (p : Int))) 14 rfl rfl (hon 19 (by kernel_rfl)) rfl
      replace ha := Aside0.mk ha
      have B := Aside0.mk (Q_B (hoff 32 (by kernel_rfl)))
      have hq := hp4.out
      refine value_ (w1 := w') (v := .int .i64 (p4 : Int)) (by rfl) rfl (by go_simp; (try simp only [i64_w]); first | done | exact hw54.out) ?_
      refine hK.out _ _ ⟨A9, c9, g9, v9, m29_, m30_, m31_, (by rw [ha.out]; exact putSel_upk 15 hb_ rfl rfl rfl), fun _ => B.out, fun h0_ _ => absurd ((hoff 29 (by kernel_rfl)).symm.trans h0_) (by decide), fun h0_ _ => absurd ((hoff 31 (by kernel_rfl)).symm.trans h0_) (by decide), fun h0_ _ => absurd ((hoff 32 (by kernel_rfl)).symm.trans h0_) (by decide), fun h0_ => absurd ((hoff 35 (by kernel_rfl)).symm.trans h0_) (by decide), fun h0_ => absurd ((hoff 29 (by kernel_rfl)).symm.trans h0_) (by decide), fun h0_ => absurd ((hoff 30 (by kernel_rfl)).symm.trans h0_) (by decide), fun h0_ => absurd ((hoff 31 (by kernel_rfl)).symm.trans h0_) (by decide)⟩
    refine steps_cons ?_ ?_
    · rintro b a w' ⟨A9, c9, g9, v9, m29_, m30_, m31_, ha, Q_B, Q_C, Q_W2, Q_S1, Q_S2, Q_X29_, Q_X30_, Q_X31_⟩ hb_ hon hoff
      refine ⟨_, rfl, fun K hK => ?_⟩
      have e55 : a.tmps[55]? = some (.pointer (some ⟨g, 0, none⟩)) := by rw [ha]; exact (putSel_off rfl).trans rfl
      replace ha := Aside0.mk ha
      have B := Aside0.mk (Q_B (hoff 32 (by kernel_rfl)))
      refine value_ (w1 := w') (v := .pointer (some ⟨g, 0, none⟩)) (by rfl) rfl ?_ ?_
      · go_simp
        (try simp only [i64_w])
        try rfl
      refine hK.out _ _ ⟨A9, c9, g9, v9, m29_, m30_, m31_, (by rw [ha.out]; exact putSel_upk 16 hb_ rfl rfl rfl), Q_B, fun h0_ _ => absurd ((hoff 29 (by kernel_rfl)).symm.trans h0_) (by decide), fun h0_ _ => absurd ((hoff 31 (by kernel_rfl)).symm.trans h0_) (by decide), fun h0_ _ => absurd ((hoff 32 (by kernel_rfl)).symm.trans h0_) (by decide), fun h0_ => absurd ((hoff 35 (by kernel_rfl)).symm.trans h0_) (by decide), fun h0_ => absurd ((hoff 29 (by kernel_rfl)).symm.trans h0_) (by decide), fun h0_ => absurd ((hoff 30 (by kernel_rfl)).symm.trans h0_) (by decide), fun h0_ => absurd ((hoff 31 (by kernel_rfl)).symm.trans h0_) (by decide)⟩
    refine steps_cons ?_ ?_
    · rintro b a w' ⟨A9, c9, g9, v9, m29_, m30_, m31_, ha, Q_B, Q_C, Q_W2, Q_S1, Q_S2, Q_X29_, Q_X30_, Q_X31_⟩ hb_ hon hoff
      refine ⟨_, rfl, fun K hK => ?_⟩
      have e56 : a.tmps[56]? = some (.pointer (some ⟨g, 0, none⟩)) := by rw [ha]; exact putSel_on (e := (22, 56, .pointer (some ⟨g, 0, none⟩))) 16 rfl rfl (hon 22 (by kernel_rfl)) rfl
      replace ha := Aside0.mk ha
      have B := Aside0.mk (Q_B (hoff 32 (by kernel_rfl)))
      refine value_ (w1 := w') (v := .pointer (some ⟨g, 0, none⟩)) (by rfl) rfl ?_ ?_
      · go_simp
        (try simp only [i64_w])
        try rfl
      refine hK.out _ _ ⟨A9, c9, g9, v9, m29_, m30_, m31_, (by rw [ha.out]; exact putSel_upk 17 hb_ rfl rfl rfl), Q_B, fun h0_ _ => absurd ((hoff 29 (by kernel_rfl)).symm.trans h0_) (by decide), fun h0_ _ => absurd ((hoff 31 (by kernel_rfl)).symm.trans h0_) (by decide), fun h0_ _ => absurd ((hoff 32 (by kernel_rfl)).symm.trans h0_) (by decide), fun h0_ => absurd ((hoff 35 (by kernel_rfl)).symm.trans h0_) (by decide), fun h0_ => absurd ((hoff 29 (by kernel_rfl)).symm.trans h0_) (by decide), fun h0_ => absurd ((hoff 30 (by kernel_rfl)).symm.trans h0_) (by decide), fun h0_ => absurd ((hoff 31 (by kernel_rfl)).symm.trans h0_) (by decide)⟩
    refine steps_cons ?_ ?_
    · rintro b a w' ⟨A9, c9, g9, v9, m29_, m30_, m31_, ha, Q_B, Q_C, Q_W2, Q_S1, Q_S2, Q_X29_, Q_X30_, Q_X31_⟩ hb_ hon hoff
      refine ⟨_, rfl, fun K hK => ?_⟩
      have e57 : a.tmps[57]? = some (.pointer (some ⟨g, 0, none⟩)) := by rw [ha]; exact putSel_on (e := (23, 57, .pointer (some ⟨g, 0, none⟩))) 17 rfl rfl (hon 23 (by kernel_rfl)) rfl
      replace ha := Aside0.mk ha
      have B := Aside0.mk (Q_B (hoff 32 (by kernel_rfl)))
      refine value_ (w1 := w') (v := .pointer (some ⟨g, 1, none⟩)) (by rfl) rfl ?_ ?_
      · go_simp
        (try simp only [i64_w])
        try rfl
      refine hK.out _ _ ⟨A9, c9, g9, v9, m29_, m30_, m31_, (by rw [ha.out]; exact putSel_upk 18 hb_ rfl rfl rfl), Q_B, fun h0_ _ => absurd ((hoff 29 (by kernel_rfl)).symm.trans h0_) (by decide), fun h0_ _ => absurd ((hoff 31 (by kernel_rfl)).symm.trans h0_) (by decide), fun h0_ _ => absurd ((hoff 32 (by kernel_rfl)).symm.trans h0_) (by decide), fun h0_ => absurd ((hoff 35 (by kernel_rfl)).symm.trans h0_) (by decide), fun h0_ => absurd ((hoff 29 (by kernel_rfl)).symm.trans h0_) (by decide), fun h0_ => absurd ((hoff 30 (by kernel_rfl)).symm.trans h0_) (by decide), fun h0_ => absurd ((hoff 31 (by kernel_rfl)).symm.trans h0_) (by decide)⟩
    refine steps_cons ?_ ?_
    · rintro b a w' ⟨A9, c9, g9, v9, m29_, m30_, m31_, ha, Q_B, Q_C, Q_W2, Q_S1, Q_S2, Q_X29_, Q_X30_, Q_X31_⟩ hb_ hon hoff
      refine ⟨_, rfl, fun K hK => ?_⟩
      have e58 : a.tmps[58]? = some (.pointer (some ⟨g, 1, none⟩)) := by rw [ha]; exact putSel_on (e := (24, 58, .pointer (some ⟨g, 1, none⟩))) 18 rfl rfl (hon 24 (by kernel_rfl)) rfl
      replace ha := Aside0.mk ha
      have B := Aside0.mk (Q_B (hoff 32 (by kernel_rfl)))
      have hs := pw_cell_below B.out k1.out
      refine value_ (w1 := w') (v := .int .i64 (p : Int)) (by rfl) rfl ?_ ?_
      · go_simp
        (try simp only [i64_w])
        try rfl
      refine hK.out _ _ ⟨A9, c9, g9, v9, m29_, m30_, m31_, (by rw [ha.out]; exact putSel_upk 19 hb_ rfl rfl rfl), Q_B, fun h0_ _ => absurd ((hoff 29 (by kernel_rfl)).symm.trans h0_) (by decide), fun h0_ _ => absurd ((hoff 31 (by kernel_rfl)).symm.trans h0_) (by decide), fun h0_ _ => absurd ((hoff 32 (by kernel_rfl)).symm.trans h0_) (by decide), fun h0_ => absurd ((hoff 35 (by kernel_rfl)).symm.trans h0_) (by decide), fun h0_ => absurd ((hoff 29 (by kernel_rfl)).symm.trans h0_) (by decide), fun h0_ => absurd ((hoff 30 (by kernel_rfl)).symm.trans h0_) (by decide), fun h0_ => absurd ((hoff 31 (by kernel_rfl)).symm.trans h0_) (by decide)⟩
    refine steps_cons ?_ ?_
    · rintro b a w' ⟨A9, c9, g9, v9, m29_, m30_, m31_, ha, Q_B, Q_C, Q_W2, Q_S1, Q_S2, Q_X29_, Q_X30_, Q_X31_⟩ hb_ hon hoff
      refine ⟨_, rfl, fun K hK => ?_⟩
      have e59 : a.tmps[59]? = some (.int .i64 (p : Int)) := by rw [ha]; exact putSel_on (e := (25, 59, .int .i64 (p : Int))) 19 rfl rfl (hon 25 (by kernel_rfl)) rfl
      have e60 : a.tmps[60]? = some (.int .i64 (x : Int)) := by rw [ha]; exact (putSel_off rfl).trans rfl
      replace ha := Aside0.mk ha
      have B := Aside0.mk (Q_B (hoff 32 (by kernel_rfl)))
      have hq := hpx.out
      refine value_ (w1 := w') (v := .int .i64 (px : Int)) (by rfl) rfl (by go_simp; (try simp only [i64_w]); first | done | exact hw61.out) ?_
      refine hK.out _ _ ⟨A9, c9, g9, v9, m29_, m30_, m31_, (by rw [ha.out]; exact putSel_upk 20 hb_ rfl rfl rfl), fun _ => B.out, fun h0_ _ => absurd ((hoff 29 (by kernel_rfl)).symm.trans h0_) (by decide), fun h0_ _ => absurd ((hoff 31 (by kernel_rfl)).symm.trans h0_) (by decide), fun h0_ _ => absurd ((hoff 32 (by kernel_rfl)).symm.trans h0_) (by decide), fun h0_ => absurd ((hoff 35 (by kernel_rfl)).symm.trans h0_) (by decide), fun h0_ => absurd ((hoff 29 (by kernel_rfl)).symm.trans h0_) (by decide), fun h0_ => absurd ((hoff 30 (by kernel_rfl)).symm.trans h0_) (by decide), fun h0_ => absurd ((hoff 31 (by kernel_rfl)).symm.trans h0_) (by decide)⟩
    refine steps_cons ?_ ?_
    · rintro b a w' ⟨A9, c9, g9, v9, m29_, m30_, m31_, ha, Q_B, Q_C, Q_W2, Q_S1, Q_S2, Q_X29_, Q_X30_, Q_X31_⟩ hb_ hon hoff
      refine ⟨_, rfl, fun K hK => ?_⟩
      have e48 : a.tmps[48]? = some (.slice A l.length c) := by rw [ha]; exact putSel_on (e := (14, 48, .slice A l.length c)) 10 rfl rfl (hon 14 (by kernel_rfl)) rfl
      have e54 : a.tmps[54]? = some (.int .i64 (p4 : Int)) := by rw [ha]; exact putSel_on (e := (20, 54, .int .i64 (p4 : Int))) 15 rfl rfl (hon 20 (by kernel_rfl)) rfl
      have e61 : a.tmps[61]? = some (.int .i64 (px : Int)) := by rw [ha]; exact putSel_on (e := (27, 61, .int .i64 (px : Int))) 20 rfl rfl (hon 27 (by kernel_rfl)) rfl
      replace ha := Aside0.mk ha
      have B := Aside0.mk (Q_B (hoff 32 (by kernel_rfl)))
      have hq := HCUT.out
      refine value_ (w1 := w') (v := .slice Bd bd.length cd) (by rfl) rfl ?_ ?_
      · go_simp
        (try simp only [i64_w])
        try rfl
      refine hK.out _ _ ⟨A9, c9, g9, v9, m29_, m30_, m31_, (by rw [ha.out]; exact putSel_upk 21 hb_ rfl rfl rfl), Q_B, fun h0_ _ => absurd ((hoff 29 (by kernel_rfl)).symm.trans h0_) (by decide), fun h0_ _ => absurd ((hoff 31 (by kernel_rfl)).symm.trans h0_) (by decide), fun h0_ _ => absurd ((hoff 32 (by kernel_rfl)).symm.trans h0_) (by decide), fun h0_ => absurd ((hoff 35 (by kernel_rfl)).symm.trans h0_) (by decide), fun h0_ => absurd ((hoff 29 (by kernel_rfl)).symm.trans h0_) (by decide), fun h0_ => absurd ((hoff 30 (by kernel_rfl)).symm.trans h0_) (by decide), fun h0_ => absurd ((hoff 31 (by kernel_rfl)).symm.trans h0_) (by decide)⟩
    refine steps_cons ?_ ?_
    · rintro b a w' ⟨A9, c9, g9, v9, m29_, m30_, m31_, ha, Q_B, Q_C, Q_W2, Q_S1, Q_S2, Q_X29_, Q_X30_, Q_X31_⟩ hb_ hon hoff
      refine ⟨_, rfl, fun K hK => ?_⟩
      have e62 : a.tmps[62]? = some (.slice Bd bd.length cd) := by rw [ha]; exact putSel_on (e := (28, 62, .slice Bd bd.length cd)) 21 rfl rfl (hon 28 (by kernel_rfl)) rfl
      replace ha := Aside0.mk ha
      have B := Aside0.mk (Q_B (hoff 32 (by kernel_rfl)))
      refine goes_ Try.func38 (by kernel_rfl) rfl #[.slice Bd bd.length cd] (by rfl) rfl rfl (by first | (simp only [List.map_toArray, List.map_cons, List.map_nil, Act.eval, Array.getD_eq_getD_getElem?, Option.getD_some, e62]; done) | (simp only [List.map_toArray, List.map_cons, List.map_nil, Act.eval, Array.getD_eq_getD_getElem?, Option.getD_some, e62]; rfl)) ?_
      refine (clone_calls Bd cd bd w' (Kd.C_below HBD.out B.out) hbl).mono ?_
      rintro e w1 ⟨v, rfl, hR, hB1⟩; obtain ⟨A8, c8, rfl⟩ := Kd.R_slice hR
      refine ⟨_, rfl, ?_⟩
      refine hK.out _ _ ⟨A8, c8, g9, v9, (.slice A8 bd.length c8), m30_, m31_, (by rw [ha.out]; exact putSel_upk 22 hb_ rfl rfl rfl), fun _ => B.out.trans (hB1.mono B.out.size), fun _ _ => Kd.R_lower hR B.out.size, fun h0_ _ => absurd ((hoff 31 (by kernel_rfl)).symm.trans h0_) (by decide), fun h0_ _ => absurd ((hoff 32 (by kernel_rfl)).symm.trans h0_) (by decide), fun h0_ => absurd ((hoff 35 (by kernel_rfl)).symm.trans h0_) (by decide), fun _ => rfl, fun h0_ => absurd ((hoff 30 (by kernel_rfl)).symm.trans h0_) (by decide), fun h0_ => absurd ((hoff 31 (by kernel_rfl)).symm.trans h0_) (by decide)⟩
    refine steps_cons ?_ ?_
    · rintro b a w' ⟨A9, c9, g9, v9, m29_, m30_, m31_, ha, Q_B, Q_C, Q_W2, Q_S1, Q_S2, Q_X29_, Q_X30_, Q_X31_⟩ hb_ hon hoff
      refine ⟨_, rfl, fun K hK => ?_⟩
      have e43 : a.tmps[43]? = some (.int .u16 (t : Int)) := by rw [ha]; exact putSel_on (e := (9, 43, .int .u16 (t : Int))) 6 rfl rfl (hon 9 (by kernel_rfl)) rfl
      have e63 : a.tmps[63]? = some (m29_) := by rw [ha]; exact putSel_on (e := (29, 63, m29_)) 22 rfl rfl (hon 29 (by kernel_rfl)) rfl
      rw [Q_X29_ (hon 29 (by kernel_rfl))] at e63
      replace ha := Aside0.mk ha
      have B := Aside0.mk (Q_B (hoff 32 (by kernel_rfl)))
      have C := Aside0.mk (Q_C (hon 29 (by kernel_rfl)) (hoff 32 (by kernel_rfl)))
      refine value_ (w1 := w') (v := .agg #[.int .u16 (t : Int), .slice A9 bd.length c9]) (by rfl) rfl ?_ ?_
      · go_simp
        (try simp only [i64_w])
        try rfl
      refine hK.out _ _ ⟨A9, c9, g9, v9, m29_, (.agg #[.int .u16 (t : Int), .slice A9 bd.length c9]), m31_, (by rw [ha.out]; exact putSel_upk 23 hb_ rfl rfl rfl), Q_B, Q_C, fun h0_ _ => absurd ((hoff 31 (by kernel_rfl)).symm.trans h0_) (by decide), fun h0_ _ => absurd ((hoff 32 (by kernel_rfl)).symm.trans h0_) (by decide), fun h0_ => absurd ((hoff 35 (by kernel_rfl)).symm.trans h0_) (by decide), Q_X29_, fun _ => rfl, fun h0_ => absurd ((hoff 31 (by kernel_rfl)).symm.trans h0_) (by decide)⟩
    refine steps_cons ?_ ?_
    · rintro b a w' ⟨A9, c9, g9, v9, m29_, m30_, m31_, ha, Q_B, Q_C, Q_W2, Q_S1, Q_S2, Q_X29_, Q_X30_, Q_X31_⟩ hb_ hon hoff
      refine ⟨_, rfl, fun K hK => ?_⟩
      have e64 : a.tmps[64]? = some (m30_) := by rw [ha]; exact putSel_on (e := (30, 64, m30_)) 23 rfl rfl (hon 30 (by kernel_rfl)) rfl
      rw [Q_X30_ (hon 30 (by kernel_rfl))] at e64
      replace ha := Aside0.mk ha
      have B := Aside0.mk (Q_B (hoff 32 (by kernel_rfl)))
      have C := Aside0.mk (Q_C (hon 29 (by kernel_rfl)) (hoff 32 (by kernel_rfl)))
      refine value_ (w1 := w'.alloc (.cells #[.int .u16 (t : Int), .slice A9 bd.length c9] 36)) (v := .slice (some ⟨w'.heap.size, 0, none⟩) 1 1) (by rfl) rfl (by go_simp; try rfl) ?_
      refine hK.out _ _ ⟨A9, c9, w'.heap.size, v9, m29_, m30_, (.slice (some ⟨w'.heap.size, 0, none⟩) 1 1), (by rw [ha.out]; exact putSel_upk 24 hb_ rfl rfl rfl), fun _ => B.out.alloc B.out.size _, fun _ _ => Kd.R_alloc C.out _, fun _ _ => ⟨w', rfl, rfl, B.out, C.out⟩, fun h0_ _ => absurd ((hoff 32 (by kernel_rfl)).symm.trans h0_) (by decide), fun h0_ => absurd ((hoff 35 (by kernel_rfl)).symm.trans h0_) (by decide), Q_X29_, Q_X30_, fun _ => rfl⟩
    refine steps_cons ?_ ?_
    · rintro b a w' ⟨A9, c9, g9, v9, m29_, m30_, m31_, ha, Q_B, Q_C, Q_W2, Q_S1, Q_S2, Q_X29_, Q_X30_, Q_X31_⟩ hb_ hon hoff
      refine ⟨_, rfl, fun K hK => ?_⟩
      have e38 : a.tmps[38]? = some (.slice Av ps.length cv) := by rw [ha]; exact putSel_on (e := (4, 38, .slice Av ps.length cv)) 2 rfl rfl (hon 4 (by kernel_rfl)) rfl
      have e65 : a.tmps[65]? = some (m31_) := by rw [ha]; exact putSel_on (e := (31, 65, m31_)) 24 rfl rfl (hon 31 (by kernel_rfl)) rfl
      rw [Q_X31_ (hon 31 (by kernel_rfl))] at e65
      replace ha := Aside0.mk ha
      have B := Aside0.mk (Q_B hb_)
      have C := Aside0.mk (Q_C (hon 29 (by kernel_rfl)) hb_)
      have W2 := Aside0.mk (Q_W2 (hon 31 (by kernel_rfl)) hb_)
      obtain ⟨w2, rfl, hg9, hB2, hC2⟩ := W2.out
      rw [hg9] at e65
      refine Kd.R_append_step k36 (w0 := wB) (W := w2) base (by rfl) _ _ 22 36 _ 32 rfl Try.underlying22 info36 rfl (by decide) (by decide) (.slice Av ps.length cv) ps ⟨(t : Int), bd.map fun b => (b.toNat : Int)⟩ [.int .u16 (t : Int), .slice A9 bd.length c9] (fun k => k ≠ g) (fun k => k ≠ g ∧ some k ≠ (Value.slice Av ps.length cv).ownBlock) (eval_of e38) (eval_of e65) (HM.out w2 A9 c9 hB2 hC2) (fun k hk => hk) (fun k hk => by have := hB2.size; omega) (Kd.R_below HR.out hB2) (HBB.out.trans (hB2.mono hbS)) (Nat.le_trans hbS hB2.size) (by omega) ?_
      intro v1 w1 hR1 hB1 hG1 hat1
      refine hK.out _ _ ⟨A9, c9, g9, v1, m29_, m30_, m31_, (by rw [ha.out]; exact putSel_upk 25 hb_ rfl rfl rfl), fun h0_ => absurd ((up_self b 32).symm.trans h0_) (by decide), fun _ h1_ => absurd ((up_self b 32).symm.trans h1_) (by decide), fun _ h1_ => absurd ((up_self b 32).symm.trans h1_) (by decide), fun _ _ => ⟨hR1, hB1, blk_grown (HGG.out w2 hB2) hG1 (fun e => HNG.out e.symm)⟩, fun h0_ => absurd ((hoff 35 (by kernel_rfl)).symm.trans h0_) (by decide), Q_X29_, Q_X30_, Q_X31_⟩
    refine steps_cons ?_ ?_
    · rintro b a w' ⟨A9, c9, g9, v9, m29_, m30_, m31_, ha, Q_B, Q_C, Q_W2, Q_S1, Q_S2, Q_X29_, Q_X30_, Q_X31_⟩ hb_ hon hoff
      refine ⟨_, rfl, fun K hK => ?_⟩
      have e34 : a.tmps[34]? = some (.pointer (some ⟨g, 0, none⟩)) := by rw [ha]; exact (putSel_off rfl).trans rfl
      replace ha := Aside0.mk ha
      have S1 := Aside0.mk (Q_S1 (hon 32 (by kernel_rfl)) (hoff 35 (by kernel_rfl)))
      refine value_ (w1 := w') (v := .pointer (some ⟨g, 0, none⟩)) (by rfl) rfl ?_ ?_
      · go_simp
        (try simp only [i64_w])
        try rfl
      refine hK.out _ _ ⟨A9, c9, g9, v9, m29_, m30_, m31_, (by rw [ha.out]; exact putSel_upk 26 hb_ rfl rfl rfl), fun h0_ => absurd ((hon 32 (by kernel_rfl)).symm.trans h0_) (by decide), fun _ h1_ => absurd ((hon 32 (by kernel_rfl)).symm.trans h1_) (by decide), fun _ h1_ => absurd ((hon 32 (by kernel_rfl)).symm.trans h1_) (by decide), Q_S1, fun h0_ => absurd ((hoff 35 (by kernel_rfl)).symm.trans h0_) (by decide), Q_X29_, Q_X30_, Q_X31_⟩
    refine steps_cons ?_ ?_
    · rintro b a w' ⟨A9, c9, g9, v9, m29_, m30_, m31_, ha, Q_B, Q_C, Q_W2, Q_S1, Q_S2, Q_X29_, Q_X30_, Q_X31_⟩ hb_ hon hoff
      refine ⟨_, rfl, fun K hK => ?_⟩
      have e67 : a.tmps[67]? = some (.pointer (some ⟨g, 0, none⟩)) := by rw [ha]; exact putSel_on (e := (33, 67, .pointer (some ⟨g, 0, none⟩))) 26 rfl rfl (hon 33 (by kernel_rfl)) rfl
      replace ha := Aside0.mk ha
      have S1 := Aside0.mk (Q_S1 (hon 32 (by kernel_rfl)) (hoff 35 (by kernel_rfl)))
      refine value_ (w1 := w') (v := .pointer (some ⟨g, 2, none⟩)) (by rfl) rfl ?_ ?_
      · go_simp
        (try simp only [i64_w])
        try rfl
      refine hK.out _ _ ⟨A9, c9, g9, v9, m29_, m30_, m31_, (by rw [ha.out]; exact putSel_upk 27 hb_ rfl rfl rfl), fun h0_ => absurd ((hon 32 (by kernel_rfl)).symm.trans h0_) (by decide), fun _ h1_ => absurd ((hon 32 (by kernel_rfl)).symm.trans h1_) (by decide), fun _ h1_ => absurd ((hon 32 (by kernel_rfl)).symm.trans h1_) (by decide), Q_S1, fun h0_ => absurd ((hoff 35 (by kernel_rfl)).symm.trans h0_) (by decide), Q_X29_, Q_X30_, Q_X31_⟩
    refine steps_cons ?_ ?_
    · rintro b a w' ⟨A9, c9, g9, v9, m29_, m30_, m31_, ha, Q_B, Q_C, Q_W2, Q_S1, Q_S2, Q_X29_, Q_X30_, Q_X31_⟩ hb_ hon hoff
      refine ⟨_, rfl, fun K hK => ?_⟩
      have e68 : a.tmps[68]? = some (.pointer (some ⟨g, 2, none⟩)) := by rw [ha]; exact putSel_on (e := (34, 68, .pointer (some ⟨g, 2, none⟩))) 27 rfl rfl (hon 34 (by kernel_rfl)) rfl
      have e66 : a.tmps[66]? = some (v9) := by rw [ha]; exact putSel_on (e := (32, 66, v9)) 25 rfl rfl (hon 32 (by kernel_rfl)) rfl
      replace ha := Aside0.mk ha
      have S1 := Aside0.mk (Q_S1 (hon 32 (by kernel_rfl)) hb_)
      obtain ⟨hR1, hB1, hG1⟩ := S1.out
      obtain ⟨A7, c7, hv9⟩ := Kd.R_slice hR1
      have hs := blk_cell hG1 2
      have hf := blk_frozen hG1 2
      refine skip_ (w1 := w'.setCell ⟨g, 2, none⟩ v9) (by rfl) rfl (by generalize (ps ++ [(⟨(t : Int), bd.map fun b => (b.toNat : Int)⟩ : S36)]).length = zl at hv9; rw [hv9] at e66 ⊢; go_simp; try rfl) ?_
      refine hK.out _ _ ⟨A9, c9, g9, v9, m29_, m30_, m31_, (by rw [ha.out]; exact putSel_none (v := undef) rfl), fun h0_ => absurd ((hon 32 (by kernel_rfl)).symm.trans h0_) (by decide), fun _ h1_ => absurd ((hon 32 (by kernel_rfl)).symm.trans h1_) (by decide), fun _ h1_ => absurd ((hon 32 (by kernel_rfl)).symm.trans h1_) (by decide), fun _ h1_ => absurd ((up_self b 35).symm.trans h1_) (by decide), fun _ => ⟨⟨by have := blk_set hG1 2 v9; exact this⟩, Kd.R_far hR1 (p := ⟨g, 2, none⟩) (fun k hk => hk) _, hB1.setCell (p := ⟨g, 2, none⟩) hgb _⟩, Q_X29_, Q_X30_, Q_X31_⟩
    exact steps_nil
  rintro b a w' hall ⟨A9, c9, g9, v9, m29_, m30_, m31_, ha, Q_B, Q_C, Q_W2, Q_S1, Q_S2, Q_X29_, Q_X30_, Q_X31_⟩
  clear B
  have hb2_ := hall 2 (by kernel_rfl)
  have hb3_ := hall 3 (by kernel_rfl)
  have hb4_ := hall 4 (by kernel_rfl)
  have hb6_ := hall 6 (by kernel_rfl)
  have hb7_ := hall 7 (by kernel_rfl)
  have hb8_ := hall 8 (by kernel_rfl)
  have hb9_ := hall 9 (by kernel_rfl)
  have hb11_ := hall 11 (by kernel_rfl)
  have hb12_ := hall 12 (by kernel_rfl)
  have hb13_ := hall 13 (by kernel_rfl)
  have hb14_ := hall 14 (by kernel_rfl)
  have hb16_ := hall 16 (by kernel_rfl)
  have hb17_ := hall 17 (by kernel_rfl)
  have hb18_ := hall 18 (by kernel_rfl)
  have hb19_ := hall 19 (by kernel_rfl)
  have hb20_ := hall 20 (by kernel_rfl)
  have hb22_ := hall 22 (by kernel_rfl)
  have hb23_ := hall 23 (by kernel_rfl)
  have hb24_ := hall 24 (by kernel_rfl)
  have hb25_ := hall 25 (by kernel_rfl)
  have hb27_ := hall 27 (by kernel_rfl)
  have hb28_ := hall 28 (by kernel_rfl)
  have hb29_ := hall 29 (by kernel_rfl)
  have hb30_ := hall 30 (by kernel_rfl)
  have hb31_ := hall 31 (by kernel_rfl)
  have hb32_ := hall 32 (by kernel_rfl)
  have hb33_ := hall 33 (by kernel_rfl)
  have hb34_ := hall 34 (by kernel_rfl)
  have hb35_ := hall 35 (by kernel_rfl)
  subst ha
  obtain rfl := Q_X29_ hb29_
  obtain rfl := Q_X30_ hb30_
  obtain rfl := Q_X31_ hb31_
  simp only [putSel, hb2_, hb3_, hb4_, hb6_, hb7_, hb8_, hb9_, hb11_, hb12_, hb13_, hb14_, hb16_, hb17_, hb18_, hb19_, hb20_, hb22_, hb23_, hb24_, hb25_, hb27_, hb28_, hb29_, hb30_, hb31_, hb32_, hb33_, hb34_, hb35_, if_true, Act.put, List.setIfInBounds_toArray, List.set_cons_zero, List.set_cons_succ]
  clear Q_B
  clear Q_C
  clear Q_W2
  clear Q_S1
  have S2 := Aside0.mk (Q_S2 hb35_)
  clear Q_S2
  clear hall hb2_ hb3_ hb4_ hb6_ hb7_ hb8_ hb9_ hb11_ hb12_ hb13_ hb14_ hb16_ hb17_ hb18_ hb19_ hb20_ hb22_ hb23_ hb24_ hb25_ hb27_ hb28_ hb29_ hb30_ hb31_ hb32_ hb33_ hb34_ hb35_
  obtain ⟨hLS, hRR, hBE⟩ := S2.out
  have han := HAN.out
  have H8 := Lib.hid (HSK.out w' v9 hLS)
  have HRR := Lib.hid hRR
  have HBE := Lib.hid hBE
  clear hLS hRR hBE
  go_wp2_with fail
  refine H8.out.mono ?_
  rintro e w8 ⟨rfl, hL8, hO⟩
  go_wp2
  go_end0
  exact ⟨rfl, v9, hL8, by rw [HQ.out]; exact Kd.R_step HRR.out (fun k hk hlt => hO.block k hlt (fun e => hk e)), HBE.out.trans (hO.below (by have := HBE.out.size; omega) (fun k hk => by omega))⟩
end Go.Proofs.Ytjlgddmcjccbeaa.ParDec
