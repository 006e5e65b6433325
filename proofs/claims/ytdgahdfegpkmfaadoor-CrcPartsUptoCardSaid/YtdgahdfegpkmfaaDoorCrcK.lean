/- The walk of the statement CrcBursts. -/
import Derived.Test.YtdgahdfegpkmfaaDoorCrcI
import Derived.Test.YtdgahdfegpkmfaaDoorWMore
import Derived.OpenShut
namespace Go.Proofs.YtdgahdfegpkmfaaDoor.Crc
open Go.RowKit Go.Proofs.YtdgahdfegpkmfaaDoorW.PrintWords Go.Proofs.YtdgahdfegpkmfaaDoorW.PrintMore Go.ChangeShapes Go.Proofs.YtdgahdfegpkmfaaDoor.Base CrcMath
set_option linter.unusedVariables false
set_option linter.unusedSimpArgs false

theorem bit_test (b k : Nat) (hb : b < 4294967296) : (bits .and .u32 ((b : Int) / 2 ^ k) 1 == 1) = b.testBit k := by
  have e : ((b : Int) / 2 ^ k) = ((b / 2 ^ k : Nat) : Int) := by simp
  have hl : b / 2 ^ k < 4294967296 := Nat.lt_of_le_of_lt (Nat.div_le_self _ _) hb
  rw [e, and1 _ hl, Nat.testBit_eq_decide_div_mod_eq]
  rcases Nat.mod_two_eq_zero_or_one (b / 2 ^ k) with h | h <;> rw [h] <;> rfl
theorem turn8 (b : UInt8) (j : Nat) : bits .xor .u8 (b.toNat : Int) (2 ^ (j % 8) % 256) = ((b ^^^ ((1 : UInt8) <<< UInt8.ofNat (j % 8))).toNat : Int) := by
  rw [← xor8, one_shl _ (Nat.mod_lt _ (by decide))]
  congr 1
  have h : ∀ i : Nat, i < 8 → ((2 : Int) ^ i % 256) = ((2 ^ i : Nat) : Int) := by decide
  exact h _ (Nat.mod_lt _ (by decide))
theorem hBq {B : Nat} {w w' : World} (h : Below B w w') {g : Nat} (hg : B ≤ g) (i : Nat) (u : Value) : Below B w (w'.setCell ⟨g, i, none⟩ u) := h.setCell hg u
theorem crcBursts_loop {w : World} (A : Option Addr) (c : Nat) (l : List UInt8) (hb : byte.C w A l.length l) (hc : l.length ≤ c) (hm0 : c ≤ 140737488351232) (at_ : Nat) (bt : Nat) (hbt : bt < 4294967296) (h0 : bt ≠ 0)
    (h12 : 12 ≤ l.length) (hat : at_ + 32 ≤ 8 * l.length) (hout : 96 ≤ at_ ∨ at_ + 32 ≤ 64) (ht : Table w) :
    Calls Tryd.prog 8 #[.slice A l.length c, .int .i64 (at_ : Int), .int .u32 (bt : Int)] w fun e w' => e = .returned (.bool true) ∧ Below w.heap.size w w' := by
  have hm : l.length ≤ 140737488355328 := by omega
  have h1 := put_calls A c l w ht hb hc hm h12
  rw [← putL_eq] at h1
  have hlen := putL_length l
  generalize hq : putL l = q at *
  have HQ := Lib.hid hq
  have HLen := Lib.hid hlen
  have e0 : ((bt : Int) == 0) = false := by simp; omega
  have H1 := Lib.hid h1
  have H0 := Lib.hid h0
  have hql : at_ + 32 ≤ 8 * q.length := by omega
  have hqm : q.length ≤ 140737488355328 := by omega
  clear hq hlen h0 h1 hb
  go_enter Tryd.func8, Tryd.ntmps8
  go_wp2_with fail
  refine H1.out.mono ?_
  rintro e w1 ⟨v, rfl, hR1, hB1⟩
  obtain ⟨g, cap, rfl, hg, hg1⟩ := (Kd.R_own hR1).elim fun _ h => h.form (by rw [HLen.out]; omega)
  clear hg1
  rcases hout with ho | ho
  all_goals
    go_wp2
    go_loopw [9] (fun v9 w' => ∃ k : Nat, k ≤ 32 ∧ v9 = .int .i64 k ∧ byte.R 5 w' w.heap.size (fun _ => True) (.slice (some ⟨g, 0, none⟩) q.length cap) (flips q at_ bt k) ∧ Below w.heap.size w w') (fun v9 _ => 32 - (intOf v9).toNat)
    case atStart => exact ⟨0, by omega, rfl, hR1, hB1⟩
    case round =>
      clear hR1 hB1
      obtain ⟨k, hk, rfl, hR, hB⟩ := hrel
      by_cases hk32 : k < 32
      · have hfl := flips_length q at_ bt k
        have HFL := Lib.hid hfl
        clear hfl
        have hi : (at_ + k) / 8 < q.length := by omega
        have hbit := bit_test bt k hbt
        obtain ⟨hcl, hfr⟩ := byte_cell hR ((at_ + k) / 8) hi
        have HR := Lib.hid hR
        have HBW := Lib.hid hB
        have hfs : Hid (flips q at_ bt (k + 1) = if bt.testBit k then turnBit (flips q at_ bt k) (at_ + k) else flips q at_ bt k) := rfl
        clear hR hB
        cases hT : bt.testBit k with
        | false =>
          rw [hT] at hbit
          have HT := Lib.hid hT
          clear hT
          go_wp2
          go_roundw
          case rel => exact ⟨k + 1, by omega, by go_num, by rw [hfs.out, HT.out]; exact HR.out, HBW.out⟩
          case measure => simp [intOf]; omega
        | true =>
          rw [hT] at hbit
          have HT := Lib.hid hT
          clear hT
          generalize hgb : (flips q at_ bt k).getD ((at_ + k) / 8) 0 = b at *
          have HGB := Lib.hid hgb
          clear hgb
          have HX := Lib.hid (turn8 b (at_ + k))
          go_wp2
          go_roundw
          case rel =>
            refine ⟨k + 1, by omega, by go_num, ?_, hBq HBW.out hg _ _⟩
            rw [hfs.out, HT.out, if_pos rfl]
            unfold turnBit
            rw [HGB.out]
            exact byte_put HR.out _ _ _ HX.out
          case measure => simp [intOf]; omega
      · obtain rfl : k = 32 := by omega
        have hfl := flips_length q at_ bt 32
        have hck := check_calls (some ⟨g, 0, none⟩) cap (flips q at_ bt 32) wr (ht.below hB) (R_C (by rw [hfl]; exact hR)) (by rw [hfl]; exact R_le hR) (by rw [hfl]; exact hqm)
        rw [hfl, ← HQ.out, check_flips l at_ bt h12 hbt H0.out (by omega) (by omega)] at hck
        have hql2 := putL_length l
        rw [hql2, ← HLen.out] at hck
        have HCK := Lib.hid hck
        clear hck hfl hql2 hR
        go_wp2_with fail
        refine HCK.out.mono ?_
        rintro e w2 ⟨rfl, hB2⟩
        have hB2' := below_then hB hB.size hB2
        have haw := awake_calls w2 (ht.below hB2')
        clear ht
        go_wp2_with fail
        refine haw.mono ?_
        rintro e w3 ⟨rfl, hB3⟩
        go_wp2
        go_ret
        exact ⟨rfl, below_then hB2' hB2'.size hB3⟩
theorem crcBursts_off {w : World} (A : Option Addr) (c : Nat) (l : List UInt8) (hb : byte.C w A l.length l) (hc : l.length ≤ c) (hm0 : c ≤ 140737488351232) (x : Int) (bt : Int)
    (hoff : bt = 0 ∨ bt ≠ 0 ∧ x < 0 ∨ bt ≠ 0 ∧ 0 ≤ x ∧ 8 * (l.length : Int) - 32 < x ∨ bt ≠ 0 ∧ 0 ≤ x ∧ x ≤ 8 * (l.length : Int) - 32 ∧ x < 96 ∧ 64 < x + 32) (h12 : 12 ≤ l.length) (ht : Table w) :
    Calls Tryd.prog 8 #[.slice A l.length c, .int .i64 x, .int .u32 bt] w fun e w' => e = .returned (.bool true) ∧ Below w.heap.size w w' := by
  have hm : l.length ≤ 140737488355328 := by omega
  have h1 := put_calls A c l w ht hb hc hm h12
  rw [← putL_eq] at h1
  have hlen := putL_length l
  generalize putL l = q at *
  rw [← hlen] at hoff
  have hqm : q.length ≤ 140737488355328 := by omega
  have HAW := Lib.hid (fun (w1 : World) (h : Below w.heap.size w w1) => awake_calls w1 (ht.below h))
  have H1 := Lib.hid h1
  clear h1 hb ht hlen
  rcases hoff with ho | ⟨hn, ho⟩ | ⟨hn, ho⟩ | ⟨hn, ho⟩
  · have e0 : (bt == 0) = true := by simp [ho]
    clear ho
    go_enter Tryd.func8, Tryd.ntmps8
    go_wp2_with fail
    refine H1.out.mono ?_
    rintro e w1 ⟨v, rfl, hR1, hB1⟩
    clear hR1
    go_wp2_with fail
    refine (HAW.out w1 hB1).mono ?_
    rintro e w3 ⟨rfl, hB3⟩
    go_wp2
    go_ret
    exact ⟨rfl, below_then hB1 hB1.size hB3⟩
  all_goals
    have e0 : (bt == 0) = false := by simp [hn]
    clear hn
    go_enter Tryd.func8, Tryd.ntmps8
    go_wp2_with fail
    refine H1.out.mono ?_
    rintro e w1 ⟨v, rfl, hR1, hB1⟩
    obtain ⟨A1, c1, rfl⟩ := Kd.R_slice hR1
    clear hR1
    go_wp2_with fail
    refine (HAW.out w1 hB1).mono ?_
    rintro e w3 ⟨rfl, hB3⟩
    go_wp2
    go_ret
    exact ⟨rfl, below_then hB1 hB1.size hB3⟩
theorem crcBursts_brief {w : World} (A : Option Addr) (c : Nat) (l : List UInt8) (hb : byte.C w A l.length l) (x : Int) (bt : Int) (h12 : l.length < 12) (ht : Table w) :
    Calls Tryd.prog 8 #[.slice A l.length c, .int .i64 x, .int .u32 bt] w fun e w' => e = .returned (.bool true) ∧ Below w.heap.size w w' := by
  have H1 := Lib.hid (put_brief A c l w h12)
  have HAW := Lib.hid (awake_calls w ht)
  clear hb ht
  go_enter Tryd.func8, Tryd.ntmps8
  go_wp2_with fail
  refine H1.out.mono ?_
  rintro e w1 ⟨rfl, rfl⟩
  go_wp2_with fail
  refine HAW.out.mono ?_
  rintro e w3 ⟨rfl, hB3⟩
  go_wp2
  go_ret
  exact ⟨rfl, hB3⟩
theorem crcBursts_row {w : World} (A : Option Addr) (c : Nat) (l : List UInt8) (hb : byte.C w A l.length l) (hc : l.length ≤ c) (hm0 : c ≤ 140737488351232) (x : Int) (wx : (Lit.int .i64 x).wf = true) (bt : Int) (wb : (Lit.int .u32 bt).wf = true) (ht : Table w) :
    Calls Tryd.prog 8 #[.slice A l.length c, .int .i64 x, .int .u32 bt] w fun e w' => e = .returned (.bool true) ∧ Below w.heap.size w w' := by
  have hbb := bounds_u32 wb
  by_cases h12 : l.length < 12
  · exact crcBursts_brief A c l hb x bt h12 ht
  · by_cases ho : bt = 0 ∨ bt ≠ 0 ∧ x < 0 ∨ bt ≠ 0 ∧ 0 ≤ x ∧ 8 * (l.length : Int) - 32 < x ∨ bt ≠ 0 ∧ 0 ≤ x ∧ x ≤ 8 * (l.length : Int) - 32 ∧ x < 96 ∧ 64 < x + 32
    · exact crcBursts_off A c l hb hc hm0 x bt ho (by omega) ht
    · obtain ⟨at_, rfl⟩ := Int.eq_ofNat_of_zero_le (show 0 ≤ x by omega)
      obtain ⟨b, rfl⟩ := Int.eq_ofNat_of_zero_le hbb.1
      exact crcBursts_loop A c l hb hc hm0 at_ b (by omega) (by omega) (by omega) (by omega) (by omega) ht
end Go.Proofs.YtdgahdfegpkmfaaDoor.Crc
