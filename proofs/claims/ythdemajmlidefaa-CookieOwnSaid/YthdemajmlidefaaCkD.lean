/- A state of bytes: walked. -/
import Derived.Test.YthdemajmlidefaaCkC
namespace Go.Proofs.Ythdemajmlidefaa.Ck
open Go.RowKit Go.Proofs.YthdemajmlidefaaW.PrintWords Go.Proofs.YthdemajmlidefaaW.PrintLast Go.Proofs.Ythdemajmlidefaa.Base
set_option linter.unusedVariables false
set_option linter.unusedSimpArgs false
/-- A field's number. -/
def valF (l : List UInt8) (i : Nat) : Nat := numBE 0 ((l.drop (posF i)).take (nF i))
/-- The numbers of the first k fields. -/
def rdN (l : List UInt8) (k : Nat) : Nat → Nat := fun i => if i < k then valF l i else 0
theorem rdN_succ (l : List UInt8) (k : Nat) : upd (rdN l k) k (valF l k) = rdN l (k + 1) := by
  funext i
  unfold upd rdN
  by_cases h : i = k
  · subst h; rw [if_pos rfl, if_pos (by omega)]
  · rw [if_neg h]
    by_cases h2 : i < k
    · rw [if_pos h2, if_pos (by omega)]
    · rw [if_neg h2, if_neg (by omega)]
theorem valF_lt (l : List UInt8) (i : Nat) : valF l i < 256 ^ nF i := by
  unfold valF
  refine Nat.lt_of_lt_of_le (numBE_lt _ 0) ?_
  rw [Nat.zero_add, Nat.one_mul]
  exact Nat.pow_le_pow_right (by decide) (by rw [List.length_take]; omega)
theorem num_snoc (q : List UInt8) (j : Nat) (h : j < q.length) : numBE 0 (q.take (j + 1)) = numBE 0 (q.take j) * 256 + (q.getD j 0).toNat := by
  rw [List.take_succ_eq_append_getElem h, numBE_snoc, getD_lt _ _ _ h]
theorem num_lt (q : List UInt8) (j : Nat) (hj : j ≤ 7) : numBE 0 (q.take j) < 72057594037927936 := by
  refine Nat.lt_of_lt_of_le (numBE_lt _ 0) ?_
  rw [Nat.zero_add, Nat.one_mul]
  exact Nat.le_trans (Nat.pow_le_pow_right (by decide) (show (q.take j).length ≤ 7 by rw [List.length_take]; omega)) (by decide)
theorem or_low (x : Nat) (c : UInt8) (hx : x < 72057594037927936) : bits .or .u64 ((x : Int) * 256) (c.toNat : Int) = ((x * 256 + c.toNat : Nat) : Int) := by
  have hc := c.toNat_lt
  have h := (bits_nat .u64 64 (by decide) (fun n h0 h1 => by simp [IntKind.wrap, IntKind.bits, IntKind.signed]; omega) (x * 256) c.toNat (by omega) (by omega)).2
  rw [show ((x : Int) * 256) = ((x * 256 : Nat) : Int) by simp, h]
  congr 1
  have := Nat.two_pow_add_eq_or_of_lt (b := c.toNat) (i := 8) (by omega) x
  rw [show (2 : Nat) ^ 8 = 256 from rfl] at this
  rw [Nat.mul_comm x 256]
  exact this.symm
theorem wrap_u64 (n : Int) (h0 : 0 ≤ n) (h : n < 18446744073709551616) : IntKind.u64.wrap n = n := by
  have : IntKind.u64.wrap n = n % 18446744073709551616 := by simp [IntKind.wrap, IntKind.bits, IntKind.signed]
  rw [this, Int.emod_eq_of_lt h0 h]
theorem stV0 : (stV fun _ => 0) = #[.int .u16 0, .int .u16 0, .int .u32 0, .int .u32 0, .int .u32 0, .int .u32 0, .int .u32 0, .int .u16 0, .int .u16 0, .int .u32 0, .int .u32 0, .int .i64 0, .int .i64 0] := rfl
theorem rdN_zero (l : List UInt8) : rdN l 0 = fun _ => 0 := by funext i; unfold rdN; rw [if_neg (by omega)]
theorem nF_8 (k : Nat) (hk : k < 13) : nF k = 8 ↔ k = 0 := by
  match k, hk with
  | 0, _ | 1, _ | 2, _ | 3, _ | 4, _ | 5, _ | 6, _ | 7, _ | 8, _ | 9, _ | 10, _ | 11, _ | 12, _ => decide
theorem valF_63 (l : List UInt8) (i : Nat) (hi : i < 13) (h : ¬ (nF i = 8 ∧ valF l i > 1099511627776)) : valF l i < 9223372036854775808 := by
  have hv := valF_lt l i
  match i, hi with
  | 0, _ => have : ¬ valF l 0 > 1099511627776 := fun h2 => h ⟨rfl, h2⟩; omega
  | 1, _ | 2, _ | 3, _ | 4, _ | 5, _ | 6, _ | 7, _ | 8, _ | 9, _ | 10, _ | 11, _ | 12, _ => exact Nat.lt_of_lt_of_le hv (by decide)
set_option maxHeartbeats 2000000 in
theorem read_calls (w : World) (A : Option Addr) (c : Nat) (ad : Addr) (l : List UInt8) (hb : byte.C w A l.length l) (hc : l.length ≤ c) (hl : l.length = 56) (hf : ∀ i, i < 13 → FldAt w ad i) :
    Calls Try.prog 26 #[.slice A l.length c, .slice (some ad) 13 13] w fun e w' => ((valF l 0 > 1099511627776 ∧ e = .returned (.tuple #[.pointer none, .bool false])) ∨ (valF l 0 ≤ 1099511627776 ∧ ∃ s, e = .returned (.tuple #[.pointer (some ⟨s, 0, none⟩), .bool true]) ∧ w'.heap[s]? = some (.cells (stV (rdN l 13)) STT (0, 0)))) ∧ Below w.heap.size w w' := by
  have HF := Lib.hid hf
  have HC := Lib.hid hb
  have HN0 := Lib.hid (show (w.alloc (.cells #[.int .u16 0, .int .u16 0, .int .u32 0, .int .u32 0, .int .u32 0, .int .u32 0, .int .u32 0, .int .u16 0, .int .u16 0, .int .u32 0, .int .u32 0, .int .i64 0, .int .i64 0] STT)).heap[w.heap.size]? = some (.cells (stV (rdN l 0)) STT (0, 0)) by rw [rdN_zero, stV0]; exact blk_new _ _)
  have HB0 := Lib.hid (below_alloc (Below.refl w.heap.size w) (.cells #[.int .u16 0, .int .u16 0, .int .u32 0, .int .u32 0, .int .u32 0, .int .u32 0, .int .u32 0, .int .u16 0, .int .u16 0, .int .u32 0, .int .u32 0, .int .i64 0, .int .i64 0] STT))
  have HC0 := Lib.hid (show byte.C w A (l.drop (posF 0)).length (l.drop (posF 0)) from hb)
  have hl0 : l.length = (l.drop (posF 0)).length := rfl
  clear hf hb
  rw [hl0]
  go_enter Try.func26, Try.ntmps26
  go_wp2
  go_loopw [0, 16] (fun v0 v16 wr => ∃ (k : Nat) (A1 : Option Addr) (c1 : Nat), k ≤ 13 ∧ v16 = .int .i64 k ∧ v0 = .slice A1 (l.drop (posF k)).length c1 ∧ Hid ((l.drop (posF k)).length ≤ c1) ∧ Hid (byte.C w A1 (l.drop (posF k)).length (l.drop (posF k))) ∧ Hid (wr.heap[w.heap.size]? = some (.cells (stV (rdN l k)) STT (0, 0))) ∧ Hid (0 < k → valF l 0 ≤ 1099511627776) ∧ Hid (Below w.heap.size w wr)) (fun _ v16 _ => 13 - (intOf v16).toNat)
  case atStart => exact ⟨0, A, c, by omega, rfl, rfl, hc, HC0, HN0, fun h => absurd h (by omega), HB0⟩
  case round =>
    clear HC0 HN0 HB0
    obtain ⟨k, A1, c1, hk, rfl, rfl, HL, HC1, HST, HT, HB⟩ := hrel
    by_cases hlt : k < 13
    · obtain ⟨b, x0, x1, x2, hbk⟩ := FldAt.below (HF.out k hlt) HB.out
      have hn8 := nF_8 k hlt
      have hnl := nF_le k
      have hnz : 0 < nF k := by unfold nF; split <;> decide
      have hp48 : posF k + nF k ≤ 48 := by
        match k, hlt with
        | 0, _ | 1, _ | 2, _ | 3, _ | 4, _ | 5, _ | 6, _ | 7, _ | 8, _ | 9, _ | 10, _ | 11, _ | 12, _ => decide
      have hdl : (l.drop (posF k)).length = 56 - posF k := by rw [List.length_drop, hl]
      obtain ⟨ht1, ht2, ht3⟩ := take_bytes HC1.out HL.out (nF k) (nF k : Nat) rfl (by omega)
      obtain ⟨A3, hd1, hd2, hd3⟩ := drop_bytes HC1.out HL.out (nF k) (nF k : Nat) rfl (by omega)
      have hdd : (l.drop (posF k)).drop (nF k) = l.drop (posF (k + 1)) := by rw [List.drop_drop]; rfl
      rw [hdd] at hd1 hd2 hd3
      have hqv : numBE 0 ((l.drop (posF k)).take (nF k)) = valF l k := rfl
      have hql : ((l.drop (posF k)).take (nF k)).length = nF k := by rw [List.length_take]; omega
      have HSET := Lib.hid (fun (W : World) (h1 : W.heap[w.heap.size]? = some (.cells (stV (rdN l k)) STT (0, 0))) (h2 : W.heap[b]? = some (.cells #[atV k] (bT k) (0, 0))) (h3 : valF l k < 9223372036854775808) => set_calls k hlt W w.heap.size b (rdN l k) (valF l k) h1 h2 (valF_lt l k) h3)
      have HUP := Lib.hid (rdN_succ l k)
      have h63 := valF_63 l k hlt
      have hE := sE k hlt
      have hsz : w.heap.size ≤ wr.heap.size := HB.out.size
      have hq8 : ((l.drop (posF k)).take (nF k)).length ≤ 8 := by omega
      have HT2 := Lib.hid (Kd.C_alloc (Kd.C_below ht2 HB.out) (.cells #[.int .i64 (nF k : Nat), .func (.func (gF k)) #[] #[.pointer (some ⟨b, 0, none⟩)], .func (.func (sF k)) #[] #[.pointer (some ⟨b, 0, none⟩)]] 71))
      have HD2 := Lib.hid hd2
      have HD3 := Lib.hid hd3
      have HQV := Lib.hid hqv
      have HV0 := Lib.hid (show k = 0 → valF l k = valF l 0 from fun e => by rw [e])
      clear hp48 hdl ht2 ht3 hd2 hd3 hdd hqv hql hnl hnz
      generalize hqq : (l.drop (posF k)).take (nF k) = q at *
      clear hqq
      generalize l.drop (posF k) = lk at *
      generalize hxv : valF l k = xv at *
      clear hxv
      generalize nF k = n at *
      generalize gF k = G at *
      generalize sF k = T at *
      have HH63 := Lib.hid h63
      clear h63
      go_wp2
      go_loop [9, 25] (fun v9 v25 => ∃ j : Nat, j ≤ q.length ∧ v25 = .int .i64 j ∧ v9 = .int .u64 (numBE 0 (q.take j) : Nat)) (fun _ v25 => q.length - (intOf v25).toNat)
      case atStart => exact ⟨0, Nat.zero_le _, rfl, rfl⟩
      case round =>
        obtain ⟨j, hj, rfl, rfl⟩ := hrel
        by_cases hj1 : j < q.length
        · obtain ⟨ad2, rfl, hcb⟩ := byte_at HT2.out j hj1
          have hsn := num_snoc q j hj1
          have hxl := num_lt q j (by omega)
          have hor := or_low (numBE 0 (q.take j)) (q.getD j 0) hxl
          rw [← hsn] at hor
          generalize hx2 : numBE 0 (q.take (j + 1)) = x2' at *
          have HX2 := Lib.hid hx2
          clear hx2
          generalize numBE 0 (q.take j) = x1' at *
          have hcl := (q.getD j 0).toNat_lt
          have e1 := wrap_u64 ((q.getD j 0).toNat : Int) (by omega) (by omega)
          have e2 := wrap_u64 ((x1' : Int) * 256) (by omega) (by omega)
          have HSN := Lib.hid hsn
          clear hsn
          generalize ((q.getD j 0).toNat : Int) = ci at *
          go_wp2
          go_round
          case rel => exact ⟨j + 1, by omega, by go_num, by rw [HX2.out]⟩
          case measure => simp [intOf]; omega
        · obtain rfl : j = q.length := by omega
          rw [List.take_length, HQV.out]
          clear hj hj1
          by_cases h8 : n = 8
          · have hk0 := hn8.1 h8
            have hv1 := HV0.out hk0
            clear HV0
            have h8' : ((n : Int) == 8) = true := by rw [h8]; rfl
            clear h8 hn8 hk0
            by_cases hbad : xv > 1099511627776
            · have hbad' : (xv : Int) > 1099511627776 := by omega
              have HV1 := Lib.hid (show valF l 0 > 1099511627776 by rw [← hv1]; exact hbad)
              clear hv1
              go_wp2
              go_ret2
              exact ⟨Or.inl ⟨HV1.out, rfl⟩, HB.out.alloc hsz _⟩
            · have hbad' : ¬ (xv : Int) > 1099511627776 := by omega
              have HV1 := Lib.hid (show valF l 0 ≤ 1099511627776 by rw [← hv1]; omega)
              clear hv1
              go_wp2_with fail
              refine (HSET.out (wr.alloc (.cells #[.int .i64 (n : Nat), .func (.func G) #[] #[.pointer (some ⟨b, 0, none⟩)], .func (.func T) #[] #[.pointer (some ⟨b, 0, none⟩)]] 71)) (blk_alloc HST.out _) (blk_alloc hbk _) (HH63.out (fun h => hbad h.2))).mono ?_
              rintro e w1 ⟨rfl, rfl⟩
              have q0 := blk_cell (blk_far (p := ⟨w.heap.size, cF k, none⟩) (blk_new wr (.cells #[.int .i64 (n : Nat), .func (.func G) #[] #[.pointer (some ⟨b, 0, none⟩)], .func (.func T) #[] #[.pointer (some ⟨b, 0, none⟩)]] 71)) (by have := blk_lt HST.out; dsimp only; omega) (.int (kF k) (xv : Nat))) 0
              have hs1 := st_upd k hlt (blk_alloc HST.out (.cells #[.int .i64 (n : Nat), .func (.func G) #[] #[.pointer (some ⟨b, 0, none⟩)], .func (.func T) #[] #[.pointer (some ⟨b, 0, none⟩)]] 71)) xv
              rw [HUP.out] at hs1
              have HS1 := Lib.hid hs1
              have HB1 := Lib.hid ((HB.out.alloc hsz (.cells #[.int .i64 (n : Nat), .func (.func G) #[] #[.pointer (some ⟨b, 0, none⟩)], .func (.func T) #[] #[.pointer (some ⟨b, 0, none⟩)]] 71)).setCell (p := ⟨w.heap.size, cF k, none⟩) (Nat.le_refl _) (.int (kF k) (xv : Nat)))
              clear hs1
              generalize ((wr.alloc (.cells #[.int .i64 (n : Nat), .func (.func G) #[] #[.pointer (some ⟨b, 0, none⟩)], .func (.func T) #[] #[.pointer (some ⟨b, 0, none⟩)]] 71)).setCell ⟨w.heap.size, cF k, none⟩ (.int (kF k) (xv : Nat))) = W1 at *
              go_wp2
              go_roundw
              case rel => exact ⟨k + 1, A3, c1 - n, by omega, by go_num, by rw [List.length_drop, hl], HD3, HD2, HS1, fun _ => HV1.out, HB1⟩
              case measure => simp [intOf]; omega
          · have h8' : ((n : Int) == 8) = false := beq_eq_false_iff_ne.2 (by omega)
            go_wp2_with fail
            refine (HSET.out (wr.alloc (.cells #[.int .i64 (n : Nat), .func (.func G) #[] #[.pointer (some ⟨b, 0, none⟩)], .func (.func T) #[] #[.pointer (some ⟨b, 0, none⟩)]] 71)) (blk_alloc HST.out _) (blk_alloc hbk _) (HH63.out (fun h => h8 h.1))).mono ?_
            rintro e w1 ⟨rfl, rfl⟩
            have q0 := blk_cell (blk_far (p := ⟨w.heap.size, cF k, none⟩) (blk_new wr (.cells #[.int .i64 (n : Nat), .func (.func G) #[] #[.pointer (some ⟨b, 0, none⟩)], .func (.func T) #[] #[.pointer (some ⟨b, 0, none⟩)]] 71)) (by have := blk_lt HST.out; dsimp only; omega) (.int (kF k) (xv : Nat))) 0
            have hs1 := st_upd k hlt (blk_alloc HST.out (.cells #[.int .i64 (n : Nat), .func (.func G) #[] #[.pointer (some ⟨b, 0, none⟩)], .func (.func T) #[] #[.pointer (some ⟨b, 0, none⟩)]] 71)) xv
            rw [HUP.out] at hs1
            have HS1 := Lib.hid hs1
            have HB1 := Lib.hid ((HB.out.alloc hsz (.cells #[.int .i64 (n : Nat), .func (.func G) #[] #[.pointer (some ⟨b, 0, none⟩)], .func (.func T) #[] #[.pointer (some ⟨b, 0, none⟩)]] 71)).setCell (p := ⟨w.heap.size, cF k, none⟩) (Nat.le_refl _) (.int (kF k) (xv : Nat)))
            clear hs1
            generalize ((wr.alloc (.cells #[.int .i64 (n : Nat), .func (.func G) #[] #[.pointer (some ⟨b, 0, none⟩)], .func (.func T) #[] #[.pointer (some ⟨b, 0, none⟩)]] 71)).setCell ⟨w.heap.size, cF k, none⟩ (.int (kF k) (xv : Nat))) = W1 at *
            go_wp2
            go_roundw
            case rel => exact ⟨k + 1, A3, c1 - n, by omega, by go_num, by rw [List.length_drop, hl], HD3, HD2, HS1, fun _ => HT.out (by have := mt hn8.2 h8; omega), HB1⟩
            case measure => simp [intOf]; omega
    · obtain rfl : k = 13 := by omega
      have ht0 := HT.out (by omega)
      go_wp2
      go_ret2
      exact ⟨Or.inr ⟨ht0, _, rfl, HST.out⟩, HB.out⟩
end Go.Proofs.Ythdemajmlidefaa.Ck
