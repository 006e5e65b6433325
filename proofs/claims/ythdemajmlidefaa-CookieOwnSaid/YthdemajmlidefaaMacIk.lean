/- The reference's seal of bytes, walked. -/
import Derived.Test.YthdemajmlidefaaMacHk
namespace Go.Proofs.Ythdemajmlidefaa.Mac
open Go.RowKit Go.Proofs.YthdemajmlidefaaW.PrintWords Go.Proofs.Ythdemajmlidefaa.Base
set_option linter.unusedVariables false
set_option linter.unusedSimpArgs false

theorem or_zero (x : UInt64) : (0 : UInt64) ||| x = x := by
  apply UInt64.toNat_inj.1
  rw [UInt64.toNat_or]
  simp
/-- Up to seven bytes more. -/
theorem putL_part (q : Quad) (j : Nat) (l : List UInt8) (k : Nat) (hk : k ≤ 7) (hl : k ≤ l.length) : putL ⟨q, 0, 8 * j⟩ (l.take k) = ⟨q, lowN l k, 8 * j + k⟩ := by
  induction k with
  | zero => rw [lowN_zero]; rfl
  | succ k ih =>
    rw [putL_succ _ _ _ (by omega), ih (by omega) (by omega), lowN_succ]
    have h1 : (8 * j + k) % 8 = k := by omega
    have h2 : ¬ (8 * j + k + 1) % 8 = 0 := by omega
    show putB ⟨q, lowN l k, 8 * j + k⟩ (l.getD k 0) = _
    unfold putB
    simp only [h1]
    rw [if_neg h2]
    rfl
/-- Eight bytes are a block. -/
theorem putL_eight (q : Quad) (j : Nat) (l : List UInt8) (hl : 8 ≤ l.length) : putL ⟨q, 0, 8 * j⟩ (l.take 8) = ⟨blockQ q (lowN l 8), 0, 8 * (j + 1)⟩ := by
  have e8 : l.take 8 = l.take (7 + 1) := rfl
  have e9 : lowN l 8 = lowN l 7 ||| shl64 (l.getD 7 0) (8 * 7) := lowN_succ l 7
  rw [e8, putL_succ _ _ _ (by omega), putL_part _ _ _ 7 (by decide) (by omega), e9]
  have h1 : (8 * j + 7) % 8 = 7 := by omega
  have h2 : (8 * j + 7 + 1) % 8 = 0 := by omega
  show putB ⟨q, lowN l 7, 8 * j + 7⟩ (l.getD 7 0) = _
  unfold putB
  simp only [h1]
  rw [if_pos h2]
  rfl
theorem putL_append (s : MS) (a b : List UInt8) : putL s (a ++ b) = putL (putL s a) b := by
  unfold putL
  rw [List.foldl_append]
theorem putL_step (Q q : Quad) (l : List UInt8) (j : Nat) (h : putL ⟨Q, 0, 0⟩ (l.take (8 * j)) = ⟨q, 0, 8 * j⟩) (hl : 8 * j + 8 ≤ l.length) : putL ⟨Q, 0, 0⟩ (l.take (8 * (j + 1))) = ⟨blockQ q (lowN (l.drop (8 * j)) 8), 0, 8 * (j + 1)⟩ := by
  rw [show 8 * (j + 1) = 8 * j + 8 by omega, List.take_add, putL_append, h, putL_eight _ _ _ (by simp; omega)]
  rw [show 8 * (j + 1) = 8 * j + 8 by omega]
theorem putL_end (Q q : Quad) (l : List UInt8) (j : Nat) (h : putL ⟨Q, 0, 0⟩ (l.take (8 * j)) = ⟨q, 0, 8 * j⟩) (hl : 8 * j ≤ l.length) (h7 : l.length < 8 * j + 8) :
    sealS (putL ⟨Q, 0, 0⟩ l) = lastQ (blockQ q (lowN (l.drop (8 * j)) (l.length - 8 * j) ||| len56 l.length)) := by
  have e : putL ⟨Q, 0, 0⟩ l = ⟨q, lowN (l.drop (8 * j)) (l.length - 8 * j), l.length⟩ := by
    conv => lhs; rw [← List.take_append_drop (8 * j) l, putL_append, h]
    have := putL_part q j (l.drop (8 * j)) (l.length - 8 * j) (by omega) (by simp)
    rw [List.take_of_length_le (by simp)] at this
    rw [this, show 8 * j + (l.length - 8 * j) = l.length by omega]
  rw [e]
  rfl
theorem lowN_take (k : List UInt8) (n : Nat) : lowN k n = lowN (k.take n) n := by
  have h : ∀ i, i ≤ n → lowN k i = lowN (k.take n) i := by
    intro i
    induction i with
    | zero => intro _; rw [lowN_zero, lowN_zero]
    | succ i ih =>
      intro hi
      rw [lowN_succ, lowN_succ, ih (by omega)]
      congr 2
      simp [List.getD_eq_getElem?_getD, List.getElem?_take, show i < n by omega]
  exact h n (Nat.le_refl _)
/-- A key's bytes written one by one. -/
def ownN (k : List UInt8) : Nat → List UInt8
  | 0 => List.replicate 16 0
  | i + 1 => (ownN k i).set i (k.getD i 0)
theorem ownN_length (k : List UInt8) (i : Nat) : (ownN k i).length = 16 := by
  induction i with
  | zero => rfl
  | succ i ih => simp [ownN, ih]
theorem ownN_16 (k : List UInt8) (h : k.length = 16) : ownN k 16 = k := by
  match k, h with
  | [_, _, _, _, _, _, _, _, _, _, _, _, _, _, _, _], _ => rfl
theorem key_cell {w : World} {g t : Nat} {fr : Nat × Nat} {k : List UInt8} (h : w.heap[g]? = some (.cells (keyV k) t fr)) (hk : k.length = 16) (i : Nat) (hi : i < 16) : w.cell? ⟨g, i, none⟩ = some (.int .u8 ((k.getD i 0).toNat : Int)) := by
  rw [cell_of_row _ _ _ _ _ _ h, getD_lt _ _ _ (by omega)]
  simp [keyV, hk, hi]
set_option maxRecDepth 100000 in
set_option maxHeartbeats 4000000 in
theorem refBytes_calls (w : World) (k : List UInt8) (hk : k.length = 16) (A : Option Addr) (c : Nat) (l : List UInt8) (hb : byte.C w A l.length l) (hl : l.length ≤ 140737488355328) :
    Calls Try.prog 28 #[.agg (keyV k), .slice A l.length c] w fun e w' => e = .returned (.int .u64 ((bytesS k l).toNat : Int)) ∧ Below w.heap.size w w' := by
  have hbs : Hid (bytesS k l = sealS (putL ⟨startQ k, 0, 0⟩ l)) := rfl
  generalize bytesS k l = z at *
  have hmk : ∀ W : World, (Instr.makeSlice 28 (.int .i64 16) (.int .i64 16)).run Try.prog W = .ok (.slice (some ⟨W.heap.size, 0, none⟩) 16 16) (W.alloc (.cells (madeCells #[.int .u8 0] 16) 5)) := print_make 28 5 .u8 1 Try.underlying28 info_u8 (by decide) 16 (by decide)
  have hK : (w.alloc (.cells (keyV k) 23)).heap[w.heap.size]? = some (.cells (keyV k) 23 (0, 0)) := heap_alloc_new _ _
  have hO : byte.R 5 ((w.alloc (.cells (keyV k) 23)).alloc (.cells (madeCells #[.int .u8 0] 16) 5)) w.heap.size (fun _ => True) (.slice (some ⟨w.heap.size + 1, 0, none⟩) 16 16) (ownN k 0) := by
    have := Kd.R_of_own (h1 := fun _ => rfl) (ok := fun _ => True) (own_made_of' (enc := fun b : UInt8 => Value.int .u8 (b.toNat : Int)) (d := 0) (w.alloc (.cells (keyV k) 23)) w.heap.size 5 16 (by simp) (by decide)) (fun _ _ => trivial)
    rw [World.size_alloc] at this
    exact this
  have HO := Lib.hid hO
  have HK := Lib.hid (show ((w.alloc (.cells (keyV k) 23)).alloc (.cells (madeCells #[.int .u8 0] 16) 5)).heap[w.heap.size]? = some (.cells (keyV k) 23 (0, 0)) from blk_below hK (below_alloc (Below.refl _ _) _))
  have HB := Lib.hid hb
  have HB0 := Lib.hid (((Below.refl w.heap.size w).alloc (Nat.le_refl _) (.cells (keyV k) 23)).alloc (by simp) (.cells (madeCells #[.int .u8 0] 16) 5))
  clear hO hK hb
  go_enter Try.func28, Try.ntmps28
  go_upto_region 2 with (fail)
  clear hmk
  generalize hW : ((w.alloc (.cells (keyV k) 23)).alloc (.cells (madeCells #[.int .u8 0] 16) 5)) = W at *
  clear hW
  go_wp2
  go_loopw [6] (fun v6 w' => ∃ i : Nat, i ≤ 16 ∧ v6 = .int .i64 i ∧ Hid (byte.R 5 w' w.heap.size (fun _ => True) (.slice (some ⟨w.heap.size + 1, 0, none⟩) 16 16) (ownN k i)) ∧ Hid (w'.heap[w.heap.size]? = some (.cells (keyV k) 23 (0, 0))) ∧ Hid (Below w.heap.size w w')) (fun v6 _ => 16 - (intOf v6).toNat)
  case atStart => exact ⟨0, by omega, rfl, HO, HK, HB0⟩
  case round =>
    clear HO HK HB0
    obtain ⟨i, hi, rfl, HR, HK, HW⟩ := hrel
    by_cases h16 : i < 16
    · obtain ⟨hcl, hfr⟩ := byte_cell HR.out i h16
      have hkc := key_cell HK.out hk i h16
      generalize hg : k.getD i 0 = b at *
      have HG := Lib.hid hg
      clear hg
      go_wp2
      go_roundw
      case rel =>
        refine ⟨i + 1, by omega, by go_num, ?_, blk_far HK.out (by show w.heap.size ≠ w.heap.size + 1; omega) _, HW.out.setCell (by show w.heap.size ≤ w.heap.size + 1; omega) _⟩
        show byte.R _ _ _ _ _ ((ownN k i).set i (k.getD i 0))
        rw [HG.out]
        exact byte_put HR.out i _ _ rfl
      case measure => simp [intOf]; omega
    · obtain rfl : i = 16 := by omega
      rw [ownN_16 k hk] at HR
      clear HK
      have hC : byte.C wr (some ⟨w.heap.size + 1, 0, none⟩) 16 k := R_C HR.out
      rw [← hk] at hC
      have hl1 := refLow_calls wr (some ⟨w.heap.size + 1, 0, none⟩) 16 k 0 8 0 8 rfl rfl hC (by decide) (by omega)
      have hl2 := refLow_calls wr (some ⟨w.heap.size + 1, 0, none⟩) 16 k 8 8 8 16 rfl rfl hC (by decide) (by omega)
      rw [hk] at hl1 hl2
      have eq1 : lowN (k.drop 0) 8 = lowN (k.take 8) 8 := lowN_take k 8
      rw [eq1] at hl1
      have hs : Hid (startQ k = ⟨lowN (k.take 8) 8 ^^^ 8317987319222330741, lowN (k.drop 8) 8 ^^^ 7237128888997146477, lowN (k.take 8) 8 ^^^ 7816392313619706465, lowN (k.drop 8) 8 ^^^ 8387220255154660723⟩) := rfl
      generalize startQ k = Q at *
      generalize lowN (k.take 8) 8 = x at *
      generalize lowN (k.drop 8) 8 = y at *
      have e1 := xor64 x 8317987319222330741
      have e2 := xor64 y 7237128888997146477
      have e3 := xor64 x 7816392313619706465
      have e4 := xor64 y 8387220255154660723
      rw [show (((8317987319222330741 : UInt64).toNat : Nat) : Int) = 8317987319222330741 from rfl] at e1
      rw [show (((7237128888997146477 : UInt64).toNat : Nat) : Int) = 7237128888997146477 from rfl] at e2
      rw [show (((7816392313619706465 : UInt64).toNat : Nat) : Int) = 7816392313619706465 from rfl] at e3
      rw [show (((8387220255154660723 : UInt64).toNat : Nat) : Int) = 8387220255154660723 from rfl] at e4
      generalize h1 : x ^^^ 8317987319222330741 = z1 at *
      generalize h2 : y ^^^ 7237128888997146477 = z2 at *
      generalize h3 : x ^^^ 7816392313619706465 = z3 at *
      generalize h4 : y ^^^ 8387220255154660723 = z4 at *
      clear h1 h2 h3 h4 eq1 hC HR
      have HL := Lib.hid (And.intro hl1 hl2)
      clear hl1 hl2
      generalize hz1 : ((z1.toNat : Nat) : Int) = i1 at *
      generalize hz2 : ((z2.toNat : Nat) : Int) = i2 at *
      generalize hz3 : ((z3.toNat : Nat) : Int) = i3 at *
      generalize hz4 : ((z4.toNat : Nat) : Int) = i4 at *
      have HZ := Lib.hid (And.intro hz1 (And.intro hz2 (And.intro hz3 hz4)))
      clear hz1 hz2 hz3 hz4
      go_wp2_with fail
      refine HL.out.1.mono ?_
      rintro e w1 ⟨rfl, rfl⟩
      go_wp2_with fail
      refine HL.out.2.mono ?_
      rintro e w1 ⟨rfl, rfl⟩
      go_upto_region 8 with (fail)
      obtain ⟨g, hg⟩ : ∃ g, g = w1.heap.size := ⟨_, rfl⟩
      have hF : FourQ (w1.alloc (.cells #[.int .u64 i1, .int .u64 i2, .int .u64 i3, .int .u64 i4] 88)) g 88 Q [] := by
        rw [hs.out, ← HZ.out.1, ← HZ.out.2.1, ← HZ.out.2.2.1, ← HZ.out.2.2.2, hg]
        exact ⟨blk_new _ _⟩
      have hgB : w.heap.size ≤ g := by have := HW.out.size; omega
      have hW1 := HW.out.alloc HW.out.size (.cells #[.int .u64 i1, .int .u64 i2, .int .u64 i3, .int .u64 i4] 88)
      rw [← hg]
      generalize w1.alloc (.cells #[.int .u64 i1, .int .u64 i2, .int .u64 i3, .int .u64 i4] 88) = W2 at *
      have HF := Lib.hid hF
      have HW2 := Lib.hid hW1
      clear hF hW1 hg HW HL HZ e1 e2 e3 e4 hs
      go_wp2
      go_loopw [10] (fun v10 w' => ∃ (j p : Nat) (q : Quad), Hid (p = 8 * j) ∧ p ≤ l.length ∧ v10 = .int .i64 (p : Int) ∧ Hid (FourQ w' g 88 q []) ∧ Hid (putL ⟨Q, 0, 0⟩ (l.take (8 * j)) = ⟨q, 0, 8 * j⟩) ∧ Hid (Below w.heap.size w w')) (fun v10 _ => l.length - (intOf v10).toNat)
      case atStart => exact ⟨0, 0, Q, rfl, by omega, rfl, HF, rfl, HW2⟩
      case round =>
        clear HF HW2
        obtain ⟨j, p, q, hp, hj, rfl, HF, HP, HW⟩ := hrel
        have hC := Kd.C_below HB.out HW.out
        by_cases h8 : p + 8 ≤ l.length
        · have HPS := Lib.hid (putL_step Q q l j HP.out (by rw [← hp.out]; exact h8))
          rw [← hp.out] at HPS
          have HL := Lib.hid (refLow_calls wr A c l p 8 (p : Int) ((p : Int) + 8) rfl (by omega) hC (by decide) h8)
          generalize hm : lowN (l.drop p) 8 = m at *
          have hbq : Hid (blockQ q m = ⟨(rounds 2 ⟨q.a, q.b, q.c, q.d ^^^ m⟩).a ^^^ m, (rounds 2 ⟨q.a, q.b, q.c, q.d ^^^ m⟩).b, (rounds 2 ⟨q.a, q.b, q.c, q.d ^^^ m⟩).c, (rounds 2 ⟨q.a, q.b, q.c, q.d ^^^ m⟩).d⟩) := by unfold blockQ; rfl
          have hcall := fun (W : World) (h : FourQ W g 88 ⟨q.a, q.b, q.c, q.d ^^^ m⟩ []) => refRounds_calls W g _ _ [] 2 2 rfl (by decide) h
          have h0 : Four wr g 88 q.a q.b q.c q.d [] := HF.out
          have k3 := h0.c3
          have fz := h0.f 3
          have e3 := xor64 q.d m
          generalize blockQ q m = fin at *
          generalize rounds 2 ⟨q.a, q.b, q.c, q.d ^^^ m⟩ = r at *
          have HC := Lib.hid hcall
          have H0 := Lib.hid h0
          generalize hz3 : (((q.d ^^^ m).toNat : Nat) : Int) = z3 at *
          have HZ3 := Lib.hid hz3
          clear hC HP hm hcall h0 HF hz3
          have hge : (8 : Int) ≤ (l.length : Int) - (p : Int) := by omega
          go_wp2_with fail
          refine HL.out.mono ?_
          rintro e w1 ⟨rfl, rfl⟩
          go_wp2_with fail
          rw [← HZ3.out]
          refine (HC.out _ (H0.out.s3 _)).mono ?_
          rintro e w2 ⟨rfl, hF, hO⟩
          have hB2 := (HW.out.setCell (p := ⟨g, 3, none⟩) hgB (.int .u64 ((q.d ^^^ m).toNat : Int))).trans (hO.below (by simpa [World.setCell] using HW.out.size) (fun k hk => by omega))
          have HW2 := Lib.hid hB2
          have h1 : Four w2 g 88 r.a r.b r.c r.d [] := hF
          have k0 := h1.c0
          have f0 := h1.f 0
          have e0 := Lib.hid (xor64 r.a m)
          have H1 := Lib.hid h1
          clear hF hO fz k3 hB2 HC H0 HW h1 e3
          go_wp2
          go_roundw
          case rel =>
            refine ⟨j + 1, p + 8, fin, by show _ = _; rw [hp.out]; omega, by omega, by go_num, ?_, HPS, HW2.out.setCell (p := ⟨g, 0, none⟩) hgB _⟩
            rw [e0.out, hbq.out]
            exact H1.out.s0 _
          case measure => simp [intOf]; omega
        · have hn7 : l.length < p + 8 := by omega
          have hd : l.length - p ≤ 8 := by omega
          have hfin := hbs.out
          rw [putL_end Q q l j HP.out (by rw [← hp.out]; omega) (by rw [← hp.out]; omega)] at hfin
          rw [← hp.out] at hfin
          have HL := Lib.hid (refLow_calls wr A c l p (l.length - p) (p : Int) (l.length : Int) rfl (by omega) hC hd (by omega))
          have e5 := len56_eq l.length
          have e6 := or64 (lowN (l.drop p) (l.length - p)) (len56 l.length)
          have hlt : ¬ (p : Int) + 8 ≤ (l.length : Int) := by omega
          generalize hx0 : lowN (l.drop p) (l.length - p) = x at *
          generalize hm : x ||| len56 l.length = m at *
          have hbq : Hid (blockQ q m = ⟨(rounds 2 ⟨q.a, q.b, q.c, q.d ^^^ m⟩).a ^^^ m, (rounds 2 ⟨q.a, q.b, q.c, q.d ^^^ m⟩).b, (rounds 2 ⟨q.a, q.b, q.c, q.d ^^^ m⟩).c, (rounds 2 ⟨q.a, q.b, q.c, q.d ^^^ m⟩).d⟩) := by unfold blockQ; rfl
          have hcall := fun (W : World) (h : FourQ W g 88 ⟨q.a, q.b, q.c, q.d ^^^ m⟩ []) => refRounds_calls W g _ _ [] 2 2 rfl (by decide) h
          have h0 : Four wr g 88 q.a q.b q.c q.d [] := HF.out
          have k3 := h0.c3
          have fz := h0.f 3
          have e3 := xor64 q.d m
          generalize hPq : blockQ q m = fin at *
          have hl4 : Hid (lastQ fin = (rounds 4 ⟨fin.a, fin.b, fin.c ^^^ 255, fin.d⟩).a ^^^ (rounds 4 ⟨fin.a, fin.b, fin.c ^^^ 255, fin.d⟩).b ^^^ (rounds 4 ⟨fin.a, fin.b, fin.c ^^^ 255, fin.d⟩).c ^^^ (rounds 4 ⟨fin.a, fin.b, fin.c ^^^ 255, fin.d⟩).d) := rfl
          generalize hr2 : rounds 2 ⟨q.a, q.b, q.c, q.d ^^^ m⟩ = r at *
          have HFIN := Lib.hid hfin
          have HC := Lib.hid hcall
          have H0 := Lib.hid h0
          generalize ((len56 l.length).toNat : Int) = li at *
          generalize hz3 : (((q.d ^^^ m).toNat : Nat) : Int) = z3 at *
          have HZ3 := Lib.hid hz3
          generalize hzm : ((m.toNat : Nat) : Int) = zm at *
          have HZM := Lib.hid hzm
          generalize hzx : ((x.toNat : Nat) : Int) = zx at *
          generalize hv : ((z.toNat : Nat) : Int) = v at *
          have HV := Lib.hid hv
          clear hC HP hcall h0 HF hz3 hfin hbs hPq hr2 hm hzm hzx hv hx0 hd h8
          go_wp2_with fail
          refine HL.out.mono ?_
          rintro e w1 ⟨rfl, rfl⟩
          go_wp2_with fail
          rw [← HZ3.out]
          refine (HC.out _ (H0.out.s3 _)).mono ?_
          rintro e w2 ⟨rfl, hF, hO⟩
          have hB2 := (HW.out.setCell (p := ⟨g, 3, none⟩) hgB (.int .u64 ((q.d ^^^ m).toNat : Int))).trans (hO.below (by simpa [World.setCell] using HW.out.size) (fun k hk => by omega))
          have HW2 := Lib.hid hB2
          have h1 : Four w2 g 88 r.a r.b r.c r.d [] := hF
          have k0 := h1.c0
          have f0 := h1.f 0
          have e0 := xor64 r.a m
          rw [HZM.out] at e0
          have k2 : (w2.setCell ⟨g, 0, none⟩ (.int .u64 ((r.a ^^^ m).toNat : Int))).cell? ⟨g, 2, none⟩ = some (.int .u64 (r.c.toNat : Int)) := (h1.s0 _).c2
          have fz2 := (h1.s0 (r.a ^^^ m)).f 2
          have e7 := xor64 r.c 255
          rw [show (((255 : UInt64).toNat : Nat) : Int) = 255 from rfl] at e7
          have H1 := Lib.hid (show Four (w2.setCell ⟨g, 0, none⟩ (.int .u64 ((r.a ^^^ m).toNat : Int))) g 88 fin.a fin.b fin.c fin.d [] by rw [hbq.out]; exact h1.s0 _)
          have hrc : r.c = fin.c := by rw [hbq.out]
          rw [hrc] at e7 k2
          have HC4 := Lib.hid (fun (W : World) (h : FourQ W g 88 ⟨fin.a, fin.b, fin.c ^^^ 255, fin.d⟩ []) => refRounds_calls W g _ _ [] 4 4 rfl (by decide) h)
          generalize rounds 4 ⟨fin.a, fin.b, fin.c ^^^ 255, fin.d⟩ = r4 at *
          generalize hy0 : (((r.a ^^^ m).toNat : Nat) : Int) = y0 at *
          generalize hy2 : (((fin.c ^^^ 255).toNat : Nat) : Int) = y2 at *
          have HY2 := Lib.hid hy2
          have HW3 := Lib.hid ((HW2.out.setCell (p := ⟨g, 0, none⟩) hgB (.int .u64 y0)).setCell (p := ⟨g, 2, none⟩) hgB (.int .u64 y2))
          clear hF hO fz k3 hB2 HC H0 HW h1 e3 hrc hbq hy2 hy0 HZ3 HZM
          go_wp2_with fail
          rw [← HY2.out]
          refine (HC4.out _ (H1.out.s2 _)).mono ?_
          rintro e w3 ⟨rfl, hF, hO⟩
          have HB3 := Lib.hid ((show Hid (Below w.heap.size w _) from by rw [← HY2.out] at HW3; exact HW3).out.trans (hO.below (by simpa [World.setCell] using HW2.out.size) (fun k hk => by omega)))
          have h2 : Four w3 g 88 r4.a r4.b r4.c r4.d [] := hF
          have k0 := h2.c0
          have k1 := h2.c1
          have k2 := h2.c2
          have k3 := h2.c3
          have x1 := xor64 r4.a r4.b
          have x2 := xor64 (r4.a ^^^ r4.b) r4.c
          have x3 := xor64 (r4.a ^^^ r4.b ^^^ r4.c) r4.d
          have hv2 : Hid (((z.toNat : Nat) : Int) = ((r4.a ^^^ r4.b ^^^ r4.c ^^^ r4.d).toNat : Int)) := by show _ = _; rw [HFIN.out, hl4.out]
          generalize ((r4.a ^^^ r4.b ^^^ r4.c ^^^ r4.d).toNat : Int) = y4 at *
          generalize ((r4.a ^^^ r4.b ^^^ r4.c).toNat : Int) = y3 at *
          generalize ((r4.a ^^^ r4.b).toNat : Int) = y2 at *
          clear h2 hF hO HC4 H1 e7 fz2 e0 f0 HW3 HL HY2 HFIN hl4 HV e5 e6
          go_wp2
          go_quiet (fail)
          go_wp2
          go_ret
          exact ⟨by rw [hv2.out]; rfl, pw_below_drewN HB3.out _⟩
end Go.Proofs.Ythdemajmlidefaa.Mac
