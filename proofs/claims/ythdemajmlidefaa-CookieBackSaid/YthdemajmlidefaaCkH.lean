/- Look of what is no cookie; the reference's numbers: walked. -/
import Derived.Test.YthdemajmlidefaaCkG
namespace Go.Proofs.Ythdemajmlidefaa.Ck
open Go.RowKit Go.Proofs.YthdemajmlidefaaW.PrintWords Go.Proofs.YthdemajmlidefaaW.PrintLast Go.Proofs.Ythdemajmlidefaa.Base Go.Proofs.Ythdemajmlidefaa.Mac
set_option linter.unusedVariables false
set_option linter.unusedSimpArgs false
def NoLook (w : World) (e : Ending) (w' : World) : Prop := e = .returned (.tuple #[.agg (offV zF), .int .i64 0, .int .i64 0, .int .i64 210]) ∧ Below w.heap.size w w'
set_option maxHeartbeats 1000000 in
theorem look_bad (w : World) (A : Option Addr) (c : Nat) (l : List UInt8) (hb : byte.C w A l.length l) (hc : l.length ≤ c) (h : lookB l = false) :
    Calls Try.prog 13 #[.slice A l.length c] w (NoLook w) := by
  have hnot := of_decide_eq_false h
  have HGB := Lib.hid (blk_new w (.cells (offV zF) 27))
  have HB := Lib.hid (below_alloc (Below.refl w.heap.size w) (.cells (offV zF) 27))
  by_cases hl : l.length = 56
  · have HRD := Lib.hid (fun (W : World) (ad : Addr) (hW : Below w.heap.size w W) (hf : ∀ i, i < 13 → FldAt W ad i) => read_calls W A c ad l (Kd.C_below hb hW) hc hl hf)
    have hst : stV (rdN l 13) = stV (valF l) := rfl
    rw [hst] at HRD
    have hx : valF l 0 ≤ 1099511627776 → lifeB (valF l 1 : Nat) = false := by
      intro h0
      unfold lifeB
      by_cases h1 : 1 ≤ valF l 1
      · have h2 : ¬ valF l 1 ≤ 2147483648 := fun h2 => hnot ⟨hl, h0, h1, h2⟩
        rw [decide_eq_false (show ¬ ((valF l 1 : Nat) : Int) ≤ 2147483648 by omega), Bool.and_false]
      · rw [decide_eq_false (show ¬ (1 : Int) ≤ ((valF l 1 : Nat) : Int) by omega), Bool.false_and]
    have HL := Lib.hid (fun W => isLife_calls (valF l 1 : Nat) W)
    have hne : ((l.length : Int) != 56) = false := by simp [hl]
    clear hb h hst hnot
    generalize valF l = x at *
    have HX := Lib.hid hx
    clear hx
    generalize hN : l.length = N at *
    clear hN hl
    go_enter Try.func13, Try.ntmps13
    go_wp2_with fail
    have HFC := fields_calls (w.alloc (.cells (offV zF) 27))
    refine HFC.mono ?_
    rintro e w1 ⟨ad, rfl, hF, hB1⟩
    replace HGB := Lib.hid (blk_below HGB.out hB1)
    replace HB := Lib.hid (below_then HB.out HB.out.size hB1)
    have HF := Lib.hid hF
    clear hF hB1 HFC
    go_wp2_with fail
    refine (HRD.out w1 ad HB.out HF.out).mono ?_
    rintro e w2 ⟨hor, hB2⟩
    replace HGB := Lib.hid (blk_below HGB.out hB2)
    replace HB := Lib.hid (below_then HB.out HB.out.size hB2)
    have HP := Lib.hid (below_setRow HB.out (Nat.le_refl w.heap.size) (offV zF))
    have HQ := Lib.hid (setRow_heap w2 w.heap.size _ (offV zF) _ _ HGB.out)
    clear hB2 HF HRD
    rcases hor with ⟨_, rfl⟩ | ⟨hx0, s, rfl, hs⟩
    · go_wp2_with (refine wpList_store_row rfl 27 _ _ rfl w.heap.size (offV zF) rfl rfl 27 (offV zF) HGB.out (by kernel_rfl) rfl (by simp [offV, Value.oneCell']) ?_)
      refine bodyPost_ret (results_cttt rfl _ _ w.heap.size 27 _ (0, 0) _ rfl HQ.out Try.underlying27 rfl (by kernel_rfl)) rfl ?_
      exact ⟨rfl, HP.out⟩
    · have q12 : w2.cell? ⟨s, 12, none⟩ = some (.int .i64 (x 1 : Nat)) := blk_cell hs 12
      rw [HX.out hx0] at HL
      clear hs hx0 HX
      go_wp2_with (first | (go_at_call 18; refine (HL.out _).mono ?_; rintro e w' ⟨rfl, rfl⟩) | (refine wpList_store_row rfl 27 _ _ rfl w.heap.size (offV zF) rfl rfl 27 (offV zF) HGB.out (by kernel_rfl) rfl (by simp [offV, Value.oneCell']) ?_))
      refine bodyPost_ret (results_cttt rfl _ _ w.heap.size 27 _ (0, 0) _ rfl HQ.out Try.underlying27 rfl (by kernel_rfl)) rfl ?_
      exact ⟨rfl, HP.out⟩
  · have hne : ((l.length : Int) != 56) = true := by simp; omega
    have HP := Lib.hid (below_setRow HB.out (Nat.le_refl w.heap.size) (offV zF))
    have HQ := Lib.hid (setRow_heap _ w.heap.size _ (offV zF) _ _ HGB.out)
    clear hb h hnot hl hc
    generalize l.length = N at *
    go_enter Try.func13, Try.ntmps13
    go_wp2_with (refine wpList_store_row rfl 27 _ _ rfl w.heap.size (offV zF) rfl rfl 27 (offV zF) HGB.out (by kernel_rfl) rfl (by simp [offV, Value.oneCell']) ?_)
    refine bodyPost_ret (results_cttt rfl _ _ w.heap.size 27 _ (0, 0) _ rfl HQ.out Try.underlying27 rfl (by kernel_rfl)) rfl ?_
    exact ⟨rfl, HP.out⟩
/-- The reference's number of bytes. -/
theorem refGet_calls (w : World) (A : Option Addr) (c : Nat) (l : List UInt8) (hb : byte.C w A l.length l) (p n : Nat) (hn : n ≤ 8) (hp : p + n ≤ l.length) (hl : l.length ≤ 1000000) :
    Calls Try.prog 27 #[.slice A l.length c, .int .i64 (p : Nat), .int .i64 (n : Nat)] w fun e w' => e = .returned (.int .u64 (numBE 0 ((l.drop p).take n) : Nat)) ∧ w' = w := by
  have hql : ((l.drop p).take n).length = n := by rw [List.length_take, List.length_drop]; omega
  have hqg : ∀ j, j < n → ((l.drop p).take n).getD j 0 = l.getD (p + j) 0 := by
    intro j hj
    rw [List.getD_eq_getElem?_getD, List.getD_eq_getElem?_getD, List.getElem?_take, if_pos hj, List.getElem?_drop]
  generalize (l.drop p).take n = q at *
  have HC := Lib.hid hb
  have HQG := Lib.hid hqg
  have HQL := Lib.hid hql
  clear hb hqg hql
  go_enter Try.func27, Try.ntmps27
  go_wp2
  go_loop [7, 8] (fun v7 v8 => ∃ j : Nat, j ≤ n ∧ v8 = .int .i64 ((p + j : Nat) : Int) ∧ v7 = .int .u64 (numBE 0 (q.take j) : Nat)) (fun _ v8 => p + n - (intOf v8).toNat)
  case atStart => exact ⟨0, Nat.zero_le _, rfl, rfl⟩
  case round =>
    obtain ⟨j, hj, rfl, rfl⟩ := hrel
    have hlt' : ((p + j : Nat) : Int) < (p : Int) + (n : Int) ↔ j < n := by omega
    by_cases hj1 : j < n
    · obtain ⟨ad2, rfl, hcb⟩ := byte_at HC.out (p + j) (by omega)
      have hsn := num_snoc q j (by rw [HQL.out]; exact hj1)
      have hxl := num_lt q j (by omega)
      rw [HQG.out j hj1] at hsn
      have hcl := (l.getD (p + j) 0).toNat_lt
      generalize hx2 : numBE 0 (q.take (j + 1)) = x2' at *
      have HX2 := Lib.hid hx2
      clear hx2
      generalize numBE 0 (q.take j) = x1' at *
      have e1 := wrap_u64 ((l.getD (p + j) 0).toNat : Int) (by omega) (by omega)
      have e2 := wrap_u64 ((x1' : Int) * 256) (by omega) (by omega)
      have e3 : (x1' : Int) * 256 + ((l.getD (p + j) 0).toNat : Int) = (x2' : Int) := by omega
      have e4 := wrap_u64 (x2' : Int) (by omega) (by omega)
      clear hsn
      have hi : ((p + j : Nat) : Int) < (p : Int) + (n : Int) := hlt'.2 hj1
      clear hlt'
      generalize ((l.getD (p + j) 0).toNat : Int) = ci at *
      generalize hpj : p + j = pj at *
      go_wp2
      go_round
      case rel => exact ⟨j + 1, by omega, by go_num, by rw [HX2.out]⟩
      case measure => simp [intOf]; omega
    · obtain rfl : j = n := by omega
      rw [List.take_of_length_le (by rw [HQL.out]; exact Nat.le_refl _)]
      have hi : ¬ ((p + j : Nat) : Int) < (p : Int) + (j : Int) := by omega
      clear hlt'
      go_wp2
      go_ret
      exact ⟨rfl, rfl⟩
end Go.Proofs.Ythdemajmlidefaa.Ck
