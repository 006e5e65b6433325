/- Runs: walked. -/
import Derived.Test.YtgfkdebbdjojmaaFragM
namespace Go.Proofs.Ytgfkdebbdjojmaa.Frag
open Go.RowKit Go.Proofs.YtgfkdebbdjojmaaW.PrintWords Go.Proofs.YtgfkdebbdjojmaaW.PrintLast Go.Proofs.Ytgfkdebbdjojmaa.Base
set_option linter.unusedVariables false
set_option linter.unusedSimpArgs false
def runsT10 : Bool × List (List Nat × List Nat) := (true, [([], []), ([], []), ([], []), ([2], [2]), ([3], [3]), ([4], [4]), ([], []), ([6], [6]), ([7], [7]), ([8], [8]), ([9], [9]), ([5, 10], [5, 10]), ([0, 0, 2, 3, 4, 5, 6, 7, 8, 9, 10, 11], [0]), ([12, 0, 2, 3, 4, 5, 6, 7, 8, 9, 10, 11], [12]), ([13, 11, 11, 0, 2, 3, 4, 5, 6, 7, 8, 9, 10, 11], [11, 13]), ([1, 0, 1, 2, 3, 4, 5, 6, 7, 8, 9, 10, 11, 12, 13, 14], [1]), ([15, 0, 1, 2, 3, 4, 5, 6, 7, 8, 9, 10, 11, 12, 13, 14], [15]), ([16, 14, 0, 1, 2, 3, 4, 5, 6, 7, 8, 9, 10, 11, 12, 13, 14], [16])])
def runsB10 : List Nat := [0, 0, 0, 4, 12, 28, 0, 64, 192, 448, 960, 2044, 4093, 8189, 16381, 32767, 65535, 131071]
theorem runstab10 : Go.Proofs.YtgfkdebbdjojmaaW.PrintLast.rtab .any (Go.Proofs.YtgfkdebbdjojmaaW.PrintLast.opsOf Try.f16 10) = runsT10 := by kernel_rfl
theorem runsbits10 : Go.Proofs.YtgfkdebbdjojmaaW.PrintLast.waitsOk runsT10.2 runsB10 = true := by kernel_rfl
/-- The messages of a row of pieces in which none is at fault and none is left open. -/
def runsR : Bool → List UInt8 → List (List UInt8) → List Pc → Option (List (List UInt8))
  | inb, _, outs, [] => if inb then none else some outs
  | inb, acc, outs, p :: r => if p.2.2.length = 0 ∨ p.1 = inb then none else if (acc ++ p.2.2).length > 65536 then none else if p.2.1 then runsR false [] (outs ++ [acc ++ p.2.2]) r else runsR true (acc ++ p.2.2) outs r
theorem runsR_step (inb : Bool) (acc : List UInt8) (outs : List (List UInt8)) (p : Pc) (r : List Pc) : runsR inb acc outs (p :: r) = if p.2.2.length = 0 ∨ p.1 = inb then none else if (acc ++ p.2.2).length > 65536 then none else if p.2.1 then runsR false [] (outs ++ [acc ++ p.2.2]) r else runsR true (acc ++ p.2.2) outs r := by
  conv => lhs; unfold runsR
theorem byte_ok {e : Nat} {w : World} {base : Nat} {ok ok' : Nat → Prop} {v : Value} {xs : List UInt8} (h : byte.R e w base ok v xs) (h2 : ∀ k, v.ownBlock = some k → ok' k) : byte.R e w base ok' v xs := ⟨h2, h.2.imp_ (fun _ _ hp => hp)⟩
/-- No panic comes. -/
def calmQ (Q : Exit → Act → World → Prop) : Exit → Act → World → Prop := fun e a w => (match e with | .panic _ => False | _ => True) ∧ Q e a w
theorem calm {P : Program} {c : Code} {Q : Exit → Act → World → Prop} {a : Act} {w : World} (h : c.wp P (calmQ Q) a w) : c.wp P Q a w := Code.wp_mono (fun _ _ _ h => h.2) h
theorem info_bs : (Try.prog.info? 22).map (fun i => (i.zero, i.size, i.bytes)) = some (some (.slice none 0 0), 1, 24) := by kernel_rfl
/-- A piece that is not at fault, ahead of rows that are whole. -/
theorem put_step2 (wB w : World) (gj i : Nat) (p : Pc) (A : Option Addr) (c : Nat) (vo vp : Value) (fr : Int) (inb : Bool) (acc : List UInt8) (outs : List (List UInt8)) (hg : w.heap[gj]? = some (.cells #[vo, vp, .int .i64 fr, .bool inb] 59 (0, 0))) (hnf : ¬ (p.2.2.length = 0 ∨ p.1 = inb))
    (hC : byte.C w A p.2.2.length p.2.2) (hfar : ∀ ad, A = some ad → ad.block ≠ gj) (hS : ∃ A2 n2 c2, vp = .slice A2 n2 c2) (hP : inb = true → byte.R 5 w gj (fun k => k ≠ gj) vp acc) (hacc : inb = false → acc = []) (hO : bytesK.R 22 w gj (fun k => k ≠ gj ∧ (inb = true → some k ≠ vp.ownBlock)) vo outs) (hB : Below gj wB w) (hbw : wB.heap.size = gj) (hlen : acc.length + p.2.2.length ≤ 140737488355328) :
    Calls Try.prog 21 #[.pointer (some ⟨gj, 0, none⟩), .int .i64 (i : Int), pcV p A c] w fun e w' => e = .returned (.tuple #[]) ∧ ∃ v' fr', w'.heap[gj]? = some (.cells #[vo, v', .int .i64 fr', .bool true] 59 (0, 0)) ∧ byte.R 5 w' gj (fun k => k ≠ gj) v' (acc ++ p.2.2) ∧ bytesK.R 22 w' gj (fun k => k ≠ gj ∧ some k ≠ v'.ownBlock) vo outs ∧ Below gj wB w' ∧ Only (fun k => k = gj ∨ (inb = true ∧ some k = vp.ownBlock)) w w' := by
  have hl : p.2.2.length ≠ 0 := fun e => hnf (Or.inl e)
  have hlt := blk_lt hg
  cases inb with
  | false =>
    have hb : p.1 = true := by
      cases h : p.1 with
      | true => rfl
      | false => exact absurd (Or.inr h) hnf
    refine (put_begin w gj i p A c vo _ fr hg hl hb hC (by omega) hS hfar).mono fun e w' h => ?_
    obtain ⟨he, v', h1, h2, h3⟩ := h
    rw [hacc rfl, List.nil_append]
    refine ⟨he, v', _, h1, Kd.R_mono (Kd.R_lower (Kd.R_bound h2) (by omega)) (fun k hk => by have := hk.2.1; omega), ?_, hB.trans (h3.below (by omega) (fun k hk => by omega)), h3.mono (fun k _ hk => Or.inl hk)⟩
    refine Kd.R_mono (Kd.R_move (Kd.R_bound hO) (fun k hk => h3.block k hk.2.2.1 hk.1.1)) (fun k hk => ⟨hk.1.1, fun e => ?_⟩)
    obtain ⟨inner, ho⟩ := Kd.R_own h2
    have := own_base ho k e.symm
    have := hk.2.2.1
    omega
  | true =>
    have hb : p.1 = false := by
      cases h : p.1 with
      | false => rfl
      | true => exact absurd (Or.inr h) hnf
    refine (put_more2 wB w gj gj i p A c vo vp fr acc hg hl hb hC (hP rfl) (Nat.le_refl _) hB (by omega) hlen).mono fun e w' h => ?_
    obtain ⟨he, v', h1, h2, h3, h4, h5⟩ := h
    refine ⟨he, v', _, h1, h2, ?_, h3, h4.mono (fun k _ hk => hk.imp id (fun h => ⟨rfl, h⟩))⟩
    refine Kd.R_mono (Kd.R_move (Kd.R_bound hO) (fun k hk => h4.block k hk.2.2.1 (fun h => h.elim hk.1.1 (hk.1.2 rfl)))) (fun k hk => ⟨hk.1.1, fun e => ?_⟩)
    rcases h5 with h5 | ⟨b, h5, h6⟩
    · exact hk.1.2 rfl (e.trans h5)
    · rw [h5] at e
      injection e with e
      have := hk.2.2.1
      omega
theorem runs_results (tmps : Array Value) (w : World) (a b : Nat) (v0 v1 v2 v3 : Value) (t0 : tmps.getD 2 undef = v0) (t1 : tmps.getD 3 undef = v1) (t2 : tmps.getD 4 undef = .pointer (some ⟨a, 0, none⟩)) (t3 : tmps.getD 5 undef = .pointer (some ⟨b, 0, none⟩))
    (h1 : w.heap[a]? = some (.cells #[v2] 3 (0, 0))) (h2 : w.heap[b]? = some (.cells #[v3] 24 (0, 0))) :
    (results Try.f16 tmps).run Try.prog w = .ok (.tuple #[v0, v1, v2, v3]) w := by
  have k1 := blk_cell h1 0
  have k2 := blk_cell h2 0
  rw [Array.getD_eq_getD_getElem?] at t0 t1 t2 t3
  simp [results, Try.results16, go_sem, t0, t1, t2, t3, k1, k2]
/-- While pieces are put: the state behind k of them. -/
structure RunsI (w : World) (l : List Pc) (R : List (List UInt8)) (k : Nat) (W : World) : Prop where
  out : ∃ Ao no co Ap np cp fr inb acc outs, W.heap[w.heap.size + 2]? = some (.cells #[.slice Ao no co, .slice Ap np cp, .int .i64 fr, .bool inb] 59 (0, 0)) ∧ bytesK.R 22 W (w.heap.size + 2) (fun b => b ≠ w.heap.size + 2 ∧ (inb = true → some b ≠ (Value.slice Ap np cp).ownBlock)) (.slice Ao no co) outs ∧ (inb = true → byte.R 5 W (w.heap.size + 2) (fun b => b ≠ w.heap.size + 2) (.slice Ap np cp) acc) ∧ (inb = false → acc = []) ∧ runsR inb acc outs (l.drop k) = some R ∧ acc.length ≤ 65536 ∧ outs.length ≤ k
  below : Below (w.heap.size + 2) (w2 w) W
theorem runsI_start (w : World) (l : List Pc) (R : List (List UInt8)) (h : runsR false [] [] l = some R) : RunsI w l R 0 ((w2 w).alloc (.cells #[.slice none 0 0, .slice none 0 0, .int .i64 0, .bool false] 59)) := by
  have h0 := blk_new (w2 w) (.cells #[.slice none 0 0, .slice none 0 0, .int .i64 0, .bool false] 59)
  rw [w2_size] at h0
  exact ⟨⟨_, _, _, _, _, _, _, _, [], [], h0, Kd.R_nil _ _ _ _ _, fun h => (by cases h), fun _ => rfl, h, by simp, by simp⟩, (Below.refl (w.heap.size + 2) (w2 w)).alloc (by rw [w2_size]; omega) _⟩
set_option maxRecDepth 100000 in
set_option maxHeartbeats 2000000 in
theorem runs_calls (w : World) (A : Option Addr) (c : Nat) (l : List Pc) (R : List (List UInt8)) (h : Kd.C pcK w A l.length l) (hll : l.length ≤ 1000000000000) (hr : runsR false [] [] l = some R) :
    Calls Try.prog 16 #[.slice A l.length c] w fun e w' => ∃ v, e = .returned (.tuple #[v, .int .i64 0, .int .i64 0, .int .i64 0]) ∧ bytesK.R 22 w' w.heap.size (fun _ => True) v R ∧ Below w.heap.size w w' := by
  have H := Lib.hid h
  have HR := Lib.hid hr
  clear h hr
  go_enter_defers Try.func16, Try.ntmps16
  go_wp2
  go_loopw [13] (fun v13 wr => ∃ k : Nat, k ≤ l.length ∧ v13 = .int .i64 k ∧ RunsI w l R k wr) (fun v13 _ => l.length - (intOf v13).toNat)
  case atStart => exact ⟨0, by omega, rfl, runsI_start w l R HR.out⟩
  case round =>
    obtain ⟨k, hk, rfl, ⟨⟨Ao, no, co, Ap, np, cp, fr, inb, acc, outs, hg, hO, hP, hacc, hrun, hal, hol⟩, hB⟩⟩ := hrel
    by_cases hlt : k < l.length
    · obtain ⟨ad, A2, c2, rfl, x0, x1, x2, l2, g2⟩ := at_pc H.out k hlt
      have hBw := w2_out hB
      rw [drop_pc l k hlt, runsR_step] at hrun
      have hdat : 0 < (l.getD k zPc).2.2.length → ∀ a2, A2 = some a2 → a2.block ≠ w.heap.size + 2 := by
        intro h0 a2 e
        obtain ⟨a3, e3, hc3⟩ := byte_at g2 0 h0
        rw [e] at e3
        injection e3 with e3
        subst e3
        have := World.block_lt_of_cell? w _ hc3
        rw [add_block] at this
        omega
      replace x0 := pw_cell_below hBw x0
      replace x1 := pw_cell_below hBw x1
      replace x2 := pw_cell_below hBw x2
      have HG2 := Lib.hid (Kd.C_below g2 hBw)
      have HG := Lib.hid hg
      have HB := Lib.hid hB
      have hsz : w.heap.size + 2 < wr.heap.size := blk_lt hg
      generalize l.getD k zPc = p at *
      by_cases hf : p.2.2.length = 0 ∨ p.1 = inb
      · rw [if_pos hf] at hrun
        cases hrun
      rw [if_neg hf] at hrun
      by_cases hbig : (acc ++ p.2.2).length > 65536
      · rw [if_pos hbig] at hrun
        cases hrun
      rw [if_neg hbig] at hrun
      have hl0 : p.2.2.length ≠ 0 := fun e => hf (Or.inl e)
      have hal2 : (acc ++ p.2.2).length ≤ 65536 := by omega
      have hlen2 : acc.length + p.2.2.length ≤ 65536 := by rw [← List.length_append]; exact hal2
      have HP := Lib.hid (fun o => put_step2 (w2 w) (wr.alloc o) (w.heap.size + 2) k p A2 c2 _ _ _ _ acc outs (blk_alloc HG.out o) hf (Kd.C_alloc HG2.out o) (hdat (by omega)) ⟨_, _, _, rfl⟩ (fun e => Kd.R_alloc (hP e) o) hacc (Kd.R_alloc hO o) (HB.out.alloc (by omega) o) (w2_size w) (by omega))
      unfold pcV at HP
      have hvo : ∀ b, inb = true → some b = (Value.slice Ap np cp).ownBlock → b < wr.heap.size := fun b e e2 => Kd.R_lt (hP e) b e2.symm
      have HVO := Lib.hid hvo
      have HAL := Lib.hid hal2
      have HRUN := Lib.hid hrun
      clear hg hB hBw g2 hdat l2 hf hbig hvo hal2 hrun hP hO hacc
      cases hb2 : p.2.1 with
      | true =>
        rw [hb2] at x1 HP HRUN
        simp only [if_true] at HRUN
        clear hb2
        generalize p.2.2 = data at *
        generalize p.1 = b1 at *
        go_wp2_with fail
        refine (HP.out _).mono ?_
        rintro e w1 ⟨rfl, v', fr', hg1, hR1, hO1, hB1, hOn1⟩
        have hbx := hOn1.blk (blk_new wr (.cells #[.bool b1, .bool true, .slice A2 data.length c2] 42)) (fun h => by
          rcases h with h | h
          · omega
          · have := HVO.out _ h.1 h.2; omega)
        obtain ⟨Aq, cq, rfl⟩ := Kd.R_slice hR1
        have q1 := blk_cell hbx 1
        have kk1 := blk_cell hg1 1
        have hbg : ¬ ((acc ++ data).length : Int) > 65536 := by have := HAL.out; omega
        have HB1 := Lib.hid hB1
        have HR1 := Lib.hid hR1
        have HG1 := Lib.hid hg1
        have HO1 := Lib.hid hO1
        clear hg1 hR1 hB1 hO1 hOn1 hbx HP HVO HG HB HG2 x0 x1 x2
        go_upto_region 10 with (fail)
        clear q1 kk1 hbg
        generalize acc ++ data = acc2 at *
        have HGS := Lib.hid (HG1.out)
        have HRO := Lib.hid HO1.out
        have HRP := Lib.hid HR1.out
        have HBB := Lib.hid HB1.out
        clear HG1 HO1 HR1 HB1
        generalize w1 = W at *
        have hgW : w.heap.size + 2 < W.heap.size := blk_lt HGS.out
        obtain ⟨Ao1, co1, hvo1⟩ := Kd.R_slice HRO.out
        injection hvo1 with hvo1 hvo2 hvo3
        subst hvo1 hvo2 hvo3
        have k0 := Lib.hid (blk_cell HGS.out 0)
        have k1 := Lib.hid (blk_cell HGS.out 1)
        have HGG := Lib.hid (fun (w2 : World) (h : Below W.heap.size W w2) => blk_below HGS.out h)
        have HNG := Lib.hid (fun e : (Value.slice Ao outs.length co).ownBlock = some (w.heap.size + 2) => (HRO.out.1 _ e).1 rfl)
        have HEL := Lib.hid (fun (w2 : World) (h : Below W.heap.size W w2) => (⟨_, rfl, byte_ok (Kd.R_below HRP.out h) (fun k hk => ⟨HRP.out.1 k hk, fun e => (HRO.out.1 k e.symm).2 hk.symm⟩)⟩ : bytesK.M w2 (w.heap.size + 2) (fun k => k ≠ w.heap.size + 2 ∧ some k ≠ (Value.slice Ao outs.length co).ownBlock) acc2 [.slice Aq acc2.length cq]))
        generalize hgj : w.heap.size + 2 = gj at *
        have B := True.intro
        refine calm ?_
        refine start_ (n := 18) (S := fun w' => True) (ds := []) #[false, false, false, false, false, false, false, false, false, false, false, false, false, false, false, false, false, false] (by kernel_rfl) rfl rfl trivial (fun hHeld => ?_)
        refine with_tabW runstab10 runsbits10 (fun HT_ HW_ => ?_)
        refine pure_ (i := 0) (N := some 33) (v := ?_) (a' := ?_) #[true, false, false, false, false, false, false, false, false, false, false, false, false, false, false, false, false, false] rfl rfl (any_of HT_.out (by kernel_rfl)) (fun _ _ _ h => h.1.elim) (Or.inl ⟨by rfl, ?_⟩) ?_ ?_
        rotate_left
        · intro w'
          go_simp
          with_reducible rfl
        rotate_left
        · simp only [Act.put, List.setIfInBounds_toArray, List.set_cons_zero, List.set_cons_succ, i64_w, i32_w]
          rfl
        refine pure_ (i := 1) (N := some 34) (v := ?_) (a' := ?_) #[true, true, false, false, false, false, false, false, false, false, false, false, false, false, false, false, false, false] rfl rfl (any_of HT_.out (by kernel_rfl)) (fun _ _ _ h => h.1.elim) (Or.inl ⟨by rfl, ?_⟩) ?_ ?_
        rotate_left
        · intro w'
          go_simp
          with_reducible rfl
        rotate_left
        · simp only [Act.put, List.setIfInBounds_toArray, List.set_cons_zero, List.set_cons_succ, i64_w, i32_w]
          rfl
        refine pure_ (i := 2) (N := some 35) (v := ?_) (a' := ?_) #[true, true, true, false, false, false, false, false, false, false, false, false, false, false, false, false, false, false] rfl rfl (any_of HT_.out (by kernel_rfl)) (fun _ _ _ h => h.1.elim) (Or.inl ⟨by rfl, ?_⟩) ?_ ?_
        rotate_left
        · intro w'
          go_simp
          with_reducible rfl
        rotate_left
        · simp only [Act.put, List.setIfInBounds_toArray, List.set_cons_zero, List.set_cons_succ, i64_w, i32_w]
          rfl
        refine pure_ (i := 6) (N := some 39) (v := ?_) (a' := ?_) #[true, true, true, false, false, false, true, false, false, false, false, false, false, false, false, false, false, false] rfl rfl (any_of HT_.out (by kernel_rfl)) (fun _ _ _ h => h.1.elim) (Or.inl ⟨by rfl, ?_⟩) ?_ ?_
        rotate_left
        · intro w'
          go_simp
          with_reducible rfl
        rotate_left
        · simp only [Act.put, List.setIfInBounds_toArray, List.set_cons_zero, List.set_cons_succ, i64_w, i32_w]
          rfl
        refine inv_at [3, 4, 5, 7, 8, 9, 10, 11, 12, 13, 14, 15, 16, 17] (fun a0_ b a w' => ∃ (g9 : Nat) (v9 : Value) (m10_ : Value), a = putSel a0_ b [(3, 36, .pointer (some ⟨gj, 0, none⟩)), (4, 37, .pointer (some ⟨gj, 0, none⟩)), (5, 38, .slice Ao outs.length co), (7, 40, .pointer (some ⟨gj, 0, none⟩)), (8, 41, .pointer (some ⟨gj, 1, none⟩)), (9, 42, .slice Aq acc2.length cq), (10, 43, m10_), (11, 44, v9), (12, 45, .pointer (some ⟨gj, 0, none⟩)), (13, 46, .pointer (some ⟨gj, 0, none⟩)), (15, 47, .pointer (some ⟨gj, 0, none⟩)), (16, 48, .pointer (some ⟨gj, 3, none⟩))] ∧ (b 11 = false → Below W.heap.size W w') ∧ (b 10 = true → b 11 = false → ∃ w3, w' = w3.alloc (.cells #[.slice Aq acc2.length cq] 22) ∧ g9 = w3.heap.size ∧ Below W.heap.size W w3) ∧ (b 11 = true → b 14 = false → bytesK.R 22 w' gj (fun k => k ≠ gj) v9 (outs ++ [acc2]) ∧ Below gj (w2 w) w' ∧ w'.heap[gj]? = some (.cells #[.slice Ao outs.length co, .slice Aq acc2.length cq, .int .i64 fr', .bool true] 59 (0, 0))) ∧ (b 14 = true → b 17 = false → w'.heap[gj]? = some (.cells #[v9, .slice Aq acc2.length cq, .int .i64 fr', .bool true] 59 (0, 0)) ∧ bytesK.R 22 w' gj (fun k => k ≠ gj) v9 (outs ++ [acc2]) ∧ Below gj (w2 w) w') ∧ (b 17 = true → w'.heap[gj]? = some (.cells #[v9, .slice Aq acc2.length cq, .int .i64 fr', .bool false] 59 (0, 0)) ∧ bytesK.R 22 w' gj (fun k => k ≠ gj) v9 (outs ++ [acc2]) ∧ Below gj (w2 w) w') ∧ (b 10 = true → (m10_ : Value) = .slice (some ⟨g9, 0, none⟩) 1 1)) HT_.out HW_.out (by kernel_rfl) (by kernel_rfl) ?_ ?_ ?_
        · exact ⟨0, undef, .bool false, by simp only [putSel, Bool.false_eq_true, if_false], fun _ => below_drew (Below.refl _ _), fun h_ => absurd h_ (by decide), fun h_ => absurd h_ (by decide), fun h_ => absurd h_ (by decide), fun h_ => absurd h_ (by decide), fun h_ => absurd h_ (by decide)⟩
        · skip
          clear B
          refine steps_cons ?_ ?_
          · rintro b a w' ⟨g9, v9, m10_, ha, Q_B, Q_W2, Q_S1, Q_S2, Q_S3, Q_X10_⟩ hb_ hon hoff
            refine ⟨_, rfl, fun K hK => ?_⟩
            have e35 : a.tmps[35]? = some (.pointer (some ⟨gj, 0, none⟩)) := by rw [ha]; exact (putSel_off rfl).trans rfl
            replace ha := Aside0.mk ha
            have B := Aside0.mk (Q_B (hoff 11 (by kernel_rfl)))
            refine value_ (w1 := w') (v := .pointer (some ⟨gj, 0, none⟩)) (by rfl) rfl ?_ ?_
            · go_simp
              (try simp only [i64_w])
              try rfl
            refine hK.out _ _ ⟨g9, v9, m10_, (by rw [ha.out]; exact putSel_upk 0 hb_ rfl rfl rfl), Q_B, Q_W2, fun h0_ _ => absurd ((hoff 11 (by kernel_rfl)).symm.trans h0_) (by decide), fun h0_ _ => absurd ((hoff 14 (by kernel_rfl)).symm.trans h0_) (by decide), fun h0_ => absurd ((hoff 17 (by kernel_rfl)).symm.trans h0_) (by decide), Q_X10_⟩
          refine steps_cons ?_ ?_
          · rintro b a w' ⟨g9, v9, m10_, ha, Q_B, Q_W2, Q_S1, Q_S2, Q_S3, Q_X10_⟩ hb_ hon hoff
            refine ⟨_, rfl, fun K hK => ?_⟩
            have e36 : a.tmps[36]? = some (.pointer (some ⟨gj, 0, none⟩)) := by rw [ha]; exact putSel_on (e := (3, 36, .pointer (some ⟨gj, 0, none⟩))) 0 rfl rfl (hon 3 (by kernel_rfl)) rfl
            replace ha := Aside0.mk ha
            have B := Aside0.mk (Q_B (hoff 11 (by kernel_rfl)))
            refine value_ (w1 := w') (v := .pointer (some ⟨gj, 0, none⟩)) (by rfl) rfl ?_ ?_
            · go_simp
              (try simp only [i64_w])
              try rfl
            refine hK.out _ _ ⟨g9, v9, m10_, (by rw [ha.out]; exact putSel_upk 1 hb_ rfl rfl rfl), Q_B, Q_W2, fun h0_ _ => absurd ((hoff 11 (by kernel_rfl)).symm.trans h0_) (by decide), fun h0_ _ => absurd ((hoff 14 (by kernel_rfl)).symm.trans h0_) (by decide), fun h0_ => absurd ((hoff 17 (by kernel_rfl)).symm.trans h0_) (by decide), Q_X10_⟩
          refine steps_cons ?_ ?_
          · rintro b a w' ⟨g9, v9, m10_, ha, Q_B, Q_W2, Q_S1, Q_S2, Q_S3, Q_X10_⟩ hb_ hon hoff
            refine ⟨_, rfl, fun K hK => ?_⟩
            have e37 : a.tmps[37]? = some (.pointer (some ⟨gj, 0, none⟩)) := by rw [ha]; exact putSel_on (e := (4, 37, .pointer (some ⟨gj, 0, none⟩))) 1 rfl rfl (hon 4 (by kernel_rfl)) rfl
            replace ha := Aside0.mk ha
            have B := Aside0.mk (Q_B (hoff 11 (by kernel_rfl)))
            have hs := pw_cell_below B.out k0.out
            refine value_ (w1 := w') (v := .slice Ao outs.length co) (by rfl) rfl ?_ ?_
            · go_simp
              (try simp only [i64_w])
              try rfl
            refine hK.out _ _ ⟨g9, v9, m10_, (by rw [ha.out]; exact putSel_upk 2 hb_ rfl rfl rfl), Q_B, Q_W2, fun h0_ _ => absurd ((hoff 11 (by kernel_rfl)).symm.trans h0_) (by decide), fun h0_ _ => absurd ((hoff 14 (by kernel_rfl)).symm.trans h0_) (by decide), fun h0_ => absurd ((hoff 17 (by kernel_rfl)).symm.trans h0_) (by decide), Q_X10_⟩
          refine steps_cons ?_ ?_
          · rintro b a w' ⟨g9, v9, m10_, ha, Q_B, Q_W2, Q_S1, Q_S2, Q_S3, Q_X10_⟩ hb_ hon hoff
            refine ⟨_, rfl, fun K hK => ?_⟩
            have e39 : a.tmps[39]? = some (.pointer (some ⟨gj, 0, none⟩)) := by rw [ha]; exact (putSel_off rfl).trans rfl
            replace ha := Aside0.mk ha
            have B := Aside0.mk (Q_B (hoff 11 (by kernel_rfl)))
            refine value_ (w1 := w') (v := .pointer (some ⟨gj, 0, none⟩)) (by rfl) rfl ?_ ?_
            · go_simp
              (try simp only [i64_w])
              try rfl
            refine hK.out _ _ ⟨g9, v9, m10_, (by rw [ha.out]; exact putSel_upk 3 hb_ rfl rfl rfl), Q_B, fun h0_ _ => absurd ((hoff 10 (by kernel_rfl)).symm.trans h0_) (by decide), fun h0_ _ => absurd ((hoff 11 (by kernel_rfl)).symm.trans h0_) (by decide), fun h0_ _ => absurd ((hoff 14 (by kernel_rfl)).symm.trans h0_) (by decide), fun h0_ => absurd ((hoff 17 (by kernel_rfl)).symm.trans h0_) (by decide), fun h0_ => absurd ((hoff 10 (by kernel_rfl)).symm.trans h0_) (by decide)⟩
          refine steps_cons ?_ ?_
          · rintro b a w' ⟨g9, v9, m10_, ha, Q_B, Q_W2, Q_S1, Q_S2, Q_S3, Q_X10_⟩ hb_ hon hoff
            refine ⟨_, rfl, fun K hK => ?_⟩
            have e40 : a.tmps[40]? = some (.pointer (some ⟨gj, 0, none⟩)) := by rw [ha]; exact putSel_on (e := (7, 40, .pointer (some ⟨gj, 0, none⟩))) 3 rfl rfl (hon 7 (by kernel_rfl)) rfl
            replace ha := Aside0.mk ha
            have B := Aside0.mk (Q_B (hoff 11 (by kernel_rfl)))
            refine value_ (w1 := w') (v := .pointer (some ⟨gj, 1, none⟩)) (by rfl) rfl ?_ ?_
            · go_simp
              (try simp only [i64_w])
              try rfl
            refine hK.out _ _ ⟨g9, v9, m10_, (by rw [ha.out]; exact putSel_upk 4 hb_ rfl rfl rfl), Q_B, fun h0_ _ => absurd ((hoff 10 (by kernel_rfl)).symm.trans h0_) (by decide), fun h0_ _ => absurd ((hoff 11 (by kernel_rfl)).symm.trans h0_) (by decide), fun h0_ _ => absurd ((hoff 14 (by kernel_rfl)).symm.trans h0_) (by decide), fun h0_ => absurd ((hoff 17 (by kernel_rfl)).symm.trans h0_) (by decide), fun h0_ => absurd ((hoff 10 (by kernel_rfl)).symm.trans h0_) (by decide)⟩
          refine steps_cons ?_ ?_
          · rintro b a w' ⟨g9, v9, m10_, ha, Q_B, Q_W2, Q_S1, Q_S2, Q_S3, Q_X10_⟩ hb_ hon hoff
            refine ⟨_, rfl, fun K hK => ?_⟩
            have e41 : a.tmps[41]? = some (.pointer (some ⟨gj, 1, none⟩)) := by rw [ha]; exact putSel_on (e := (8, 41, .pointer (some ⟨gj, 1, none⟩))) 4 rfl rfl (hon 8 (by kernel_rfl)) rfl
            replace ha := Aside0.mk ha
            have B := Aside0.mk (Q_B (hoff 11 (by kernel_rfl)))
            have hs := pw_cell_below B.out k1.out
            refine value_ (w1 := w') (v := .slice Aq acc2.length cq) (by rfl) rfl ?_ ?_
            · go_simp
              (try simp only [i64_w])
              try rfl
            refine hK.out _ _ ⟨g9, v9, m10_, (by rw [ha.out]; exact putSel_upk 5 hb_ rfl rfl rfl), Q_B, fun h0_ _ => absurd ((hoff 10 (by kernel_rfl)).symm.trans h0_) (by decide), fun h0_ _ => absurd ((hoff 11 (by kernel_rfl)).symm.trans h0_) (by decide), fun h0_ _ => absurd ((hoff 14 (by kernel_rfl)).symm.trans h0_) (by decide), fun h0_ => absurd ((hoff 17 (by kernel_rfl)).symm.trans h0_) (by decide), fun h0_ => absurd ((hoff 10 (by kernel_rfl)).symm.trans h0_) (by decide)⟩
          refine steps_cons ?_ ?_
          · rintro b a w' ⟨g9, v9, m10_, ha, Q_B, Q_W2, Q_S1, Q_S2, Q_S3, Q_X10_⟩ hb_ hon hoff
            refine ⟨_, rfl, fun K hK => ?_⟩
            have e42 : a.tmps[42]? = some (.slice Aq acc2.length cq) := by rw [ha]; exact putSel_on (e := (9, 42, .slice Aq acc2.length cq)) 5 rfl rfl (hon 9 (by kernel_rfl)) rfl
            replace ha := Aside0.mk ha
            have B := Aside0.mk (Q_B (hoff 11 (by kernel_rfl)))
            refine value_ (w1 := w'.alloc (.cells #[.slice Aq acc2.length cq] 22)) (v := .slice (some ⟨w'.heap.size, 0, none⟩) 1 1) (by rfl) rfl (by go_simp; try rfl) ?_
            refine hK.out _ _ ⟨w'.heap.size, v9, (.slice (some ⟨w'.heap.size, 0, none⟩) 1 1), (by rw [ha.out]; exact putSel_upk 6 hb_ rfl rfl rfl), fun _ => B.out.alloc B.out.size _, fun _ _ => ⟨w', rfl, rfl, B.out⟩, fun h0_ _ => absurd ((hoff 11 (by kernel_rfl)).symm.trans h0_) (by decide), fun h0_ _ => absurd ((hoff 14 (by kernel_rfl)).symm.trans h0_) (by decide), fun h0_ => absurd ((hoff 17 (by kernel_rfl)).symm.trans h0_) (by decide), fun _ => rfl⟩
          refine steps_cons ?_ ?_
          · rintro b a w' ⟨g9, v9, m10_, ha, Q_B, Q_W2, Q_S1, Q_S2, Q_S3, Q_X10_⟩ hb_ hon hoff
            refine ⟨_, rfl, fun K hK => ?_⟩
            have e38 : a.tmps[38]? = some (.slice Ao outs.length co) := by rw [ha]; exact putSel_on (e := (5, 38, .slice Ao outs.length co)) 2 rfl rfl (hon 5 (by kernel_rfl)) rfl
            have e43 : a.tmps[43]? = some (m10_) := by rw [ha]; exact putSel_on (e := (10, 43, m10_)) 6 rfl rfl (hon 10 (by kernel_rfl)) rfl
            rw [Q_X10_ (hon 10 (by kernel_rfl))] at e43
            replace ha := Aside0.mk ha
            have B := Aside0.mk (Q_B hb_)
            have W2 := Aside0.mk (Q_W2 (hon 10 (by kernel_rfl)) hb_)
            obtain ⟨w3, rfl, hg9, hB2⟩ := W2.out
            rw [hg9] at e43
            refine Kd.R_append_step bytesK (w0 := w2 w) (W := w3) gj (by rfl) _ _ 45 22 _ 24 rfl Try.underlying45 info_bs rfl (by decide) (by decide) (.slice Ao outs.length co) outs acc2 [.slice Aq acc2.length cq] (fun k => k ≠ gj) (fun k => k ≠ gj ∧ some k ≠ (Value.slice Ao outs.length co).ownBlock) (eval_of e38) (eval_of e43) (HEL.out w3 hB2) (fun k hk => hk) (fun k hk => by have := hB2.size; omega) (Kd.R_mono (Kd.R_below HRO.out hB2) (fun k hk => hk.1)) (HBB.out.trans (hB2.mono (by omega))) (by have := hB2.size; omega) (by omega) ?_
            intro v1 w1 hR1 hB1 hG1 hat1
            refine hK.out _ _ ⟨g9, v1, m10_, (by rw [ha.out]; exact putSel_upk 7 hb_ rfl rfl rfl), fun h0_ => absurd ((up_self b 11).symm.trans h0_) (by decide), fun _ h1_ => absurd ((up_self b 11).symm.trans h1_) (by decide), fun _ _ => ⟨hR1, hB1, blk_grown (HGG.out w3 hB2) hG1 (fun e => HNG.out e.symm)⟩, fun h0_ _ => absurd ((hoff 14 (by kernel_rfl)).symm.trans h0_) (by decide), fun h0_ => absurd ((hoff 17 (by kernel_rfl)).symm.trans h0_) (by decide), Q_X10_⟩
          refine steps_cons ?_ ?_
          · rintro b a w' ⟨g9, v9, m10_, ha, Q_B, Q_W2, Q_S1, Q_S2, Q_S3, Q_X10_⟩ hb_ hon hoff
            refine ⟨_, rfl, fun K hK => ?_⟩
            have e33 : a.tmps[33]? = some (.pointer (some ⟨gj, 0, none⟩)) := by rw [ha]; exact (putSel_off rfl).trans rfl
            replace ha := Aside0.mk ha
            have S1 := Aside0.mk (Q_S1 (hon 11 (by kernel_rfl)) (hoff 14 (by kernel_rfl)))
            refine value_ (w1 := w') (v := .pointer (some ⟨gj, 0, none⟩)) (by rfl) rfl ?_ ?_
            · go_simp
              (try simp only [i64_w])
              try rfl
            refine hK.out _ _ ⟨g9, v9, m10_, (by rw [ha.out]; exact putSel_upk 8 hb_ rfl rfl rfl), fun h0_ => absurd ((hon 11 (by kernel_rfl)).symm.trans h0_) (by decide), fun _ h1_ => absurd ((hon 11 (by kernel_rfl)).symm.trans h1_) (by decide), Q_S1, fun h0_ _ => absurd ((hoff 14 (by kernel_rfl)).symm.trans h0_) (by decide), fun h0_ => absurd ((hoff 17 (by kernel_rfl)).symm.trans h0_) (by decide), Q_X10_⟩
          refine steps_cons ?_ ?_
          · rintro b a w' ⟨g9, v9, m10_, ha, Q_B, Q_W2, Q_S1, Q_S2, Q_S3, Q_X10_⟩ hb_ hon hoff
            refine ⟨_, rfl, fun K hK => ?_⟩
            have e45 : a.tmps[45]? = some (.pointer (some ⟨gj, 0, none⟩)) := by rw [ha]; exact putSel_on (e := (12, 45, .pointer (some ⟨gj, 0, none⟩))) 8 rfl rfl (hon 12 (by kernel_rfl)) rfl
            replace ha := Aside0.mk ha
            have S1 := Aside0.mk (Q_S1 (hon 11 (by kernel_rfl)) (hoff 14 (by kernel_rfl)))
            refine value_ (w1 := w') (v := .pointer (some ⟨gj, 0, none⟩)) (by rfl) rfl ?_ ?_
            · go_simp
              (try simp only [i64_w])
              try rfl
            refine hK.out _ _ ⟨g9, v9, m10_, (by rw [ha.out]; exact putSel_upk 9 hb_ rfl rfl rfl), fun h0_ => absurd ((hon 11 (by kernel_rfl)).symm.trans h0_) (by decide), fun _ h1_ => absurd ((hon 11 (by kernel_rfl)).symm.trans h1_) (by decide), Q_S1, fun h0_ _ => absurd ((hoff 14 (by kernel_rfl)).symm.trans h0_) (by decide), fun h0_ => absurd ((hoff 17 (by kernel_rfl)).symm.trans h0_) (by decide), Q_X10_⟩
          refine steps_cons ?_ ?_
          · rintro b a w' ⟨g9, v9, m10_, ha, Q_B, Q_W2, Q_S1, Q_S2, Q_S3, Q_X10_⟩ hb_ hon hoff
            refine ⟨_, rfl, fun K hK => ?_⟩
            have e46 : a.tmps[46]? = some (.pointer (some ⟨gj, 0, none⟩)) := by rw [ha]; exact putSel_on (e := (13, 46, .pointer (some ⟨gj, 0, none⟩))) 9 rfl rfl (hon 13 (by kernel_rfl)) rfl
            have e44 : a.tmps[44]? = some (v9) := by rw [ha]; exact putSel_on (e := (11, 44, v9)) 7 rfl rfl (hon 11 (by kernel_rfl)) rfl
            replace ha := Aside0.mk ha
            have S1 := Aside0.mk (Q_S1 (hon 11 (by kernel_rfl)) hb_)
            obtain ⟨hR1, hB1, hG1⟩ := S1.out
            obtain ⟨A7, c7, hv9⟩ := Kd.R_slice hR1
            have hs := blk_cell hG1 0
            have hf := blk_frozen hG1 0
            refine skip_ (w1 := w'.setCell ⟨gj, 0, none⟩ v9) (by rfl) rfl (by generalize (outs ++ [acc2]).length = zl at hv9; rw [hv9] at e44 ⊢; go_simp; try rfl) ?_
            refine hK.out _ _ ⟨g9, v9, m10_, (by rw [ha.out]; exact putSel_none (v := undef) rfl), fun h0_ => absurd ((hon 11 (by kernel_rfl)).symm.trans h0_) (by decide), fun _ h1_ => absurd ((hon 11 (by kernel_rfl)).symm.trans h1_) (by decide), fun _ h1_ => absurd ((up_self b 14).symm.trans h1_) (by decide), fun _ _ => ⟨blk_put hG1 0 v9 rfl, Kd.R_far hR1 (p := ⟨gj, 0, none⟩) (fun k hk => hk) _, hB1.setCell (p := ⟨gj, 0, none⟩) (Nat.le_refl _) _⟩, fun h0_ => absurd ((hoff 17 (by kernel_rfl)).symm.trans h0_) (by decide), Q_X10_⟩
          refine steps_cons ?_ ?_
          · rintro b a w' ⟨g9, v9, m10_, ha, Q_B, Q_W2, Q_S1, Q_S2, Q_S3, Q_X10_⟩ hb_ hon hoff
            refine ⟨_, rfl, fun K hK => ?_⟩
            have e34 : a.tmps[34]? = some (.pointer (some ⟨gj, 0, none⟩)) := by rw [ha]; exact (putSel_off rfl).trans rfl
            replace ha := Aside0.mk ha
            have S2 := Aside0.mk (Q_S2 (hon 14 (by kernel_rfl)) (hoff 17 (by kernel_rfl)))
            refine value_ (w1 := w') (v := .pointer (some ⟨gj, 0, none⟩)) (by rfl) rfl ?_ ?_
            · go_simp
              (try simp only [i64_w])
              try rfl
            refine hK.out _ _ ⟨g9, v9, m10_, (by rw [ha.out]; exact putSel_upk 10 hb_ rfl rfl rfl), fun h0_ => absurd ((hon 11 (by kernel_rfl)).symm.trans h0_) (by decide), fun _ h1_ => absurd ((hon 11 (by kernel_rfl)).symm.trans h1_) (by decide), fun _ h1_ => absurd ((hon 14 (by kernel_rfl)).symm.trans h1_) (by decide), Q_S2, fun h0_ => absurd ((hoff 17 (by kernel_rfl)).symm.trans h0_) (by decide), Q_X10_⟩
          refine steps_cons ?_ ?_
          · rintro b a w' ⟨g9, v9, m10_, ha, Q_B, Q_W2, Q_S1, Q_S2, Q_S3, Q_X10_⟩ hb_ hon hoff
            refine ⟨_, rfl, fun K hK => ?_⟩
            have e47 : a.tmps[47]? = some (.pointer (some ⟨gj, 0, none⟩)) := by rw [ha]; exact putSel_on (e := (15, 47, .pointer (some ⟨gj, 0, none⟩))) 10 rfl rfl (hon 15 (by kernel_rfl)) rfl
            replace ha := Aside0.mk ha
            have S2 := Aside0.mk (Q_S2 (hon 14 (by kernel_rfl)) (hoff 17 (by kernel_rfl)))
            refine value_ (w1 := w') (v := .pointer (some ⟨gj, 3, none⟩)) (by rfl) rfl ?_ ?_
            · go_simp
              (try simp only [i64_w])
              try rfl
            refine hK.out _ _ ⟨g9, v9, m10_, (by rw [ha.out]; exact putSel_upk 11 hb_ rfl rfl rfl), fun h0_ => absurd ((hon 11 (by kernel_rfl)).symm.trans h0_) (by decide), fun _ h1_ => absurd ((hon 11 (by kernel_rfl)).symm.trans h1_) (by decide), fun _ h1_ => absurd ((hon 14 (by kernel_rfl)).symm.trans h1_) (by decide), Q_S2, fun h0_ => absurd ((hoff 17 (by kernel_rfl)).symm.trans h0_) (by decide), Q_X10_⟩
          refine steps_cons ?_ ?_
          · rintro b a w' ⟨g9, v9, m10_, ha, Q_B, Q_W2, Q_S1, Q_S2, Q_S3, Q_X10_⟩ hb_ hon hoff
            refine ⟨_, rfl, fun K hK => ?_⟩
            have e48 : a.tmps[48]? = some (.pointer (some ⟨gj, 3, none⟩)) := by rw [ha]; exact putSel_on (e := (16, 48, .pointer (some ⟨gj, 3, none⟩))) 11 rfl rfl (hon 16 (by kernel_rfl)) rfl
            replace ha := Aside0.mk ha
            have S2 := Aside0.mk (Q_S2 (hon 14 (by kernel_rfl)) hb_)
            obtain ⟨hG1, hR1, hB1⟩ := S2.out
            have hs := blk_cell hG1 3
            have hf := blk_frozen hG1 3
            refine skip_ (w1 := w'.setCell ⟨gj, 3, none⟩ (.bool false)) (by rfl) rfl (by go_simp; try rfl) ?_
            refine hK.out _ _ ⟨g9, v9, m10_, (by rw [ha.out]; exact putSel_none (v := undef) rfl), fun h0_ => absurd ((hon 11 (by kernel_rfl)).symm.trans h0_) (by decide), fun _ h1_ => absurd ((hon 11 (by kernel_rfl)).symm.trans h1_) (by decide), fun _ h1_ => absurd ((hon 14 (by kernel_rfl)).symm.trans h1_) (by decide), fun _ h1_ => absurd ((up_self b 17).symm.trans h1_) (by decide), fun _ => ⟨blk_put hG1 3 (.bool false) rfl, Kd.R_far hR1 (p := ⟨gj, 3, none⟩) (fun k hk => hk) _, hB1.setCell (p := ⟨gj, 3, none⟩) (Nat.le_refl _) _⟩, Q_X10_⟩
          exact steps_nil
        rintro b a w' hall ⟨g9, v9, m10_, ha, Q_B, Q_W2, Q_S1, Q_S2, Q_S3, Q_X10_⟩
        clear B
        have hb3_ := hall 3 (by kernel_rfl)
        have hb4_ := hall 4 (by kernel_rfl)
        have hb5_ := hall 5 (by kernel_rfl)
        have hb7_ := hall 7 (by kernel_rfl)
        have hb8_ := hall 8 (by kernel_rfl)
        have hb9_ := hall 9 (by kernel_rfl)
        have hb10_ := hall 10 (by kernel_rfl)
        have hb11_ := hall 11 (by kernel_rfl)
        have hb12_ := hall 12 (by kernel_rfl)
        have hb13_ := hall 13 (by kernel_rfl)
        have hb14_ := hall 14 (by kernel_rfl)
        have hb15_ := hall 15 (by kernel_rfl)
        have hb16_ := hall 16 (by kernel_rfl)
        have hb17_ := hall 17 (by kernel_rfl)
        subst ha
        obtain rfl := Q_X10_ hb10_
        simp only [putSel, hb3_, hb4_, hb5_, hb7_, hb8_, hb9_, hb10_, hb11_, hb12_, hb13_, hb14_, hb15_, hb16_, hb17_, if_true, Act.put, List.setIfInBounds_toArray, List.set_cons_zero, List.set_cons_succ]
        clear Q_B
        clear Q_W2
        clear Q_S1
        clear Q_S2
        have S3 := Aside0.mk (Q_S3 hb17_)
        clear Q_S3
        clear hall hb3_ hb4_ hb5_ hb7_ hb8_ hb9_ hb10_ hb11_ hb12_ hb13_ hb14_ hb15_ hb16_ hb17_
        refine ⟨trivial, ?_⟩
        obtain ⟨hg9, hR9, hB9⟩ := S3.out
        have HG9 := Lib.hid hg9
        have HR9 := Lib.hid hR9
        have HB9 := Lib.hid hB9
        clear hg9 hR9 hB9 S3
        subst hgj
        go_wp2
        obtain ⟨A9, c9, rfl⟩ := Kd.R_slice HR9.out
        go_roundw
        case rel => exact ⟨_, _, _, ⟨k + 1, by omega, rfl, ⟨⟨_, _, _, _, _, _, _, false, [], outs ++ [acc2], HG9.out, Kd.R_mono HR9.out (fun k hk => ⟨hk, fun e => by cases e⟩), fun e => (by cases e), fun _ => rfl, HRUN.out, by simp, by simp; omega⟩, HB9.out⟩⟩, rfl, rfl, by go_num⟩
        case measure => simp [intOf]; omega
      | false =>
        rw [hb2] at x1 HP HRUN
        simp only [Bool.false_eq_true, if_false] at HRUN
        clear hb2
        generalize p.2.2 = data at *
        generalize p.1 = b1 at *
        go_wp2_with fail
        refine (HP.out _).mono ?_
        rintro e w1 ⟨rfl, v', fr', hg1, hR1, hO1, hB1, hOn1⟩
        have hbx := hOn1.blk (blk_new wr (.cells #[.bool b1, .bool false, .slice A2 data.length c2] 42)) (fun h => by
          rcases h with h | h
          · omega
          · have := HVO.out _ h.1 h.2; omega)
        obtain ⟨Aq, cq, rfl⟩ := Kd.R_slice hR1
        have q1 := blk_cell hbx 1
        have kk1 := blk_cell hg1 1
        have hbg : ¬ ((acc ++ data).length : Int) > 65536 := by have := HAL.out; omega
        have HB1 := Lib.hid hB1
        have HR1 := Lib.hid hR1
        have HG1 := Lib.hid hg1
        have HO1 := Lib.hid hO1
        clear hg1 hR1 hB1 hO1 hOn1 hbx HP HVO HG HB HG2 x0 x1 x2
        go_wp2
        go_roundw
        case rel => exact ⟨k + 1, by omega, by go_num, ⟨⟨_, _, _, _, _, _, _, true, acc ++ data, outs, HG1.out, Kd.R_mono HO1.out (fun k hk => ⟨hk.1, fun _ => hk.2⟩), fun _ => HR1.out, fun e => (by cases e), HRUN.out, HAL.out, by omega⟩, HB1.out⟩⟩
        case measure => simp [intOf]; omega
    · obtain rfl : k = l.length := by omega
      rw [List.drop_length] at hrun
      cases inb with
      | true => cases hrun
      | false =>
        have hRo : outs = R := by
          have : some outs = some R := hrun
          injection this
        subst hRo
        obtain ⟨Ao1, co1, hvo1⟩ := Kd.R_slice hO
        injection hvo1 with hvo1 hvo2 hvo3
        subst hvo1 hvo2 hvo3
        have HRO := Lib.hid (Kd.R_mono hO (ok' := fun k => k ≠ w.heap.size + 2) (fun k hk => hk.1))
        have k0 := blk_cell hg 0
        have k3 := blk_cell hg 3
        obtain ⟨h1, h2⟩ := w2_kept hB
        have m1 := blk_cell h1 0
        have m2 := blk_cell h2 0
        have f1 := blk_frozen h1 0
        have f2 := blk_frozen h2 0
        have H1 := Lib.hid h1
        have H2 := Lib.hid h2
        have HB := Lib.hid hB
        clear h1 h2 hg hO hP hB hrun hacc hlt HR hal
        go_wp2
        refine leaves_cons (f := 20) (args := #[.pointer (some ⟨w.heap.size, 0, none⟩), .pointer (some ⟨w.heap.size + 1, 0, none⟩)]) (by simp) (by simp [go_sem]) ?_
        refine (caught_idle _ _ _).mono ?_
        rintro e u' w'' ⟨rfl, rfl, rfl⟩
        have q1 := blk_far (p := ⟨w.heap.size + 1, 0, none⟩) (blk_put H1.out 0 (.int .i64 0) rfl) (by dsimp only; omega) (.int .i64 0)
        have q2 := blk_put (blk_far (p := ⟨w.heap.size, 0, none⟩) H2.out (by dsimp only; omega) (.int .i64 0)) 0 (.int .i64 0) rfl
        refine ⟨_, runs_results _ _ _ _ _ _ _ _ rfl rfl rfl rfl q1 q2, .slice Ao outs.length co, rfl, ?_, ?_⟩
        · have hr := Kd.R_mono (Kd.R_bound HRO.out) (ok' := fun k => w.heap.size + 2 ≤ k) (fun k hk => hk.2.1)
          have hr2 := Kd.R_far (p := ⟨w.heap.size + 1, 0, none⟩) (Kd.R_far (p := ⟨w.heap.size, 0, none⟩) hr (fun k hk => by dsimp only; omega) (.int .i64 0)) (fun k hk => by dsimp only; omega) (.int .i64 0)
          exact Kd.R_mono (Kd.R_lower hr2 (by omega)) (fun _ _ => trivial)
        · have hb1 := w2_out HB.out
          exact (hb1.setCell (p := ⟨w.heap.size, 0, none⟩) (Nat.le_refl _) _).setCell (p := ⟨w.heap.size + 1, 0, none⟩) (by dsimp only; omega) _
end Go.Proofs.Ytgfkdebbdjojmaa.Frag
