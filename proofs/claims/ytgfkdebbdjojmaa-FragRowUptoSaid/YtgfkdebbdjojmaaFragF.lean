/- Join: walked. -/
import Derived.Test.YtgfkdebbdjojmaaFragE
namespace Go.Proofs.Ytgfkdebbdjojmaa.Frag
open Go.RowKit Go.Proofs.YtgfkdebbdjojmaaW.PrintWords Go.Proofs.Ytgfkdebbdjojmaa.Base
set_option linter.unusedVariables false
set_option linter.unusedSimpArgs false
def joinR : Nat → Bool → List UInt8 → List Pc → Except (Nat × Int) (List UInt8)
  | _, _, acc, [] => .ok acc
  | i, inb, acc, p :: r => if p.2.2.length = 0 ∨ p.1 = inb then .error (i, 150) else if p.2.1 = true ∧ r ≠ [] then .error (i, 150) else joinR (i + 1) true (acc ++ p.2.2) r
def joinS (l : List Pc) : List UInt8 × Nat × Int :=
  match joinR 0 false [] l with
  | .error (i, c) => ([], i, c)
  | .ok acc => if l.length = 0 ∨ (l.getD (l.length - 1) zPc).2.1 = false then ([], l.length, 150) else if acc.length > 65536 then ([], 0, 2) else (acc, 0, 0)
def JoinPost (l : List Pc) (w : World) (e : Ending) (w' : World) : Prop :=
  ∃ v, e = .returned (.tuple #[v, .int .i64 ((joinS l).2.1 : Int), .int .i64 (joinS l).2.2]) ∧ byte.R 5 w' w.heap.size (fun _ => True) v (joinS l).1 ∧ Below w.heap.size w w'
def w2 (w : World) : World := (w.alloc (.cells #[.int .i64 0] 3)).alloc (.cells #[.int .i64 0] 24)
theorem w2_size (w : World) : (w2 w).heap.size = w.heap.size + 2 := by simp [w2]
theorem w2_below (w : World) : Below w.heap.size w (w2 w) := below_alloc (below_alloc (Below.refl _ _) _) _
theorem w2_out {w W : World} (h : Below (w.heap.size + 2) (w2 w) W) : Below w.heap.size w W := (w2_below w).trans (h.mono (by omega))
theorem w2_kept {w W : World} (h : Below (w.heap.size + 2) (w2 w) W) : W.heap[w.heap.size]? = some (.cells #[.int .i64 0] 3 (0, 0)) ∧ W.heap[w.heap.size + 1]? = some (.cells #[.int .i64 0] 24 (0, 0)) := by
  have s1 : (w.alloc (.cells #[.int .i64 0] 3)).heap.size = w.heap.size + 1 := by simp
  have h0 := blk_new w (.cells #[.int .i64 0] 3)
  have h1 := blk_new (w.alloc (.cells #[.int .i64 0] 3)) (.cells #[.int .i64 0] 24)
  rw [s1] at h1
  exact ⟨(h.block _ (by omega)).trans (blk_alloc h0 _), (h.block _ (by omega)).trans h1⟩
theorem join_results (tmps : Array Value) (w : World) (a b : Nat) (v0 v1 v2 : Value) (t0 : tmps.getD 2 undef = v0) (t1 : tmps.getD 3 undef = .pointer (some ⟨a, 0, none⟩)) (t2 : tmps.getD 4 undef = .pointer (some ⟨b, 0, none⟩))
    (h1 : w.heap[a]? = some (.cells #[v1] 3 (0, 0))) (h2 : w.heap[b]? = some (.cells #[v2] 24 (0, 0))) :
    (results Try.f14 tmps).run Try.prog w = .ok (.tuple #[v0, v1, v2]) w := by
  have k1 := blk_cell h1 0
  have k2 := blk_cell h2 0
  rw [Array.getD_eq_getD_getElem?] at t0 t1 t2
  simp [results, Try.results14, go_sem, t0, t1, t2, k1, k2]
theorem join_leave {l : List Pc} {w W : World} {p : Nat} {code : Int} {tmps : Array Value} (t0 : tmps.getD 2 undef = .slice none 0 0) (t1 : tmps.getD 3 undef = .pointer (some ⟨w.heap.size, 0, none⟩)) (t2 : tmps.getD 4 undef = .pointer (some ⟨w.heap.size + 1, 0, none⟩)) (hS : joinS l = ([], p, code)) (hB : Below (w.heap.size + 2) (w2 w) W) :
    bodyPostD Try.prog Try.f14 (JoinPost l w) (Exit.panic [{ v := faultV p code, recovered := false }]) { tmps := tmps, defers := [{ target := .fn (.func 20) #[], args := #[.pointer (some ⟨w.heap.size, 0, none⟩), .pointer (some ⟨w.heap.size + 1, 0, none⟩)] }] } W := by
  refine leaves_cons (f := 20) (args := #[.pointer (some ⟨w.heap.size, 0, none⟩), .pointer (some ⟨w.heap.size + 1, 0, none⟩)]) (by simp) (by simp [go_sem]) ?_
  obtain ⟨h1, h2⟩ := w2_kept hB
  refine (caught_fault w.heap.size (w.heap.size + 1) p code [] _ _ _ _ _ h1 h2 (by omega)).mono ?_
  rintro e u' w'' ⟨rfl, rfl, h1, h2, hO⟩
  refine ⟨_, join_results _ _ _ _ _ _ _ t0 t1 t2 h1 h2, .slice none 0 0, ?_, ?_, ?_⟩
  · rw [hS]
  · rw [hS]
    exact Kd.R_nil _ _ _ _ _
  · have hb1 := w2_out hB
    exact hb1.trans (hO.below hb1.size (fun k hk => by omega))
/-- While pieces are joined: the state behind k of them. -/
structure JoinI (w : World) (l : List Pc) (k : Nat) (W : World) : Prop where
  out : ∃ vp fr acc, W.heap[w.heap.size + 2]? = some (.cells #[.slice none 0 0, vp, .int .i64 fr, .bool (decide (0 < k))] 59 (0, 0)) ∧ byte.R 5 W (w.heap.size + 2) (fun b => b ≠ w.heap.size + 2) vp acc ∧ joinR 0 false [] l = joinR k (decide (0 < k)) acc (l.drop k) ∧ acc.length = ((l.take k).map (·.2.2.length)).sum
  below : Below (w.heap.size + 2) (w2 w) W
theorem joinI_start (w : World) (l : List Pc) : JoinI w l 0 ((w2 w).alloc (.cells #[.slice none 0 0, .slice none 0 0, .int .i64 0, .bool false] 59)) := by
  have h0 := blk_new (w2 w) (.cells #[.slice none 0 0, .slice none 0 0, .int .i64 0, .bool false] 59)
  rw [w2_size] at h0
  exact ⟨⟨_, _, [], h0, Kd.R_nil _ _ _ _ _, rfl, rfl⟩, (Below.refl (w.heap.size + 2) (w2 w)).alloc (by rw [w2_size]; omega) _⟩
theorem drop_pc (l : List Pc) (i : Nat) (h : i < l.length) : l.drop i = l.getD i zPc :: l.drop (i + 1) := by
  rw [List.drop_eq_getElem_cons h]
  simp [List.getD_eq_getElem?_getD, h]
theorem joinR_step (i : Nat) (inb : Bool) (acc : List UInt8) (p : Pc) (r : List Pc) : joinR i inb acc (p :: r) = if p.2.2.length = 0 ∨ p.1 = inb then .error (i, 150) else if p.2.1 = true ∧ r ≠ [] then .error (i, 150) else joinR (i + 1) true (acc ++ p.2.2) r := by
  conv => lhs; unfold joinR
theorem sum_take (l : List Pc) (k : Nat) (h : k < l.length) : ((l.take (k + 1)).map (·.2.2.length)).sum = ((l.take k).map (·.2.2.length)).sum + (l.getD k zPc).2.2.length := by
  rw [List.take_succ_eq_append_getElem h, List.map_append, List.sum_append]
  simp [List.getD_eq_getElem?_getD, h]
theorem sum_take_le (l : List Pc) (k : Nat) : ((l.take k).map (·.2.2.length)).sum ≤ (l.map (·.2.2.length)).sum := by
  conv => rhs; rw [← List.take_append_drop k l, List.map_append, List.sum_append]
  omega
/-- A piece that is not at fault. -/
theorem put_step (wB w : World) (gj i : Nat) (p : Pc) (A : Option Addr) (c : Nat) (vo vp : Value) (fr : Int) (inb : Bool) (acc : List UInt8) (hg : w.heap[gj]? = some (.cells #[vo, vp, .int .i64 fr, .bool inb] 59 (0, 0))) (hnf : ¬ (p.2.2.length = 0 ∨ p.1 = inb))
    (hC : byte.C w A p.2.2.length p.2.2) (hfar : ∀ ad, A = some ad → ad.block ≠ gj) (hR : byte.R 5 w gj (fun k => k ≠ gj) vp acc) (hacc : inb = false → acc = []) (hB : Below gj wB w) (hbw : wB.heap.size = gj) (hlen : acc.length + p.2.2.length ≤ 140737488355328) :
    Calls Try.prog 21 #[.pointer (some ⟨gj, 0, none⟩), .int .i64 (i : Int), pcV p A c] w fun e w' => e = .returned (.tuple #[]) ∧ ∃ v' fr', w'.heap[gj]? = some (.cells #[vo, v', .int .i64 fr', .bool true] 59 (0, 0)) ∧ byte.R 5 w' gj (fun k => k ≠ gj) v' (acc ++ p.2.2) ∧ Below gj wB w' ∧ Only (fun k => k = gj ∨ some k = vp.ownBlock) w w' := by
  have hl : p.2.2.length ≠ 0 := fun e => hnf (Or.inl e)
  cases inb with
  | false =>
    have hb : p.1 = true := by
      cases h : p.1 with
      | true => rfl
      | false => exact absurd (Or.inr h) hnf
    obtain ⟨A0, c0, rfl⟩ := Kd.R_slice hR
    refine (put_begin w gj i p A c vo _ fr hg hl hb hC (by omega) ⟨A0, acc.length, c0, rfl⟩ hfar).mono fun e w' h => ?_
    obtain ⟨he, v', h1, h2, h3⟩ := h
    rw [hacc rfl, List.nil_append]
    have hlt := blk_lt hg
    exact ⟨he, v', _, h1, Kd.R_mono (Kd.R_lower (Kd.R_bound h2) (by omega)) (fun k hk => by have := hk.2.1; omega), hB.trans (h3.below (by omega) (fun k hk => by omega)), h3.mono (fun k _ hk => Or.inl hk)⟩
  | true =>
    have hb : p.1 = false := by
      cases h : p.1 with
      | false => rfl
      | true => exact absurd (Or.inr h) hnf
    refine (put_more wB w gj gj i p A c vo vp fr acc hg hl hb hC hR (Nat.le_refl _) hB (by omega) hlen).mono fun e w' h => ?_
    obtain ⟨he, v', h1, h2, h3, h4⟩ := h
    exact ⟨he, v', _, h1, h2, h3, h4⟩
set_option maxRecDepth 100000 in
set_option maxHeartbeats 2000000 in
theorem join_calls (w : World) (A : Option Addr) (c : Nat) (l : List Pc) (h : Kd.C pcK w A l.length l) (hsum : (l.map (·.2.2.length)).sum ≤ 140737488355328) (hll : l.length ≤ 140737488355328) :
    Calls Try.prog 14 #[.slice A l.length c] w (JoinPost l w) := by
  have H := Lib.hid h
  clear h
  go_enter_defers Try.func14, Try.ntmps14
  go_wp2
  go_loopw [12] (fun v12 wr => ∃ k : Nat, k ≤ l.length ∧ v12 = .int .i64 k ∧ JoinI w l k wr) (fun v12 _ => l.length - (intOf v12).toNat)
  case atStart => exact ⟨0, by omega, rfl, joinI_start w l⟩
  case round =>
    obtain ⟨k, hk, rfl, ⟨⟨vp, fr, acc, hg, hR, hrun, hacc⟩, hB⟩⟩ := hrel
    by_cases hlt : k < l.length
    · obtain ⟨ad, A2, c2, rfl, x0, x1, x2, l2, g2⟩ := at_pc H.out k hlt
      have hBw := w2_out hB
      have hstep := joinR_step k (decide (0 < k)) acc (l.getD k zPc) (l.drop (k + 1))
      rw [← drop_pc l k hlt, ← hrun] at hstep
      have hlast : l.drop (k + 1) ≠ [] ↔ (k : Int) < (l.length : Int) - 1 := by
        rw [Ne, List.drop_eq_nil_iff]
        omega
      have hst := sum_take l k hlt
      have hsl := sum_take_le l (k + 1)
      have hdat : 0 < (l.getD k zPc).2.2.length → ∀ a2, A2 = some a2 → a2.block ≠ w.heap.size + 2 := by
        intro h0 a2 e
        obtain ⟨a3, e3, hc3⟩ := byte_at g2 0 h0
        rw [e] at e3
        injection e3 with e3
        subst e3
        have := World.block_lt_of_cell? w _ hc3
        rw [add_block] at this
        omega
      have HL := Lib.hid hlast
      replace x0 := pw_cell_below hBw x0
      replace x1 := pw_cell_below hBw x1
      replace x2 := pw_cell_below hBw x2
      have HG2 := Lib.hid (Kd.C_below g2 hBw)
      have HG := Lib.hid hg
      have HR := Lib.hid hR
      have HB := Lib.hid hB
      have hsz : w.heap.size + 2 < wr.heap.size := blk_lt hg
      generalize l.getD k zPc = p at *
      have HDT := Lib.hid hdat
      have HST := Lib.hid hstep
      have HAC := Lib.hid hacc
      clear hg hR hB hBw g2 hdat hrun hlast hstep l2 hacc
      by_cases hf : p.2.2.length = 0 ∨ p.1 = decide (0 < k)
      · have hs : joinS l = ([], k, 150) := by
          unfold joinS
          rw [HST.out, if_pos hf]
        have HP := Lib.hid (fun o => put_fault (wr.alloc o) (w.heap.size + 2) k p A2 c2 _ _ _ _ (blk_alloc HG.out o) hf (by omega))
        unfold pcV at HP
        have HS := Lib.hid hs
        clear hf hs
        generalize p.2.2.length = n at *
        generalize p.1 = b1 at *
        generalize p.2.1 = b2 at *
        go_wp2_with fail
        refine (HP.out _).mono ?_
        rintro e w1 ⟨rfl, hB1⟩
        have HB1 := Lib.hid (below_then (HB.out.alloc (by omega) _) (by simp; omega) hB1)
        clear hB1
        go_wp2
        exact join_leave rfl rfl rfl HS.out HB1.out
      · have hl0 : p.2.2.length ≠ 0 := fun e => hf (Or.inl e)
        have HP := Lib.hid (fun o => put_step (w2 w) (wr.alloc o) (w.heap.size + 2) k p A2 c2 _ _ _ _ acc (blk_alloc HG.out o) hf (Kd.C_alloc HG2.out o) (HDT.out (by omega)) (Kd.R_alloc HR.out o) (fun e => by
          have hk0 : k = 0 := by simpa using e
          subst hk0
          have := HAC.out
          simpa using this) (HB.out.alloc (by omega) o) (w2_size w) (by rw [HAC.out]; omega))
        unfold pcV at HP
        have hstep := HST.out
        rw [if_neg hf] at hstep
        have hsum2 : (acc ++ p.2.2).length = ((l.take (k + 1)).map (·.2.2.length)).sum := by rw [List.length_append, HAC.out, hst]
        have HSM := Lib.hid hsum2
        have hvo : ∀ b, some b = vp.ownBlock → b < wr.heap.size := fun b e => Kd.R_lt HR.out b e.symm
        have HVO := Lib.hid hvo
        clear hst hsl hsum2 hvo
        by_cases he2 : p.2.1 = true ∧ l.drop (k + 1) ≠ []
        · have hs : joinS l = ([], k, 150) := by
            unfold joinS
            rw [hstep, if_pos he2]
          have hkl := HL.out.1 he2.2
          have hb2 := he2.1
          have HS := Lib.hid hs
          clear hf hs he2 hstep
          rw [hb2] at x1 HP
          clear hb2
          generalize p.2.2 = data at *
          generalize p.1 = b1 at *
          go_wp2_with fail
          refine (HP.out _).mono ?_
          rintro e w1 ⟨rfl, v', fr', hg1, hR1, hB1, hO1⟩
          have hbx := hO1.blk (blk_new wr (.cells #[.bool b1, .bool true, .slice A2 data.length c2] 42)) (fun h => by
            rcases h with h | h
            · omega
            · have := HVO.out _ h; omega)
          have q1 := blk_cell hbx 1
          have HB1 := Lib.hid hB1
          clear hg1 hR1 hB1 hO1 hbx
          go_wp2
          exact join_leave rfl rfl rfl HS.out HB1.out
        · rw [if_neg he2] at hstep
          have HRUN := Lib.hid hstep
          have hkl : p.2.1 = true → ¬ (k : Int) < (l.length : Int) - 1 := fun e h => he2 ⟨e, HL.out.2 h⟩
          clear hf he2 hstep
          cases hb2 : p.2.1 with
          | true =>
            have hkl2 := hkl hb2
            rw [hb2] at x1 HP
            clear hb2 hkl
            generalize p.2.2 = data at *
            generalize p.1 = b1 at *
            go_wp2_with fail
            refine (HP.out _).mono ?_
            rintro e w1 ⟨rfl, v', fr', hg1, hR1, hB1, hO1⟩
            have hbx := hO1.blk (blk_new wr (.cells #[.bool b1, .bool true, .slice A2 data.length c2] 42)) (fun h => by
              rcases h with h | h
              · omega
              · have := HVO.out _ h; omega)
            have q1 := blk_cell hbx 1
            have HB1 := Lib.hid hB1
            have HR1 := Lib.hid hR1
            have HG1 := Lib.hid hg1
            clear hg1 hR1 hB1 hO1 hbx
            go_wp2
            go_roundw
            case rel => exact ⟨k + 1, by omega, by go_num, ⟨⟨v', fr', acc ++ data, by rw [decide_eq_true (Nat.succ_pos k)]; exact HG1.out, HR1.out, by rw [decide_eq_true (Nat.succ_pos k)]; exact HRUN.out, HSM.out⟩, HB1.out⟩⟩
            case measure => simp [intOf]; omega
          | false =>
            rw [hb2] at x1 HP
            clear hb2 hkl
            generalize p.2.2 = data at *
            generalize p.1 = b1 at *
            go_wp2_with fail
            refine (HP.out _).mono ?_
            rintro e w1 ⟨rfl, v', fr', hg1, hR1, hB1, hO1⟩
            have hbx := hO1.blk (blk_new wr (.cells #[.bool b1, .bool false, .slice A2 data.length c2] 42)) (fun h => by
              rcases h with h | h
              · omega
              · have := HVO.out _ h; omega)
            have q1 := blk_cell hbx 1
            have HB1 := Lib.hid hB1
            have HR1 := Lib.hid hR1
            have HG1 := Lib.hid hg1
            clear hg1 hR1 hB1 hO1 hbx
            go_wp2
            go_roundw
            case rel => exact ⟨k + 1, by omega, by go_num, ⟨⟨v', fr', acc ++ data, by rw [decide_eq_true (Nat.succ_pos k)]; exact HG1.out, HR1.out, by rw [decide_eq_true (Nat.succ_pos k)]; exact HRUN.out, HSM.out⟩, HB1.out⟩⟩
            case measure => simp [intOf]; omega
    · obtain rfl : k = l.length := by omega
      obtain ⟨Av, cv, rfl⟩ := Kd.R_slice hR
      rw [List.drop_length] at hrun
      have hrun2 : joinR 0 false [] l = .ok acc := hrun
      have hal : acc.length ≤ 140737488355328 := by rw [hacc, List.take_length]; exact hsum
      have HG := Lib.hid hg
      have HR := Lib.hid hR
      have HB := Lib.hid hB
      clear hg hR hB hrun hacc hlt
      by_cases h0 : l.length = 0
      · have HS := Lib.hid (show joinS l = ([], l.length, 150) by unfold joinS; rw [hrun2]; exact if_pos (Or.inl h0))
        have h0' : ((l.length : Int) == 0) = true := by simp [h0]
        clear hrun2 h0
        go_wp2
        exact join_leave rfl rfl rfl HS.out HB.out
      · have h0' : ((l.length : Int) == 0) = false := beq_eq_false_iff_ne.2 (by omega)
        obtain ⟨ad, A2, c2, rfl, x0, x1, x2, l2, g2⟩ := at_pc H.out (l.length - 1) (by omega)
        have hBw := w2_out HB.out
        replace x1 := pw_cell_below hBw x1
        clear x0 x2 l2 g2 hBw
        have e1 : ((l.length : Int) - 1) = ((l.length - 1 : Nat) : Int) := by omega
        cases hend : (l.getD (l.length - 1) zPc).2.1 with
        | false =>
          have HS := Lib.hid (show joinS l = ([], l.length, 150) by unfold joinS; rw [hrun2]; exact if_pos (Or.inr hend))
          rw [hend] at x1
          clear hrun2 hend h0
          go_wp2
          exact join_leave rfl rfl rfl HS.out HB.out
        | true =>
          have hnn : ¬ (l.length = 0 ∨ (l.getD (l.length - 1) zPc).2.1 = false) := by rw [hend]; simp [h0]
          have k1 : wr.cell? ⟨w.heap.size + 1 + 1, 1, none⟩ = some (.slice Av acc.length cv) := blk_cell HG.out 1
          rw [hend] at x1
          by_cases hbig : acc.length > 65536
          · have HS := Lib.hid (show joinS l = ([], 0, 2) by unfold joinS; rw [hrun2]; show (if _ then _ else _) = _; rw [if_neg hnn, if_pos hbig])
            have hb2 : (acc.length : Int) > 65536 := by omega
            clear hrun2 hend h0 hnn
            go_wp2
            exact join_leave (p := 0) rfl rfl rfl HS.out HB.out
          · have HS := Lib.hid (show joinS l = (acc, 0, 0) by unfold joinS; rw [hrun2]; show (if _ then _ else _) = _; rw [if_neg hnn, if_neg hbig])
            have hb2 : ¬ (acc.length : Int) > 65536 := by omega
            clear hrun2 hend h0 hnn
            obtain ⟨h1, h2⟩ := w2_kept HB.out
            have m1 := blk_cell h1 0
            have m2 := blk_cell h2 0
            have f1 := blk_frozen h1 0
            have f2 := blk_frozen h2 0
            have H1 := Lib.hid h1
            have H2 := Lib.hid h2
            clear h1 h2
            go_wp2
            refine leaves_cons (f := 20) (args := #[.pointer (some ⟨w.heap.size, 0, none⟩), .pointer (some ⟨w.heap.size + 1, 0, none⟩)]) (by simp) (by simp [go_sem]) ?_
            refine (caught_idle _ _ _).mono ?_
            rintro e u' w'' ⟨rfl, rfl, rfl⟩
            have q1 := blk_far (p := ⟨w.heap.size + 1, 0, none⟩) (blk_put H1.out 0 (.int .i64 0) rfl) (by dsimp only; omega) (.int .i64 0)
            have q2 := blk_put (blk_far (p := ⟨w.heap.size, 0, none⟩) H2.out (by dsimp only; omega) (.int .i64 0)) 0 (.int .i64 0) rfl
            refine ⟨_, join_results _ _ _ _ _ _ _ rfl rfl rfl q1 q2, .slice Av acc.length cv, ?_, ?_, ?_⟩
            · rw [HS.out]; rfl
            · rw [HS.out]
              have hr := Kd.R_mono (Kd.R_bound HR.out) (ok' := fun k => w.heap.size + 2 ≤ k) (fun k hk => hk.2.1)
              have hr2 := Kd.R_far (p := ⟨w.heap.size + 1, 0, none⟩) (Kd.R_far (p := ⟨w.heap.size, 0, none⟩) hr (fun k hk => by dsimp only; omega) (.int .i64 0)) (fun k hk => by dsimp only; omega) (.int .i64 0)
              exact Kd.R_mono (Kd.R_lower hr2 (by omega)) (fun _ _ => trivial)
            · have hb1 := w2_out HB.out
              exact (hb1.setCell (p := ⟨w.heap.size, 0, none⟩) (Nat.le_refl _) _).setCell (p := ⟨w.heap.size + 1, 0, none⟩) (by dsimp only; omega) _
end Go.Proofs.Ytgfkdebbdjojmaa.Frag
