/- Decode of any bytes: walked. -/
import Derived.Test.YtjlgddmcjccbeaaParG
namespace Go.Proofs.Ytjlgddmcjccbeaa.ParDec
open Go.RowKit Go.Proofs.YtjlgddmcjccbeaaW.PrintWords Go.Proofs.Ytjlgddmcjccbeaa.PParamCauses Go.Proofs.Ytjlgddmcjccbeaa.ParCauses Go.Proofs.Ytjlgddmcjccbeaa.Base
set_option linter.unusedVariables false
set_option linter.unusedSimpArgs false
def runD (l : List UInt8) : Nat → Nat → List S36 → Except (Nat × Int) (List S36)
  | 0, _, ps => .ok ps
  | n + 1, p, ps =>
    if p < l.length then
      match stepD l p ps.length with
      | .error c => .error (p, c)
      | .ok (q, p') => runD l n p' (ps ++ [q])
    else .ok ps
def decD (l : List UInt8) : List S36 × Int × Int :=
  match runD l (l.length + 1) 0 [] with
  | .ok ps => (ps, 0, 0)
  | .error (p, c) => ([], (p : Int), c)
theorem stepD_next {l : List UInt8} {p m : Nat} {q : S36} {p' : Nat} (h : stepD l p m = .ok (q, p')) (hp : p < l.length) : p < p' ∧ p' ≤ l.length ∧ m ≠ 256 := by
  unfold stepD at h
  by_cases h1 : m = 256
  · rw [if_pos h1] at h; cases h
  rw [if_neg h1] at h
  by_cases h2 : l.length - p < 4
  · rw [if_pos h2] at h; cases h
  rw [if_neg h2] at h
  by_cases h3 : nI l (p + 2) < 4 ∨ l.length - p < nI l (p + 2)
  · rw [if_pos h3] at h; cases h
  rw [if_neg h3] at h
  injection h with h
  have hp' : p' = p + min ((nI l (p + 2) + 3) / 4 * 4) (l.length - p) := (congrArg Prod.snd h).symm
  omega
/-- What Decode hands back. -/
def DecPost (l : List UInt8) (w : World) (e : Ending) (w' : World) : Prop :=
  ∃ v, e = .returned (.tuple #[v, .int .i64 (decD l).2.1, .int .i64 (decD l).2.2]) ∧ Kd.R k36 36 w' w.heap.size (fun _ => True) v (decD l).1 ∧ Below w.heap.size w w'
/-- The world in which Decode's three results lie. -/
def w3 (w : World) : World := (((w.alloc (.cells #[.slice none 0 0] 22)).alloc (.cells #[.int .i64 0] 3)).alloc (.cells #[.int .i64 0] 24))
/-- While Decode reads: n rounds at most are to come. -/
def DecI (w : World) (A : Option Addr) (l : List UInt8) (c n : Nat) (W : World) : Prop :=
  ∃ p ps v, p ≤ l.length ∧ l.length < n + p ∧ ps.length ≤ 256 ∧ runD l (l.length + 1) 0 [] = runD l n p ps ∧ LS W (w.heap.size + 3) A l.length c p v ∧ Kd.R k36 36 W (w.heap.size + 3) (fun k => k ≠ w.heap.size + 3) v ps ∧ Below (w.heap.size + 3) (w3 w) W
theorem w3_size (w : World) : (w3 w).heap.size = w.heap.size + 3 := by simp [w3]
theorem w3_below (w : World) : Below w.heap.size w (w3 w) := below_alloc (below_alloc (below_alloc (Below.refl _ _) _) _) _
theorem w3_blk (w : World) : (w3 w).heap[w.heap.size]? = some (.cells #[.slice none 0 0] 22 (0, 0)) ∧ (w3 w).heap[w.heap.size + 1]? = some (.cells #[.int .i64 0] 3 (0, 0)) ∧ (w3 w).heap[w.heap.size + 2]? = some (.cells #[.int .i64 0] 24 (0, 0)) := by
  have s1 : (w.alloc (.cells #[.slice none 0 0] 22)).heap.size = w.heap.size + 1 := by simp
  have s2 : ((w.alloc (.cells #[.slice none 0 0] 22)).alloc (.cells #[.int .i64 0] 3)).heap.size = w.heap.size + 2 := by simp
  have h0 := blk_new w (.cells #[.slice none 0 0] 22)
  have h1 := blk_new (w.alloc (.cells #[.slice none 0 0] 22)) (.cells #[.int .i64 0] 3)
  have h2 := blk_new ((w.alloc (.cells #[.slice none 0 0] 22)).alloc (.cells #[.int .i64 0] 3)) (.cells #[.int .i64 0] 24)
  rw [s1] at h1
  rw [s2] at h2
  exact ⟨blk_alloc (blk_alloc h0 _) _, blk_alloc h1 _, h2⟩
/-- .. and they stay as they are. -/
theorem w3_kept {w W : World} (h : Below (w.heap.size + 3) (w3 w) W) : W.heap[w.heap.size]? = some (.cells #[.slice none 0 0] 22 (0, 0)) ∧ W.heap[w.heap.size + 1]? = some (.cells #[.int .i64 0] 3 (0, 0)) ∧ W.heap[w.heap.size + 2]? = some (.cells #[.int .i64 0] 24 (0, 0)) := by
  obtain ⟨h0, h1, h2⟩ := w3_blk w
  exact ⟨(h.block _ (by omega)).trans h0, (h.block _ (by omega)).trans h1, (h.block _ (by omega)).trans h2⟩
theorem w3_out {w W : World} (h : Below (w.heap.size + 3) (w3 w) W) : Below w.heap.size w W :=
  (w3_below w).trans (h.mono (by omega))
theorem dec_start (w : World) (A : Option Addr) (l : List UInt8) (c : Nat) (hn : l.length ≤ 140737488355328) : DecI w A l c (l.length + 1) ((((w.alloc (.cells #[.slice none 0 0] 22)).alloc (.cells #[.int .i64 0] 3)).alloc (.cells #[.int .i64 0] 24)).alloc (.cells #[.slice A l.length c, .int .i64 0, .slice none 0 0] 63)) := by
  have h3 := blk_new (w3 w) (.cells #[.slice A l.length c, .int .i64 0, .slice none 0 0] 63)
  rw [w3_size] at h3
  exact ⟨0, [], .slice none 0 0, Nat.zero_le _, by omega, by simp, rfl, ⟨h3⟩, Kd.R_nil _ _ _ _ _, (Below.refl (w.heap.size + 3) (w3 w)).alloc (by rw [w3_size]; omega) _⟩
theorem dec_results (tmps : Array Value) (w : World) (a b c : Nat) (v0 v1 v2 : Value) (t0 : tmps.getD 2 undef = .pointer (some ⟨a, 0, none⟩)) (t1 : tmps.getD 3 undef = .pointer (some ⟨b, 0, none⟩)) (t2 : tmps.getD 4 undef = .pointer (some ⟨c, 0, none⟩))
    (h0 : w.heap[a]? = some (.cells #[v0] 22 (0, 0))) (h1 : w.heap[b]? = some (.cells #[v1] 3 (0, 0))) (h2 : w.heap[c]? = some (.cells #[v2] 24 (0, 0))) :
    (results Try.f24 tmps).run Try.prog w = .ok (.tuple #[v0, v1, v2]) w := by
  have k0 := blk_cell h0 0
  have k1 := blk_cell h1 0
  have k2 := blk_cell h2 0
  rw [Array.getD_eq_getD_getElem?] at t0 t1 t2
  simp [results, Try.results24, go_sem, t0, t1, t2, k0, k1, k2]
theorem decD_err {l : List UInt8} {p : Nat} {code : Int} (h : runD l (l.length + 1) 0 [] = .error (p, code)) : decD l = ([], (p : Int), code) := by unfold decD; rw [h]
theorem decD_ok {l : List UInt8} {ps : List S36} (h : runD l (l.length + 1) 0 [] = .ok ps) : decD l = (ps, 0, 0) := by unfold decD; rw [h]
set_option maxHeartbeats 1000000 in
theorem decode_calls (w : World) (A : Option Addr) (l : List UInt8) (c : Nat) (hb : byte.C w A l.length l) (hc : l.length ≤ c) (hn : l.length ≤ 140737488355328) :
    Calls Try.prog 24 #[.slice A l.length c] w (DecPost l w) := by
  have hmf : ∀ (fn : Fn) (first cap : Array Value) (w : World), (Instr.makeFunc fn first cap).run Try.prog w = .ok (.func fn first cap) w := fun _ _ _ _ => rfl
  go_enter_defers Try.func24, Try.ntmps24
  go_wp2
  go_loopg [] (l.length + 1) (fun n wr => DecI w A l c n wr)
  case atStart => exact dec_start w A l c hn
  case round =>
    obtain ⟨p, ps, v, hp, hpn, hps, hrun, hLS, hR, hB⟩ := hrel
    have HRUN := Lib.hid hrun
    have HLS := Lib.hid hLS
    have HR := Lib.hid hR
    have HB := Lib.hid hB
    have HBC := Lib.hid (Kd.C_below hb (w3_out hB))
    clear hrun hLS hR hB hb
    by_cases hlt : p < l.length
    · have hd : (0 : Int) < ((l.length - p : Nat) : Int) := by omega
      have hlf := Lib.hid (left_calls wr (w.heap.size + 3) A l.length c p (blk_cell HLS.out.out 0) (blk_cell HLS.out.out 1) hp hn)
      cases hst : stepD l p ps.length with
      | error code =>
        have hnx := fun m => Lib.hid (next_fault (wr.drewN m) (w.heap.size + 3) (w.heap.size + 3) A l c p v ps ⟨HLS.out.out⟩ (Kd.R_drewN HR.out m) (Kd.C_drewN HBC.out m) hlt hn hps (Nat.le_refl _) (by have := HB.out.size; rw [w3_size] at this; exact this) code hst)
        have HST := Lib.hid hst
        clear hst
        generalize l.length - p = d at *
        go_wp2_with fail
        refine hlf.out.mono ?_
        rintro e w1 ⟨rfl, ⟨m, rfl⟩⟩
        go_wp2_with fail
        refine (hnx m).out.mono ?_
        rintro e w1 ⟨rfl, ⟨m2, rfl⟩⟩
        have hrun2 : runD l (l.length + 1) 0 [] = .error (p, code) := by
          rw [HRUN.out]
          obtain ⟨n, rfl⟩ : ∃ n, gk = n + 1 := ⟨gk - 1, by omega⟩
          conv => lhs; unfold runD
          rw [if_pos hlt, HST.out]
        have HDE := Lib.hid (decD_err hrun2)
        clear hrun2
        go_wp2
        refine leaves_cons (f := 33) (args := #[.pointer (some ⟨w.heap.size, 0, none⟩), .pointer (some ⟨w.heap.size + 1, 0, none⟩), .pointer (some ⟨w.heap.size + 1 + 1, 0, none⟩)]) (by simp) (by simp [go_sem]) ?_
        obtain ⟨h0, h1, h2⟩ := w3_kept (pw_below_drewN HB.out (m + m2))
        refine (catch_fault w.heap.size (w.heap.size + 1) (w.heap.size + 1 + 1) p code [] _ _ _ _ _ _ _ h0 h1 h2 (by omega) (by omega) (by omega)).mono ?_
        rintro e u' w'' ⟨rfl, rfl, h0, h1, h2, hO⟩
        refine ⟨_, dec_results _ _ _ _ _ _ _ _ rfl rfl rfl h0 h1 h2, .slice none 0 0, ?_, ?_, ?_⟩
        · rw [HDE.out]
        · rw [HDE.out]
          exact Kd.R_nil _ _ _ _ _
        · have hb1 := w3_out (pw_below_drewN HB.out (m + m2))
          exact hb1.trans (hO.below hb1.size (fun k hk => by omega))
      | ok qp =>
        obtain ⟨q, p'⟩ := qp
        have hnp := stepD_next hst hlt
        have hnx := fun m => Lib.hid (next_ok (w3 w) (wr.drewN m) (w.heap.size + 3) (w.heap.size + 3) A l c p v ps ⟨HLS.out.out⟩ (Kd.R_drewN HR.out m) (Kd.C_drewN HBC.out m) hc hlt hn hps (Nat.le_refl _) (pw_below_drewN HB.out m) (by rw [w3_size]; omega) q p' hst)
        have HST := Lib.hid hst
        clear hst
        generalize hdd : l.length - p = d at *
        have HDD := Lib.hid hdd
        clear hdd
        go_wp2_with fail
        refine hlf.out.mono ?_
        rintro e w1 ⟨rfl, ⟨m, rfl⟩⟩
        go_wp2_with fail
        refine (hnx m).out.mono ?_
        rintro e w1 ⟨rfl, v', hLS', hR', hB'⟩
        go_wp2_with fail
        go_roundg (gk - 1)
        case measure => omega
        case rel =>
          refine ⟨p', ps ++ [q], v', hnp.2.1, by omega, by rw [List.length_append, List.length_singleton]; omega, ?_, hLS', hR', hB'⟩
          rw [HRUN.out]
          obtain ⟨n, rfl⟩ : ∃ n, gk = n + 1 := ⟨gk - 1, by omega⟩
          conv => lhs; unfold runD
          rw [if_pos hlt, HST.out]
          rfl
    · obtain ⟨Av, cv, rfl⟩ := Kd.R_slice HR.out
      have hrun2 : runD l (l.length + 1) 0 [] = .ok ps := by
        rw [HRUN.out]
        obtain ⟨n, rfl⟩ : ∃ n, gk = n + 1 := ⟨gk - 1, by omega⟩
        conv => lhs; unfold runD
        rw [if_neg hlt]
      have HDE := Lib.hid (decD_ok hrun2)
      clear hrun2
      have hd : ¬ (0 : Int) < ((l.length - p : Nat) : Int) := by omega
      have hlf := Lib.hid (left_calls wr (w.heap.size + 3) A l.length c p (blk_cell HLS.out.out 0) (blk_cell HLS.out.out 1) hp hn)
      generalize l.length - p = d at *
      go_wp2_with fail
      refine hlf.out.mono ?_
      rintro e w1 ⟨rfl, ⟨m, rfl⟩⟩
      obtain ⟨h0, h1, h2⟩ := w3_kept (pw_below_drewN HB.out m)
      have hl := blk_drewN HLS.out.out m
      have HB1 := Lib.hid (pw_below_drewN HB.out m)
      have HR1 := Lib.hid (Kd.R_drewN HR.out m)
      generalize wr.drewN m = W1 at *
      replace hl : W1.heap[w.heap.size + 1 + 1 + 1]? = _ := hl
      replace h2 : W1.heap[w.heap.size + 1 + 1]? = _ := h2
      have k0 := blk_cell h0 0
      have k1 := blk_cell h1 0
      have k2 := blk_cell h2 0
      have k3 := blk_cell hl 2
      have f0 := blk_frozen h0 0
      have f1 := blk_frozen h1 0
      have f2 := blk_frozen h2 0
      have H0 := Lib.hid h0
      have H1 := Lib.hid h1
      have H2 := Lib.hid h2
      have HL := Lib.hid hl
      clear h0 h1 h2 hl
      go_wp2
      refine leaves_cons (f := 33) (args := #[.pointer (some ⟨w.heap.size, 0, none⟩), .pointer (some ⟨w.heap.size + 1, 0, none⟩), .pointer (some ⟨w.heap.size + 1 + 1, 0, none⟩)]) (by simp) (by simp [go_sem]) ?_
      refine (catch_idle _ _ _ _).mono ?_
      rintro e u' w'' ⟨rfl, rfl, rfl⟩
      have q0 := blk_far (p := ⟨w.heap.size + 1 + 1, 0, none⟩) (blk_far (p := ⟨w.heap.size + 1, 0, none⟩) (blk_put H0.out 0 (.slice Av ps.length cv) rfl) (by dsimp only; omega) (.int .i64 0)) (by dsimp only; omega) (.int .i64 0)
      have q1 := blk_far (p := ⟨w.heap.size + 1 + 1, 0, none⟩) (blk_put (blk_far (p := ⟨w.heap.size, 0, none⟩) H1.out (by dsimp only; omega) (.slice Av ps.length cv)) 0 (.int .i64 0) rfl) (by dsimp only; omega) (.int .i64 0)
      have q2 := blk_put (blk_far (p := ⟨w.heap.size + 1, 0, none⟩) (blk_far (p := ⟨w.heap.size, 0, none⟩) H2.out (by dsimp only; omega) (.slice Av ps.length cv)) (by dsimp only; omega) (.int .i64 0)) 0 (.int .i64 0) rfl
      refine ⟨_, dec_results _ _ _ _ _ _ _ _ rfl rfl rfl q0 q1 q2, .slice Av ps.length cv, ?_, ?_, ?_⟩
      · rw [HDE.out]
      · rw [HDE.out]
        have hr := Kd.R_mono (Kd.R_bound HR1.out) (ok' := fun k => w.heap.size + 3 ≤ k) (fun k hk => hk.2.1)
        have hr2 := Kd.R_far (p := ⟨w.heap.size + 1 + 1, 0, none⟩) (Kd.R_far (p := ⟨w.heap.size + 1, 0, none⟩) (Kd.R_far (p := ⟨w.heap.size, 0, none⟩) hr (fun k hk => by dsimp only; omega) (.slice Av ps.length cv)) (fun k hk => by dsimp only; omega) (.int .i64 0)) (fun k hk => by dsimp only; omega) (.int .i64 0)
        exact Kd.R_mono (Kd.R_lower hr2 (by omega)) (fun _ _ => trivial)
      · have hb1 := w3_out HB1.out
        exact ((hb1.setCell (p := ⟨w.heap.size, 0, none⟩) (Nat.le_refl _) _).setCell (p := ⟨w.heap.size + 1, 0, none⟩) (by dsimp only; omega) _).setCell (p := ⟨w.heap.size + 1 + 1, 0, none⟩) (by dsimp only; omega) _
end Go.Proofs.Ytjlgddmcjccbeaa.ParDec
