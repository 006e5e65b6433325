/- slices.Chunk: walked. -/
import Derived.Test.YtgfkdebbdjojmaaRound
import Derived.Test.YtgfkdebbdjojmaaWMore
namespace Go.Proofs.Ytgfkdebbdjojmaa.Frag
open Go.RowKit Go.Proofs.YtgfkdebbdjojmaaW.PrintWords Go.Proofs.YtgfkdebbdjojmaaW.PrintLast Go.Proofs.YtgfkdebbdjojmaaW.PrintMore Go.Proofs.Ytgfkdebbdjojmaa.Base
attribute [local go_sem] Oper.semAt_some min2_int min_two
set_option linter.unusedVariables false
set_option linter.unusedSimpArgs false
theorem chunk_calls (w : World) (A : Option Addr) (len cap : Nat) (n : Int) (hn : 1 ≤ n) :
    Calls Try.prog 18 #[.slice A len cap, .int .i64 n] w fun e w' => e = .returned (.func (.func 22) #[] #[.pointer (some ⟨w.heap.size, 0, none⟩), .pointer (some ⟨w.heap.size + 1, 0, none⟩)]) ∧ w' = (w.alloc (.cells #[.slice A len cap] 22)).alloc (.cells #[.int .i64 n] 3) := by
  have hmf : ∀ (fn : Fn) (first cap : Array Value) (w : World), (Instr.makeFunc fn first cap).run Try.prog w = .ok (.func fn first cap) w := fun _ _ _ _ => rfl
  have hn' : ¬ n < 1 := by omega
  go_enter Try.func18, Try.ntmps18
  go_wp2
  go_ret
  exact ⟨rfl, rfl⟩
/-- The k-th piece of a row, as the iterator hands it. -/
def chunkV (ad : Addr) (len n k : Nat) : Value := .slice (some (ad.add (k * n))) (min n (len - k * n)) (min n (len - k * n))
def manyP (len n : Nat) : Nat := (len + n - 1) / n
/-- What a round keeps: the two boxes. -/
def KeepB (Bs Bn : Nat) (W W' : World) : Prop := W.heap.size ≤ W'.heap.size ∧ ∀ k, k = Bs ∨ k = Bn → W'.heap[k]? = W.heap[k]?
theorem KeepB.refl (Bs Bn : Nat) (W : World) : KeepB Bs Bn W W := ⟨Nat.le_refl _, fun _ _ => rfl⟩
theorem KeepB.trans {Bs Bn : Nat} {A B C : World} (h : KeepB Bs Bn A B) (k : KeepB Bs Bn B C) : KeepB Bs Bn A C := ⟨Nat.le_trans h.1 k.1, fun i hi => (k.2 i hi).trans (h.2 i hi)⟩
theorem many_mul {len n k : Nat} (hn : 1 ≤ n) : k < manyP len n ↔ k * n < len := by
  unfold manyP
  rw [Nat.lt_div_iff_mul_lt (by omega)]
  omega
set_option maxRecDepth 100000 in
set_option maxHeartbeats 2000000 in
theorem chunk1_in (m : Nat) (l Bs Bn : Nat) (ad : Addr) (len cap n : Nat) (hn : 1 ≤ n) (hn2 : n ≤ 65536) (hlen : len ≤ 65536) (hcap : len ≤ cap) (J Jx : List Nat → World → Prop)
    (hY : ∀ pre x W, J pre W → pre.length < manyP len n → YieldAt Fence.wide (m - 1) Try.prog l #[chunkV ad len n x] W fun e W' => (e = .returned (.bool true) ∧ J (pre ++ [x]) W' ∧ KeepB Bs Bn W W') ∨ (e = .returned (.bool false) ∧ Jx (pre ++ [x]) W'))
    (hA : ∀ pre W k, J pre W → J pre (W.drewN k)) (W : World) (hs : W.heap[Bs]? = some (.cells #[.slice (some ad) len cap] 22 (0, 0))) (hb : W.heap[Bn]? = some (.cells #[.int .i64 (n : Int)] 3 (0, 0))) (h0 : J [] W) :
    CallsIn Fence.wide m Try.prog 22 #[.func (.yield l) #[] #[], .pointer (some ⟨Bs, 0, none⟩), .pointer (some ⟨Bn, 0, none⟩)] W fun e W' => (∃ v, e = .returned v) ∧
      ((∃ xs, xs = List.range (manyP len n) ∧ J xs W') ∨ (∃ pre, (∃ k, k ≤ manyP len n ∧ pre = List.range k) ∧ Jx pre W')) := by
  refine callsIn_of_wp Try.func22 rfl trivial ?_ rfl
  simp only [Try.ntmps22, List.size_toArray, List.length_cons, List.length_nil, Nat.reduceAdd, Nat.reduceSub, Array.replicate_succ, Array.replicate_zero, List.push_toArray, List.append_toArray, List.nil_append, List.cons_append]
  gi_wp2
  gi_loopw [4] (fun i wr => ∃ k p : Nat, k ≤ manyP len n ∧ Hid (p = k * n) ∧ i = .int .i64 (p : Int) ∧ Hid (J (List.range k) wr) ∧ Hid (KeepB Bs Bn W wr)) (fun i _ => len + n - (intOf i).toNat)
  case atStart => exact ⟨0, 0, Nat.zero_le _, by show 0 = 0 * n; omega, rfl, h0, KeepB.refl _ _ _⟩
  case round =>
    obtain ⟨k, p, hk, HP, rfl, HJ, HK⟩ := hrel
    have hs1 := ((HK.out.2 Bs (Or.inl rfl)).trans hs)
    have hb1 := ((HK.out.2 Bn (Or.inr rfl)).trans hb)
    have c0 := blk_cell hs1 0
    have c1 := blk_cell hb1 0
    clear hs1 hb1
    by_cases hlt : p < len
    · have hkm : k < manyP len n := (many_mul hn).2 (by rw [← HP.out]; exact hlt)
      have hJl : (List.range k).length < manyP len n := by rw [List.length_range]; exact hkm
      by_cases hmin : len - p < n
      · have hmin' : ((len - p : Nat) : Int) < (n : Int) := by omega
        have hnot : ¬ (n : Int) ≤ ((len - p : Nat) : Int) := by omega
        have hv : Value.slice (some (ad.add p)) (len - p) (len - p) = chunkV ad len n k := by
          unfold chunkV
          rw [← HP.out, show min n (len - p) = len - p by omega]
        have HV := Lib.hid hv
        clear hv hmin hnot
        gi_wp2
        refine wpIn_wide.2 ?_
        go_quiet (fail)
        gi_wp2
        rw [HV.out]
        obtain ⟨fn, tmps, assign, body, hy, hR⟩ := hY (List.range k) k (wr.drewN nq) (hA _ _ _ HJ.out) hJl
        rw [hy]
        refine ⟨(fun hd => by cases hd), hR.mono ?_⟩
        rintro e W3 (⟨rfl, hJ3, hk3⟩ | ⟨rfl, hJx3⟩)
        · have HK3 := Lib.hid (HK.out.trans (show KeepB Bs Bn wr W3 from hk3))
          have c1' := blk_cell ((HK3.out.2 Bn (Or.inr rfl)).trans hb) 0
          gi_wp2
          go_roundw
          case rel => exact ⟨k + 1, p + n, by omega, by show _ = _; rw [HP.out, Nat.add_mul, Nat.one_mul], by go_num, by show J _ _; rw [List.range_succ]; exact hJ3, HK3⟩
          case measure => simp [intOf]; omega
        · gi_wp2
          refine bodyPost_ret (results_none rfl _ _ _) rfl ?_
          exact ⟨⟨_, rfl⟩, .inr ⟨_, ⟨k + 1, by omega, List.range_succ.symm⟩, hJx3⟩⟩
      · have hmin' : ¬ ((len - p : Nat) : Int) < (n : Int) := by omega
        have hv : Value.slice (some (ad.add p)) n n = chunkV ad len n k := by
          unfold chunkV
          rw [← HP.out, show min n (len - p) = n by omega]
        have HV := Lib.hid hv
        clear hv hmin
        gi_wp2
        refine wpIn_wide.2 ?_
        go_quiet (fail)
        gi_wp2
        rw [HV.out]
        obtain ⟨fn, tmps, assign, body, hy, hR⟩ := hY (List.range k) k (wr.drewN nq) (hA _ _ _ HJ.out) hJl
        rw [hy]
        refine ⟨(fun hd => by cases hd), hR.mono ?_⟩
        rintro e W3 (⟨rfl, hJ3, hk3⟩ | ⟨rfl, hJx3⟩)
        · have HK3 := Lib.hid (HK.out.trans (show KeepB Bs Bn wr W3 from hk3))
          have c1' := blk_cell ((HK3.out.2 Bn (Or.inr rfl)).trans hb) 0
          gi_wp2
          go_roundw
          case rel => exact ⟨k + 1, p + n, by omega, by show _ = _; rw [HP.out, Nat.add_mul, Nat.one_mul], by go_num, by show J _ _; rw [List.range_succ]; exact hJ3, HK3⟩
          case measure => simp [intOf]; omega
        · gi_wp2
          refine bodyPost_ret (results_none rfl _ _ _) rfl ?_
          exact ⟨⟨_, rfl⟩, .inr ⟨_, ⟨k + 1, by omega, List.range_succ.symm⟩, hJx3⟩⟩
    · have hkm : k = manyP len n := by
        have h1 : ¬ k < manyP len n := fun h => hlt (by rw [HP.out]; exact (many_mul hn).1 h)
        omega
      gi_wp2
      go_end0
      exact ⟨⟨_, rfl⟩, .inl ⟨_, rfl, by rw [← hkm]; exact HJ.out⟩⟩
end Go.Proofs.Ytgfkdebbdjojmaa.Frag
