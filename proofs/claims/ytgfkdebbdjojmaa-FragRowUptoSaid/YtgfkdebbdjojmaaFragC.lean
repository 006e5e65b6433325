/- Cut: walked. -/
import Derived.Test.YtgfkdebbdjojmaaFragB
import Derived.Deep.Slices
namespace Go.Proofs.Ytgfkdebbdjojmaa.Frag
open Go.RowKit Go.Proofs.YtgfkdebbdjojmaaW.PrintWords Go.Proofs.YtgfkdebbdjojmaaW.PrintLast Go.Proofs.YtgfkdebbdjojmaaW.PrintMore Go.Proofs.Ytgfkdebbdjojmaa.Base
attribute [local go_sem] Oper.semAt_some
set_option linter.unusedVariables false
set_option linter.unusedSimpArgs false
def cutT7 : Bool × List (List Nat × List Nat) := (true, [([], []), ([], []), ([1], [1]), ([2], [2]), ([3], [3]), ([0, 4, 2], [0, 4]), ([5, 5, 0, 1, 2, 3, 4, 5], [5])])
def cutB7 : List Nat := [0, 0, 2, 6, 14, 31, 63]
theorem cuttab7 : Go.Proofs.YtgfkdebbdjojmaaW.PrintLast.rtab .any (Go.Proofs.YtgfkdebbdjojmaaW.PrintLast.opsOf Try.f8 7) = cutT7 := by kernel_rfl
theorem cutbits7 : Go.Proofs.YtgfkdebbdjojmaaW.PrintLast.waitsOk cutT7.2 cutB7 = true := by kernel_rfl
theorem chunk_stops (m : Nat) (w : World) (Bs Bn : Nat) (ad : Addr) (len cap n : Nat) (hn : 1 ≤ n) (hn2 : n ≤ 65536) (hlen : len ≤ 65536) (hcap : len ≤ cap)
    (hs : w.heap[Bs]? = some (.cells #[.slice (some ad) len cap] 22 (0, 0))) (hb : w.heap[Bn]? = some (.cells #[.int .i64 (n : Int)] 3 (0, 0))) :
    SeqStopsK Fence.wide m Try.prog 22 #[.pointer (some ⟨Bs, 0, none⟩), .pointer (some ⟨Bn, 0, none⟩)] (fun k : Nat => #[chunkV ad len n k]) (KeepB Bs Bn) (fun xs => xs = List.range (manyP len n)) (fun pre => ∃ k, k ≤ manyP len n ∧ pre = List.range k) (manyP len n) w := fun l J Jx W hW hJ hJx hY h0 =>
  chunk1_in m l Bs Bn ad len cap n hn hn2 hlen hcap J Jx hY (fun pre W k h => hJ pre W _ none h ⟨rfl, rfl, rfl, Nat.le_refl _, fun _ _ _ => rfl⟩ (fun r e => by cases e)) W (blk_below hs hW) (blk_below hb hW) h0
/-- The k-th piece. -/
def pcOf (l : List UInt8) (n k : Nat) : Pc := (false, false, (l.drop (k * n)).take n)
structure CutI (w0 : World) (base g Bs Bn : Nat) (sv : Value) (n : Int) (q : List Pc) (W : World) : Prop where
  out : ∃ v, W.heap[g]? = some (.cells #[v] 23 (0, 0)) ∧ Kd.R pcK 42 W base (fun k => k ≠ g) v q
  below : Below base w0 W
  bs : W.heap[Bs]? = some (.cells #[sv] 22 (0, 0))
  bn : W.heap[Bn]? = some (.cells #[.int .i64 n] 3 (0, 0))
theorem cutI_own {β : Type} {w0 : World} {base g Bs Bn B : Nat} {sv : Value} {n : Int} (f : β → List Pc) (hb : base ≤ w0.heap.size) (hB : base ≤ B) (hg : g < B) (hs : Bs < B) (hn : Bn < B) : OwnFrom B (fun (x : β) W => CutI w0 base g Bs Bn sv n (f x) W) := by
  intro x W W' row ⟨⟨v, h1, h2⟩, h3, h4, h5⟩ hgr hrow
  have far : ∀ k o, W.heap[k]? = some o → k < B → W'.heap[k]? = some o := fun k o hk hlt => blk_grown hk hgr (fun e => by have := (hrow k e.symm).1; omega)
  refine ⟨⟨v, far _ _ h1 hg, ?_⟩, h3.grown hgr (Nat.le_trans hb h3.size) (fun k e => by have := (hrow k e).1; omega), far _ _ h4 hs, far _ _ h5 hn⟩
  refine Kd.R_mono (Kd.R_grown (Kd.R_bound h2) hgr (fun k hk e => ?_)) (fun k hk => hk.1)
  obtain ⟨_, _, _, t, _, cells, hc⟩ := hk
  obtain ⟨_, o, ho, hcs⟩ := hrow k e.symm
  rw [hc] at ho
  injection ho with ho
  subst ho
  cases hcs
theorem noDefer {ops : Array Oper} (h : ops.all (fun o => match o.op with | .defer _ => false | _ => true) = true) : ∀ (i : Nat) (o : Oper), ops[i]? = some o → ∀ c, o.op ≠ .defer c := by
  intro i o ho c hc
  have := Array.all_eq_true_iff_forall_mem.1 h o (Array.mem_of_getElem? ho)
  rw [hc] at this
  cases this
theorem sub_C {w : World} {ad : Addr} {l : List UInt8} (hb : byte.C w (some ad) l.length l) (lo n : Nat) : byte.C w (some (ad.add lo)) ((l.drop lo).take n).length ((l.drop lo).take n) := by
  obtain ⟨h1, h2, h3⟩ := hb
  have hlen : ((l.drop lo).take n).length ≤ l.length := by rw [List.length_take, List.length_drop]; omega
  refine ⟨rfl, by omega, fun h0 => ⟨_, rfl, fun j p hj => ?_⟩⟩
  rw [List.getElem?_take] at hj
  split at hj
  · rw [List.getElem?_drop] at hj
    obtain ⟨ad', e, hc⟩ := h3 (by omega)
    injection e with e
    subst e
    obtain ⟨c, hl, hk, hcell⟩ := hc (lo + j) p hj
    refine ⟨c, hl, hk, fun i u hu => ?_⟩
    rw [Go.Deep.add_add, ← hcell i u hu]
    congr 2
    show lo + (j * 1 + i) = (lo + j) * 1 + i
    omega
  · cases hj
/-- A message's pieces. -/
def cutL (l : List UInt8) (n : Nat) : List Pc := (List.range (manyP l.length n)).map fun k => (decide (k = 0), decide (k + 1 = manyP l.length n), (l.drop (k * n)).take n)
def CutPost (l : List UInt8) (n : Nat) (w : World) (e : Ending) (w' : World) : Prop :=
  ∃ v, e = .returned (.tuple #[v, .int .i64 0]) ∧ Kd.R pcK 42 w' w.heap.size (fun _ => True) v (cutL l n) ∧ Below w.heap.size w w'
theorem R_putObj {α : Type} {d : Kd α} {e base D : Nat} {ok : Nat → Prop} {w : World} {v : Value} {xs : List α} (h : d.R e w base ok v xs) {o : Obj} (hD : w.heap[D]? = some (.deferred (some []))) : d.R e (w.putObj D o) base (fun _ => True) v xs := by
  refine Kd.R_mono (Kd.R_move (Kd.R_bound h) (fun k hk => World.putObj_heap_other (fun e => ?_))) (fun _ _ => trivial)
  obtain ⟨_, _, _, t, _, cells, hc⟩ := hk
  first
  | (subst e; rw [hD] at hc; cases hc)
  | (rw [e, hD] at hc; cases hc)
  | (rw [← e, hD] at hc; cases hc)
theorem below_putObj {w W : World} {D : Nat} (h : Below w.heap.size w W) (hB : w.heap.size ≤ D) (o : Obj) : Below w.heap.size w (W.putObj D o) :=
  h.grown (grownBy_putObj' W D o) h.size (fun k e => by cases e; exact hB)
theorem pcR_first {e base g n cap : Nat} {ok : Nat → Prop} {W : World} {xs : List Pc} (h : Kd.R pcK e W base ok (.slice (some ⟨g, 0, none⟩) n cap) xs) (hx : 0 < xs.length) :
    Kd.R pcK e (W.setCell ⟨g, 0, none⟩ (.bool true)) base ok (.slice (some ⟨g, 0, none⟩) n cap) (xs.set 0 (true, (xs.getD 0 zPc).2)) := by
  have hn := (Kd.R_reads' h).1
  obtain ⟨c, hl, hM, hc, hf⟩ := Kd.R_elem h zPc 0 (by omega) (by omega)
  obtain ⟨v, rfl, hv⟩ := pcK_openM hM
  exact (Kd.R_seg h 0 (by omega) (by omega) (c := [.bool (xs.getD 0 zPc).1, .bool (xs.getD 0 zPc).2.1, v]) (seg := [.bool true]) (j := 0) (x' := (true, (xs.getD 0 zPc).2)) hl hc (by show 0 + 1 ≤ 3; omega) (pcK_mkM W base _ (true, (xs.getD 0 zPc).2) hv) (fun k hk => hk)).1
theorem pcR_last {e base g n cap : Nat} {ok : Nat → Prop} {W : World} {xs : List Pc} (h : Kd.R pcK e W base ok (.slice (some ⟨g, 0, none⟩) n cap) xs) (i : Nat) (hx : i < xs.length) :
    Kd.R pcK e (W.setCell ⟨g, i * 3 + 1, none⟩ (.bool true)) base ok (.slice (some ⟨g, 0, none⟩) n cap) (xs.set i ((xs.getD i zPc).1, true, (xs.getD i zPc).2.2)) := by
  have hn := (Kd.R_reads' h).1
  obtain ⟨c, hl, hM, hc, hf⟩ := Kd.R_elem h zPc (i : Int) (by omega) (by omega)
  rw [Int.toNat_natCast] at hM hc
  obtain ⟨v, rfl, hv⟩ := pcK_openM hM
  have := (Kd.R_seg h (i : Int) (by omega) (by omega) (c := [.bool (xs.getD i zPc).1, .bool (xs.getD i zPc).2.1, v]) (seg := [.bool true]) (j := 1) (x' := ((xs.getD i zPc).1, true, (xs.getD i zPc).2.2)) hl (by rw [Int.toNat_natCast]; exact hc) (by show 1 + 1 ≤ 3; omega) (pcK_mkM W base _ ((xs.getD i zPc).1, true, (xs.getD i zPc).2.2) hv) (fun k hk => hk)).1
  rw [Int.toNat_natCast] at this
  exact this
theorem cut_marks (l : List UInt8) (n M1 : Nat) (hM : manyP l.length n = M1 + 1) :
    (((List.range (manyP l.length n)).map (pcOf l n)).set 0 (true, (((List.range (manyP l.length n)).map (pcOf l n)).getD 0 zPc).2)).set M1
      (((((List.range (manyP l.length n)).map (pcOf l n)).set 0 (true, (((List.range (manyP l.length n)).map (pcOf l n)).getD 0 zPc).2)).getD M1 zPc).1, true, ((((List.range (manyP l.length n)).map (pcOf l n)).set 0 (true, (((List.range (manyP l.length n)).map (pcOf l n)).getD 0 zPc).2)).getD M1 zPc).2.2) = cutL l n := by
  unfold cutL
  rw [hM]
  apply List.ext_getElem
  · simp
  · intro i h1 h2
    have hi : i < M1 + 1 := by simpa using h2
    by_cases h0 : i = 0
    · by_cases hm : M1 = 0
      · subst h0; subst hm
        simp [pcOf, List.getD_eq_getElem?_getD]
      · subst h0
        have : ¬ M1 = 0 := hm
        simp [pcOf, List.getD_eq_getElem?_getD, List.getElem_set, hm]
        omega
    · by_cases hm : i = M1
      · subst hm
        have : ¬ 0 = i := fun e => h0 e.symm
        simp [pcOf, List.getD_eq_getElem?_getD, List.getElem_set, this, h0, List.getElem?_set]
      · have e1 : ¬ 0 = i := fun e => h0 e.symm
        have e2 : ¬ M1 = i := fun e => hm e.symm
        simp [pcOf, List.getElem_set, e1, e2, h0, hm]
theorem map_range_getD {α : Type} (f : Nat → α) (d : α) (m : Nat) {i : Nat} (h : i < m) : ((List.range m).map f).getD i d = f i := by
  simp [List.getD_eq_getElem?_getD, h]
theorem many_le {len n : Nat} (hn : 1 ≤ n) : manyP len n ≤ len := by
  rcases Nat.lt_or_ge len (manyP len n) with h | h
  · exfalso
    have := (many_mul (len := len) hn).1 h
    have h2 : len * 1 ≤ len * n := Nat.mul_le_mul_left _ hn
    omega
  · exact h
set_option maxRecDepth 100000 in
set_option maxHeartbeats 4000000 in
theorem cut_calls (w : World) (A : Option Addr) (l : List UInt8) (c n : Nat) (hb : byte.C w A l.length l) (hc : l.length ≤ c) (hl0 : 1 ≤ l.length) (hl : l.length ≤ 65536) (hn : 1 ≤ n) (hn2 : n ≤ 65536) :
    Calls Try.prog 8 #[.slice A l.length c, .int .i64 (n : Int)] w (CutPost l n w) := by
  obtain ⟨ad, rfl, _⟩ := hb.2.2 hl0
  have hct := Lib.hid (fun W => count_calls W (l.length : Int) (n : Int))
  unfold countS at hct
  rw [if_neg (by omega), if_neg (by omega)] at hct
  generalize ((l.length : Int) + (n : Int) - 1) / (n : Int) = mm at *
  have HB := Lib.hid hb
  clear hb
  refine (callsIn_wide (n := 3)).1 (callsIn_of_wp_marks Try.func8 rfl trivial (wpIn_wide.2 ?_) rfl)
  simp only [Try.ntmps8, List.size_toArray, List.length_cons, List.length_nil, Nat.reduceAdd, Nat.reduceSub, Array.replicate_succ, Array.replicate_zero, List.push_toArray, List.append_toArray, List.nil_append, List.cons_append]
  go_wp2_with fail
  refine (hct.out w).mono ?_
  rintro e w1 ⟨rfl, rfl⟩
  go_wp2_with fail
  refine (chunk_calls _ (some ad) l.length c n (by omega)).mono ?_
  rintro e w1 ⟨rfl, rfl⟩
  go_wp2_with fail
  rename_i Q0 K0 hK0
  have hW0 : CutI w w.heap.size w.heap.size (w.heap.size + 1) (w.heap.size + 1 + 1) (.slice (some ad) l.length c) n [] (((w.alloc (.cells #[.slice none 0 0] 23)).alloc (.cells #[.slice (some ad) l.length c] 22)).alloc (.cells #[.int .i64 (n : Int)] 3)) := by
    have s1 : (w.alloc (.cells #[.slice none 0 0] 23)).heap.size = w.heap.size + 1 := by simp
    have s2 : ((w.alloc (.cells #[.slice none 0 0] 23)).alloc (.cells #[.slice (some ad) l.length c] 22)).heap.size = w.heap.size + 1 + 1 := by simp
    have h0 := blk_new w (.cells #[.slice none 0 0] 23)
    have h1 := blk_new (w.alloc (.cells #[.slice none 0 0] 23)) (.cells #[.slice (some ad) l.length c] 22)
    have h2 := blk_new ((w.alloc (.cells #[.slice none 0 0] 23)).alloc (.cells #[.slice (some ad) l.length c] 22)) (.cells #[.int .i64 (n : Int)] 3)
    rw [s1] at h1
    rw [s2] at h2
    exact ⟨⟨_, blk_alloc (blk_alloc h0 _) _, Kd.R_nil _ _ _ _ _⟩, below_alloc (below_alloc (below_alloc (Below.refl _ _) _) _) _, blk_alloc h1 _, h2⟩
  have hsz : (((w.alloc (.cells #[.slice none 0 0] 23)).alloc (.cells #[.slice (some ad) l.length c] 22)).alloc (.cells #[.int .i64 (n : Int)] 3)).heap.size = w.heap.size + 3 := by simp
  generalize ((w.alloc (.cells #[.slice none 0 0] 23)).alloc (.cells #[.slice (some ad) l.length c] 22)).alloc (.cells #[.int .i64 (n : Int)] 3) = W0 at *
  refine wpIn_wide.1 (wpIn_rangeFunc_ownF (n := 3) (F := Fence.wide) rfl (by decide) (gf := 22) (lb := #[.pointer (some ⟨w.heap.size + 1, 0, none⟩), .pointer (some ⟨w.heap.size + 1 + 1, 0, none⟩)]) rfl trivial (enters_of Try.func22 (by kernel_rfl) rfl)
    (chunk_stops 2 W0 (w.heap.size + 1) (w.heap.size + 1 + 1) ad l.length c n hn hn2 hl hc hW0.bs hW0.bn) (fun h k => h.trans k) ?hKb (Below.refl _ _) (fun _ => rfl)
    (fun (pre : List Nat) W => CutI w w.heap.size w.heap.size (w.heap.size + 1) (w.heap.size + 1 + 1) (.slice (some ad) l.length c) n (pre.map (pcOf l n)) W) (fun _ _ _ => False)
    (cutI_own (fun pre : List Nat => pre.map (pcOf l n)) (Nat.le_refl _) (by omega) (by omega) (by omega) (by omega)) (fun _ _ _ _ _ hs _ _ => hs) hW0
    (fun x => { tmps := #[.slice (some ad) l.length c, .int .i64 (n : Int), undef, undef, .slice none 0 0, .int .i64 0, .int .i64 mm, .int .i64 0, .pointer (some ⟨w.heap.size, 0, none⟩), chunkV ad l.length n x, .tuple #[.int .i64 mm, .int .i64 0], .slice (some ad) l.length c, .int .i64 (l.length : Int), .int .i64 (n : Int), .tuple #[.int .i64 mm, .int .i64 0], .int .i64 mm, .int .i64 0, .int .i64 0, .bool false, undef, .slice (some ad) l.length c, .int .i64 (n : Int), .func (.func 22) #[] #[.pointer (some ⟨w.heap.size + 1, 0, none⟩), .pointer (some ⟨w.heap.size + 1 + 1, 0, none⟩)], chunkV ad l.length n x, undef, undef, undef, undef, undef, undef, undef, undef, undef, undef, undef, undef, undef, undef, undef, undef], defers := [] }) ?assign ?body ?done ?stop)
  case hKb =>
    intro W r o o' hr hW ho ho2
    exact ⟨by simp [World.putObj], fun k hk => World.putObj_heap_other (by omega)⟩
  case assign =>
    intro r x W K hK
    gi_wp2
    exact hK
  case body =>
    intro r pre x W hI hlen
    refine wpIn_block ?_
    obtain ⟨⟨v, hg, hR⟩, hBl, hs, hbn⟩ := hI
    have hBD := sub_C (Kd.C_below HB.out hBl) (x * n) n
    have hbl : ((l.drop (x * n)).take n).length ≤ 140737488355328 := by rw [List.length_take, List.length_drop]; omega
    have hcv : chunkV ad l.length n x = .slice (some (ad.add (x * n))) ((l.drop (x * n)).take n).length ((l.drop (x * n)).take n).length := by
      unfold chunkV
      rw [List.length_take, List.length_drop]
    rw [hcv]
    have hpx : pcOf l n x = (false, false, (l.drop (x * n)).take n) := rfl
    have hql : (pre.map (pcOf l n)).length ≤ 65536 := by
      rw [List.length_map]
      have := many_le (len := l.length) hn
      omega
    have hmq : (pre ++ [x]).map (pcOf l n) = pre.map (pcOf l n) ++ [pcOf l n x] := by rw [List.map_append]; rfl
    rw [hpx] at hmq
    have HMQ := Lib.hid hmq
    clear hmq hpx
    generalize (l.drop (x * n)).take n = bd at *
    generalize pre.map (pcOf l n) = q at *
    generalize some (ad.add (x * n)) = Bd at *
    obtain ⟨Av, cv, rfl⟩ := Kd.R_slice hR
    have k0 := Lib.hid (show W.cell? ⟨w.heap.size, 0, none⟩ = some (.slice Av q.length cv) from blk_cell hg 0)
    have HGG := Lib.hid (fun (w2 : World) (h : Below W.heap.size W w2) => blk_below hg h)
    have hgb : w.heap.size ≤ w.heap.size := Nat.le_refl _
    have hbS : w.heap.size ≤ W.heap.size := hBl.size
    have hgS : w.heap.size < W.heap.size := blk_lt hg
    have HNG := Lib.hid (fun e : (Value.slice Av q.length cv).ownBlock = some w.heap.size => hR.1 _ e rfl)
    have HKK := Lib.hid (fun (w2 w1 : World) (hB2 : Below W.heap.size W w2) (hG : w2.grownBy w1 (Value.slice Av q.length cv).ownBlock) => show KeepsOthers W w1 ∧ KeepB (w.heap.size + 1) (w.heap.size + 1 + 1) W w1 from by
      have hR2 := Kd.R_below hR hB2
      refine ⟨KeepsOthers.trans ⟨hB2.size, fun k o hk _ => (hB2.block k (blk_lt hk)).trans hk⟩ (KeepsOthers.of_grownBy hG (fun j o hj ho => ?_)), ?_⟩
      · obtain ⟨inner, hown⟩ := Kd.R_own hR2
        obtain ⟨cells, hcl⟩ := own_typed hown j hj
        rw [hcl] at ho
        injection ho with ho
        subst ho
        rfl
      · refine ⟨Nat.le_trans hB2.size hG.size, fun k hk => ?_⟩
        have h1 : some k ≠ (Value.slice Av q.length cv).ownBlock ∧ k < W.heap.size := by
          rcases hk with rfl | rfl
          · exact ⟨Kd.R_ne hR hs (by decide), blk_lt hs⟩
          · exact ⟨Kd.R_ne hR hbn (by decide), blk_lt hbn⟩
        exact (hG.block k (by have := hB2.size; omega) h1.1).trans (hB2.block k h1.2))
    have HKS := Lib.hid (fun (w1 : World) (u : Value) (h : KeepsOthers W w1 ∧ KeepB (w.heap.size + 1) (w.heap.size + 1 + 1) W w1) => show KeepsOthers W (w1.setCell ⟨w.heap.size, 0, none⟩ u) ∧ KeepB (w.heap.size + 1) (w.heap.size + 1 + 1) W (w1.setCell ⟨w.heap.size, 0, none⟩ u) from
      ⟨h.1.trans (KeepsOthers.setCell _ _ _), by simpa [World.setCell] using h.2.1, fun k hk => (Below.heap_setCell w1 ⟨w.heap.size, 0, none⟩ u k (by dsimp only; omega)).trans (h.2.2 k hk)⟩)
    have HS := Lib.hid hs
    have HBN := Lib.hid hbn
    have HR := Lib.hid hR
    have HBB := Lib.hid hBl
    have HBD := Lib.hid hBD
    have HM := Lib.hid (fun (w2 : World) (A9 : Option Addr) (c9 : Nat) (hB : Below W.heap.size W w2) (h : byte.R 5 w2 W.heap.size (fun _ => True) (.slice A9 bd.length c9) bd) =>
      show pcK.M w2 w.heap.size (fun k => k ≠ w.heap.size ∧ some k ≠ (Value.slice Av q.length cv).ownBlock) (false, false, bd) [.bool false, .bool false, .slice A9 bd.length c9] from
        pcK_mkM w2 w.heap.size _ (false, false, bd) (Kd.R_flat (fun h => h) (Kd.R_lower h hbS) (fun k hk _ => by
          have h1 := Kd.R_base h k hk
          exact ⟨by omega, fun e => by have := Kd.R_lt hR k e.symm; omega⟩)))
    clear hs hbn hR hBl hg hBD hcv
    have hLO : ¬ LetsOut (Exit.inBlock 1 (ownPostK (KeepB (w.heap.size + 1) (w.heap.size + 1 + 1)) (fun (pre : List Nat) W => CutI w w.heap.size w.heap.size (w.heap.size + 1) (w.heap.size + 1 + 1) (.slice (some ad) l.length c) n (pre.map (pcOf l n)) W) (fun _ _ _ => False) (pre ++ [x]) W)) := by
      rintro ⟨a, w', h⟩
      exact h
    have hND := noDefer (ops := Go.Proofs.YtgfkdebbdjojmaaW.PrintLast.opsOf Try.f8 7) (by kernel_rfl)
    have B := True.intro
    refine startR_ (m := 7) (S := fun w' => True) (ds := []) #[false, false, false, false, false, false, false] (by kernel_rfl) rfl rfl trivial hLO hND (fun hHeld => ?_)
    refine with_tabW cuttab7 cutbits7 (fun HT_ HW_ => ?_)
    refine pure_ (i := 1) (N := some 25) (v := ?_) (a' := ?_) #[false, true, false, false, false, false, false] rfl rfl (any_of HT_.out (by kernel_rfl)) (fun _ _ _ h => h) (Or.inl ⟨by rfl, ?_⟩) ?_ ?_
    rotate_left
    · intro w'
      go_simp
      with_reducible rfl
    rotate_left
    · simp only [Act.put, List.setIfInBounds_toArray, List.set_cons_zero, List.set_cons_succ, i64_w, i32_w]
      rfl
    refine inv_at [0, 2, 3, 4, 5, 6] (fun a0_ b a w' => ∃ (A9 : Option Addr) (c9 : Nat) (g9 : Nat) (v9 : Value) (m2_ : Value) (m3_ : Value) (m4_ : Value), a = putSel a0_ b [(0, 24, .slice Av q.length cv), (2, 26, m2_), (3, 27, m3_), (4, 28, m4_), (5, 29, v9)] ∧ (b 5 = false → Below W.heap.size W w') ∧ (b 2 = true → b 5 = false → byte.R 5 w' W.heap.size (fun _ => True) (.slice A9 bd.length c9) bd) ∧ (b 4 = true → b 5 = false → ∃ w2, w' = w2.alloc (.cells #[.bool false, .bool false, .slice A9 bd.length c9] 42) ∧ g9 = w2.heap.size ∧ Below W.heap.size W w2 ∧ byte.R 5 w2 W.heap.size (fun _ => True) (.slice A9 bd.length c9) bd) ∧ (b 5 = true → b 6 = false → Kd.R pcK 42 w' w.heap.size (fun k => k ≠ w.heap.size) v9 (q ++ [(false, false, bd)]) ∧ Below w.heap.size w w' ∧ w'.heap[w.heap.size]? = some (.cells #[.slice Av q.length cv] 23 (0, 0)) ∧ KeepsOthers W w' ∧ KeepB (w.heap.size + 1) (w.heap.size + 1 + 1) W w') ∧ (b 6 = true → w'.heap[w.heap.size]? = some (.cells #[v9] 23 (0, 0)) ∧ Kd.R pcK 42 w' w.heap.size (fun k => k ≠ w.heap.size) v9 (q ++ [(false, false, bd)]) ∧ Below w.heap.size w w' ∧ KeepsOthers W w' ∧ KeepB (w.heap.size + 1) (w.heap.size + 1 + 1) W w') ∧ (b 2 = true → (m2_ : Value) = .slice A9 bd.length c9) ∧ (b 3 = true → (m3_ : Value) = .agg #[.bool false, .bool false, .slice A9 bd.length c9]) ∧ (b 4 = true → (m4_ : Value) = .slice (some ⟨g9, 0, none⟩) 1 1)) HT_.out HW_.out (by kernel_rfl) (by kernel_rfl) ?_ ?_ ?_
    · exact ⟨none, 0, 0, undef, .bool false, .bool false, .bool false, by simp only [putSel, Bool.false_eq_true, if_false], fun _ => below_drew (Below.refl _ _), fun h_ => absurd h_ (by decide), fun h_ => absurd h_ (by decide), fun h_ => absurd h_ (by decide), fun h_ => absurd h_ (by decide), fun h_ => absurd h_ (by decide), fun h_ => absurd h_ (by decide), fun h_ => absurd h_ (by decide)⟩
    · skip
      clear B
      refine steps_cons ?_ ?_
      · rintro b a w' ⟨A9, c9, g9, v9, m2_, m3_, m4_, ha, Q_B, Q_C, Q_W2, Q_S1, Q_S2, Q_X2_, Q_X3_, Q_X4_⟩ hb_ hon hoff
        refine ⟨_, rfl, fun K hK => ?_⟩
        have e8 : a.tmps[8]? = some (.pointer (some ⟨w.heap.size, 0, none⟩)) := by rw [ha]; exact (putSel_off rfl).trans rfl
        replace ha := Aside0.mk ha
        have B := Aside0.mk (Q_B (hoff 5 (by kernel_rfl)))
        have hs := pw_cell_below B.out k0.out
        refine value_ (w1 := w') (v := .slice Av q.length cv) (by rfl) rfl ?_ ?_
        · go_simp
          (try simp only [i64_w])
          try rfl
        refine hK.out _ _ ⟨A9, c9, g9, v9, m2_, m3_, m4_, (by rw [ha.out]; exact putSel_upk 0 hb_ rfl rfl rfl), Q_B, Q_C, Q_W2, fun h0_ _ => absurd ((hoff 5 (by kernel_rfl)).symm.trans h0_) (by decide), fun h0_ => absurd ((hoff 6 (by kernel_rfl)).symm.trans h0_) (by decide), Q_X2_, Q_X3_, Q_X4_⟩
      refine steps_cons ?_ ?_
      · rintro b a w' ⟨A9, c9, g9, v9, m2_, m3_, m4_, ha, Q_B, Q_C, Q_W2, Q_S1, Q_S2, Q_X2_, Q_X3_, Q_X4_⟩ hb_ hon hoff
        refine ⟨_, rfl, fun K hK => ?_⟩
        have e25 : a.tmps[25]? = some (.slice Bd bd.length bd.length) := by rw [ha]; exact (putSel_off rfl).trans rfl
        replace ha := Aside0.mk ha
        have B := Aside0.mk (Q_B (hoff 5 (by kernel_rfl)))
        refine goes_ Try.func19 (by kernel_rfl) rfl #[.slice Bd bd.length bd.length] (by rfl) rfl rfl (by first | (simp only [List.map_toArray, List.map_cons, List.map_nil, Act.eval, Array.getD_eq_getD_getElem?, Option.getD_some, e25]; done) | (simp only [List.map_toArray, List.map_cons, List.map_nil, Act.eval, Array.getD_eq_getD_getElem?, Option.getD_some, e25]; rfl)) ?_
        refine (clone_calls Bd bd.length bd w' (Kd.C_below HBD.out B.out) hbl).mono ?_
        rintro e w1 ⟨v, rfl, hR, hB1⟩; obtain ⟨A8, c8, rfl⟩ := Kd.R_slice hR
        refine ⟨_, rfl, ?_⟩
        refine hK.out _ _ ⟨A8, c8, g9, v9, (.slice A8 bd.length c8), m3_, m4_, (by rw [ha.out]; exact putSel_upk 1 hb_ rfl rfl rfl), fun _ => B.out.trans (hB1.mono B.out.size), fun _ _ => Kd.R_lower hR B.out.size, fun h0_ _ => absurd ((hoff 4 (by kernel_rfl)).symm.trans h0_) (by decide), fun h0_ _ => absurd ((hoff 5 (by kernel_rfl)).symm.trans h0_) (by decide), fun h0_ => absurd ((hoff 6 (by kernel_rfl)).symm.trans h0_) (by decide), fun _ => rfl, fun h0_ => absurd ((hoff 3 (by kernel_rfl)).symm.trans h0_) (by decide), fun h0_ => absurd ((hoff 4 (by kernel_rfl)).symm.trans h0_) (by decide)⟩
      refine steps_cons ?_ ?_
      · rintro b a w' ⟨A9, c9, g9, v9, m2_, m3_, m4_, ha, Q_B, Q_C, Q_W2, Q_S1, Q_S2, Q_X2_, Q_X3_, Q_X4_⟩ hb_ hon hoff
        refine ⟨_, rfl, fun K hK => ?_⟩
        have e26 : a.tmps[26]? = some (m2_) := by rw [ha]; exact putSel_on (e := (2, 26, m2_)) 1 rfl rfl (hon 2 (by kernel_rfl)) rfl
        rw [Q_X2_ (hon 2 (by kernel_rfl))] at e26
        replace ha := Aside0.mk ha
        have B := Aside0.mk (Q_B (hoff 5 (by kernel_rfl)))
        have C := Aside0.mk (Q_C (hon 2 (by kernel_rfl)) (hoff 5 (by kernel_rfl)))
        refine value_ (w1 := w') (v := .agg #[.bool false, .bool false, .slice A9 bd.length c9]) (by rfl) rfl ?_ ?_
        · go_simp
          (try simp only [i64_w])
          try rfl
        refine hK.out _ _ ⟨A9, c9, g9, v9, m2_, (.agg #[.bool false, .bool false, .slice A9 bd.length c9]), m4_, (by rw [ha.out]; exact putSel_upk 2 hb_ rfl rfl rfl), Q_B, Q_C, fun h0_ _ => absurd ((hoff 4 (by kernel_rfl)).symm.trans h0_) (by decide), fun h0_ _ => absurd ((hoff 5 (by kernel_rfl)).symm.trans h0_) (by decide), fun h0_ => absurd ((hoff 6 (by kernel_rfl)).symm.trans h0_) (by decide), Q_X2_, fun _ => rfl, fun h0_ => absurd ((hoff 4 (by kernel_rfl)).symm.trans h0_) (by decide)⟩
      refine steps_cons ?_ ?_
      · rintro b a w' ⟨A9, c9, g9, v9, m2_, m3_, m4_, ha, Q_B, Q_C, Q_W2, Q_S1, Q_S2, Q_X2_, Q_X3_, Q_X4_⟩ hb_ hon hoff
        refine ⟨_, rfl, fun K hK => ?_⟩
        have e27 : a.tmps[27]? = some (m3_) := by rw [ha]; exact putSel_on (e := (3, 27, m3_)) 2 rfl rfl (hon 3 (by kernel_rfl)) rfl
        rw [Q_X3_ (hon 3 (by kernel_rfl))] at e27
        replace ha := Aside0.mk ha
        have B := Aside0.mk (Q_B (hoff 5 (by kernel_rfl)))
        have C := Aside0.mk (Q_C (hon 2 (by kernel_rfl)) (hoff 5 (by kernel_rfl)))
        refine value_ (w1 := w'.alloc (.cells #[.bool false, .bool false, .slice A9 bd.length c9] 42)) (v := .slice (some ⟨w'.heap.size, 0, none⟩) 1 1) (by rfl) rfl (by go_simp; try rfl) ?_
        refine hK.out _ _ ⟨A9, c9, w'.heap.size, v9, m2_, m3_, (.slice (some ⟨w'.heap.size, 0, none⟩) 1 1), (by rw [ha.out]; exact putSel_upk 3 hb_ rfl rfl rfl), fun _ => B.out.alloc B.out.size _, fun _ _ => Kd.R_alloc C.out _, fun _ _ => ⟨w', rfl, rfl, B.out, C.out⟩, fun h0_ _ => absurd ((hoff 5 (by kernel_rfl)).symm.trans h0_) (by decide), fun h0_ => absurd ((hoff 6 (by kernel_rfl)).symm.trans h0_) (by decide), Q_X2_, Q_X3_, fun _ => rfl⟩
      refine steps_cons ?_ ?_
      · rintro b a w' ⟨A9, c9, g9, v9, m2_, m3_, m4_, ha, Q_B, Q_C, Q_W2, Q_S1, Q_S2, Q_X2_, Q_X3_, Q_X4_⟩ hb_ hon hoff
        refine ⟨_, rfl, fun K hK => ?_⟩
        have e24 : a.tmps[24]? = some (.slice Av q.length cv) := by rw [ha]; exact putSel_on (e := (0, 24, .slice Av q.length cv)) 0 rfl rfl (hon 0 (by kernel_rfl)) rfl
        have e28 : a.tmps[28]? = some (m4_) := by rw [ha]; exact putSel_on (e := (4, 28, m4_)) 3 rfl rfl (hon 4 (by kernel_rfl)) rfl
        rw [Q_X4_ (hon 4 (by kernel_rfl))] at e28
        replace ha := Aside0.mk ha
        have B := Aside0.mk (Q_B hb_)
        have C := Aside0.mk (Q_C (hon 2 (by kernel_rfl)) hb_)
        have W2 := Aside0.mk (Q_W2 (hon 4 (by kernel_rfl)) hb_)
        obtain ⟨w2, rfl, hg9, hB2, hC2⟩ := W2.out
        rw [hg9] at e28
        refine Kd.R_append_step pcK (w0 := w) (W := w2) w.heap.size (by rfl) _ _ 23 42 _ 32 rfl Try.underlying23 info_pc rfl (by decide) (by decide) (.slice Av q.length cv) q (false, false, bd) [.bool false, .bool false, .slice A9 bd.length c9] (fun k => k ≠ w.heap.size) (fun k => k ≠ w.heap.size ∧ some k ≠ (Value.slice Av q.length cv).ownBlock) (eval_of e24) (eval_of e28) (HM.out w2 A9 c9 hB2 hC2) (fun k hk => hk) (fun k hk => by have := hB2.size; omega) (Kd.R_below HR.out hB2) (HBB.out.trans (hB2.mono hbS)) (Nat.le_trans hbS hB2.size) (by omega) ?_
        intro v1 w1 hR1 hB1 hG1 hat1
        refine hK.out _ _ ⟨A9, c9, g9, v1, m2_, m3_, m4_, (by rw [ha.out]; exact putSel_upk 4 hb_ rfl rfl rfl), fun h0_ => absurd ((up_self b 5).symm.trans h0_) (by decide), fun _ h1_ => absurd ((up_self b 5).symm.trans h1_) (by decide), fun _ h1_ => absurd ((up_self b 5).symm.trans h1_) (by decide), fun _ _ => ⟨hR1, hB1, blk_grown (HGG.out w2 hB2) hG1 (fun e => HNG.out e.symm), HKK.out w2 w1 hB2 hG1⟩, fun h0_ => absurd ((hoff 6 (by kernel_rfl)).symm.trans h0_) (by decide), Q_X2_, Q_X3_, Q_X4_⟩
      refine steps_cons ?_ ?_
      · rintro b a w' ⟨A9, c9, g9, v9, m2_, m3_, m4_, ha, Q_B, Q_C, Q_W2, Q_S1, Q_S2, Q_X2_, Q_X3_, Q_X4_⟩ hb_ hon hoff
        refine ⟨_, rfl, fun K hK => ?_⟩
        have e8 : a.tmps[8]? = some (.pointer (some ⟨w.heap.size, 0, none⟩)) := by rw [ha]; exact (putSel_off rfl).trans rfl
        have e29 : a.tmps[29]? = some (v9) := by rw [ha]; exact putSel_on (e := (5, 29, v9)) 4 rfl rfl (hon 5 (by kernel_rfl)) rfl
        replace ha := Aside0.mk ha
        have S1 := Aside0.mk (Q_S1 (hon 5 (by kernel_rfl)) hb_)
        obtain ⟨hR1, hB1, hG1, hK1⟩ := S1.out
        obtain ⟨A7, c7, hv9⟩ := Kd.R_slice hR1
        have hs := blk_cell hG1 0
        have hf := blk_frozen hG1 0
        refine skip_ (w1 := w'.setCell ⟨w.heap.size, 0, none⟩ v9) (by rfl) rfl (by generalize (q ++ [((false, false, bd) : Pc)]).length = zl at hv9; rw [hv9] at e29 ⊢; go_simp; try rfl) ?_
        refine hK.out _ _ ⟨A9, c9, g9, v9, m2_, m3_, m4_, (by rw [ha.out]; exact putSel_none (v := undef) rfl), fun h0_ => absurd ((hon 5 (by kernel_rfl)).symm.trans h0_) (by decide), fun _ h1_ => absurd ((hon 5 (by kernel_rfl)).symm.trans h1_) (by decide), fun _ h1_ => absurd ((hon 5 (by kernel_rfl)).symm.trans h1_) (by decide), fun _ h1_ => absurd ((up_self b 6).symm.trans h1_) (by decide), fun _ => ⟨by have := blk_set hG1 0 v9; exact this, Kd.R_far hR1 (p := ⟨w.heap.size, 0, none⟩) (fun k hk => hk) _, hB1.setCell (p := ⟨w.heap.size, 0, none⟩) hgb _, HKS.out w' v9 hK1⟩, Q_X2_, Q_X3_, Q_X4_⟩
      exact steps_nil
    rintro b a w' hall ⟨A9, c9, g9, v9, m2_, m3_, m4_, ha, Q_B, Q_C, Q_W2, Q_S1, Q_S2, Q_X2_, Q_X3_, Q_X4_⟩
    clear B
    have hb0_ := hall 0 (by kernel_rfl)
    have hb2_ := hall 2 (by kernel_rfl)
    have hb3_ := hall 3 (by kernel_rfl)
    have hb4_ := hall 4 (by kernel_rfl)
    have hb5_ := hall 5 (by kernel_rfl)
    have hb6_ := hall 6 (by kernel_rfl)
    subst ha
    obtain rfl := Q_X2_ hb2_
    obtain rfl := Q_X3_ hb3_
    obtain rfl := Q_X4_ hb4_
    simp only [putSel, hb0_, hb2_, hb3_, hb4_, hb5_, hb6_, if_true, Act.put, List.setIfInBounds_toArray, List.set_cons_zero, List.set_cons_succ]
    clear Q_B
    clear Q_C
    clear Q_W2
    clear Q_S1
    have S2 := Aside0.mk (Q_S2 hb6_)
    clear Q_S2
    clear hall hb0_ hb2_ hb3_ hb4_ hb5_ hb6_
    obtain ⟨hg9, hR9, hB9, hK9, hKB9⟩ := S2.out
    refine ⟨hK9, hKB9, ⟨v9, hg9, ?_⟩, hB9, (hKB9.2 _ (Or.inl rfl)).trans HS.out, (hKB9.2 _ (Or.inr rfl)).trans HBN.out⟩
    show Kd.R _ _ _ _ _ _ ((pre ++ [x]).map (pcOf l n))
    rw [HMQ.out]
    exact hR9
  case stop =>
    intro D c pre W _ _ h _
    exact h.elim
  case done =>
    rintro D xs W hD rfl ⟨⟨v, hg, hR⟩, hBl, hs, hbn⟩ hK
    have hql : ((List.range (manyP l.length n)).map (pcOf l n)).length = manyP l.length n := by rw [List.length_map, List.length_range]
    have hm1 : 1 ≤ manyP l.length n := (many_mul hn).2 (by omega)
    have hm2 : manyP l.length n ≤ l.length := many_le hn
    obtain ⟨gr, cap, rfl, hgr, hgrl, hgrc⟩ := Kd.R_form hR (by rw [hql]; omega)
    have hne : w.heap.size ≠ gr := fun e => (hR.1 gr rfl) e.symm
    obtain ⟨M1, hM1⟩ : ∃ M1, manyP l.length n = M1 + 1 := ⟨manyP l.length n - 1, by omega⟩
    obtain ⟨c0, hc0l, hc0M, hc0, hf0⟩ := Kd.R_elem hR zPc 0 (by omega) (by rw [hql]; omega)
    obtain ⟨c1, hc1l, hc1M, hc1, hf1⟩ := Kd.R_elem hR zPc (M1 : Int) (by omega) (by rw [hql]; omega)
    obtain ⟨v0, rfl, _⟩ := pcK_openM hc0M
    obtain ⟨v1, rfl, _⟩ := pcK_openM hc1M
    have x0 : W.cell? ⟨gr, 0, none⟩ = some (.bool false) := by
      have h2 : ((List.range (manyP l.length n)).map (pcOf l n)).getD (Int.toNat 0) zPc = pcOf l n 0 := map_range_getD _ _ _ (by rw [hM1]; exact Nat.succ_pos _)
      have := hc0 0 _ rfl
      rw [h2] at this
      exact this
    have x1 : W.cell? ⟨gr, M1 * 3 + 1, none⟩ = some (.bool false) := by
      have h2 : ((List.range (manyP l.length n)).map (pcOf l n)).getD (Int.toNat (M1 : Int)) zPc = pcOf l n M1 := map_range_getD _ _ _ (by rw [hM1, Int.toNat_natCast]; omega)
      have := hc1 1 _ rfl
      rw [h2, Int.toNat_natCast] at this
      exact this
    have y0 : W.frozen? ⟨gr, 0, none⟩ = false := hf0 0
    have y1 : W.frozen? ⟨gr, M1 * 3 + 1, none⟩ = false := by have := hf1 1; rw [Int.toNat_natCast] at this; exact this
    have k0 := blk_cell hg 0
    rw [hql, hM1] at k0
    have e1 : (((M1 + 1 : Nat) : Int) - 1) = (M1 : Int) := by omega
    have HR := Lib.hid hR
    have HG := Lib.hid hg
    have HBL := Lib.hid hBl
    have HK := Lib.hid hK
    have hM65 : M1 ≤ 65536 := by omega
    clear hR hg hBl hK hc0 hc1 hf0 hf1 hc0M hc1M hc0l hc1l hs hbn hgrc hql hm1 hm2 hW0
    refine hK0 _ _ ?_
    clear hK0
    go_wp2
    go_region
    go_wp2
    have hR1 := pcR_first HR.out (by rw [List.length_map, List.length_range, hM1]; exact Nat.succ_pos _)
    have hR2 := pcR_last hR1 M1 (by rw [List.length_set, List.length_map, List.length_range, hM1]; omega)
    rw [cut_marks l n M1 hM1] at hR2
    have hDg : D ≠ gr := by
      obtain ⟨cells, hc⟩ := own_typed (Kd.R_own HR.out).choose_spec gr rfl
      rintro rfl
      rw [HK.out] at hc
      cases hc
    have hD1 : (((W.setCell ⟨gr, 0, none⟩ (.bool true)).setCell ⟨gr, M1 * 3 + 1, none⟩ (.bool true)).drew).heap[D]? = some (.deferred (some [])) :=
      (Below.heap_setCell _ ⟨gr, M1 * 3 + 1, none⟩ _ D hDg).trans ((Below.heap_setCell _ ⟨gr, 0, none⟩ _ D hDg).trans HK.out)
    have hB2 : Below w.heap.size w ((W.setCell ⟨gr, 0, none⟩ (.bool true)).setCell ⟨gr, M1 * 3 + 1, none⟩ (.bool true)).drew := ((HBL.out.setCell (p := ⟨gr, 0, none⟩) hgr _).setCell (p := ⟨gr, M1 * 3 + 1, none⟩) hgr _).drew
    have hR3 := Kd.R_drew hR2
    generalize ((W.setCell ⟨gr, 0, none⟩ (.bool true)).setCell ⟨gr, M1 * 3 + 1, none⟩ (.bool true)).drew = W2 at *
    refine ⟨by simp, .inl ⟨_, _, rfl, run_takeDeferred hD1, ?_⟩⟩
    refine ⟨_, results_list (rs := [.tmp 4, .tmp 5]) rfl (by simp) (.tmp (.tmp .nil)), .slice (some ⟨gr, 0, none⟩) (M1 + 1) cap, rfl, ?_, ?_⟩
    · rw [List.length_map, List.length_range, hM1] at hR3
      exact R_putObj hR3 hD1
    · exact below_putObj hB2 (by omega) _
end Go.Proofs.Ytgfkdebbdjojmaa.Frag
