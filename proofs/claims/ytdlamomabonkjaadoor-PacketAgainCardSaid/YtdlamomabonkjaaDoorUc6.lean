/- The statement PacketAgain of ropewalk/ropewalklaw07.PacketAgain. Proved from the walk Pk.again_row. Condition: the listed package variables read as the program's text lays them (tied by the card). -/
import Derived.Test.YtdlamomabonkjaaDoorUc5
import Derived.Lib.LaidTab
import Derived.Test.YtdlamomabonkjaaDoorCards
import Derived.Test.YtdlamomabonkjaaDoorTie
set_option maxRecDepth 100000
set_option linter.unusedVariables false
set_option linter.unusedSimpArgs false
section
namespace Go.Proofs.YtdlamomabonkjaaDoor.Base
open Go.RowKit YtdlamomabonkjaaDoorW.PrintWords YtdlamomabonkjaaDoorW.PrintLast
def GrK (C : List Nat) (I : Nat → World → Prop) (L : Sel) (a0 : Act) (b : Nat → Bool) (a : Act) (w : World) : Prop :=
 ∃ s, s ≤ C.length ∧ (∀ j c, C[j]? = some c → (j < s → b c = true) ∧ (s ≤ j → b c = false)) ∧ a = putSel a0 b L ∧ I s w
theorem putSel_skip {b : Nat → Bool} {i : Nat} {L : Sel} {a : Act} (h : L.all (fun e => !(e.1 == i)) = true) : putSel a (up b i) L = putSel a b L :=
 putSel_congr (fun e he => up_ne (by have := List.all_eq_true.1 h e he; simpa using this))
section
variable {P : Program} {ops : Array Oper} {Q : Exit → Act → World → Prop} {B O C : List Nat} {W : World} {I : Nat → World → Prop} {L : Sel} {a0 : Act} {i : Nat} {p : Tmp}
theorem gk_op (J : World → Prop) (i k : Nat) {t : Tmp} {u v : Value} {oi : Oper} (ho : ops[i]? = some oi) (hg : oi.guard = none) (hd : oi.dst = some t) (hL : L[k]? = some (i, t, v))
  (hdist : (L.take k ++ L.drop (k + 1)).all (fun e => !(e.1 == i) && !(e.2.1 == t)) = true) (hC : C.contains i = false) (hr : Rd O B i (fun _ => L) a0 p (fun _ => u)) (hJ : ∀ s w, I s w → J w)
  (hrun : ∀ (a : Act) (w : World), J w → a.tmps[p]? = some u → (execOp a.eval oi).run P w = .ok (.value v) w) : StepAt P ops Q B O (GrK C I L a0) i := by
 rintro b a w ⟨s, h0, h1, ha, hI⟩ hb hon hoff
 refine ⟨oi, ho, fun K hK => ?_⟩
 rw [hd]
 refine value_ (w1 := w) (v := v) (wanted_none0 hg) hd (hrun a w (hJ _ _ hI) (by rw [ha]; exact hr b (fun _ => undef) hon hoff)) (hK.out _ _ ⟨s, h0, fun j c hc => ?_, ?_, hI⟩)
 ·have hne : c ≠ i := fun e => by
   rw [e] at hc
   have := List.mem_of_getElem? hc
   rw [List.contains_iff_mem.2 this] at hC
   cases hC
  rw [up_ne hne]
  exact h1 j c hc
 ·rw [ha]
  exact putSel_upk k hb hL (set_same hL) hdist
theorem gk_step (i m : Nat) (hm : C[m]? = some i) (hnd : (C.take m ++ C.drop (m + 1)).contains i = false) (hprev : (C.take m).all (fun q => O.contains q && (B.getD i 0).testBit q) = true)
  {b : Nat → Bool} {a : Act} {w : World} (hI : GrK C I L a0 b a w) (hb : b i = false) (hon : ∀ j, (O.contains j && (B.getD i 0).testBit j) = true → b j = true) :
  a = putSel a0 b L ∧ I m w ∧ ∀ a' w', a' = putSel a0 (up b i) L → I (m + 1) w' → GrK C I L a0 (up b i) a' w' := by
 obtain ⟨s, h0, h1, ha, hI⟩ := hI
 have hs : s = m := by
  have e1 := h1 m i hm
  rcases Nat.lt_trichotomy s m with h | h | h
  ·have hlt : s < C.length := by
    have := (List.getElem?_eq_some_iff.1 hm).1
    omega
   have hc := List.getElem?_eq_getElem hlt
   have e2 := (h1 s _ hc).2 (Nat.le_refl _)
   have e3 := List.all_eq_true.1 hprev C[s] (List.mem_take_iff_getElem.2 ⟨s, by omega, rfl⟩)
   rw [hon _ e3] at e2
   cases e2
  ·exact h
  ·rw [e1.1 h] at hb
   cases hb
 subst hs
 refine ⟨ha, hI, fun a' w' ha' hI' => ⟨s + 1, ?_, fun j c hc => ?_, ha', hI'⟩⟩
 ·have := (List.getElem?_eq_some_iff.1 hm).1
  omega
 ·by_cases hj : j = s
  ·subst hj
   rw [hm] at hc
   injection hc with hc
   subst hc
   exact ⟨fun _ => up_self _ _, fun h => absurd h (by omega)⟩
  ·have hne : c ≠ i := fun e => by
    subst e
    have hmem : c ∈ C.take s ++ C.drop (s + 1) := by
     rw [List.mem_append]
     have hl := (List.getElem?_eq_some_iff.1 hc)
     obtain ⟨hl1, hl2⟩ := hl
     by_cases h : j < s
     ·exact Or.inl (List.mem_take_iff_getElem.2 ⟨j, by omega, hl2⟩)
     ·refine Or.inr (List.mem_drop_iff_getElem.2 ⟨j - (s + 1), by omega, ?_⟩)
      rw [← hl2]
      congr 1
      omega
    rw [List.contains_iff_mem.2 hmem] at hnd
    cases hnd
   rw [up_ne hne]
   have := h1 j c hc
   exact ⟨fun h => this.1 (by omega), fun h => this.2 (by omega)⟩
theorem gk_call (i k m : Nat) {t : Tmp} {v : Value} {vals : List Value} {oi : Oper} {f : FuncId} {fn : Func} {ax : Array Operand} {ts : Array TypeId} (ho : ops[i]? = some oi) (hg : oi.guard = none) (hd : oi.dst = some t) (hm : C[m]? = some i) (hL : L[k]? = some (i, t, v))
  (hdist : (L.take k ++ L.drop (k + 1)).all (fun e => !(e.1 == i) && !(e.2.1 == t)) = true) (hnd : (C.take m ++ C.drop (m + 1)).contains i = false) (hprev : (C.take m).all (fun q => O.contains q && (B.getD i 0).testBit q) = true)
  (hf : P.funcs[f]? = some fn) (hname : (fn.name == "runtime.NumGoroutine") = false) (hbd : fn.body.isSome = true) (hop : oi.op = .call { callee := .value (.func f), args := ax, argTypes := ts })
  (har : Ar O B i (fun _ => L) a0 ax.toList vals) (hcall : ∀ w, I m w → Calls P f vals.toArray w fun e w' => e = .returned v ∧ I (m + 1) w') : StepAt P ops Q B O (GrK C I L a0) i := by
 rintro b a w hG hb hon hoff
 obtain ⟨ha, hI, hK2⟩ := gk_step i m hm hnd hprev hG hb hon
 refine ⟨oi, ho, fun K hK => ?_⟩
 rw [hd]
 have e2 := har b (fun _ => undef) hon hoff
 refine goes_ hf hname hbd vals.toArray (wanted_none0 hg) hd hop ?_ ?_
 ·apply Array.toList_inj.1
  rw [Array.toList_map, ha, e2]
 ·refine (hcall w hI).mono ?_
  rintro e w' ⟨rfl, hI'⟩
  exact ⟨v, rfl, hK.out _ _ (hK2 _ w' (by rw [ha]; exact putSel_upk k hb hL (set_same hL) hdist) hI')⟩
theorem gk_store (i m : Nat) {s : Tmp} {u v : Value} {f : World → World} {oi : Oper} (ho : ops[i]? = some oi) (hg : oi.guard = none) (hd : oi.dst = none) (hm : C[m]? = some i) (hL : L.all (fun e => !(e.1 == i)) = true)
  (hnd : (C.take m ++ C.drop (m + 1)).contains i = false) (hprev : (C.take m).all (fun q => O.contains q && (B.getD i 0).testBit q) = true) (hp : Rd O B i (fun _ => L) a0 p (fun _ => u)) (hs : Rd O B i (fun _ => L) a0 s (fun _ => v))
  (hrun : ∀ (a : Act) (w : World), I m w → a.tmps[p]? = some u → a.tmps[s]? = some v → (execOp a.eval oi).run P w = .ok .skip (f w)) (hI : ∀ w, I m w → I (m + 1) (f w)) : StepAt P ops Q B O (GrK C I L a0) i := by
 rintro b a w hG hb hon hoff
 obtain ⟨ha, hIm, hK2⟩ := gk_step i m hm hnd hprev hG hb hon
 refine ⟨oi, ho, fun K hK => ?_⟩
 rw [hd]
 refine skip_ (w1 := f w) (wanted_none0 hg) hd (hrun a w hIm (by rw [ha]; exact hp b (fun _ => undef) hon hoff) (by rw [ha]; exact hs b (fun _ => undef) hon hoff)) (hK.out _ _ (hK2 _ _ ?_ (hI w hIm)))
 show a = _
 rw [ha]
 exact (putSel_skip hL).symm
theorem grow_known {id : Nat} (O C : List Nat) (I : Nat → World → Prop) (L : Sel) {n : Nat} {l : Array Bool} {Tb : Bool × List (List Nat × List Nat)} (hm : P.follows .mixedOrders = true) (hn : ops.size = n) (hl : Array.replicate n false = l) (hT : rtab .any ops = Tb) (hw : waitsOk Tb.2 B = true) (hk : baseOk Tb.2 O = true) (hl2 : (lof Tb.2.length O (fun _ => false) == l.toList && O.length == n) = true)
  (hLO : L.all (fun e => O.contains e.1) = true) (hCO : (C.all fun e => O.contains e) = true) (h0 : I 0 W.drew) (hs : ∀ i ∈ O, StepAt P ops Q B O (GrK C I L a0) i)
  (hend : ∀ (w : World), I C.length w → Q .normal (putSel a0 (fun _ => true) L) w) : Code.wp P (Code.region id ops true) Q a0 W := by
 refine start_ (S := fun _ => True) (ds := []) l hm hn hl trivial (fun _ => ?_)
 refine inv_at O (fun a0 => GrK C I L a0) hT hw hk hl2 ⟨0, Nat.zero_le _, fun j c _ => ⟨fun h => absurd h (Nat.not_lt_zero _), fun _ => rfl⟩, ?_, h0⟩ hs ?_
 ·clear hLO hs hend
  induction L with
  | nil => rfl
  | cons e r ih => unfold putSel; exact ih
 ·rintro b a w hall ⟨s, hs1, h1, ha, hI⟩
  have e1 : putSel a0 b L = putSel a0 (fun _ => true) L := putSel_congr (fun e he => hall _ (List.all_eq_true.1 (hLO) e he))
  have e2 : s = C.length := by
   rcases Nat.lt_or_ge s C.length with h | h
   ·have hc := List.getElem?_eq_getElem h
    have e2 := (h1 s _ hc).2 (Nat.le_refl _)
    rw [hall _ (List.all_eq_true.1 hCO _ (List.getElem_mem h))] at e2
    cases e2
   ·omega
  rw [ha, e1]
  rw [e2] at hI
  exact hend w hI
end
end Go.Proofs.YtdlamomabonkjaaDoor.Base
end
section
namespace Go.Proofs.YtdlamomabonkjaaDoor.Pk
open Go.RowKit YtdlamomabonkjaaDoorW.PrintWords YtdlamomabonkjaaDoorW.PrintLast Base PCh ParDec Ch Crc CrcMath
theorem PS.put1 {w0 W : World} {g : Nat} {v : List UInt8} {f t q : Int} {CH : Value} (h : PS w0 W g v f t q CH) (x : Int) : PS w0 (W.setCell ⟨g, 1, none⟩ (.int .u16 x)) g v x t q CH := by
 obtain ⟨A, c, hb, hc, hC⟩ := h
 exact ⟨A, c, blk_put hb 1 _ rfl, hc, hC⟩
theorem PS.put2 {w0 W : World} {g : Nat} {v : List UInt8} {f t q : Int} {CH : Value} (h : PS w0 W g v f t q CH) (x : Int) : PS w0 (W.setCell ⟨g, 2, none⟩ (.int .u16 x)) g v f x q CH := by
 obtain ⟨A, c, hb, hc, hC⟩ := h
 exact ⟨A, c, blk_put hb 2 _ rfl, hc, hC⟩
theorem PS.put3 {w0 W : World} {g : Nat} {v : List UInt8} {f t q : Int} {CH : Value} (h : PS w0 W g v f t q CH) (x : Int) : PS w0 (W.setCell ⟨g, 3, none⟩ (.int .u32 x)) g v f t x CH := by
 obtain ⟨A, c, hb, hc, hC⟩ := h
 exact ⟨A, c, blk_put hb 3 _ rfl, hc, hC⟩
theorem _root_.Go.Proofs.YtdlamomabonkjaaDoor.Base.Only.thn {S : Nat → Prop} {w W W' : World} (h : Only S w W) (hb : Below W.heap.size W W') : Only S w W' := h.trans (Only.of_below (S := fun _ => False) hb) (fun _ _ h => h.elim)
theorem PS.below {w0 W W' : World} {g : Nat} {v : List UInt8} {f t q : Int} {CH : Value} (h : PS w0 W g v f t q CH) (hB : Below W.heap.size W W') : PS w0 W' g v f t q CH := by
 obtain ⟨A, c, hb, hc, hC⟩ := h
 exact ⟨A, c, blk_below hb hB, hc, hC⟩
theorem u16_small (n : Int) (h : 0 ≤ n) (h2 : n < 65536) : IntKind.u16.wrap n = n := by simp only [IntKind.wrap, IntKind.bits, IntKind.signed]; simp; omega
theorem be_lt2 (l : List UInt8) (h : l.length ≤ 2) : be l < 65536 := by
 have h1 := fold_lt l 0
 have h2 : 256 ^ l.length ≤ 256 ^ 2 := Nat.pow_le_pow_right (by decide) h
 unfold be
 omega
def hdF (b : List UInt8) : Nat := be (b.take 2)
def hdT (b : List UInt8) : Nat := be ((b.drop 2).take 2)
def hdQ (b : List UInt8) : Nat := be (((b.drop 2).drop 2).take 4)
def headE (b : List UInt8) : Int := if 65536 < b.length then 2 else if checkL b = 0 then (if (decide (0 < (hdF b : Int)) && decide (0 < (hdT b : Int))) = true then 0 else 72) else checkL b
def pkhT3 : Bool × List (List Nat × List Nat) := (true, [([], []), ([], []), ([], []), ([], []), ([3], [3]), ([4], [4]), ([5], [5]), ([6], [6]), ([], []), ([8], [8]), ([9], [9]), ([10, 6], [10]), ([11], [11]), ([], []), ([13], [13]), ([14], [14]), ([15, 11], [15]), ([0, 0, 3, 4, 5, 6, 7, 11, 16], [0]), ([17, 0, 3, 4, 5, 6, 7, 11, 16], [17]), ([18, 0, 3, 4, 5, 6, 7, 11, 16], [18]), ([19, 7, 16, 0, 3, 4, 5, 6, 7, 11, 16], [7, 19]), ([1, 0, 1, 3, 4, 5, 6, 7, 8, 9, 10, 11, 12, 16, 17, 18, 19, 20], [1]), ([21, 0, 1, 3, 4, 5, 6, 7, 8, 9, 10, 11, 12, 16, 17, 18, 19, 20], [21]), ([22, 0, 1, 3, 4, 5, 6, 7, 8, 9, 10, 11, 12, 16, 17, 18, 19, 20], [22]), ([23, 12, 20, 0, 1, 3, 4, 5, 6, 7, 8, 9, 10, 11, 12, 16, 17, 18, 19, 20], [12, 23]), ([2, 0, 1, 2, 3, 4, 5, 6, 7, 8, 9, 10, 11, 12, 13, 14, 15, 16, 17, 18, 19, 20, 21, 22, 23, 24], [2]), ([25, 0, 1, 2, 3, 4, 5, 6, 7, 8, 9, 10, 11, 12, 13, 14, 15, 16, 17, 18, 19, 20, 21, 22, 23, 24], [25]), ([26, 0, 1, 2, 3, 4, 5, 6, 7, 8, 9, 10, 11, 12, 13, 14, 15, 16, 17, 18, 19, 20, 21, 22, 23, 24], [26]), ([27, 16, 24, 0, 1, 2, 3, 4, 5, 6, 7, 8, 9, 10, 11, 12, 13, 14, 15, 16, 17, 18, 19, 20, 21, 22, 23, 24], [16, 27])])
def pkhB3 : List Nat := [0, 0, 0, 0, 8, 24, 56, 120, 0, 256, 768, 1912, 3960, 0, 8192, 24576, 61304, 126969, 258041, 520185, 1044473, 2097147, 4194299, 8388603, 16777211, 33554431, 67108863, 134217727, 268435455]
theorem pkhtab3 : Go.Proofs.YtdlamomabonkjaaDoorW.PrintLast.rtab .any (Go.Proofs.YtdlamomabonkjaaDoorW.PrintLast.opsOf Tryd.f58 3) = pkhT3 := by kernel_rfl
theorem pkhbits3 : Go.Proofs.YtdlamomabonkjaaDoorW.PrintLast.waitsOk pkhT3.2 pkhB3 = true := by kernel_rfl
def HeadP (w0 w : World) (g : Nat) (v : List UInt8) (E nf nt nq : Int) (e : Ending) (w' : World) : Prop :=
 Only (· = g) w w' ∧ (E ≠ 0 → e = errP 0 E ∧ ∃ x0, w'.heap[g]? = some (.cells x0 99 (0, 0))) ∧ (E = 0 → e = .returned (.tuple #[]) ∧ PS w0 w' g (v.drop 12) nf nt nq (.slice none 0 0))
theorem blk_sub {w : World} {g : Nat} {t : TypeId} {cs : Array Value} (h : w.heap[g]? = some (.cells cs t (0, 0))) (k : Nat) (sub : Array Value) (hs : ∀ j v, sub.toList[j]? = some v → cs[k + j]? = some v) : ∀ j v, sub.toList[j]? = some v → w.cell? ((⟨g, k, none⟩ : Addr).add j) = some v := by
 intro j v hv
 rw [WideShapes.add_plain, blk_cell h]
 exact hs j v hv
theorem PS.sub {w0 W : World} {g : Nat} {v : List UInt8} {f t q : Int} {CH : Value} (h : PS w0 W g v f t q CH) : ∀ j u, (#[.int .u16 f, .int .u16 t, .int .u32 q, CH] : Array Value).toList[j]? = some u → W.cell? ((⟨g, 1, none⟩ : Addr).add j) = some u := by
 obtain ⟨A, c, hb, hc, hC⟩ := h
 refine blk_sub hb 1 _ fun j u hu => ?_
 match j, hu with
 | 0, hu => exact hu
 | 1, hu => exact hu
 | 2, hu => exact hu
 | 3, hu => exact hu
 | _ + 4, hu => simp at hu
theorem PS.blk {w0 W : World} {g : Nat} {v : List UInt8} {f t q : Int} {CH : Value} (h : PS w0 W g v f t q CH) : ∃ x0, W.heap[g]? = some (.cells x0 99 (0, 0)) := by
 obtain ⟨A, c, hb, hc, hC⟩ := h
 exact ⟨_, hb⟩
set_option maxHeartbeats 4000000 in
theorem head_calls (w0 w : World) (g : Nat) (v : List UInt8) (hT : Table w) (hs : PS w0 w g v 0 0 0 (.slice none 0 0)) (hB : Below w0.heap.size w0 w) (hg : w0.heap.size ≤ g) (hv : v.length ≤ 140737488355328) :
  Calls Tryd.prog 58 #[.pointer (some ⟨g, 0, none⟩)] w (HeadP w0 w g v (headE v) (hdF v : Nat) (hdT v : Nat) (hdQ v : Nat)) := by
 have HS0 := Lh hs
 have HHP := Lh (fun (W : World) (E nf nt nq : Int) (e : Ending) (h : Only (· = g) w W ∧ (E ≠ 0 → e = errP 0 E ∧ ∃ x0, W.heap[g]? = some (.cells x0 99 (0, 0))) ∧ (E = 0 → e = .returned (.tuple #[]) ∧ PS w0 W g (v.drop 12) nf nt nq (.slice none 0 0))) => (show HeadP w0 w g v E nf nt nq e W from h))
 have hlt : g < w.heap.size := by obtain ⟨A, c, hb, _⟩ := hs; exact blk_lt hb
 have HM := Lh (fun (W : World) (a c : Int) => must_bad W a c)
 have HMO := Lh (fun (W : World) (a c : Int) => must_ok W a c)
 obtain ⟨A, c, hb, hc, hC⟩ := hs
 have k0 : w.cell? ⟨g, 0, none⟩ = some (.slice A v.length c) := blk_cell hb 0
 have HBK := Lh (fun (W : World) (h : Below w.heap.size w W) => blk_below hb h)
 by_cases h6 : 65536 < v.length
 ·have hE : headE v = 2 := by unfold headE; rw [if_pos h6]
  have hz : decide ((v.length : Int) ≤ 65536) = false := decide_eq_false (by omega)
  rw [hE]
  clear hE hb hc hC HS0 hT h6 hv HMO
  generalize v.length = n at *
  clear HHP
  unfold errP at HM
  unfold HeadP errP
  go_enter Tryd.func58, Tryd.ntmps58
  go_wp2_with fail
  refine (HM.out _ _ _).mono ?_
  rintro e w1 ⟨rfl, rfl⟩
  exact ⟨rfl, Only.refl _ _, fun _ => ⟨rfl, _, HBK.out _ (Below.refl _ _)⟩, fun h => absurd h (by decide)⟩
 ·have hz : decide ((v.length : Int) ≤ 65536) = true := decide_eq_true (by omega)
  have HCK := Lh (fun (W : World) (h : Below w.heap.size w W) => Crc.check_calls A c v W (hT.below h) (Kd.C_below hC (below_then hB hB.size h)) hc hv)
  have k0 : w.cell? ⟨g, 0, none⟩ = some (.slice A v.length c) := blk_cell hb 0
  by_cases hcz : checkL v = 0
  ·have hlen : 12 ≤ v.length := by
    unfold checkL at hcz
    split at hcz
    ·cases hcz
    ·omega
   have hE : headE v = if (decide (0 < (hdF v : Int)) && decide (0 < (hdT v : Int))) = true then 0 else 72 := by unfold headE; rw [if_neg h6, if_pos hcz]
   have HPB := Lh (ports_ok ((hdF v : Nat) : Int) ((hdT v : Nat) : Int) ((hdQ v : Nat) : Int) [])
   rw [hE]
   obtain ⟨E, hEE⟩ : ∃ E : Int, (if (decide (0 < (hdF v : Int)) && decide (0 < (hdT v : Int))) = true then 0 else 72) = E := ⟨_, rfl⟩
   rw [hEE]
   have HEE := Lh hEE
   clear hEE
   rw [hcz] at HCK
   clear hE hcz
   have HS := Lh (fun (W : World) (h : Below w.heap.size w W) => (show PS w0 W g v 0 0 0 (.slice none 0 0) from ⟨A, c, blk_below hb h, hc, hC⟩))
   clear hb hc hC HS0 hT
   go_enter Tryd.func58, Tryd.ntmps58
   go_wp2_with fail
   refine (HMO.out _ _ _).mono ?_
   rintro e w1 ⟨rfl, rfl⟩
   go_wp2_with fail
   refine (HCK.out _ (Below.refl _ _)).mono ?_
   rintro e w1 ⟨rfl, hB1⟩
   have HB1 := Lh hB1
   clear hB1 HCK k0
   go_wp2_with fail
   refine (HMO.out _ _ _).mono ?_
   rintro e w2 ⟨rfl, rfl⟩
   go_upto_region 3 with (fail)
   clear hz
   have HW1 := Lh (show IntKind.u16.wrap ((hdF v : Nat) : Int) = ((hdF v : Nat) : Int) from u16_small _ (by omega) (by have := be_lt2 (v.take 2) (by rw [List.length_take]; omega); unfold hdF; omega))
   have HW2 := Lh (show IntKind.u16.wrap ((hdT v : Nat) : Int) = ((hdT v : Nat) : Int) from u16_small _ (by omega) (by have := be_lt2 ((v.drop 2).take 2) (by rw [List.length_take]; omega); unfold hdT; omega))
   have HS2 := Lh (show PS w0 w2.drew g v 0 0 0 (.slice none 0 0) from HS.out w2.drew (pw_below_drewN HB1.out 1))
   clear HS
   have HBW := Lh (fun (W : World) (h : Only (· = g) w2 W) => (show Below w0.heap.size w0 W from (below_then hB hB.size HB1.out).trans (h.below (Nat.le_trans hB.size HB1.out.size) (fun k hk => by subst hk; exact hg))))
   have HN1 := Lh (fun (W : World) (h : PS w0 W g v 0 0 0 (.slice none 0 0) ∧ Only (· = g) w2 W) => (number_calls w0 W g 2 v 0 0 0 _ h.1 (HBW.out W h.2) hg (by omega) (by omega) hv).mono fun e w' ⟨he, hp, ho⟩ => (⟨he, hp, h.2.trans ho (fun _ _ h => h)⟩ : _ ∧ PS w0 w' g (v.drop 2) 0 0 0 (.slice none 0 0) ∧ Only (· = g) w2 w'))
   have HN2 := Lh (fun (W : World) (h : PS w0 W g (v.drop 2) 0 0 0 (.slice none 0 0) ∧ Only (· = g) w2 W) => (number_calls w0 W g 2 (v.drop 2) 0 0 0 _ h.1 (HBW.out W h.2) hg (by rw [List.length_drop]; omega) (by omega) (by rw [List.length_drop]; omega)).mono fun e w' ⟨he, hp, ho⟩ => (⟨he, hp, h.2.trans ho (fun _ _ h => h)⟩ : _ ∧ PS w0 w' g ((v.drop 2).drop 2) 0 0 0 (.slice none 0 0) ∧ Only (· = g) w2 w'))
   have HN3 := Lh (fun (W : World) (h : PS w0 W g ((v.drop 2).drop 2) 0 0 0 (.slice none 0 0) ∧ Only (· = g) w2 W) => (number_calls w0 W g 4 ((v.drop 2).drop 2) 0 0 0 _ h.1 (HBW.out W h.2) hg (by simp only [List.length_drop]; omega) (by omega) (by simp only [List.length_drop]; omega)).mono fun e w' ⟨he, hp, ho⟩ => (⟨he, hp, h.2.trans ho (fun _ _ h => h)⟩ : _ ∧ PS w0 w' g (((v.drop 2).drop 2).drop 4) 0 0 0 (.slice none 0 0) ∧ Only (· = g) w2 w'))
   rw [show be (v.take 2) = hdF v from rfl] at HN1
   rw [show be ((v.drop 2).take 2) = hdT v from rfl] at HN2
   rw [show be (((v.drop 2).drop 2).take 4) = hdQ v from rfl] at HN3
   generalize ((hdF v : Nat) : Int) = nf at *
   generalize ((hdT v : Nat) : Int) = nt at *
   generalize ((hdQ v : Nat) : Int) = nq at *
   refine grow_known (B := pkhB3) [0, 1, 2, 3, 4, 5, 6, 7, 8, 9, 10, 11, 12, 13, 14, 15, 16, 17, 18, 19, 20, 21, 22, 23, 24, 25, 26, 27, 28] [6, 11, 16, 20, 24, 28] (fun s W => match s with | 0 => PS w0 W g v 0 0 0 (.slice none 0 0) ∧ Only (· = g) w2 W | 1 => PS w0 W g (v.drop 2) 0 0 0 (.slice none 0 0) ∧ Only (· = g) w2 W | 2 => PS w0 W g ((v.drop 2).drop 2) 0 0 0 (.slice none 0 0) ∧ Only (· = g) w2 W | 3 => PS w0 W g (((v.drop 2).drop 2).drop 4) 0 0 0 (.slice none 0 0) ∧ Only (· = g) w2 W | 4 => PS w0 W g (((v.drop 2).drop 2).drop 4) nf 0 0 (.slice none 0 0) ∧ Only (· = g) w2 W | 5 => PS w0 W g (((v.drop 2).drop 2).drop 4) nf nt 0 (.slice none 0 0) ∧ Only (· = g) w2 W | _ => PS w0 W g (((v.drop 2).drop 2).drop 4) nf nt nq (.slice none 0 0) ∧ Only (· = g) w2 W) [(0, 21, .pointer (some ⟨g, 0, none⟩)), (1, 22, .pointer (some ⟨g, 0, none⟩)), (2, 23, .pointer (some ⟨g, 0, none⟩)), (3, 24, .pointer (some ⟨g, 0, none⟩)), (4, 25, .pointer (some ⟨g, 0, none⟩)), (5, 26, .pointer (some ⟨g, 0, none⟩)), (6, 27, .int .u32 nf), (7, 28, .int .u16 nf), (8, 29, .pointer (some ⟨g, 0, none⟩)), (9, 30, .pointer (some ⟨g, 0, none⟩)), (10, 31, .pointer (some ⟨g, 0, none⟩)), (11, 32, .int .u32 nt), (12, 33, .int .u16 nt), (13, 34, .pointer (some ⟨g, 0, none⟩)), (14, 35, .pointer (some ⟨g, 0, none⟩)), (15, 36, .pointer (some ⟨g, 0, none⟩)), (16, 37, .int .u32 nq), (17, 38, .pointer (some ⟨g, 0, none⟩)), (18, 39, .pointer (some ⟨g, 1, none⟩)), (19, 40, .pointer (some ⟨g, 1, none⟩)), (21, 41, .pointer (some ⟨g, 0, none⟩)), (22, 42, .pointer (some ⟨g, 1, none⟩)), (23, 43, .pointer (some ⟨g, 2, none⟩)), (25, 44, .pointer (some ⟨g, 0, none⟩)), (26, 45, .pointer (some ⟨g, 1, none⟩)), (27, 46, .pointer (some ⟨g, 3, none⟩))] (by kernel_rfl) rfl (l := #[false, false, false, false, false, false, false, false, false, false, false, false, false, false, false, false, false, false, false, false, false, false, false, false, false, false, false, false, false]) rfl pkhtab3 pkhbits3 (by kernel_rfl) (by kernel_rfl) rfl rfl ?_ ?_ ?_
   ·exact ⟨HS2.out, (Only.refl _ _).drew⟩
   ·exact steps_cons (gk_op (p := 0) (fun _ => True) 0 0 rfl rfl rfl rfl rfl rfl (u := .pointer (some ⟨g, 0, none⟩)) (rd_off (p := 0) (fun _ => rfl) rfl) (fun _ _ _ => trivial) (fun a w hJ e => by go_simp)) (steps_cons (gk_op (p := 0) (fun _ => True) 1 1 rfl rfl rfl rfl rfl rfl (u := .pointer (some ⟨g, 0, none⟩)) (rd_off (p := 0) (fun _ => rfl) rfl) (fun _ _ _ => trivial) (fun a w hJ e => by go_simp)) (steps_cons (gk_op (p := 0) (fun _ => True) 2 2 rfl rfl rfl rfl rfl rfl (u := .pointer (some ⟨g, 0, none⟩)) (rd_off (p := 0) (fun _ => rfl) rfl) (fun _ _ _ => trivial) (fun a w hJ e => by go_simp)) (steps_cons (gk_op (p := 0) (fun _ => True) 3 3 rfl rfl rfl rfl rfl rfl (u := .pointer (some ⟨g, 0, none⟩)) (rd_off (p := 0) (fun _ => rfl) rfl) (fun _ _ _ => trivial) (fun a w hJ e => by go_simp)) (steps_cons (gk_op (p := 24) (fun _ => True) 4 4 rfl rfl rfl rfl rfl rfl (u := .pointer (some ⟨g, 0, none⟩)) (rd_on (p := 24) 3 3 (fun _ => rfl) (fun _ => rfl) (by kernel_rfl) rfl) (fun _ _ _ => trivial) (fun a w hJ e => by go_simp)) (steps_cons (gk_op (p := 25) (fun _ => True) 5 5 rfl rfl rfl rfl rfl rfl (u := .pointer (some ⟨g, 0, none⟩)) (rd_on (p := 25) 4 4 (fun _ => rfl) (fun _ => rfl) (by kernel_rfl) rfl) (fun _ _ _ => trivial) (fun a w hJ e => by go_simp)) (steps_cons (gk_call (v := .int .u32 nf) (vals := [.pointer (some ⟨g, 0, none⟩), .int .i64 2]) 6 6 0 rfl rfl rfl rfl rfl rfl rfl (by kernel_rfl) Tryd.func80 (by kernel_rfl) rfl rfl (ar_t (rd_on (p := 26) 5 5 (fun _ => rfl) (fun _ => rfl) (by kernel_rfl) rfl) (ar_c (.int .i64 2) (ar_n))) (fun w h => (HN1.out w h))) (steps_cons (gk_op (p := 27) (fun _ => True) 7 7 rfl rfl rfl rfl rfl rfl (u := .int .u32 nf) (rd_on (p := 27) 6 6 (fun _ => rfl) (fun _ => rfl) (by kernel_rfl) rfl) (fun _ _ _ => trivial) (fun a w hJ e => by have h16 := HW1.out; go_simp)) (steps_cons (gk_op (p := 0) (fun _ => True) 8 8 rfl rfl rfl rfl rfl rfl (u := .pointer (some ⟨g, 0, none⟩)) (rd_off (p := 0) (fun _ => rfl) rfl) (fun _ _ _ => trivial) (fun a w hJ e => by go_simp)) (steps_cons (gk_op (p := 29) (fun _ => True) 9 9 rfl rfl rfl rfl rfl rfl (u := .pointer (some ⟨g, 0, none⟩)) (rd_on (p := 29) 8 8 (fun _ => rfl) (fun _ => rfl) (by kernel_rfl) rfl) (fun _ _ _ => trivial) (fun a w hJ e => by go_simp)) (steps_cons (gk_op (p := 30) (fun _ => True) 10 10 rfl rfl rfl rfl rfl rfl (u := .pointer (some ⟨g, 0, none⟩)) (rd_on (p := 30) 9 9 (fun _ => rfl) (fun _ => rfl) (by kernel_rfl) rfl) (fun _ _ _ => trivial) (fun a w hJ e => by go_simp)) (steps_cons (gk_call (v := .int .u32 nt) (vals := [.pointer (some ⟨g, 0, none⟩), .int .i64 2]) 11 11 1 rfl rfl rfl rfl rfl rfl rfl (by kernel_rfl) Tryd.func80 (by kernel_rfl) rfl rfl (ar_t (rd_on (p := 31) 10 10 (fun _ => rfl) (fun _ => rfl) (by kernel_rfl) rfl) (ar_c (.int .i64 2) (ar_n))) (fun w h => (HN2.out w h))) (steps_cons (gk_op (p := 32) (fun _ => True) 12 12 rfl rfl rfl rfl rfl rfl (u := .int .u32 nt) (rd_on (p := 32) 11 11 (fun _ => rfl) (fun _ => rfl) (by kernel_rfl) rfl) (fun _ _ _ => trivial) (fun a w hJ e => by have h16 := HW2.out; go_simp)) (steps_cons (gk_op (p := 0) (fun _ => True) 13 13 rfl rfl rfl rfl rfl rfl (u := .pointer (some ⟨g, 0, none⟩)) (rd_off (p := 0) (fun _ => rfl) rfl) (fun _ _ _ => trivial) (fun a w hJ e => by go_simp)) (steps_cons (gk_op (p := 34) (fun _ => True) 14 14 rfl rfl rfl rfl rfl rfl (u := .pointer (some ⟨g, 0, none⟩)) (rd_on (p := 34) 13 13 (fun _ => rfl) (fun _ => rfl) (by kernel_rfl) rfl) (fun _ _ _ => trivial) (fun a w hJ e => by go_simp)) (steps_cons (gk_op (p := 35) (fun _ => True) 15 15 rfl rfl rfl rfl rfl rfl (u := .pointer (some ⟨g, 0, none⟩)) (rd_on (p := 35) 14 14 (fun _ => rfl) (fun _ => rfl) (by kernel_rfl) rfl) (fun _ _ _ => trivial) (fun a w hJ e => by go_simp)) (steps_cons (gk_call (v := .int .u32 nq) (vals := [.pointer (some ⟨g, 0, none⟩), .int .i64 4]) 16 16 2 rfl rfl rfl rfl rfl rfl rfl (by kernel_rfl) Tryd.func80 (by kernel_rfl) rfl rfl (ar_t (rd_on (p := 36) 15 15 (fun _ => rfl) (fun _ => rfl) (by kernel_rfl) rfl) (ar_c (.int .i64 4) (ar_n))) (fun w h => (HN3.out w h))) (steps_cons (gk_op (p := 21) (fun _ => True) 17 17 rfl rfl rfl rfl rfl rfl (u := .pointer (some ⟨g, 0, none⟩)) (rd_on (p := 21) 0 0 (fun _ => rfl) (fun _ => rfl) (by kernel_rfl) rfl) (fun _ _ _ => trivial) (fun a w hJ e => by go_simp)) (steps_cons (gk_op (p := 38) (fun _ => True) 18 18 rfl rfl rfl rfl rfl rfl (u := .pointer (some ⟨g, 0, none⟩)) (rd_on (p := 38) 17 17 (fun _ => rfl) (fun _ => rfl) (by kernel_rfl) rfl) (fun _ _ _ => trivial) (fun a w hJ e => by go_simp)) (steps_cons (gk_op (p := 39) (fun _ => True) 19 19 rfl rfl rfl rfl rfl rfl (u := .pointer (some ⟨g, 1, none⟩)) (rd_on (p := 39) 18 18 (fun _ => rfl) (fun _ => rfl) (by kernel_rfl) rfl) (fun _ _ _ => trivial) (fun a w hJ e => by go_simp)) (steps_cons (gk_store (p := 40) (s := 28) (u := .pointer (some ⟨g, 1, none⟩)) (v := .int .u16 nf) (f := fun W => W.setCell ⟨g, 1, none⟩ (.int .u16 nf)) 20 3 rfl rfl rfl rfl rfl rfl (by kernel_rfl) (rd_on (p := 40) 19 19 (fun _ => rfl) (fun _ => rfl) (by kernel_rfl) rfl) (rd_on (p := 28) 7 7 (fun _ => rfl) (fun _ => rfl) (by kernel_rfl) rfl) (fun a w h e1 e2 => by obtain ⟨A, c, hb, hc, hC⟩ := h.1; have f0 := blk_frozen hb 1; have k0 := blk_cell hb 1; go_simp) (fun w h => ⟨h.1.put1 _, h.2.setCell (fun _ => rfl) _⟩)) (steps_cons (gk_op (p := 22) (fun _ => True) 21 20 rfl rfl rfl rfl rfl rfl (u := .pointer (some ⟨g, 0, none⟩)) (rd_on (p := 22) 1 1 (fun _ => rfl) (fun _ => rfl) (by kernel_rfl) rfl) (fun _ _ _ => trivial) (fun a w hJ e => by go_simp)) (steps_cons (gk_op (p := 41) (fun _ => True) 22 21 rfl rfl rfl rfl rfl rfl (u := .pointer (some ⟨g, 0, none⟩)) (rd_on (p := 41) 20 21 (fun _ => rfl) (fun _ => rfl) (by kernel_rfl) rfl) (fun _ _ _ => trivial) (fun a w hJ e => by go_simp)) (steps_cons (gk_op (p := 42) (fun _ => True) 23 22 rfl rfl rfl rfl rfl rfl (u := .pointer (some ⟨g, 1, none⟩)) (rd_on (p := 42) 21 22 (fun _ => rfl) (fun _ => rfl) (by kernel_rfl) rfl) (fun _ _ _ => trivial) (fun a w hJ e => by go_simp)) (steps_cons (gk_store (p := 43) (s := 33) (u := .pointer (some ⟨g, 2, none⟩)) (v := .int .u16 nt) (f := fun W => W.setCell ⟨g, 2, none⟩ (.int .u16 nt)) 24 4 rfl rfl rfl rfl rfl rfl (by kernel_rfl) (rd_on (p := 43) 22 23 (fun _ => rfl) (fun _ => rfl) (by kernel_rfl) rfl) (rd_on (p := 33) 12 12 (fun _ => rfl) (fun _ => rfl) (by kernel_rfl) rfl) (fun a w h e1 e2 => by obtain ⟨A, c, hb, hc, hC⟩ := h.1; have f0 := blk_frozen hb 2; have k0 := blk_cell hb 2; go_simp) (fun w h => ⟨h.1.put2 _, h.2.setCell (fun _ => rfl) _⟩)) (steps_cons (gk_op (p := 23) (fun _ => True) 25 23 rfl rfl rfl rfl rfl rfl (u := .pointer (some ⟨g, 0, none⟩)) (rd_on (p := 23) 2 2 (fun _ => rfl) (fun _ => rfl) (by kernel_rfl) rfl) (fun _ _ _ => trivial) (fun a w hJ e => by go_simp)) (steps_cons (gk_op (p := 44) (fun _ => True) 26 24 rfl rfl rfl rfl rfl rfl (u := .pointer (some ⟨g, 0, none⟩)) (rd_on (p := 44) 23 25 (fun _ => rfl) (fun _ => rfl) (by kernel_rfl) rfl) (fun _ _ _ => trivial) (fun a w hJ e => by go_simp)) (steps_cons (gk_op (p := 45) (fun _ => True) 27 25 rfl rfl rfl rfl rfl rfl (u := .pointer (some ⟨g, 1, none⟩)) (rd_on (p := 45) 24 26 (fun _ => rfl) (fun _ => rfl) (by kernel_rfl) rfl) (fun _ _ _ => trivial) (fun a w hJ e => by go_simp)) (steps_cons (gk_store (p := 46) (s := 37) (u := .pointer (some ⟨g, 3, none⟩)) (v := .int .u32 nq) (f := fun W => W.setCell ⟨g, 3, none⟩ (.int .u32 nq)) 28 5 rfl rfl rfl rfl rfl rfl (by kernel_rfl) (rd_on (p := 46) 25 27 (fun _ => rfl) (fun _ => rfl) (by kernel_rfl) rfl) (rd_on (p := 37) 16 16 (fun _ => rfl) (fun _ => rfl) (by kernel_rfl) rfl) (fun a w h e1 e2 => by obtain ⟨A, c, hb, hc, hC⟩ := h.1; have f0 := blk_frozen hb 3; have k0 := blk_cell hb 3; go_simp) (fun w h => ⟨h.1.put3 _, h.2.setCell (fun _ => rfl) _⟩)) steps_nil))))))))))))))))))))))))))))
   intro W4 hI
   have HI := Lh (show PS w0 W4 g (((v.drop 2).drop 2).drop 4) nf nt nq (.slice none 0 0) ∧ Only (· = g) w2 W4 from hI)
   clear hI HN1 HN2 HN3 HS2
   simp only [putSel, if_true, Act.put, List.setIfInBounds_toArray, List.set_cons_zero, List.set_cons_succ]
   have HN4 := Lh ((number_calls w0 W4 g 4 (((v.drop 2).drop 2).drop 4) nf nt nq _ HI.out.1 (HBW.out W4 HI.out.2) hg (by simp only [List.length_drop]; omega) (by omega) (by simp only [List.length_drop]; omega)).mono fun e w' ⟨he, hp, ho⟩ => (⟨he, hp, HI.out.2.trans ho (fun _ _ h => h)⟩ : _ ∧ PS w0 w' g ((((v.drop 2).drop 2).drop 4).drop 4) nf nt nq (.slice none 0 0) ∧ Only (· = g) w2 w'))
   rw [show (((v.drop 2).drop 2).drop 4).drop 4 = v.drop 12 by simp only [List.drop_drop]] at HN4
   go_wp2_with fail
   refine HN4.out.mono ?_
   rintro e W5 ⟨rfl, hP5, hO5⟩
   have HP5 := Lh hP5
   have hO6 := HB1.out
   have HO5 := Lh ((Only.of_below (S := (· = g)) HB1.out).trans hO5 (fun _ _ h => h))
   have HPC := Lh (fun (W : World) => packet_ports.calls nf nt nq none 0 [] _ W (Kd.C_nil _ _) (Nat.le_refl _) HPB.out)
   clear hP5 hO5 hO6 HN4 HI HBW HB1 HPB HBK
   generalize (decide (0 < nf) && decide (0 < nt)) = pb at *
   have hsub := HP5.out.sub
   have HSB := Lh hsub
   clear hsub
   go_wp2_with (with_reducible refine gate_dst (N := 54) rfl ?_; go_must (refine wpList_load_cells rfl 26 (.tmp 53) rfl rfl #[.int .u16 nf, .int .u16 nt, .int .u32 nq, .slice none 0 0] _ (fun j v hv => HSB.out j v hv) Tryd.underlying26 rfl (by kernel_rfl) ?_))
   refine (HPC.out W5).mono ?_
   rintro e W6 ⟨rfl, hB6⟩
   have HB6 := Lh hB6
   clear hB6 HPC HSB
   cases pb with
   | true =>
    have hE0 := HEE.out
    rw [if_pos rfl] at hE0
    subst hE0
    go_wp2_with fail
    refine (HMO.out _ _ _).mono ?_
    rintro e W7 ⟨rfl, rfl⟩
    go_wp2
    exact ⟨rfl, _, results_none rfl _ _ _, HHP.out _ _ _ _ _ _ ⟨HO5.out.thn HB6.out, fun h => absurd rfl h, fun _ => ⟨rfl, HP5.out.below HB6.out⟩⟩⟩
   | false =>
    have hE0 := HEE.out
    rw [if_neg (by decide)] at hE0
    subst hE0
    unfold errP at HM HHP
    go_wp2_with fail
    refine (HM.out _ _ _).mono ?_
    rintro e W7 ⟨rfl, rfl⟩
    exact ⟨rfl, HHP.out _ _ _ _ _ _ ⟨HO5.out.thn HB6.out, fun _ => ⟨rfl, (HP5.out.below HB6.out).blk⟩, fun h => absurd h (by decide)⟩⟩
  ·have hE : headE v = checkL v := by unfold headE; rw [if_neg h6, if_neg hcz]
   rw [hE]
   have hez : (checkL v == 0) = false := by simp [hcz]
   have HCZ := Lh hcz
   clear hE hb hc hC HS0 hT h6 hv hcz
   generalize checkL v = cv at *
   generalize v.length = n at *
   clear HHP
   unfold errP at HM
   unfold HeadP errP
   go_enter Tryd.func58, Tryd.ntmps58
   go_wp2_with fail
   refine (HMO.out _ _ _).mono ?_
   rintro e w1 ⟨rfl, rfl⟩
   go_wp2_with fail
   refine (HCK.out _ (Below.refl _ _)).mono ?_
   rintro e w1 ⟨rfl, hB1⟩
   have HB1 := Lh hB1
   clear hB1 HCK
   go_wp2_with fail
   refine (HM.out _ _ _).mono ?_
   rintro e w2 ⟨rfl, rfl⟩
   exact ⟨rfl, Only.of_below HB1.out, fun _ => ⟨rfl, _, HBK.out _ HB1.out⟩, fun h => absurd h HCZ.out⟩
end Go.Proofs.YtdlamomabonkjaaDoor.Pk
end
section
namespace Go.Proofs.YtdlamomabonkjaaDoor.Pk
open Go.RowKit YtdlamomabonkjaaDoorW.PrintWords YtdlamomabonkjaaDoorW.PrintLast Base PCh ParDec Ch Crc CrcMath
theorem _root_.Go.Proofs.YtdlamomabonkjaaDoor.Base.Only.setRow {S : Nat → Prop} {a w : World} (h : Only S a w) {g : Nat} (hg : g < a.heap.size → S g) (cs : Array Value) : Only S a (w.setRow g cs) :=
 ⟨h.os, h.tape, h.output, by rw [setRow_size]; exact h.size, fun k hk hn => (setRow_other _ _ _ _ (fun e => hn (by subst e; exact hg hk))).trans (h.block k hk hn)⟩
def pkrT5 : Bool × List (List Nat × List Nat) := (true, [([], []), ([], []), ([1], [1]), ([], []), ([3], [3]), ([0, 0], [0]), ([2, 5, 0, 1, 2, 5], [2]), ([4, 6, 0, 1, 2, 3, 4, 5, 6], [4])])
def pkrB5 : List Nat := [0, 0, 2, 0, 8, 1, 39, 127]
theorem pkrtab5 : Go.Proofs.YtdlamomabonkjaaDoorW.PrintLast.rtab .any (Go.Proofs.YtdlamomabonkjaaDoorW.PrintLast.opsOf Tryd.f57 5) = pkrT5 := by kernel_rfl
theorem pkrbits5 : Go.Proofs.YtdlamomabonkjaaDoorW.PrintLast.waitsOk pkrT5.2 pkrB5 = true := by kernel_rfl
theorem pcatch_idle (a b c : Addr) (w : World) :
  CallsD Tryd.prog 57 #[.pointer (some a), .pointer (some b), .pointer (some c)] .returning w fun e u' w' => e = .returned (.tuple #[]) ∧ u' = .returning ∧ w' = w := by
 refine callsD_of_wpS Tryd.func57 rfl fun c₀ cs hu => ?_
 apply wpS_seq
 apply wpS_region
 simp [wpOpsS, go_sem, recoverD, hu, Tryd.ntmps57, Exit.thenS]
 have ht : (#[Value.pointer (some a), Value.pointer (some b), Value.pointer (some c)] ++ ((Array.replicate 19 undef).setIfInBounds 3 Value.nilIface).setIfInBounds 0 Value.nilIface) = #[.pointer (some a), .pointer (some b), .pointer (some c), .nilIface, undef, undef, .nilIface, undef, undef, undef, undef, undef, undef, undef, undef, undef, undef, undef, undef, undef, undef, undef] := by kernel_rfl
 rw [ht]
 refine wpS_of_wp ?_
 go_wp2
 cases c₀
 simp_all [bodyPostS, results, Tryd.results57]
def fltV (at_ code : Int) : Value := .iface 93 (.agg #[.int .i64 at_, .int .i64 code])
set_option maxHeartbeats 4000000 in
theorem pcatch_err (a b c : Nat) (at_ code : Int) (older : List PanicEntry) (w : World) (x0 : Array Value) (x1 x2 : Value) (t1 t2 : TypeId)
  (h0 : w.heap[a]? = some (.cells x0 26 (0, 0))) (hx0 : x0.size = 4) (h1 : w.heap[b]? = some (.cells #[x1] t1 (0, 0))) (h2 : w.heap[c]? = some (.cells #[x2] t2 (0, 0))) (hab : a ≠ b) (hac : a ≠ c) (hbc : b ≠ c) :
  CallsD Tryd.prog 57 #[.pointer (some ⟨a, 0, none⟩), .pointer (some ⟨b, 0, none⟩), .pointer (some ⟨c, 0, none⟩)] (.panicking ({ v := fltV at_ code, recovered := false } :: older)) w fun e u' w' => e = .returned (.tuple #[]) ∧ u' = .panicking ({ v := fltV at_ code, recovered := true } :: older) ∧
   w'.heap[a]? = some (.cells #[.int .u16 0, .int .u16 0, .int .u32 0, .slice none 0 0] 26 (0, 0)) ∧ w'.heap[b]? = some (.cells #[.int .i64 at_] t1 (0, 0)) ∧ w'.heap[c]? = some (.cells #[.int .i64 code] t2 (0, 0)) ∧ Only (fun k => k = a ∨ k = b ∨ k = c) w w' := by
 unfold fltV
 refine callsD_of_wpS Tryd.func57 rfl fun c₀ cs hu => ?_
 apply wpS_seq
 apply wpS_region
 simp [wpOpsS, go_sem, recoverD, hu, Tryd.ntmps57, Exit.thenS]
 generalize hfv : (Value.iface 93 (.agg #[.int .i64 at_, .int .i64 code])) = fv at *
 have ht : ∀ fv : Value, (#[Value.pointer (some ⟨a, 0, none⟩), Value.pointer (some ⟨b, 0, none⟩), Value.pointer (some ⟨c, 0, none⟩)] ++ ((Array.replicate 19 undef).setIfInBounds 3 fv).setIfInBounds 0 fv) = #[.pointer (some ⟨a, 0, none⟩), .pointer (some ⟨b, 0, none⟩), .pointer (some ⟨c, 0, none⟩), fv, undef, undef, fv, undef, undef, undef, undef, undef, undef, undef, undef, undef, undef, undef, undef, undef, undef, undef] := fun fv => by kernel_rfl
 rw [ht]
 subst hfv
 have hta : ∀ W : World, (Instr.typeAssert (Value.iface 93 (.agg #[.int .i64 at_, .int .i64 code])) 20 93 true).run Tryd.prog W = .ok (.tuple #[.agg #[.int .i64 at_, .int .i64 code], .bool true]) W := fun W => by rfl
 refine wpS_of_wp ?_
 have hl0 := blk_lt h0
 have hl1 := blk_lt h1
 have hl2 := blk_lt h2
 have H0 := Lh (fun (W : World) (h : Below w.heap.size w W) => (⟨blk_below h0 h, blk_below h1 h, blk_below h2 h⟩ : W.heap[a]? = some (.cells x0 26 (0, 0)) ∧ W.heap[b]? = some (.cells #[x1] t1 (0, 0)) ∧ W.heap[c]? = some (.cells #[x2] t2 (0, 0))))
 have HX0 := Lh (show x0.size = (#[.int .u16 0, .int .u16 0, .int .u32 0, .slice none 0 0] : Array Value).size from hx0)
 obtain ⟨gf, hgf⟩ : ∃ gf, w.heap.size = gf := ⟨_, rfl⟩
 have HNE := Lh (show (a ≠ b ∧ a ≠ c ∧ b ≠ c) ∧ a < gf ∧ b < gf ∧ c < gf from ⟨⟨hab, hac, hbc⟩, by omega, by omega, by omega⟩)
 clear h0 h1 h2 hx0 hab hac hbc hl0 hl1 hl2
 go_upto_region 5 with (fail)
 refine wp_gen (fun W => W.heap[w.heap.size]? = some (.cells #[.int .i64 at_, .int .i64 code] 93 (0, 0)) ∧ Below w.heap.size w W) ⟨by first | exact blk_new _ _ | exact blk_put (blk_new _ _) 0 _ rfl, below_alloc (Below.refl _ _) _⟩ ?_
 rintro W0 ⟨hf0, hB0⟩
 rw [hgf] at hf0
 try rw [hgf]
 obtain ⟨ka, kb, kc⟩ := H0.out W0 hB0
 have HI := Lh (⟨ka, kb, kc, hf0, Only.of_below hB0⟩ : W0.heap[a]? = some (.cells x0 26 (0, 0)) ∧ W0.heap[b]? = some (.cells #[x1] t1 (0, 0)) ∧ W0.heap[c]? = some (.cells #[x2] t2 (0, 0)) ∧ W0.heap[gf]? = some (.cells #[.int .i64 at_, .int .i64 code] 93 (0, 0)) ∧ Only (fun k => k = a ∨ k = b ∨ k = c) w W0)
 clear ka kb kc hf0 hB0 H0 hta ht
 refine grow_known (B := pkrB5) [0, 1, 2, 3, 4, 5, 6, 7] [5, 6, 7] (fun s W => match s with | 0 => W.heap[a]? = some (.cells x0 26 (0, 0)) ∧ W.heap[b]? = some (.cells #[x1] t1 (0, 0)) ∧ W.heap[c]? = some (.cells #[x2] t2 (0, 0)) ∧ W.heap[gf]? = some (.cells #[.int .i64 at_, .int .i64 code] 93 (0, 0)) ∧ Only (fun k => k = a ∨ k = b ∨ k = c) w W | 1 => W.heap[a]? = some (.cells #[.int .u16 0, .int .u16 0, .int .u32 0, .slice none 0 0] 26 (0, 0)) ∧ W.heap[b]? = some (.cells #[x1] t1 (0, 0)) ∧ W.heap[c]? = some (.cells #[x2] t2 (0, 0)) ∧ W.heap[gf]? = some (.cells #[.int .i64 at_, .int .i64 code] 93 (0, 0)) ∧ Only (fun k => k = a ∨ k = b ∨ k = c) w W | 2 => W.heap[a]? = some (.cells #[.int .u16 0, .int .u16 0, .int .u32 0, .slice none 0 0] 26 (0, 0)) ∧ W.heap[b]? = some (.cells #[.int .i64 at_] t1 (0, 0)) ∧ W.heap[c]? = some (.cells #[x2] t2 (0, 0)) ∧ W.heap[gf]? = some (.cells #[.int .i64 at_, .int .i64 code] 93 (0, 0)) ∧ Only (fun k => k = a ∨ k = b ∨ k = c) w W | _ => W.heap[a]? = some (.cells #[.int .u16 0, .int .u16 0, .int .u32 0, .slice none 0 0] 26 (0, 0)) ∧ W.heap[b]? = some (.cells #[.int .i64 at_] t1 (0, 0)) ∧ W.heap[c]? = some (.cells #[.int .i64 code] t2 (0, 0)) ∧ W.heap[gf]? = some (.cells #[.int .i64 at_, .int .i64 code] 93 (0, 0)) ∧ Only (fun k => k = a ∨ k = b ∨ k = c) w W) [(0, 17, .agg #[.int .u16 0, .int .u16 0, .int .u32 0, .slice none 0 0]), (1, 18, .pointer (some ⟨gf, 0, none⟩)), (2, 19, .int .i64 at_), (3, 20, .pointer (some ⟨gf, 1, none⟩)), (4, 21, .int .i64 code)] (by kernel_rfl) rfl (l := #[false, false, false, false, false, false, false, false]) rfl pkrtab5 pkrbits5 (by kernel_rfl) (by kernel_rfl) rfl rfl ?_ ?_ ?_
 ·exact ⟨blk_drewN HI.out.1 1, blk_drewN HI.out.2.1 1, blk_drewN HI.out.2.2.1 1, blk_drewN HI.out.2.2.2.1 1, HI.out.2.2.2.2.drew⟩
 ·exact steps_cons (gk_op (p := 0) (fun W => W.heap[gf]? = some (.cells #[.int .i64 at_, .int .i64 code] 93 (0, 0))) 0 0 rfl rfl rfl rfl rfl rfl (u := .pointer (some ⟨a, 0, none⟩)) (rd_off (p := 0) (fun _ => rfl) rfl) (fun s W h => by match s, h with | 0, h => exact h.2.2.2.1 | 1, h => exact h.2.2.2.1 | 2, h => exact h.2.2.2.1 | _ + 3, h => exact h.2.2.2.1) (fun a w hJ e => by go_simp; first | done | rfl)) (steps_cons (gk_op (p := 4) (fun W => W.heap[gf]? = some (.cells #[.int .i64 at_, .int .i64 code] 93 (0, 0))) 1 1 rfl rfl rfl rfl rfl rfl (u := .pointer (some ⟨gf, 0, none⟩)) (rd_off (p := 4) (fun _ => rfl) rfl) (fun s W h => by match s, h with | 0, h => exact h.2.2.2.1 | 1, h => exact h.2.2.2.1 | 2, h => exact h.2.2.2.1 | _ + 3, h => exact h.2.2.2.1) (fun a w hJ e => by go_simp)) (steps_cons (gk_op (p := 18) (fun W => W.heap[gf]? = some (.cells #[.int .i64 at_, .int .i64 code] 93 (0, 0))) 2 2 rfl rfl rfl rfl rfl rfl (u := .pointer (some ⟨gf, 0, none⟩)) (rd_on (p := 18) 1 1 (fun _ => rfl) (fun _ => rfl) (by kernel_rfl) rfl) (fun s W h => by match s, h with | 0, h => exact h.2.2.2.1 | 1, h => exact h.2.2.2.1 | 2, h => exact h.2.2.2.1 | _ + 3, h => exact h.2.2.2.1) (fun a w hJ e => by have k0 := blk_cell hJ 0; have hs : w.cell? ⟨gf, 0, none⟩ = some (.int .i64 at_) := k0; go_simp)) (steps_cons (gk_op (p := 4) (fun W => W.heap[gf]? = some (.cells #[.int .i64 at_, .int .i64 code] 93 (0, 0))) 3 3 rfl rfl rfl rfl rfl rfl (u := .pointer (some ⟨gf, 0, none⟩)) (rd_off (p := 4) (fun _ => rfl) rfl) (fun s W h => by match s, h with | 0, h => exact h.2.2.2.1 | 1, h => exact h.2.2.2.1 | 2, h => exact h.2.2.2.1 | _ + 3, h => exact h.2.2.2.1) (fun a w hJ e => by go_simp)) (steps_cons (gk_op (p := 20) (fun W => W.heap[gf]? = some (.cells #[.int .i64 at_, .int .i64 code] 93 (0, 0))) 4 4 rfl rfl rfl rfl rfl rfl (u := .pointer (some ⟨gf, 1, none⟩)) (rd_on (p := 20) 3 3 (fun _ => rfl) (fun _ => rfl) (by kernel_rfl) rfl) (fun s W h => by match s, h with | 0, h => exact h.2.2.2.1 | 1, h => exact h.2.2.2.1 | 2, h => exact h.2.2.2.1 | _ + 3, h => exact h.2.2.2.1) (fun a w hJ e => by have hs : w.cell? ⟨gf, 1, none⟩ = some (.int .i64 code) := blk_cell hJ 1; go_simp)) (steps_cons (gk_store (p := 0) (s := 17) (u := .pointer (some ⟨a, 0, none⟩)) (v := .agg #[.int .u16 0, .int .u16 0, .int .u32 0, .slice none 0 0]) (f := fun W => W.setRow a #[.int .u16 0, .int .u16 0, .int .u32 0, .slice none 0 0]) 5 0 rfl rfl rfl rfl rfl rfl (by kernel_rfl) (rd_off (p := 0) (fun _ => rfl) rfl) (rd_on (p := 17) 0 0 (fun _ => rfl) (fun _ => rfl) (by kernel_rfl) rfl) (fun a w h e1 e2 => by exact exec_store_row 26 (.tmp 0) (.tmp 17) rfl (eval_of e1) (eval_of e2) h.1 (by kernel_rfl) HX0.out (by simp [Value.oneCell'])) (fun W h => ⟨setRow_heap _ _ _ _ _ _ h.1, (setRow_other _ _ _ _ (by have := HNE.out; omega)).trans h.2.1, (setRow_other _ _ _ _ (by have := HNE.out; omega)).trans h.2.2.1, (setRow_other _ _ _ _ (by have := HNE.out; omega)).trans h.2.2.2.1, h.2.2.2.2.setRow (fun _ => Or.inl rfl) _⟩)) (steps_cons (gk_store (p := 1) (s := 19) (u := .pointer (some ⟨b, 0, none⟩)) (v := .int .i64 at_) (f := fun W => W.setCell ⟨b, 0, none⟩ (.int .i64 at_)) 6 1 rfl rfl rfl rfl rfl rfl (by kernel_rfl) (rd_off (p := 1) (fun _ => rfl) rfl) (rd_on (p := 19) 2 2 (fun _ => rfl) (fun _ => rfl) (by kernel_rfl) rfl) (fun a w h e1 e2 => by have hs : w.cell? ⟨b, 0, none⟩ = some x1 := blk_cell h.2.1 0; have hf := blk_frozen h.2.1 0; go_simp; first | done | rfl) (fun W h => ⟨blk_far (p := ⟨b, 0, none⟩) h.1 (by have := HNE.out; show a ≠ b; omega) _, blk_put h.2.1 0 _ rfl, blk_far (p := ⟨b, 0, none⟩) h.2.2.1 (by have := HNE.out; show c ≠ b; omega) _, blk_far (p := ⟨b, 0, none⟩) h.2.2.2.1 (by have := HNE.out; show gf ≠ b; omega) _, h.2.2.2.2.setCell (fun _ => Or.inr (Or.inl rfl)) _⟩)) (steps_cons (gk_store (p := 2) (s := 21) (u := .pointer (some ⟨c, 0, none⟩)) (v := .int .i64 code) (f := fun W => W.setCell ⟨c, 0, none⟩ (.int .i64 code)) 7 2 rfl rfl rfl rfl rfl rfl (by kernel_rfl) (rd_off (p := 2) (fun _ => rfl) rfl) (rd_on (p := 21) 4 4 (fun _ => rfl) (fun _ => rfl) (by kernel_rfl) rfl) (fun a w h e1 e2 => by have hs : w.cell? ⟨c, 0, none⟩ = some x2 := blk_cell h.2.2.1 0; have hf := blk_frozen h.2.2.1 0; go_simp; first | done | rfl) (fun W h => ⟨blk_far (p := ⟨c, 0, none⟩) h.1 (by have := HNE.out; show a ≠ c; omega) _, blk_far (p := ⟨c, 0, none⟩) h.2.1 (by have := HNE.out; show b ≠ c; omega) _, blk_put h.2.2.1 0 _ rfl, blk_far (p := ⟨c, 0, none⟩) h.2.2.2.1 (by have := HNE.out; show gf ≠ c; omega) _, h.2.2.2.2.setCell (fun _ => Or.inr (Or.inr rfl)) _⟩)) steps_nil)))))))
 intro W4 hI
 have HI2 := Lh hI
 clear hI HI
 simp only [putSel, if_true, Act.put, List.setIfInBounds_toArray, List.set_cons_zero, List.set_cons_succ]
 go_wp2
 show bodyPostS _ _ _ _ _ _ _ _ _
 cases c₀
 simp only at hu
 subst hu
 obtain ⟨r0, r1, r2, _, r4⟩ := HI2.out
 exact ⟨rfl, _, rfl, _, results_none rfl _ _ _, rfl, rfl, r0, r1, r2, r4⟩
end Go.Proofs.YtdlamomabonkjaaDoor.Pk
end
section
namespace Go.Proofs.YtdlamomabonkjaaDoor.Pk
open Go.RowKit YtdlamomabonkjaaDoorW.PrintWords YtdlamomabonkjaaDoorW.PrintLast Base PCh ParDec Ch Crc CrcMath
theorem sub4 (x0 x1 x2 x3 x4 : Value) : ∀ j v, (#[x1, x2, x3, x4] : Array Value).toList[j]? = some v → (#[x0, x1, x2, x3, x4] : Array Value)[1 + j]? = some v := by
 intro j u hu
 match j, hu with
 | 0, hu => exact hu
 | 1, hu => exact hu
 | 2, hu => exact hu
 | 3, hu => exact hu
 | _ + 4, hu => simp at hu
theorem boxes4 (w : World) (cs : Array Value) :
  ((((w.alloc (.cells #[.int .u16 0, .int .u16 0, .int .u32 0, .slice none 0 0] 26)).alloc (.cells #[.int .i64 0] 3)).alloc (.cells #[.int .i64 0] 28)).alloc (.cells cs 99)).heap[w.heap.size + 1 + 1 + 1]? = some (.cells cs 99 (0, 0)) ∧
  ((((w.alloc (.cells #[.int .u16 0, .int .u16 0, .int .u32 0, .slice none 0 0] 26)).alloc (.cells #[.int .i64 0] 3)).alloc (.cells #[.int .i64 0] 28)).alloc (.cells cs 99)).heap[w.heap.size]? = some (.cells #[.int .u16 0, .int .u16 0, .int .u32 0, .slice none 0 0] 26 (0, 0)) ∧
  ((((w.alloc (.cells #[.int .u16 0, .int .u16 0, .int .u32 0, .slice none 0 0] 26)).alloc (.cells #[.int .i64 0] 3)).alloc (.cells #[.int .i64 0] 28)).alloc (.cells cs 99)).heap[w.heap.size + 1]? = some (.cells #[.int .i64 0] 3 (0, 0)) ∧
  ((((w.alloc (.cells #[.int .u16 0, .int .u16 0, .int .u32 0, .slice none 0 0] 26)).alloc (.cells #[.int .i64 0] 3)).alloc (.cells #[.int .i64 0] 28)).alloc (.cells cs 99)).heap[w.heap.size + 1 + 1]? = some (.cells #[.int .i64 0] 28 (0, 0)) ∧
  Below w.heap.size w ((((w.alloc (.cells #[.int .u16 0, .int .u16 0, .int .u32 0, .slice none 0 0] 26)).alloc (.cells #[.int .i64 0] 3)).alloc (.cells #[.int .i64 0] 28)).alloc (.cells cs 99)) := by
 have s1 : (w.alloc (.cells #[.int .u16 0, .int .u16 0, .int .u32 0, .slice none 0 0] 26)).heap.size = w.heap.size + 1 := by simp
 have s2 : ((w.alloc (.cells #[.int .u16 0, .int .u16 0, .int .u32 0, .slice none 0 0] 26)).alloc (.cells #[.int .i64 0] 3)).heap.size = w.heap.size + 1 + 1 := by simp
 have s3 : (((w.alloc (.cells #[.int .u16 0, .int .u16 0, .int .u32 0, .slice none 0 0] 26)).alloc (.cells #[.int .i64 0] 3)).alloc (.cells #[.int .i64 0] 28)).heap.size = w.heap.size + 1 + 1 + 1 := by simp
 have h0 := blk_new w (.cells #[.int .u16 0, .int .u16 0, .int .u32 0, .slice none 0 0] 26)
 have h1 := blk_new (w.alloc (.cells #[.int .u16 0, .int .u16 0, .int .u32 0, .slice none 0 0] 26)) (.cells #[.int .i64 0] 3)
 have h2 := blk_new ((w.alloc (.cells #[.int .u16 0, .int .u16 0, .int .u32 0, .slice none 0 0] 26)).alloc (.cells #[.int .i64 0] 3)) (.cells #[.int .i64 0] 28)
 have h3 := blk_new (((w.alloc (.cells #[.int .u16 0, .int .u16 0, .int .u32 0, .slice none 0 0] 26)).alloc (.cells #[.int .i64 0] 3)).alloc (.cells #[.int .i64 0] 28)) (.cells cs 99)
 rw [s1] at h1
 rw [s2] at h2
 rw [s3] at h3
 exact ⟨h3, blk_alloc (blk_alloc (blk_alloc h0 _) _) _, blk_alloc (blk_alloc h1 _) _, blk_alloc h2 _, below_alloc (below_alloc (below_alloc (below_alloc (Below.refl _ _) _) _) _) _⟩
structure PD where
 f : Int
 t : Int
 q : Int
 l : List Chk
 a : Int
 e : Int
def pzero (a e : Int) : PD := ⟨0, 0, 0, [], a, e⟩
noncomputable def preadD (b : List UInt8) (wh : Bool) : PD :=
 if headE b = 0 then
  (if wh = false then ⟨(hdF b : Nat), (hdT b : Nat), (hdQ b : Nat), [], 0, 0⟩
  else if (b.drop 12).length = 0 then pzero 0 73
  else if (allL (b.drop 12)).2.2 = 0 then (if apartB (allL (b.drop 12)).1 = true then pzero 0 74 else ⟨(hdF b : Nat), (hdT b : Nat), (hdQ b : Nat), (allL (b.drop 12)).1, 0, 0⟩)
  else pzero (12 + (allL (b.drop 12)).2.1) (allL (b.drop 12)).2.2)
 else pzero 0 (headE b)
def ReadPP (w : World) (D : PD) (e : Ending) (w' : World) : Prop :=
 ∃ v, e = .returned (.tuple #[.agg #[.int .u16 D.f, .int .u16 D.t, .int .u32 D.q, v], .int .i64 D.a, .int .i64 D.e]) ∧ Kd.R k41 41 w' w.heap.size (fun _ => True) v D.l ∧ Below w.heap.size w w'
theorem pread_results (tmps : Array Value) (w : World) (a b c : Nat) (cs : Array Value) (v1 v2 : Value) (t0 : tmps.getD 4 undef = .pointer (some ⟨a, 0, none⟩)) (t1 : tmps.getD 5 undef = .pointer (some ⟨b, 0, none⟩)) (t2 : tmps.getD 6 undef = .pointer (some ⟨c, 0, none⟩))
  (h0 : w.heap[a]? = some (.cells cs 26 (0, 0))) (h1 : w.heap[b]? = some (.cells #[v1] 3 (0, 0))) (h2 : w.heap[c]? = some (.cells #[v2] 28 (0, 0))) (hcs : cs.size = 4 := by first | rfl | assumption) :
  (results Tryd.f31 tmps).run Tryd.prog w = .ok (.tuple #[.agg cs, v1, v2]) w := by
 have k1 := blk_cell h1 0
 have k2 := blk_cell h2 0
 have hi : (Tryd.prog.info? 26).map (·.size) = some cs.size := by rw [hcs]; kernel_rfl
 have hl := run_loadVar_row w a 26 26 cs (0, 0) _ h0 Tryd.underlying26 rfl hi
 rw [Array.getD_eq_getD_getElem?] at t0 t1 t2
 have l1 : (loadVar 3 ⟨b, 0, none⟩).run Tryd.prog w = .ok v1 w := by simp [go_sem, k1]
 have l2 : (loadVar 28 ⟨c, 0, none⟩).run Tryd.prog w = .ok v2 w := by simp [go_sem, k2]
 simp [results, Tryd.results31, asAddr, t0, t1, t2, hl, l1, l2]
theorem all_at (b : List UInt8) : ∀ (n at_ : Nat) (acc : List Chk), at_ ≤ b.length → 0 ≤ (allD n b at_ acc).2.1 ∧ (allD n b at_ acc).2.1 ≤ b.length := by
 intro n
 induction n with
 | zero => intro at_ acc _; unfold allD; exact ⟨Int.le_refl _, by simp⟩
 | succ n ih =>
  intro at_ acc ha
  unfold allD
  by_cases h : at_ < b.length
  ·rw [if_pos h]
   by_cases h2 : (decC (b.drop at_)).2.2 ≠ 0
   ·rw [if_pos h2]; dsimp only; omega
   ·rw [if_neg h2]
    obtain ⟨k, h3, h4, h5⟩ := decC_len (Classical.not_not.1 h2)
    rw [List.length_drop] at h5
    exact ih _ _ (by rw [h3]; simp; omega)
  ·rw [if_neg h]; exact ⟨Int.le_refl _, by simp⟩
theorem head_len {b : List UInt8} (h : headE b = 0) : 12 ≤ b.length ∧ b.length ≤ 65536 ∧ checkL b = 0 := by
 unfold headE at h
 by_cases h6 : 65536 < b.length
 ·rw [if_pos h6] at h; cases h
 rw [if_neg h6] at h
 by_cases hc : checkL b = 0
 ·refine ⟨?_, by omega, hc⟩
  unfold checkL at hc
  split at hc
  ·cases hc
  ·omega
 ·rw [if_neg hc] at h; exact absurd h hc
def AllOk (b : List UInt8) : Prop := ∀ (W : World) (A : Option Addr) (c : Nat), byte.C W A b.length b → b.length ≤ c → b.length ≤ 1048576 →
 Calls Tryd.prog 60 #[.slice A b.length c] W fun e w' => ∃ v, e = .returned (.tuple #[v, .int .i64 (allL b).2.1, .int .i64 (allL b).2.2]) ∧ Kd.R k41 41 w' W.heap.size (fun _ => True) v (allL b).1 ∧ Below W.heap.size W w'
theorem all_ok (b : List UInt8) : AllOk b := fun W A c hb hc hv => all_calls2 W A b c hb hc hv
set_option maxHeartbeats 4000000 in
theorem pread_with (w : World) (A : Option Addr) (b : List UInt8) (c : Nat) (wh : Bool) (hT : Table w) (hb : byte.C w A b.length b) (hc : b.length ≤ c) (hv : b.length ≤ 140737488355328) (HAC : wh = true → AllOk (b.drop 12)) :
  Calls Tryd.prog 31 #[.slice A b.length c, .bool wh] w (ReadPP w (preadD b wh)) := by
 have hmf : ∀ (fn : Fn) (first cap : Array Value) (w : World), (Instr.makeFunc fn first cap).run Tryd.prog w = .ok (.func fn first cap) w := fun _ _ _ _ => rfl
 have HAX := Lh HAC
 clear HAC
 unfold AllOk at HAX
 obtain ⟨D, hD⟩ : ∃ D, preadD b wh = D := ⟨_, rfl⟩
 rw [hD]
 have HD := Lh (show D = preadD b wh from hD.symm)
 have HT := Lh (fun (W : World) (h : Below w.heap.size w W) => hT.below h)
 have HBC := Lh hb
 have HM := Lh (fun (W : World) (a c : Int) => must_bad W a c)
 have HMO := Lh (fun (W : World) (a c : Int) => must_ok W a c)
 clear hb hD hT
 obtain ⟨n0, hn0⟩ : ∃ n, b.length = n := ⟨_, rfl⟩
 have HN0 := Lh hn0
 rw [hn0] at hc hv ⊢
 clear hn0
 go_enter_defers Tryd.func31, Tryd.ntmps31
 go_upto_region 3 with (fail)
 refine wp_gen (fun W => W.heap[w.heap.size + 1 + 1 + 1]? = some (.cells #[.slice A n0 c, .int .u16 0, .int .u16 0, .int .u32 0, .slice none 0 0] 99 (0, 0)) ∧ W.heap[w.heap.size]? = some (.cells #[.int .u16 0, .int .u16 0, .int .u32 0, .slice none 0 0] 26 (0, 0)) ∧ W.heap[w.heap.size + 1]? = some (.cells #[.int .i64 0] 3 (0, 0)) ∧ W.heap[w.heap.size + 1 + 1]? = some (.cells #[.int .i64 0] 28 (0, 0)) ∧ Below w.heap.size w W) (boxes4 w _) ?_
 rintro W0 ⟨hg, hp, ha, he, hB⟩
 generalize hge : w.heap.size + 1 + 1 + 1 = g at *
 generalize hgn : w.heap.size + 1 + 1 = ge at *
 generalize hgm : w.heap.size + 1 = ga at *
 obtain ⟨gp, hgp⟩ : ∃ gp, w.heap.size = gp := ⟨_, rfl⟩
 have HG := Lh (show w.heap.size = gp ∧ ga = gp + 1 ∧ ge = gp + 2 ∧ g = gp + 3 ∧ g < W0.heap.size from ⟨hgp, by omega, by omega, by omega, blk_lt hg⟩)
 have hps : PS w W0 g b 0 0 0 (.slice none 0 0) := ⟨A, c, by rw [HN0.out]; exact hg, by rw [HN0.out]; exact hc, HBC.out⟩
 have HHD := Lh (head_calls w W0 g b (HT.out W0 hB) hps hB (by omega) (by rw [HN0.out]; exact hv))
 have HK := Lh (fun (W : World) (h : Only (· = g) W0 W) => (⟨h.blk (by rw [← hgp]; exact hp) (by show gp ≠ g; omega), h.blk ha (by show ga ≠ g; omega), h.blk he (by show ge ≠ g; omega), hB.trans (h.below hB.size (fun k hk => by subst hk; omega))⟩ : W.heap[gp]? = some (.cells #[.int .u16 0, .int .u16 0, .int .u32 0, .slice none 0 0] 26 (0, 0)) ∧ W.heap[ga]? = some (.cells #[.int .i64 0] 3 (0, 0)) ∧ W.heap[ge]? = some (.cells #[.int .i64 0] 28 (0, 0)) ∧ Below w.heap.size w W))
 rw [hgp]
 clear hg hp ha he hB hge hgn hgm hgp hps hc hv
 go_wp2_with fail
 refine HHD.out.mono ?_
 intro e W3 hP
 unfold HeadP at hP
 obtain ⟨hO, hbad, hok⟩ := hP
 by_cases hh : headE b = 0
 ·obtain ⟨rfl, hP3⟩ := hok hh
  obtain ⟨hl12, hl6, hck⟩ := head_len hh
  have HSUB := Lh (fun (W : World) (h : Below W3.heap.size W3 W) => (hP3.below h).sub)
  obtain ⟨A3, c3, hb3, hc3, hC3⟩ := hP3
  have HO := Lh hO
  have HDH := Lh (show preadD b wh = if wh = false then ⟨(hdF b : Nat), (hdT b : Nat), (hdQ b : Nat), [], 0, 0⟩
  else if (b.drop 12).length = 0 then pzero 0 73
  else if (allL (b.drop 12)).2.2 = 0 then (if apartB (allL (b.drop 12)).1 = true then pzero 0 74 else ⟨(hdF b : Nat), (hdT b : Nat), (hdQ b : Nat), (allL (b.drop 12)).1, 0, 0⟩)
  else pzero (12 + (allL (b.drop 12)).2.1) (allL (b.drop 12)).2.2 from by unfold preadD; rw [if_pos hh])
  have k0 : W3.cell? ⟨g, 0, none⟩ = some (.slice A3 (b.drop 12).length c3) := blk_cell hb3 0
  have HAL := Lh (fun (hw : wh = true) (W : World) (h : Below w.heap.size w W) => HAX.out hw W A3 c3 (Kd.C_below hC3 h) hc3 (by rw [List.length_drop]; omega))
  have HAT := Lh (show 0 ≤ (allL (b.drop 12)).2.1 ∧ (allL (b.drop 12)).2.1 ≤ 65536 from by
   have := all_at (b.drop 12) ((b.drop 12).length + 1) 0 [] (Nat.zero_le _)
   have h2 : (b.drop 12).length ≤ 65536 := by rw [List.length_drop]; omega
   exact ⟨this.1, Int.le_trans this.2 (by omega)⟩)
  have HB3 := Lh hb3
  rw [HDH.out] at HD
  clear HAX hbad hok hh HHD hC3 hc3 hl12 hl6 hck hO hb3 HDH HBC HT HN0
  generalize ((hdF b : Nat) : Int) = nf at *
  generalize ((hdT b : Nat) : Int) = nt at *
  generalize ((hdQ b : Nat) : Int) = nq at *
  generalize allL (b.drop 12) = AL at *
  obtain ⟨xs, at_, er⟩ := AL
  dsimp only at HD HAL HAT
  generalize (b.drop 12).length = n at *
  cases wh with
  | false =>
   have HDE := Lh (show D = ⟨nf, nt, nq, [], 0, 0⟩ from by rw [HD.out, if_pos rfl])
   have HOX := Lh (show Only (· = g) W0 W3 from HO.out)
   have HSB := Lh (HSUB.out W3 (Below.refl _ _))
   have HR := Lh (fun (W : World) (h : Only (fun k => k = gp ∨ k = ga ∨ k = ge) W3 W) => (Kd.R_nil _ _ _ _ _ : Kd.R k41 41 W w.heap.size (fun _ => True) (.slice none 0 0) []))
   obtain ⟨CS, hCS⟩ : ∃ CS : Array Value, #[.int .u16 nf, .int .u16 nt, .int .u32 nq, (.slice none 0 0)] = CS := ⟨_, rfl⟩
   have HCZ := Lh (show (#[.int .u16 0, .int .u16 0, .int .u32 0, .slice none 0 0] : Array Value).size = CS.size by rw [← hCS]; rfl)
   have HCI := Lh (show (Tryd.prog.info? 26).map (·.size) = some CS.size by rw [← hCS]; kernel_rfl)
   have HC1 := Lh (show CS.all (·.oneCell') = true by rw [← hCS]; simp [Value.oneCell'])
   rw [hCS] at HSB
   have HCS := Lh hCS
   clear hCS
   obtain ⟨q0, q1, q2, qb⟩ := HK.out _ HOX.out
   have hb1 : (W3.setRow gp CS).heap[ga]? = some (.cells #[.int .i64 0] 3 (0, 0)) := (setRow_other _ _ _ _ (by have := HG.out; omega)).trans q1
   have hb2 : (W3.setRow gp CS).heap[ge]? = some (.cells #[.int .i64 0] 28 (0, 0)) := (setRow_other _ _ _ _ (by have := HG.out; omega)).trans q2
   have kb : (W3.setRow gp CS).cell? ⟨ga, 0, none⟩ = some (.int .i64 0) := blk_cell hb1 0
   have fb := blk_frozen hb1 0
   have hb3 := blk_far (p := ⟨ga, 0, none⟩) hb2 (show ge ≠ ga by have := HG.out; omega) (.int .i64 0)
   have kc : ((W3.setRow gp CS).setCell ⟨ga, 0, none⟩ (.int .i64 0)).cell? ⟨ge, 0, none⟩ = some (.int .i64 0) := blk_cell hb3 0
   have fc := blk_frozen hb3 0
   have HQ0 := Lh q0
   have HX0 := Lh (blk_far (p := ⟨ge, 0, none⟩) (blk_far (p := ⟨ga, 0, none⟩) (setRow_heap _ _ _ CS _ _ q0) (show gp ≠ ga by have := HG.out; omega) (.int .i64 0)) (show gp ≠ ge by have := HG.out; omega) (.int .i64 0))
   have HX1 := Lh (blk_far (p := ⟨ge, 0, none⟩) (blk_put hb1 0 (.int .i64 0) rfl) (show ga ≠ ge by have := HG.out; omega) (.int .i64 0))
   have HX2 := Lh (blk_put hb3 0 (.int .i64 0) rfl)
   have HXO := Lh ((((Only.refl (fun k => k = gp ∨ k = ga ∨ k = ge) W3).setRow (g := gp) (fun _ => Or.inl rfl) CS).setCell (p := ⟨ga, 0, none⟩) (fun _ => Or.inr (Or.inl rfl)) (.int .i64 0)).setCell (p := ⟨ge, 0, none⟩) (fun _ => Or.inr (Or.inr rfl)) (.int .i64 0))
   have HQB := Lh qb
   clear q0 q1 q2 qb hb1 hb2 hb3
   go_wp2_with (first | (with_reducible refine gate_dst (N := 23) rfl ?_; go_must (refine wpList_load_cells rfl 26 (.tmp 22) rfl rfl CS _ (fun j v hv => HSB.out j v hv) Tryd.underlying26 rfl HCI.out ?_)) | (refine wpList_store_row rfl 26 _ _ rfl gp CS rfl rfl 26 #[.int .u16 0, .int .u16 0, .int .u32 0, .slice none 0 0] HQ0.out HCI.out HCZ.out HC1.out ?_))
   refine leaves_cons (f := 57) (args := #[.pointer (some ⟨gp, 0, none⟩), .pointer (some ⟨ga, 0, none⟩), .pointer (some ⟨ge, 0, none⟩)]) (by simp) (by simp [go_sem]) ?_
   refine (pcatch_idle _ _ _ _).mono ?_
   rintro e u' w'' ⟨rfl, rfl, rfl⟩
   exact ⟨_, pread_results _ _ _ _ _ _ _ _ rfl rfl rfl HX0.out HX1.out HX2.out HCZ.out.symm, (.slice none 0 0), by rw [HDE.out, ← HCS.out], by rw [HDE.out]; exact HR.out _ HXO.out, HQB.out.trans (HXO.out.below HQB.out.size (fun k hk => by have := HG.out; omega))⟩
  | true =>
   rw [if_neg (by decide)] at HD
   by_cases hn : n = 0
   ·rw [if_pos hn] at HD
    have hz : decide (0 < n) = false := decide_eq_false (by omega)
    have HD0 := Lh HD.out
    clear HD hn HAL
    unfold errP at HM
    go_wp2_with fail
    refine (HM.out _ _ _).mono ?_
    rintro e W3 ⟨rfl, rfl⟩
    clear hz k0 HM HMO
    have HDE := Lh (show D = pzero (0) (73) from HD0.out)
    have HOX := Lh (HO.out)
    go_wp2
    refine leaves_cons (f := 57) (args := #[.pointer (some ⟨gp, 0, none⟩), .pointer (some ⟨ga, 0, none⟩), .pointer (some ⟨ge, 0, none⟩)]) (by simp) (by simp [go_sem]) ?_
    refine (pcatch_err gp ga ge (0) (73) [] _ _ _ _ _ _ (HK.out _ HOX.out).1 rfl (HK.out _ HOX.out).2.1 (HK.out _ HOX.out).2.2.1 (by have := HG.out; omega) (by have := HG.out; omega) (by have := HG.out; omega)).mono ?_
    rintro e u' w'' ⟨rfl, rfl, s0, s1, s2, hO2⟩
    exact ⟨_, pread_results _ _ _ _ _ _ _ _ rfl rfl rfl s0 s1 s2, .slice none 0 0, by rw [HDE.out]; rfl, by rw [HDE.out]; exact Kd.R_nil _ _ _ _ _, (HK.out _ HOX.out).2.2.2.trans (hO2.below (HK.out _ HOX.out).2.2.2.size (fun k hk => by have := HG.out; omega))⟩
   ·rw [if_neg hn] at HD
    have hz : decide (0 < n) = true := decide_eq_true (by omega)
    clear hn
    go_wp2_with fail
    refine (HMO.out _ _ _).mono ?_
    rintro e W3 ⟨rfl, rfl⟩
    clear hz
    go_wp2_with fail
    refine (HAL.out (by first | trivial | rfl) _ (HK.out _ HO.out).2.2.2).mono ?_
    rintro e W5 ⟨v5, rfl, hR5, hB5⟩
    obtain ⟨A5, c5, rfl, hle5, hC5⟩ := Kd.R_reads hR5
    have HR5 := Lh hR5
    have HB5 := Lh hB5
    have HLE5 := Lh hle5
    have HC5 := Lh hC5
    clear hR5 hle5 hC5 hB5 HAL k0
    by_cases her : er = 0
    ·subst her
     rw [if_pos rfl] at HD
     go_wp2_with fail
     refine (HMO.out _ _ _).mono ?_
     rintro e W5 ⟨rfl, rfl⟩
     have HAP := Lh (apart_calls W5 A5 c5 xs HC5.out)
     generalize apartB xs = ab at *
     go_wp2_with fail
     refine HAP.out.mono ?_
     rintro e W7 ⟨rfl, hB7⟩
     have HB7 := Lh (below_then HB5.out HB5.out.size hB7)
     have HR7 := Lh (Kd.R_below HR5.out hB7)
     clear hB7 HAP HC5
     cases ab with
     | true =>
      rw [if_pos rfl] at HD
      have HD0 := Lh HD.out
      clear HD HR7 HR5
      unfold errP at HM
      go_wp2_with fail
      refine (HM.out _ _ _).mono ?_
      rintro e W7 ⟨rfl, rfl⟩
      clear HM HMO
      have HDE := Lh (show D = pzero (0) (74) from HD0.out)
      have HOX := Lh (HO.out.thn HB7.out)
      go_wp2
      refine leaves_cons (f := 57) (args := #[.pointer (some ⟨gp, 0, none⟩), .pointer (some ⟨ga, 0, none⟩), .pointer (some ⟨ge, 0, none⟩)]) (by simp) (by simp [go_sem]) ?_
      refine (pcatch_err gp ga ge (0) (74) [] _ _ _ _ _ _ (HK.out _ HOX.out).1 rfl (HK.out _ HOX.out).2.1 (HK.out _ HOX.out).2.2.1 (by have := HG.out; omega) (by have := HG.out; omega) (by have := HG.out; omega)).mono ?_
      rintro e u' w'' ⟨rfl, rfl, s0, s1, s2, hO2⟩
      exact ⟨_, pread_results _ _ _ _ _ _ _ _ rfl rfl rfl s0 s1 s2, .slice none 0 0, by rw [HDE.out]; rfl, by rw [HDE.out]; exact Kd.R_nil _ _ _ _ _, (HK.out _ HOX.out).2.2.2.trans (hO2.below (HK.out _ HOX.out).2.2.2.size (fun k hk => by have := HG.out; omega))⟩
     | false =>
      rw [if_neg (by decide)] at HD
      go_wp2_with fail
      refine (HMO.out _ _ _).mono ?_
      rintro e W7 ⟨rfl, rfl⟩
      have hbg := blk_below HB3.out HB7.out
      have fg := blk_frozen hbg 4
      have kg : W7.cell? ⟨g, 4, none⟩ = some (.slice none 0 0) := blk_cell hbg 4
      have HBG := Lh hbg
      clear hbg
      go_upto_region 11 with (fail)
      have HOY := Lh ((HO.out.thn HB7.out).setCell (p := ⟨g, 4, none⟩) (fun _ => rfl) (.slice A5 xs.length c5))
      have HBY := Lh (blk_put HBG.out 4 (.slice A5 xs.length c5) rfl)
      have HRY := Lh (R_only HR7.out ((Only.refl (· = g) W7).setCell (p := ⟨g, 4, none⟩) (fun _ => rfl) (.slice A5 xs.length c5)) (fun k hk _ h => by have h1 := HG.out; have h2 := HO.out.size; have h3 : k = g := h; omega))
      have HSZ := Lh (show g < W3.heap.size from by have h1 := HG.out; have h2 := HO.out.size; omega)
      clear HR5 HR7 kg fg HBG
      refine wp_gen (fun W => W = W7.setCell ⟨g, 4, none⟩ (.slice A5 xs.length c5)) rfl ?_
      intro W9 hW9
      rw [← hW9] at HOY HBY HRY
      clear hW9
      have HDE := Lh (show D = ⟨nf, nt, nq, xs, 0, 0⟩ from HD.out)
      have HOX := Lh (show Only (· = g) W0 W9 from HOY.out)
      have HSB := Lh (blk_sub HBY.out 1 #[.int .u16 nf, .int .u16 nt, .int .u32 nq, .slice A5 xs.length c5] (sub4 _ _ _ _ _))
      have HR := Lh (fun (W : World) (h : Only (fun k => k = gp ∨ k = ga ∨ k = ge) W9 W) => (Kd.R_lower (R_only HRY.out h (fun k hk _ h2 => by have h1 := HG.out; have h3 := HSZ.out; omega)) (by have h1 := HG.out; have h3 := HSZ.out; omega) : Kd.R k41 41 W w.heap.size (fun _ => True) (.slice A5 xs.length c5) xs))
      obtain ⟨CS, hCS⟩ : ∃ CS : Array Value, #[.int .u16 nf, .int .u16 nt, .int .u32 nq, (.slice A5 xs.length c5)] = CS := ⟨_, rfl⟩
      have HCZ := Lh (show (#[.int .u16 0, .int .u16 0, .int .u32 0, .slice none 0 0] : Array Value).size = CS.size by rw [← hCS]; rfl)
      have HCI := Lh (show (Tryd.prog.info? 26).map (·.size) = some CS.size by rw [← hCS]; kernel_rfl)
      have HC1 := Lh (show CS.all (·.oneCell') = true by rw [← hCS]; simp [Value.oneCell'])
      rw [hCS] at HSB
      have HCS := Lh hCS
      clear hCS
      obtain ⟨q0, q1, q2, qb⟩ := HK.out _ HOX.out
      have hb1 : (W9.setRow gp CS).heap[ga]? = some (.cells #[.int .i64 0] 3 (0, 0)) := (setRow_other _ _ _ _ (by have := HG.out; omega)).trans q1
      have hb2 : (W9.setRow gp CS).heap[ge]? = some (.cells #[.int .i64 0] 28 (0, 0)) := (setRow_other _ _ _ _ (by have := HG.out; omega)).trans q2
      have kb : (W9.setRow gp CS).cell? ⟨ga, 0, none⟩ = some (.int .i64 0) := blk_cell hb1 0
      have fb := blk_frozen hb1 0
      have hb3 := blk_far (p := ⟨ga, 0, none⟩) hb2 (show ge ≠ ga by have := HG.out; omega) (.int .i64 0)
      have kc : ((W9.setRow gp CS).setCell ⟨ga, 0, none⟩ (.int .i64 0)).cell? ⟨ge, 0, none⟩ = some (.int .i64 0) := blk_cell hb3 0
      have fc := blk_frozen hb3 0
      have HQ0 := Lh q0
      have HX0 := Lh (blk_far (p := ⟨ge, 0, none⟩) (blk_far (p := ⟨ga, 0, none⟩) (setRow_heap _ _ _ CS _ _ q0) (show gp ≠ ga by have := HG.out; omega) (.int .i64 0)) (show gp ≠ ge by have := HG.out; omega) (.int .i64 0))
      have HX1 := Lh (blk_far (p := ⟨ge, 0, none⟩) (blk_put hb1 0 (.int .i64 0) rfl) (show ga ≠ ge by have := HG.out; omega) (.int .i64 0))
      have HX2 := Lh (blk_put hb3 0 (.int .i64 0) rfl)
      have HXO := Lh ((((Only.refl (fun k => k = gp ∨ k = ga ∨ k = ge) W9).setRow (g := gp) (fun _ => Or.inl rfl) CS).setCell (p := ⟨ga, 0, none⟩) (fun _ => Or.inr (Or.inl rfl)) (.int .i64 0)).setCell (p := ⟨ge, 0, none⟩) (fun _ => Or.inr (Or.inr rfl)) (.int .i64 0))
      have HQB := Lh qb
      clear q0 q1 q2 qb hb1 hb2 hb3
      go_wp2_with (first | (with_reducible refine gate_dst (N := 60) rfl ?_; go_must (refine wpList_load_cells rfl 26 (.tmp 59) rfl rfl CS _ (fun j v hv => HSB.out j v hv) Tryd.underlying26 rfl HCI.out ?_)) | (refine wpList_store_row rfl 26 _ _ rfl gp CS rfl rfl 26 #[.int .u16 0, .int .u16 0, .int .u32 0, .slice none 0 0] HQ0.out HCI.out HCZ.out HC1.out ?_))
      refine leaves_cons (f := 57) (args := #[.pointer (some ⟨gp, 0, none⟩), .pointer (some ⟨ga, 0, none⟩), .pointer (some ⟨ge, 0, none⟩)]) (by simp) (by simp [go_sem]) ?_
      refine (pcatch_idle _ _ _ _).mono ?_
      rintro e u' w'' ⟨rfl, rfl, rfl⟩
      exact ⟨_, pread_results _ _ _ _ _ _ _ _ rfl rfl rfl HX0.out HX1.out HX2.out HCZ.out.symm, (.slice A5 xs.length c5), by rw [HDE.out, ← HCS.out], by rw [HDE.out]; exact HR.out _ HXO.out, HQB.out.trans (HXO.out.below HQB.out.size (fun k hk => by have := HG.out; omega))⟩
    ·rw [if_neg her] at HD
     have hz : (er == 0) = false := by simp [her]
     have hwr : wrap64 (12 + at_) = 12 + at_ := by have := HAT.out; unfold wrap64; omega
     have HD0 := Lh HD.out
     clear HD HR5 HC5 her
     unfold errP at HM
     go_wp2_with fail
     refine (HM.out _ _ _).mono ?_
     rintro e W5 ⟨rfl, rfl⟩
     clear hz hwr HM HMO
     have HDE := Lh (show D = pzero (12 + at_) (er) from HD0.out)
     have HOX := Lh (HO.out.thn HB5.out)
     go_wp2
     refine leaves_cons (f := 57) (args := #[.pointer (some ⟨gp, 0, none⟩), .pointer (some ⟨ga, 0, none⟩), .pointer (some ⟨ge, 0, none⟩)]) (by simp) (by simp [go_sem]) ?_
     refine (pcatch_err gp ga ge (12 + at_) (er) [] _ _ _ _ _ _ (HK.out _ HOX.out).1 rfl (HK.out _ HOX.out).2.1 (HK.out _ HOX.out).2.2.1 (by have := HG.out; omega) (by have := HG.out; omega) (by have := HG.out; omega)).mono ?_
     rintro e u' w'' ⟨rfl, rfl, s0, s1, s2, hO2⟩
     exact ⟨_, pread_results _ _ _ _ _ _ _ _ rfl rfl rfl s0 s1 s2, .slice none 0 0, by rw [HDE.out]; rfl, by rw [HDE.out]; exact Kd.R_nil _ _ _ _ _, (HK.out _ HOX.out).2.2.2.trans (hO2.below (HK.out _ HOX.out).2.2.2.size (fun k hk => by have := HG.out; omega))⟩
 ·obtain ⟨rfl, _⟩ := hbad hh
  have hde : preadD b wh = pzero 0 (headE b) := by unfold preadD; rw [if_neg hh]
  rw [hde] at HD
  have HD0 := Lh HD.out
  have HO := Lh hO
  clear hok hbad hh hde HD hO HHD HM HMO
  generalize headE b = hE at *
  unfold errP
  have HDE := Lh (show D = pzero (0) (hE) from HD0.out)
  have HOX := Lh (HO.out)
  go_wp2
  refine leaves_cons (f := 57) (args := #[.pointer (some ⟨gp, 0, none⟩), .pointer (some ⟨ga, 0, none⟩), .pointer (some ⟨ge, 0, none⟩)]) (by simp) (by simp [go_sem]) ?_
  refine (pcatch_err gp ga ge (0) (hE) [] _ _ _ _ _ _ (HK.out _ HOX.out).1 rfl (HK.out _ HOX.out).2.1 (HK.out _ HOX.out).2.2.1 (by have := HG.out; omega) (by have := HG.out; omega) (by have := HG.out; omega)).mono ?_
  rintro e u' w'' ⟨rfl, rfl, s0, s1, s2, hO2⟩
  exact ⟨_, pread_results _ _ _ _ _ _ _ _ rfl rfl rfl s0 s1 s2, .slice none 0 0, by rw [HDE.out]; rfl, by rw [HDE.out]; exact Kd.R_nil _ _ _ _ _, (HK.out _ HOX.out).2.2.2.trans (hO2.below (HK.out _ HOX.out).2.2.2.size (fun k hk => by have := HG.out; omega))⟩
theorem pdec_results (tmps : Array Value) (w : World) (g : Nat) (cs : Array Value) (v1 v2 : Value) (t0 : tmps.getD 2 undef = .pointer (some ⟨g, 0, none⟩)) (t1 : tmps.getD 3 undef = v1) (t2 : tmps.getD 4 undef = v2)
  (h0 : w.heap[g]? = some (.cells cs 26 (0, 0))) (hcs : cs.size = 4) :
  (results Tryd.f12 tmps).run Tryd.prog w = .ok (.tuple #[.agg cs, v1, v2]) w := by
 have hi : (Tryd.prog.info? 26).map (·.size) = some cs.size := by rw [hcs]; kernel_rfl
 have hl := run_loadVar_row w g 26 26 cs (0, 0) _ h0 Tryd.underlying26 rfl hi
 rw [Array.getD_eq_getD_getElem?] at t0 t1 t2
 simp [results, Tryd.results12, asAddr, t0, t1, t2, hl]
set_option maxHeartbeats 1000000 in
theorem pdecode_with (w : World) (A : Option Addr) (b : List UInt8) (c : Nat) (hT : Table w) (hb : byte.C w A b.length b) (hc : b.length ≤ c) (hv : b.length ≤ 140737488355328) (HAC : AllOk (b.drop 12)) :
  Calls Tryd.prog 12 #[.slice A b.length c] w (ReadPP w (preadD b true)) := by
 have HR := Lh (fun (W : World) (h : Below w.heap.size w W) => pread_with W A b c true (hT.below h) (Kd.C_below hb h) hc hv (fun _ => HAC))
 clear HAC
 generalize preadD b true = D at *
 clear hb hc hT hv
 unfold ReadPP at HR ⊢
 generalize b.length = n at *
 obtain ⟨g, hg⟩ : ∃ g, w.heap.size = g := ⟨_, rfl⟩
 have HG := Lh hg
 clear hg
 go_enter Tryd.func12, Tryd.ntmps12
 go_upto_region 1 with (fail)
 refine wp_gen (fun W => W.heap[w.heap.size]? = some (.cells #[.int .u16 0, .int .u16 0, .int .u32 0, .slice none 0 0] 26 (0, 0)) ∧ Below w.heap.size w W) ⟨blk_new _ _, below_alloc (Below.refl _ _) _⟩ ?_
 rintro W0 ⟨h0, hB⟩
 rw [HG.out] at h0 ⊢
 go_wp2_with fail
 refine (HR.out W0 hB).mono ?_
 rintro e W1 ⟨v, rfl, hR, hB1⟩
 obtain ⟨A1, c1, rfl, hle1, hC1⟩ := Kd.R_reads hR
 have HR1 := Lh hR
 have HB1 := Lh (below_then hB hB.size hB1)
 have H1 := Lh (blk_below h0 hB1)
 have HGW := Lh (show g < W0.heap.size from blk_lt h0)
 clear h0 hB hR hB1 HR hle1 hC1
 obtain ⟨CS, hCS⟩ : ∃ CS : Array Value, #[.int .u16 D.f, .int .u16 D.t, .int .u32 D.q, .slice A1 D.l.length c1] = CS := ⟨_, rfl⟩
 have HCZ := Lh (show (#[.int .u16 0, .int .u16 0, .int .u32 0, .slice none 0 0] : Array Value).size = CS.size by rw [← hCS]; rfl)
 have HCI := Lh (show (Tryd.prog.info? 26).map (·.size) = some CS.size by rw [← hCS]; kernel_rfl)
 have HC1 := Lh (show CS.all (·.oneCell') = true by rw [← hCS]; simp [Value.oneCell'])
 have HCS := Lh hCS
 rw [hCS]
 clear hCS
 go_wp2_with (refine wpList_store_row rfl 26 _ _ rfl g CS rfl rfl 26 #[.int .u16 0, .int .u16 0, .int .u32 0, .slice none 0 0] H1.out HCI.out HCZ.out HC1.out ?_)
 refine bodyPost_ret (pdec_results _ _ g CS _ _ rfl rfl rfl (setRow_heap _ _ _ _ _ _ H1.out) HCZ.out.symm) rfl ⟨_, by rw [← HCS.out]; first | done | rfl, Kd.R_lower (R_only HR1.out ((Only.refl (· = g) W1).setRow (fun _ => rfl) CS) (fun k hk _ h => by have h1 := HGW.out; have h3 : k = g := h; omega)) (by have h1 := HGW.out; have h2 := HG.out; omega), HB1.out.trans (((Only.refl (· = g) W1).setRow (fun _ => rfl) CS).below HB1.out.size (fun k hk => by have h2 := HG.out; have h3 : k = g := hk; omega))⟩
theorem pdecode_calls (w : World) (A : Option Addr) (b : List UInt8) (c : Nat) (hT : Table w) (hb : byte.C w A b.length b) (hc : b.length ≤ c) (hv : b.length ≤ 140737488355328) :
  Calls Tryd.prog 12 #[.slice A b.length c] w (ReadPP w (preadD b true)) := pdecode_with w A b c hT hb hc hv (all_ok _)
end Go.Proofs.YtdlamomabonkjaaDoor.Pk
end
section
namespace Go.Proofs.YtdlamomabonkjaaDoor.ParEnc
open Go.RowKit YtdlamomabonkjaaDoorW.PrintWords PCh
theorem r2_pads (n : Nat) (k : Nat) (ps : List S72) (x5 : List Int) (i : Nat) (hi : i < ps.length) (r : List Int × Int) (hb : x5.length + n ≤ 100000000) (hq : ¬ ((rd_T72 ps (i : Int)).f1.length : Int) > 65531) (hn : (4 - x5.length % 4) % 4 = n)
  (hr : ropewalkref05_Encode.l1 k ps (stepB x5 (rd_T72 ps (i : Int))) (wrap64 ((i : Int) + 1)) = some r) : ropewalkref05_Encode.l2 (k + n + 1) ps x5 (i : Int) = some r := by
 induction n generalizing x5 with
 | zero =>
  have h0 : x5.length % 4 = 0 := by omega
  unfold stepB at hr
  rw [pad_done x5 h0, Int.add_comm] at hr
  unfold ropewalkref05_Encode.l2
  rw [if_pos (by omega), if_pos (by omega), if_pos (by omega)]
  unfold ropewalkref05_Two.f
  simp only [Option.bind_some]
  rw [if_pos (by simp only [List.length_cons, List.length_nil]; omega)]
  rw [if_pos (by simp only [List.length_append, List.length_cons, List.length_nil]; omega)]
  rw [if_pos (by simp only [List.length_append, List.length_cons, List.length_nil]; omega)]
  exact hr
 | succ n ih =>
  have h0 : ¬ x5.length % 4 = 0 := by omega
  unfold ropewalkref05_Encode.l2
  rw [if_neg (by omega), if_pos (by omega)]
  have e : stepB (x5 ++ [0]) (rd_T72 ps (i : Int)) = stepB x5 (rd_T72 ps (i : Int)) := by unfold stepB; rw [pad_step x5 h0]
  rw [← e] at hr
  exact ih (x5 ++ [0]) (by rw [List.length_append, List.length_singleton]; omega) (by rw [List.length_append, List.length_singleton]; omega) hr
theorem r1_run (ps : List S72) (hps : ps.length ≤ 256) (hs : allShort ps) (m i : Nat) (hm : ps.length - i = m) (hi : i ≤ ps.length) (b : List Int) (hb : b.length ≤ 65538 * i) : ∃ k, ropewalkref05_Encode.l1 k ps b (i : Int) = some (foldB b (ps.drop i), 0) := by
 induction m generalizing i b with
 | zero =>
  obtain rfl : i = ps.length := by omega
  refine ⟨1, ?_⟩
  unfold ropewalkref05_Encode.l1
  rw [if_neg (by omega), List.drop_length]
  rfl
 | succ m ih =>
  have hlt : i < ps.length := by omega
  have hp : ¬ ((rd_T72 ps (i : Int)).f1.length : Int) > 65531 := hs _ (by
   have := rd_drop ps i hlt
   exact List.mem_of_mem_drop (i := i) (by rw [this]; exact List.mem_cons_self ..))
  have hsb := stepB_le b (rd_T72 ps (i : Int)) (by omega)
  obtain ⟨k, hk⟩ := ih (i + 1) (by omega) (by omega) (stepB b (rd_T72 ps (i : Int))) (by omega)
  refine ⟨k + (4 - b.length % 4) % 4 + 1 + 1, ?_⟩
  unfold ropewalkref05_Encode.l1
  rw [if_pos (by omega), rd_drop ps i hlt]
  refine r2_pads _ k ps b i hlt _ (by omega) hp rfl ?_
  rw [wrap64_nat i (by omega)]
  exact hk
theorem r0_run (ps : List S72) (hps : ps.length ≤ 256) (m i : Nat) (hm : ps.length - i = m) (hi : i ≤ ps.length) (hpre : ∀ j, j < i → ¬ ((rd_T72 ps (j : Int)).f1.length : Int) > 65531) : ∃ k, ropewalkref05_Encode.l0 k ps (i : Int) = some (runB [] ps) := by
 induction m generalizing i with
 | zero =>
  obtain rfl : i = ps.length := by omega
  have hs : allShort ps := by
   intro p hp
   obtain ⟨j, hj, rfl⟩ := List.getElem_of_mem hp
   have := hpre j hj
   unfold rd_T72 at this
   rw [Int.toNat_natCast] at this
   simpa [List.getD_eq_getElem?_getD, hj] using this
  obtain ⟨k, hk⟩ := r1_run ps hps hs _ 0 rfl (by omega) [] (by simp)
  refine ⟨k + 1, ?_⟩
  unfold ropewalkref05_Encode.l0
  rw [if_neg (by omega), runB_short ps hs]
  rw [List.drop_zero] at hk
  exact hk
 | succ m ih =>
  have hlt : i < ps.length := by omega
  by_cases h : ((rd_T72 ps (i : Int)).f1.length : Int) > 65531
  ·refine ⟨1, ?_⟩
   unfold ropewalkref05_Encode.l0
   rw [if_pos (by omega), if_pos (by omega), if_pos h, runB_long]
   intro hs
   refine hs _ ?_ h
   have := rd_drop ps i hlt
   exact List.mem_of_mem_drop (i := i) (by rw [this]; exact List.mem_cons_self ..)
  ·obtain ⟨k, hk⟩ := ih (i + 1) (by omega) (by omega) (fun j hj => by
    by_cases hji : j = i
    ·subst hji; exact h
    ·exact hpre j (by omega))
   refine ⟨k + 1, ?_⟩
   unfold ropewalkref05_Encode.l0
   rw [if_pos (by omega), if_pos (by omega), if_neg h, wrap64_nat i (by omega)]
   exact hk
theorem refEncode_run (ps : List S72) : ∃ k, ropewalkref05_Encode.f k ps = some (if ps.length > 256 then ([], 3) else runB [] ps) := by
 by_cases h : ps.length > 256
 ·refine ⟨0, ?_⟩
  unfold ropewalkref05_Encode.f
  rw [if_pos (by omega), if_pos h]
 ·obtain ⟨k, hk⟩ := r0_run ps (by omega) _ 0 rfl (by omega) (fun j hj => by omega)
  refine ⟨k, ?_⟩
  unfold ropewalkref05_Encode.f
  rw [if_neg (by omega), if_neg h]
  exact hk
end Go.Proofs.YtdlamomabonkjaaDoor.ParEnc
end
section
namespace Go.Proofs.YtdlamomabonkjaaDoor.Ch
open Go.RowKit YtdlamomabonkjaaDoorW.PrintWords YtdlamomabonkjaaDoorW.PrintLast Base PCh ParDec ParEnc
structure RX (w1 : World) (ys : List Int) (v : Value) (W : World) : Prop where
 bl : Below w1.heap.size w1 W
 r : (Kd.int .u8).R 5 W w1.heap.size (fun _ => True) v ys
theorem RX.new (w1 : World) : RX w1 [] (.slice none 0 0) w1 := ⟨Below.refl _ _, Kd.R_nil _ _ _ _ _⟩
theorem RX.drewN {w1 W : World} {ys : List Int} {v : Value} (h : RX w1 ys v W) (n : Nat) : RX w1 ys v (W.drewN n) := ⟨pw_below_drewN h.bl n, Kd.R_drewN h.r n⟩
theorem u32_mod (n : Int) : IntKind.u32.wrap n = n % 4294967296 := by simp [IntKind.wrap, IntKind.bits, IntKind.signed]
theorem two32 (n : Int) : twoL [IntKind.u32.wrap n] = twoL [n] := by
 rw [u32_mod]
 simp only [twoL, List.append_nil, List.cons.injEq, and_true]
 omega
theorem two16 (n : Int) : twoL [IntKind.u16.wrap n] = twoL [n] := by
 rw [u16n]
 simp only [twoL, List.append_nil, List.cons.injEq, and_true]
 omega
theorem sh_nonneg (n : Int) : 0 ≤ IntKind.u64.wrap n := by simp [IntKind.wrap, IntKind.bits, IntKind.signed]; omega
theorem put_two (l : List Int) (n : Int) (hl : l.length ≤ 140737488355000) : ropewalkref06_put.f 3 l n 2 = some (l ++ twoL [n]) := by
 have e1 : shr .u32 n (IntKind.u64.wrap (wrap64 (8 * 1))) % 256 = n / 256 % 256 := by simp [shr, wrap64, IntKind.wrap, IntKind.bits, IntKind.signed]
 have e0 : shr .u32 n (IntKind.u64.wrap (wrap64 (8 * 0))) % 256 = n % 256 := by simp [shr, wrap64, IntKind.wrap, IntKind.bits, IntKind.signed]
 unfold ropewalkref06_put.f
 rw [show wrap64 (2 - 1) = 1 by unfold wrap64; omega, ropewalkref06_put.l0, if_pos (by decide), if_pos (sh_nonneg _), if_pos (by omega), e1, show wrap64 (1 - 1) = 0 by unfold wrap64; omega, ropewalkref06_put.l0, if_pos (by decide), if_pos (sh_nonneg _), if_pos (by rw [List.length_append]; simp; omega), e0, show wrap64 (0 - 1) = -1 by unfold wrap64; omega, ropewalkref06_put.l0, if_neg (by decide)]
 simp [twoL]
theorem put_four (l : List Int) (n : Int) (hl : l.length ≤ 140737488355000) : ropewalkref06_put.f 5 l n 4 = some (l ++ fourL [n]) := by
 have e3 : shr .u32 n (IntKind.u64.wrap (wrap64 (8 * 3))) % 256 = n / 16777216 % 256 := by simp [shr, wrap64, IntKind.wrap, IntKind.bits, IntKind.signed]
 have e2 : shr .u32 n (IntKind.u64.wrap (wrap64 (8 * 2))) % 256 = n / 65536 % 256 := by simp [shr, wrap64, IntKind.wrap, IntKind.bits, IntKind.signed]
 have e1 : shr .u32 n (IntKind.u64.wrap (wrap64 (8 * 1))) % 256 = n / 256 % 256 := by simp [shr, wrap64, IntKind.wrap, IntKind.bits, IntKind.signed]
 have e0 : shr .u32 n (IntKind.u64.wrap (wrap64 (8 * 0))) % 256 = n % 256 := by simp [shr, wrap64, IntKind.wrap, IntKind.bits, IntKind.signed]
 unfold ropewalkref06_put.f
 rw [show wrap64 (4 - 1) = 3 by unfold wrap64; omega, ropewalkref06_put.l0, if_pos (by decide), if_pos (sh_nonneg _), if_pos (by omega), e3, show wrap64 (3 - 1) = 2 by unfold wrap64; omega, ropewalkref06_put.l0, if_pos (by decide), if_pos (sh_nonneg _), if_pos (by rw [List.length_append]; simp; omega), e2, show wrap64 (2 - 1) = 1 by unfold wrap64; omega, ropewalkref06_put.l0, if_pos (by decide), if_pos (sh_nonneg _), if_pos (by simp only [List.length_append, List.length_cons, List.length_nil]; omega), e1, show wrap64 (1 - 1) = 0 by unfold wrap64; omega, ropewalkref06_put.l0, if_pos (by decide), if_pos (sh_nonneg _), if_pos (by simp only [List.length_append, List.length_cons, List.length_nil]; omega), e0, show wrap64 (0 - 1) = -1 by unfold wrap64; omega, ropewalkref06_put.l0, if_neg (by decide)]
 simp [fourL]
theorem RX.put {w1 W : World} {ys zs : List Int} {v : Value} (h : RX w1 ys v W) (k : Nat) (n m : Int) (hf : ropewalkref06_put.f k ys n m = some zs) :
  Calls Tryd.prog 63 #[v, .int .u32 n, .int .i64 m] W fun e w' => ∃ v', e = .returned v' ∧ RX w1 zs v' w' :=
 (ropewalkref06_put.calls k (fun _ => True) v ys n m zs w1 W h.bl h.r hf).mono fun e w' ⟨v', h1, h2, h3, _⟩ => ⟨v', h1, h3, Kd.R_mono h2 (fun _ _ => trivial)⟩
theorem RX.two {w1 W : World} {ys : List Int} {v : Value} (h : RX w1 ys v W) (n : Int) (t : List Int) (ht : twoL [n] = t) (hl : ys.length ≤ 140737488355000) :
  Calls Tryd.prog 63 #[v, .int .u32 n, .int .i64 2] W fun e w' => ∃ v', e = .returned v' ∧ RX w1 (ys ++ t) v' w' := by
 subst ht
 exact h.put 3 n 2 (put_two ys n hl)
theorem RX.four {w1 W : World} {ys : List Int} {v : Value} (h : RX w1 ys v W) (n : Int) (hl : ys.length ≤ 140737488355000) :
  Calls Tryd.prog 63 #[v, .int .u32 n, .int .i64 4] W fun e w' => ∃ v', e = .returned v' ∧ RX w1 (ys ++ fourL [n]) v' w' := h.put 5 n 4 (put_four ys n hl)
def rgapsT4 : Bool × List (List Nat × List Nat) := (true, [([], []), ([], []), ([], []), ([1, 2], [1, 2]), ([3], [3]), ([4], [4]), ([5], [5]), ([0, 6], [0, 6]), ([], []), ([], []), ([8, 9], [8, 9]), ([10], [10]), ([11], [11]), ([12], [12]), ([7, 13, 7], [7, 13]), ([14, 14, 0, 1, 2, 3, 4, 5, 6, 7, 8, 9, 10, 11, 12, 13, 14], [0, 14])])
def rgapsB4 : List Nat := [0, 0, 0, 6, 14, 30, 62, 127, 0, 0, 768, 1792, 3840, 7936, 16383, 32767]
theorem rgapstab4 : Go.Proofs.YtdlamomabonkjaaDoorW.PrintLast.rtab .any (Go.Proofs.YtdlamomabonkjaaDoorW.PrintLast.opsOf Tryd.f64 4) = rgapsT4 := by kernel_rfl
theorem rgapsbits4 : Go.Proofs.YtdlamomabonkjaaDoorW.PrintLast.waitsOk rgapsT4.2 rgapsB4 = true := by kernel_rfl
set_option maxHeartbeats 4000000 in
theorem rwgaps_calls (w1 W : World) (v : Value) (xs : List Int) (A : Option Addr) (c : Nat) (gs : List GapS) (hx : RX w1 xs v W) (hA : Kd.C k117 w1 A gs.length gs) (hl : xs.length + 4 * gs.length ≤ 140737488300000) :
  Calls Tryd.prog 64 #[v, .slice A gs.length c] W fun e w' => ∃ v', e = .returned v' ∧ RX w1 (xs ++ twoL (gapL gs)) v' w' := by
 have HX := Lh hx
 have HA := Lh (fun (W : World) (h : Below w1.heap.size w1 W) => Kd.C_below hA h)
 have hm := hA.2.1
 have HL := Lh hl
 clear hx hA hl
 go_enter Tryd.func64, Tryd.ntmps64
 go_wp2
 go_loopw [0, 5] (fun v0 v5 wr => ∃ (i : Nat) (ys : List Int), i ≤ gs.length ∧ v5 = .int .i64 (i : Int) ∧ Hid (ys.length = xs.length + 4 * i) ∧ Hid (ys ++ twoL (gapL (gs.drop i)) = xs ++ twoL (gapL gs)) ∧ Hid (RX w1 ys v0 wr)) (fun _ v5 _ => gs.length - (intOf v5).toNat)
 case atStart => exact ⟨0, xs, Nat.zero_le _, rfl, (by show _ = _; omega), rfl, HX.out⟩
 case round =>
  clear HX
  obtain ⟨i, ys, hi, rfl, HYL0, HE, HW⟩ := hrel
  by_cases hlt : i < gs.length
  ·obtain ⟨ad, rfl, x0, x1⟩ := at_T117 (HA.out _ HW.out.bl) (i : Int) (by omega) (by omega)
   clear x0 x1
   have hE := HE.out
   rw [gap_drop gs i hlt, gapL, twoL_app, ← List.append_assoc] at hE
   have HX0 := Lh (fun (w' : World) (h : Below w1.heap.size w1 w') => (show w'.cell? (ad.add (i * 2)) = some (.int .u16 (rd_T117 gs (i : Int)).f0) by
    obtain ⟨ad', e', x0, x1⟩ := at_T117 (HA.out _ h) (i : Int) (by omega) (by omega)
    injection e' with e'
    subst e'
    rw [Int.toNat_natCast] at x0
    exact x0))
   have HX1 := Lh (fun (w' : World) (h : Below w1.heap.size w1 w') => (show w'.cell? ⟨(ad.add (i * 2)).block, (ad.add (i * 2)).off + 1, none⟩ = some (.int .u16 (rd_T117 gs (i : Int)).f1) by
    obtain ⟨ad', e', x0, x1⟩ := at_T117 (HA.out _ h) (i : Int) (by omega) (by omega)
    injection e' with e'
    subst e'
    rw [Int.toNat_natCast] at x1
    exact x1))
   generalize rd_T117 gs (i : Int) = g at *
   have HE2 := Lh hE
   have HYL := Lh (show ys.length ≤ 140737488300000 by have := HYL0.out; have := HL.out; omega)
   have HL2 := Lh (show (ys ++ twoL [g.f0] ++ twoL [g.f1]).length = xs.length + 4 * (i + 1) by rw [List.length_append, List.length_append, twoL_length, twoL_length]; have := HYL0.out; simp; omega)
   have HE3 := Lh (show (ys ++ twoL [g.f0] ++ twoL [g.f1]) ++ twoL (gapL (gs.drop (i + 1))) = xs ++ twoL (gapL gs) by rw [← hE]; simp [twoL])
   clear hE HE HA HE2
   go_upto_region 4 with (fail)
   have B := True.intro
   have R0 := True.intro
   have R1 := True.intro
   have R2 := True.intro
   refine start_ (n := 16) (S := fun w' => True) (ds := []) #[false, false, false, false, false, false, false, false, false, false, false, false, false, false, false, false] (by kernel_rfl) rfl rfl trivial (fun hHeld => ?_)
   refine with_tabW rgapstab4 rgapsbits4 (fun HT_ HW_ => ?_)
   refine pure_ (i := 1) (N := some 13) (v := ?_) (a' := ?_) #[false, true, false, false, false, false, false, false, false, false, false, false, false, false, false, false] rfl rfl (any_of HT_.out (by kernel_rfl)) (fun _ _ _ h => h) (Or.inl ⟨by rfl, ?_⟩) ?_ ?_
   rotate_left
   ·intro w'
    go_simp
    with_reducible rfl
   rotate_left
   ·simp only [Act.put, List.setIfInBounds_toArray, List.set_cons_zero, List.set_cons_succ, i64_w, i32_w]
    rfl
   refine pure_ (i := 2) (N := some 14) (v := ?_) (a' := ?_) #[false, true, true, false, false, false, false, false, false, false, false, false, false, false, false, false] rfl rfl (any_of HT_.out (by kernel_rfl)) (fun _ _ _ h => h) (Or.inl ⟨by rfl, ?_⟩) ?_ ?_
   rotate_left
   ·intro w'
    go_simp
    with_reducible rfl
   rotate_left
   ·simp only [Act.put, List.setIfInBounds_toArray, List.set_cons_zero, List.set_cons_succ, i64_w, i32_w]
    rfl
   refine pure_ (i := 8) (N := some 20) (v := ?_) (a' := ?_) #[false, true, true, false, false, false, false, false, true, false, false, false, false, false, false, false] rfl rfl (any_of HT_.out (by kernel_rfl)) (fun _ _ _ h => h) (Or.inl ⟨by rfl, ?_⟩) ?_ ?_
   rotate_left
   ·intro w'
    go_simp
    with_reducible rfl
   rotate_left
   ·simp only [Act.put, List.setIfInBounds_toArray, List.set_cons_zero, List.set_cons_succ, i64_w, i32_w]
    rfl
   refine pure_ (i := 9) (N := some 21) (v := ?_) (a' := ?_) #[false, true, true, false, false, false, false, false, true, true, false, false, false, false, false, false] rfl rfl (any_of HT_.out (by kernel_rfl)) (fun _ _ _ h => h) (Or.inl ⟨by rfl, ?_⟩) ?_ ?_
   rotate_left
   ·intro w'
    go_simp
    with_reducible rfl
   rotate_left
   ·simp only [Act.put, List.setIfInBounds_toArray, List.set_cons_zero, List.set_cons_succ, i64_w, i32_w]
    rfl
   refine inv_at [0, 3, 4, 5, 6, 7, 10, 11, 12, 13, 14, 15] (fun a0_ b a w' => ∃ (v19 : Value) (v26 : Value) (m15_ : Value), a = putSel a0_ b [(0, 12, u0), (3, 15, .pointer (some (ad.add (i * 2)))), (4, 16, .pointer (some (ad.add (i * 2)))), (5, 17, .int .u16 g.f0), (6, 18, .int .u32 (IntKind.u32.wrap g.f0)), (7, 19, v19), (10, 22, .pointer (some (ad.add (i * 2)))), (11, 23, .pointer (some ⟨(ad.add (i * 2)).block, (ad.add (i * 2)).off + 1, none⟩)), (12, 24, .int .u16 g.f1), (13, 25, .int .u32 (IntKind.u32.wrap g.f1)), (14, 26, v26), (15, 0, m15_)] ∧ (Below w1.heap.size w1 w') ∧ (b 7 = false → (Kd.int .u8).R 5 w' w1.heap.size (fun _ => True) u0 ys) ∧ (b 7 = true → b 14 = false → (Kd.int .u8).R 5 w' w1.heap.size (fun _ => True) v19 (ys ++ twoL [g.f0])) ∧ (b 14 = true → (Kd.int .u8).R 5 w' w1.heap.size (fun _ => True) v26 (ys ++ twoL [g.f0] ++ twoL [g.f1])) ∧ (b 15 = true → (m15_ : Value) = v26)) HT_.out HW_.out (by kernel_rfl) (by kernel_rfl) ?_ ?_ ?_
   ·exact ⟨undef, undef, .bool false, by simp only [putSel, Bool.false_eq_true, if_false], pw_below_drewN HW.out.bl 1, fun _ => Kd.R_drewN HW.out.r 1, fun h_ => absurd h_ (by decide), fun h_ => absurd h_ (by decide), fun h_ => absurd h_ (by decide)⟩
   ·skip
    clear B R0
    refine steps_cons ?_ ?_
    ·rintro b a w' ⟨v19, v26, m15_, ha, Q_B, Q_R0, Q_R1, Q_R2, Q_X15_⟩ hb_ hon hoff
     refine ⟨_, rfl, fun K hK => ?_⟩
     have e0 : a.tmps[0]? = some (u0) := by rw [ha]; exact (putSel_not (hoff 15 (by kernel_rfl)) rfl).trans rfl
     replace ha := Am ha
     refine value_ (w1 := w') (v := u0) (by rfl) rfl ?_ ?_
     ·go_simp
      (try simp only [i64_w])
      try rfl
     refine hK.out _ _ ⟨v19, v26, m15_, (puk ha 0 hb_ rfl rfl rfl), Q_B, Q_R0, fun h0_ _ => hof (hoff 7 (by kernel_rfl)) h0_, fun h0_ => hof (hoff 14 (by kernel_rfl)) h0_, fun h0_ => hof (hoff 15 (by kernel_rfl)) h0_⟩
    refine steps_cons ?_ ?_
    ·rintro b a w' ⟨v19, v26, m15_, ha, Q_B, Q_R0, Q_R1, Q_R2, Q_X15_⟩ hb_ hon hoff
     refine ⟨_, rfl, fun K hK => ?_⟩
     have e13 : a.tmps[13]? = some (.slice (some ad) gs.length c) := by rw [ha]; exact (putSel_off rfl).trans rfl
     have e14 : a.tmps[14]? = some (.int .i64 (i : Int)) := by rw [ha]; exact (putSel_off rfl).trans rfl
     replace ha := Am ha
     refine value_ (w1 := w') (v := .pointer (some (ad.add (i * 2)))) (by rfl) rfl ?_ ?_
     ·go_simp
      (try simp only [i64_w])
      try rfl
     refine hK.out _ _ ⟨v19, v26, m15_, (puk ha 1 hb_ rfl rfl rfl), Q_B, Q_R0, fun h0_ _ => hof (hoff 7 (by kernel_rfl)) h0_, fun h0_ => hof (hoff 14 (by kernel_rfl)) h0_, fun h0_ => hof (hoff 15 (by kernel_rfl)) h0_⟩
    refine steps_cons ?_ ?_
    ·rintro b a w' ⟨v19, v26, m15_, ha, Q_B, Q_R0, Q_R1, Q_R2, Q_X15_⟩ hb_ hon hoff
     refine ⟨_, rfl, fun K hK => ?_⟩
     have e15 := psn ha 1 rfl rfl (hon 3 (by kernel_rfl)) rfl
     replace ha := Am ha
     refine value_ (w1 := w') (v := .pointer (some (ad.add (i * 2)))) (by rfl) rfl ?_ ?_
     ·go_simp
      (try simp only [i64_w])
      try rfl
     refine hK.out _ _ ⟨v19, v26, m15_, (puk ha 2 hb_ rfl rfl rfl), Q_B, Q_R0, fun h0_ _ => hof (hoff 7 (by kernel_rfl)) h0_, fun h0_ => hof (hoff 14 (by kernel_rfl)) h0_, fun h0_ => hof (hoff 15 (by kernel_rfl)) h0_⟩
    refine steps_cons ?_ ?_
    ·rintro b a w' ⟨v19, v26, m15_, ha, Q_B, Q_R0, Q_R1, Q_R2, Q_X15_⟩ hb_ hon hoff
     refine ⟨_, rfl, fun K hK => ?_⟩
     have e16 := psn ha 2 rfl rfl (hon 4 (by kernel_rfl)) rfl
     replace ha := Am ha
     have B := Am Q_B
     have hs := HX0.out w' B.out
     refine value_ (w1 := w') (v := .int .u16 g.f0) (by rfl) rfl ?_ ?_
     ·go_simp
      (try simp only [i64_w])
      try rfl
     refine hK.out _ _ ⟨v19, v26, m15_, (puk ha 3 hb_ rfl rfl rfl), Q_B, Q_R0, fun h0_ _ => hof (hoff 7 (by kernel_rfl)) h0_, fun h0_ => hof (hoff 14 (by kernel_rfl)) h0_, fun h0_ => hof (hoff 15 (by kernel_rfl)) h0_⟩
    refine steps_cons ?_ ?_
    ·rintro b a w' ⟨v19, v26, m15_, ha, Q_B, Q_R0, Q_R1, Q_R2, Q_X15_⟩ hb_ hon hoff
     refine ⟨_, rfl, fun K hK => ?_⟩
     have e17 := psn ha 3 rfl rfl (hon 5 (by kernel_rfl)) rfl
     replace ha := Am ha
     refine value_ (w1 := w') (v := .int .u32 (IntKind.u32.wrap g.f0)) (by rfl) rfl ?_ ?_
     ·go_simp
      (try simp only [i64_w])
      try rfl
     refine hK.out _ _ ⟨v19, v26, m15_, (puk ha 4 hb_ rfl rfl rfl), Q_B, Q_R0, fun h0_ _ => hof (hoff 7 (by kernel_rfl)) h0_, fun h0_ => hof (hoff 14 (by kernel_rfl)) h0_, fun h0_ => hof (hoff 15 (by kernel_rfl)) h0_⟩
    refine steps_cons ?_ ?_
    ·rintro b a w' ⟨v19, v26, m15_, ha, Q_B, Q_R0, Q_R1, Q_R2, Q_X15_⟩ hb_ hon hoff
     refine ⟨_, rfl, fun K hK => ?_⟩
     have e12 := psn ha 0 rfl rfl (hon 0 (by kernel_rfl)) rfl
     have e18 := psn ha 4 rfl rfl (hon 6 (by kernel_rfl)) rfl
     replace ha := Am ha
     have B := Am Q_B
     have R0 := Am (Q_R0 hb_)
     refine goes_ Tryd.func63 (by kernel_rfl) rfl #[u0, .int .u32 (IntKind.u32.wrap g.f0), .int .i64 2] (by rfl) rfl rfl (by first | (simp only [List.map_toArray, List.map_cons, List.map_nil, Act.eval, Array.getD_eq_getD_getElem?, Option.getD_some, e12, e18]; done) | (simp only [List.map_toArray, List.map_cons, List.map_nil, Act.eval, Array.getD_eq_getD_getElem?, Option.getD_some, e12, e18]; rfl)) ?_
     refine (RX.two ⟨B.out, R0.out⟩ _ _ (two32 g.f0) (by have := HYL.out; simp [twoL_length, fourL_length, gapL_length]; omega)).mono ?_
     rintro e w1 ⟨v1, rfl, hX1⟩
     refine ⟨_, rfl, ?_⟩
     refine hK.out _ _ ⟨v1, v26, m15_, (puk ha 5 hb_ rfl rfl rfl), hX1.bl, fun h0_ => absurd ((up_self b 7).symm.trans h0_) (by decide), fun _ _ => hX1.r, fun h0_ => hof (hoff 14 (by kernel_rfl)) h0_, fun h0_ => hof (hoff 15 (by kernel_rfl)) h0_⟩
    refine steps_cons ?_ ?_
    ·rintro b a w' ⟨v19, v26, m15_, ha, Q_B, Q_R0, Q_R1, Q_R2, Q_X15_⟩ hb_ hon hoff
     refine ⟨_, rfl, fun K hK => ?_⟩
     have e20 : a.tmps[20]? = some (.slice (some ad) gs.length c) := by rw [ha]; exact (putSel_off rfl).trans rfl
     have e21 : a.tmps[21]? = some (.int .i64 (i : Int)) := by rw [ha]; exact (putSel_off rfl).trans rfl
     replace ha := Am ha
     refine value_ (w1 := w') (v := .pointer (some (ad.add (i * 2)))) (by rfl) rfl ?_ ?_
     ·go_simp
      (try simp only [i64_w])
      try rfl
     refine hK.out _ _ ⟨v19, v26, m15_, (puk ha 6 hb_ rfl rfl rfl), Q_B, Q_R0, Q_R1, fun h0_ => hof (hoff 14 (by kernel_rfl)) h0_, fun h0_ => hof (hoff 15 (by kernel_rfl)) h0_⟩
    refine steps_cons ?_ ?_
    ·rintro b a w' ⟨v19, v26, m15_, ha, Q_B, Q_R0, Q_R1, Q_R2, Q_X15_⟩ hb_ hon hoff
     refine ⟨_, rfl, fun K hK => ?_⟩
     have e22 := psn ha 6 rfl rfl (hon 10 (by kernel_rfl)) rfl
     replace ha := Am ha
     refine value_ (w1 := w') (v := .pointer (some ⟨(ad.add (i * 2)).block, (ad.add (i * 2)).off + 1, none⟩)) (by rfl) rfl ?_ ?_
     ·go_simp
      (try simp only [i64_w])
      try rfl
     refine hK.out _ _ ⟨v19, v26, m15_, (puk ha 7 hb_ rfl rfl rfl), Q_B, Q_R0, Q_R1, fun h0_ => hof (hoff 14 (by kernel_rfl)) h0_, fun h0_ => hof (hoff 15 (by kernel_rfl)) h0_⟩
    refine steps_cons ?_ ?_
    ·rintro b a w' ⟨v19, v26, m15_, ha, Q_B, Q_R0, Q_R1, Q_R2, Q_X15_⟩ hb_ hon hoff
     refine ⟨_, rfl, fun K hK => ?_⟩
     have e23 := psn ha 7 rfl rfl (hon 11 (by kernel_rfl)) rfl
     replace ha := Am ha
     have B := Am Q_B
     have hs := HX1.out w' B.out
     refine value_ (w1 := w') (v := .int .u16 g.f1) (by rfl) rfl ?_ ?_
     ·go_simp
      (try simp only [i64_w])
      try rfl
     refine hK.out _ _ ⟨v19, v26, m15_, (puk ha 8 hb_ rfl rfl rfl), Q_B, Q_R0, Q_R1, fun h0_ => hof (hoff 14 (by kernel_rfl)) h0_, fun h0_ => hof (hoff 15 (by kernel_rfl)) h0_⟩
    refine steps_cons ?_ ?_
    ·rintro b a w' ⟨v19, v26, m15_, ha, Q_B, Q_R0, Q_R1, Q_R2, Q_X15_⟩ hb_ hon hoff
     refine ⟨_, rfl, fun K hK => ?_⟩
     have e24 := psn ha 8 rfl rfl (hon 12 (by kernel_rfl)) rfl
     replace ha := Am ha
     refine value_ (w1 := w') (v := .int .u32 (IntKind.u32.wrap g.f1)) (by rfl) rfl ?_ ?_
     ·go_simp
      (try simp only [i64_w])
      try rfl
     refine hK.out _ _ ⟨v19, v26, m15_, (puk ha 9 hb_ rfl rfl rfl), Q_B, Q_R0, Q_R1, fun h0_ => hof (hoff 14 (by kernel_rfl)) h0_, fun h0_ => hof (hoff 15 (by kernel_rfl)) h0_⟩
    refine steps_cons ?_ ?_
    ·rintro b a w' ⟨v19, v26, m15_, ha, Q_B, Q_R0, Q_R1, Q_R2, Q_X15_⟩ hb_ hon hoff
     refine ⟨_, rfl, fun K hK => ?_⟩
     have e19 := psn ha 5 rfl rfl (hon 7 (by kernel_rfl)) rfl
     have e25 := psn ha 9 rfl rfl (hon 13 (by kernel_rfl)) rfl
     replace ha := Am ha
     have B := Am Q_B
     have R1 := Am (Q_R1 (hon 7 (by kernel_rfl)) hb_)
     refine goes_ Tryd.func63 (by kernel_rfl) rfl #[v19, .int .u32 (IntKind.u32.wrap g.f1), .int .i64 2] (by rfl) rfl rfl (by first | (simp only [List.map_toArray, List.map_cons, List.map_nil, Act.eval, Array.getD_eq_getD_getElem?, Option.getD_some, e19, e25]; done) | (simp only [List.map_toArray, List.map_cons, List.map_nil, Act.eval, Array.getD_eq_getD_getElem?, Option.getD_some, e19, e25]; rfl)) ?_
     refine (RX.two ⟨B.out, R1.out⟩ _ _ (two32 g.f1) (by have := HYL.out; simp [twoL_length, fourL_length, gapL_length]; omega)).mono ?_
     rintro e w1 ⟨v1, rfl, hX1⟩
     refine ⟨_, rfl, ?_⟩
     refine hK.out _ _ ⟨v19, v1, m15_, (puk ha 10 hb_ rfl rfl rfl), hX1.bl, fun h0_ => absurd ((hon 7 (by kernel_rfl)).symm.trans h0_) (by decide), fun _ h1_ => absurd ((up_self b 14).symm.trans h1_) (by decide), fun _ => hX1.r, fun h0_ => hof (hoff 15 (by kernel_rfl)) h0_⟩
    refine steps_cons ?_ ?_
    ·rintro b a w' ⟨v19, v26, m15_, ha, Q_B, Q_R0, Q_R1, Q_R2, Q_X15_⟩ hb_ hon hoff
     refine ⟨_, rfl, fun K hK => ?_⟩
     have e26 := psn ha 10 rfl rfl (hon 14 (by kernel_rfl)) rfl
     replace ha := Am ha
     refine value_ (w1 := w') (v := v26) (by rfl) rfl ?_ ?_
     ·go_simp
      (try simp only [i64_w])
      try rfl
     refine hK.out _ _ ⟨v19, v26, (v26), (puk ha 11 hb_ rfl rfl rfl), Q_B, fun h0_ => absurd ((hon 7 (by kernel_rfl)).symm.trans h0_) (by decide), fun _ h1_ => absurd ((hon 14 (by kernel_rfl)).symm.trans h1_) (by decide), Q_R2, fun _ => rfl⟩
    exact steps_nil
   rintro b a w' hall ⟨v19, v26, m15_, ha, Q_B, Q_R0, Q_R1, Q_R2, Q_X15_⟩
   clear B R0
   have hb0_ := hall 0 (by kernel_rfl)
   have hb3_ := hall 3 (by kernel_rfl)
   have hb4_ := hall 4 (by kernel_rfl)
   have hb5_ := hall 5 (by kernel_rfl)
   have hb6_ := hall 6 (by kernel_rfl)
   have hb7_ := hall 7 (by kernel_rfl)
   have hb10_ := hall 10 (by kernel_rfl)
   have hb11_ := hall 11 (by kernel_rfl)
   have hb12_ := hall 12 (by kernel_rfl)
   have hb13_ := hall 13 (by kernel_rfl)
   have hb14_ := hall 14 (by kernel_rfl)
   have hb15_ := hall 15 (by kernel_rfl)
   subst ha
   obtain rfl := Q_X15_ hb15_
   simp only [putSel, hb0_, hb3_, hb4_, hb5_, hb6_, hb7_, hb10_, hb11_, hb12_, hb13_, hb14_, hb15_, if_true, Act.put, List.setIfInBounds_toArray, List.set_cons_zero, List.set_cons_succ]
   have B := Am Q_B
   clear Q_B
   clear Q_R0
   clear Q_R1
   have R2 := Am (Q_R2 hb14_)
   clear Q_R2
   clear hall hb0_ hb3_ hb4_ hb5_ hb6_ hb7_ hb10_ hb11_ hb12_ hb13_ hb14_ hb15_
   have HR := Lh (RX.mk B.out R2.out)
   clear B R2 HX0 HX1 HW
   go_wp2
   go_roundw
   case rel => exact ⟨i + 1, _, by omega, by go_num, HL2, HE3, HR⟩
   case measure => simp [intOf]; omega
  ·obtain rfl : i = gs.length := by omega
   have hE := HE.out
   rw [List.drop_length, show twoL (gapL []) = [] from rfl, List.append_nil] at hE
   subst hE
   clear HE
   go_wp2
   go_ret
   exact ⟨_, rfl, HW.out⟩
end Go.Proofs.YtdlamomabonkjaaDoor.Ch
end
section
namespace Go.Proofs.YtdlamomabonkjaaDoor.Ch
open Go.RowKit YtdlamomabonkjaaDoorW.PrintWords YtdlamomabonkjaaDoorW.PrintLast Base PCh ParDec ParEnc
theorem two2 (a b : Int) : twoL [a, b] = twoL [a] ++ twoL [b] := rfl
theorem two4 (a b c d : Int) : twoL [a, b, c, d] = twoL [a] ++ (twoL [b] ++ (twoL [c] ++ twoL [d])) := rfl
theorem four2 (a b : Int) : fourL [a, b] = fourL [a] ++ fourL [b] := rfl
theorem encR_calls (w : World) (A : Option Addr) (c : Nat) (ps : List PrmS) (h : Kd.C k72 w A ps.length ps) (hc : ps.length ≤ c) :
  Calls Tryd.prog 35 #[.slice A ps.length c] w fun e w' => ∃ v0 : Value, e = .returned (.tuple #[v0, .int .i64 (encP ps).2]) ∧ Kd.R (Kd.int .u8) 5 w' w.heap.size (fun _ => True) v0 (encP ps).1 ∧ Below w.heap.size w w' := by
 obtain ⟨k, hk⟩ := refEncode_run ps
 exact ropewalkref05_Encode.calls k A c ps _ _ w h hc hk
theorem encP_nil' : encP [] = ([], 0) := rfl
theorem rest_value {x : Chk} (hb : x = bareD x) (n0 : ¬ x.f0 = 0) (n1 : ¬ x.f0 = 1) (n2 : ¬ x.f0 = 2) (n3 : ¬ x.f0 = 3) (n16 : ¬ x.f0 = 16) (n7 : ¬ x.f0 = 7) : valueD x = [] ++ (encP x.f14).1 ++ x.f13 ∧ (x.f13.length ≤ 140737488351232 → (encP x.f14).1.length + x.f13.length ≤ 140737488351232) := by
 have hl := encP_len x.f14
 unfold valueD
 have k1 : ¬ (x.f0 = 1 ∨ x.f0 = 2) := by omega
 rw [if_neg n0, if_neg k1, if_neg n3, if_neg n16, List.nil_append]
 by_cases k4 : x.f0 = 4 ∨ x.f0 = 5 ∨ x.f0 = 6 ∨ x.f0 = 9
 ·have e := bare_f hb (fun i => i == 14) (by funext i; unfold hasF; rw [if_neg n0, if_neg k1, if_neg n16, if_neg n3, if_pos k4])
  have e := congrArg (fun c : Chk => c.f13) e
  have e : x.f13 = [] := e
  rw [if_pos k4, e, List.append_nil]
  exact ⟨rfl, fun _ => by simp; omega⟩
 rw [if_neg k4, if_neg n7]
 by_cases k8 : x.f0 = 8 ∨ x.f0 = 11 ∨ x.f0 = 14
 ·have e0 := bare_f hb (fun i => false) (by funext i; unfold hasF; rw [if_neg n0, if_neg k1, if_neg n16, if_neg n3, if_neg k4, if_neg n7, if_pos k8])
  have e := congrArg (fun c : Chk => c.f13) e0
  have e : x.f13 = [] := e
  have e' := congrArg (fun c : Chk => c.f14) e0
  have e' : x.f14 = [] := e'
  rw [if_pos k8, e, e']
  exact ⟨rfl, fun _ => by simp [encP_nil']⟩
 ·have e0 := bare_f hb (fun i => i == 13) (by funext i; unfold hasF; rw [if_neg n0, if_neg k1, if_neg n16, if_neg n3, if_neg k4, if_neg n7, if_neg k8])
  have e' := congrArg (fun c : Chk => c.f14) e0
  have e' : x.f14 = [] := e'
  rw [if_neg k8, e']
  exact ⟨rfl, fun h => by rw [encP_nil']; simpa using h⟩
def rvAT6 : Bool × List (List Nat × List Nat) := (true, [([], []), ([], []), ([1], [1]), ([0, 2], [0, 2]), ([], []), ([4], [4]), ([5], [5]), ([3, 6, 3], [3, 6]), ([7, 7, 0, 1, 2, 3, 4, 5, 6, 7], [0, 7])])
def rvAB6 : List Nat := [0, 0, 2, 7, 0, 16, 48, 127, 255]
theorem rvAtab6 : Go.Proofs.YtdlamomabonkjaaDoorW.PrintLast.rtab .any (Go.Proofs.YtdlamomabonkjaaDoorW.PrintLast.opsOf Tryd.f36 6) = rvAT6 := by kernel_rfl
theorem rvAbits6 : Go.Proofs.YtdlamomabonkjaaDoorW.PrintLast.waitsOk rvAT6.2 rvAB6 = true := by kernel_rfl
def rvBT7 : Bool × List (List Nat × List Nat) := (true, [([], []), ([], []), ([1], [1]), ([2], [2]), ([0, 3], [0, 3]), ([], []), ([5], [5]), ([4, 6, 4], [4, 6]), ([7, 7, 0, 1, 2, 3, 4, 5, 6, 7], [0, 7])])
def rvBB7 : List Nat := [0, 0, 2, 6, 15, 0, 32, 127, 255]
theorem rvBtab7 : Go.Proofs.YtdlamomabonkjaaDoorW.PrintLast.rtab .any (Go.Proofs.YtdlamomabonkjaaDoorW.PrintLast.opsOf Tryd.f36 7) = rvBT7 := by kernel_rfl
theorem rvBbits7 : Go.Proofs.YtdlamomabonkjaaDoorW.PrintLast.waitsOk rvBT7.2 rvBB7 = true := by kernel_rfl
def rvCT11 : Bool × List (List Nat × List Nat) := (true, [([], []), ([], []), ([1], [1]), ([0, 2], [0, 2]), ([], []), ([4], [4]), ([3, 5, 3], [3, 5]), ([6, 6, 0, 1, 2, 3, 4, 5, 6], [0, 6])])
def rvCB11 : List Nat := [0, 0, 2, 7, 0, 16, 63, 127]
theorem rvCtab11 : Go.Proofs.YtdlamomabonkjaaDoorW.PrintLast.rtab .any (Go.Proofs.YtdlamomabonkjaaDoorW.PrintLast.opsOf Tryd.f36 11) = rvCT11 := by kernel_rfl
theorem rvCbits11 : Go.Proofs.YtdlamomabonkjaaDoorW.PrintLast.waitsOk rvCT11.2 rvCB11 = true := by kernel_rfl
def rvDT12 : Bool × List (List Nat × List Nat) := (true, [([], []), ([], []), ([1], [1]), ([2], [2]), ([0, 3], [0, 3]), ([], []), ([5], [5]), ([6], [6]), ([4, 7, 4], [4, 7]), ([8, 8, 0, 1, 2, 3, 4, 5, 6, 7, 8], [0, 8])])
def rvDB12 : List Nat := [0, 0, 2, 6, 15, 0, 32, 96, 255, 511]
theorem rvDtab12 : Go.Proofs.YtdlamomabonkjaaDoorW.PrintLast.rtab .any (Go.Proofs.YtdlamomabonkjaaDoorW.PrintLast.opsOf Tryd.f36 12) = rvDT12 := by kernel_rfl
theorem rvDbits12 : Go.Proofs.YtdlamomabonkjaaDoorW.PrintLast.waitsOk rvDT12.2 rvDB12 = true := by kernel_rfl
def rvCxT11 : Bool × List (List Nat × List Nat) := (true, [([], []), ([], []), ([1], [1]), ([0, 2], [0, 2]), ([], []), ([4], [4]), ([3, 5, 3], [3, 5]), ([6, 6, 0, 1, 2, 3, 4, 5, 6], [0, 6])])
def rvCxB11 : List Nat := [0, 0, 2, 7, 0, 16, 63, 127]
theorem rvCxtab11 : Go.Proofs.YtdlamomabonkjaaDoorW.PrintLast.rtab .any (Go.Proofs.YtdlamomabonkjaaDoorW.PrintLast.opsOf Tryd.f36 11) = rvCxT11 := by kernel_rfl
theorem rvCxbits11 : Go.Proofs.YtdlamomabonkjaaDoorW.PrintLast.waitsOk rvCxT11.2 rvCxB11 = true := by kernel_rfl
def rvDxT12 : Bool × List (List Nat × List Nat) := (true, [([], []), ([], []), ([1], [1]), ([2], [2]), ([0, 3], [0, 3]), ([], []), ([5], [5]), ([6], [6]), ([4, 7, 4], [4, 7]), ([8, 8, 0, 1, 2, 3, 4, 5, 6, 7, 8], [0, 8])])
def rvDxB12 : List Nat := [0, 0, 2, 6, 15, 0, 32, 96, 255, 511]
theorem rvDxtab12 : Go.Proofs.YtdlamomabonkjaaDoorW.PrintLast.rtab .any (Go.Proofs.YtdlamomabonkjaaDoorW.PrintLast.opsOf Tryd.f36 12) = rvDxT12 := by kernel_rfl
theorem rvDxbits12 : Go.Proofs.YtdlamomabonkjaaDoorW.PrintLast.waitsOk rvDxT12.2 rvDxB12 = true := by kernel_rfl
def rvET15 : Bool × List (List Nat × List Nat) := (true, [([], []), ([], []), ([1], [1]), ([0, 2], [0, 2]), ([], []), ([4], [4]), ([3, 5, 3], [3, 5]), ([6, 6, 0, 1, 2, 3, 4, 5, 6], [0, 6])])
def rvEB15 : List Nat := [0, 0, 2, 7, 0, 16, 63, 127]
theorem rvEtab15 : Go.Proofs.YtdlamomabonkjaaDoorW.PrintLast.rtab .any (Go.Proofs.YtdlamomabonkjaaDoorW.PrintLast.opsOf Tryd.f36 15) = rvET15 := by kernel_rfl
theorem rvEbits15 : Go.Proofs.YtdlamomabonkjaaDoorW.PrintLast.waitsOk rvET15.2 rvEB15 = true := by kernel_rfl
def rvFT16 : Bool × List (List Nat × List Nat) := (true, [([], []), ([], []), ([1], [1]), ([2], [2]), ([3], [3]), ([0, 4], [0, 4]), ([], []), ([6], [6]), ([7], [7]), ([8], [8]), ([5, 9, 5], [5, 9]), ([10, 10, 0, 1, 2, 3, 4, 5, 6, 7, 8, 9, 10], [0, 10])])
def rvFB16 : List Nat := [0, 0, 2, 6, 14, 31, 0, 64, 192, 448, 1023, 2047]
theorem rvFtab16 : Go.Proofs.YtdlamomabonkjaaDoorW.PrintLast.rtab .any (Go.Proofs.YtdlamomabonkjaaDoorW.PrintLast.opsOf Tryd.f36 16) = rvFT16 := by kernel_rfl
theorem rvFbits16 : Go.Proofs.YtdlamomabonkjaaDoorW.PrintLast.waitsOk rvFT16.2 rvFB16 = true := by kernel_rfl
def rvGT19 : Bool × List (List Nat × List Nat) := (true, [([], []), ([], []), ([1], [1]), ([0, 2], [0, 2]), ([], []), ([4], [4]), ([3, 5, 3], [3, 5]), ([6, 6, 0, 1, 2, 3, 4, 5, 6], [0, 6])])
def rvGB19 : List Nat := [0, 0, 2, 7, 0, 16, 63, 127]
theorem rvGtab19 : Go.Proofs.YtdlamomabonkjaaDoorW.PrintLast.rtab .any (Go.Proofs.YtdlamomabonkjaaDoorW.PrintLast.opsOf Tryd.f36 19) = rvGT19 := by kernel_rfl
theorem rvGbits19 : Go.Proofs.YtdlamomabonkjaaDoorW.PrintLast.waitsOk rvGT19.2 rvGB19 = true := by kernel_rfl
def rvHT20 : Bool × List (List Nat × List Nat) := (true, [([], []), ([], []), ([1], [1]), ([2], [2]), ([3], [3]), ([0, 4], [0, 4]), ([], []), ([6], [6]), ([7], [7]), ([8], [8]), ([5, 9, 5], [5, 9]), ([10, 10, 0, 1, 2, 3, 4, 5, 6, 7, 8, 9, 10], [0, 10])])
def rvHB20 : List Nat := [0, 0, 2, 6, 14, 31, 0, 64, 192, 448, 1023, 2047]
theorem rvHtab20 : Go.Proofs.YtdlamomabonkjaaDoorW.PrintLast.rtab .any (Go.Proofs.YtdlamomabonkjaaDoorW.PrintLast.opsOf Tryd.f36 20) = rvHT20 := by kernel_rfl
theorem rvHbits20 : Go.Proofs.YtdlamomabonkjaaDoorW.PrintLast.waitsOk rvHT20.2 rvHB20 = true := by kernel_rfl
def rvIT22 : Bool × List (List Nat × List Nat) := (true, [([], []), ([], []), ([1], [1]), ([0, 2], [0, 2]), ([], []), ([4], [4]), ([3, 5, 3], [3, 5]), ([6, 6, 0, 1, 2, 3, 4, 5, 6], [0, 6])])
def rvIB22 : List Nat := [0, 0, 2, 7, 0, 16, 63, 127]
theorem rvItab22 : Go.Proofs.YtdlamomabonkjaaDoorW.PrintLast.rtab .any (Go.Proofs.YtdlamomabonkjaaDoorW.PrintLast.opsOf Tryd.f36 22) = rvIT22 := by kernel_rfl
theorem rvIbits22 : Go.Proofs.YtdlamomabonkjaaDoorW.PrintLast.waitsOk rvIT22.2 rvIB22 = true := by kernel_rfl
def rvZT4 : Bool × List (List Nat × List Nat) := (true, [([], []), ([], []), ([0, 1], [0, 1]), ([], []), ([3], [3]), ([2, 4, 2], [2, 4]), ([5, 5, 0, 1, 2, 3, 4, 5], [5])])
def rvZB4 : List Nat := [0, 0, 3, 0, 8, 31, 63]
theorem rvZtab4 : Go.Proofs.YtdlamomabonkjaaDoorW.PrintLast.rtab .any (Go.Proofs.YtdlamomabonkjaaDoorW.PrintLast.opsOf Tryd.f36 4) = rvZT4 := by kernel_rfl
theorem rvZbits4 : Go.Proofs.YtdlamomabonkjaaDoorW.PrintLast.waitsOk rvZT4.2 rvZB4 = true := by kernel_rfl
set_option maxHeartbeats 16000000 in
theorem rvalue_calls (w : World) (x : Chk) (L : Lay) (hx : CR w x L) (hb : x = bareD x) (l10 : x.f10.length ≤ 4096) (l11 : x.f11.length ≤ 4096) (l12 : x.f12.length ≤ 4096) (l13 : x.f13.length ≤ 140737488351232) :
  Calls Tryd.prog 36 #[.agg (CV x L)] w fun e w' => ∃ v, e = .returned v ∧ (Kd.int .u8).R 5 w' w.heap.size (fun _ => True) v (valueD x) ∧ Below w.heap.size w w' := by
 have HN10 := Lh l10
 have HN11 := Lh l11
 have HN12 := Lh l12
 have HN13 := Lh l13
 have HCR := Lh (fun (W : World) (h : Below w.heap.size w W) => hx.below h)
 have HNP := Lh (encP_len x.f14)
 have HB := Lh hb
 clear hx l10 l11 l12 l13 hb
 have X := (show (w.alloc (.cells (CV x L) 41)).heap[w.heap.size]? = some (.cells (CV x L) 41 (0, 0)) ∧ Below w.heap.size w (w.alloc (.cells (CV x L) 41)) from ⟨blk_new _ _, below_alloc (Below.refl _ _) _⟩)
 go_enter Tryd.func36, Tryd.ntmps36
 go_upto_region 2 with (fail)
 refine wp_gen (fun W => W.heap[w.heap.size]? = some (.cells (CV x L) 41 (0, 0)) ∧ Below w.heap.size w W) X ?_
 clear X
 rintro W ⟨hb0, hB0⟩
 have k14 : W.cell? ⟨w.heap.size, 14, none⟩ = some (.slice L.A14 x.f14.length L.c14) := blk_cell hb0 14
 have HE := Lh (encR_calls W L.A14 L.c14 x.f14 (HCR.out W hB0).h14 (HCR.out W hB0).l14)
 have HB1_ := Lh hB0
 have HB2_ := Lh hb0
 clear hb0 hB0
 go_wp2_with fail
 refine HE.out.mono ?_
 rintro e w2 ⟨v0, rfl, hR, hB2⟩
 have hBw := below_then HB1_.out HB1_.out.size hB2
 have HB0 := Lh (blk_below HB2_.out hB2)
 have hcr := HCR.out w2 hBw
 have HG10 := Lh hcr.h10
 have HG11 := Lh hcr.h11
 have HD12 := Lh hcr.h12
 have HD13 := Lh hcr.h13
 obtain ⟨A0, c0, rfl, hle0, hC0⟩ := Kd.R_reads hR
 have HP0 := Lh hC0
 have HLE0 := Lh hle0
 have HFIN := Lh (fun (W' : World) (v : Value) (xs : List Int) (h1 : Below w2.heap.size w2 W') (h2 : (Kd.int .u8).R 5 W' w2.heap.size (fun _ => True) v xs) (h3 : valueD x = xs) => (show ∃ v_1, Ending.returned v = .returned v_1 ∧ (Kd.int .u8).R 5 W' w.heap.size (fun _ => True) v_1 (valueD x) ∧ Below w.heap.size w W' from ⟨v, rfl, by rw [h3]; exact Kd.R_lower h2 hBw.size, hBw.trans (h1.mono hBw.size)⟩))
 clear hR hB2 hcr hC0 hle0 HCR HE HB1_ HB2_ hBw k14
 have k0 : w2.cell? ⟨w.heap.size, 0, none⟩ = some (.int .u8 x.f0) := blk_cell HB0.out 0
 generalize hg : w.heap.size = g at *
 have X := RX.new w2
 by_cases h : x.f0 = 0
 ·have q0 : (x.f0 == 0) = true := by simp [h]
  have HVD := Lh (show valueD x = [] ++ fourL [x.f2] ++ twoL [x.f3] ++ twoL [x.f4] ++ fourL [x.f5] ++ x.f13 from by unfold valueD; rw [if_pos h]; unfold valData; simp only [List.nil_append, List.append_assoc, two2])
  go_upto_region 6 with (fail)
  obtain ⟨ys, hys⟩ : ∃ ys : List Int, ys = [] := ⟨_, rfl⟩
  have HX := Lh X
  rw [← hys] at HX
  have HYL := Lh (show ys.length ≤ 100000 by have := HN10.out; have := HN11.out; have := HN12.out; rw [hys]; simp only [List.length_append, twoL_length, fourL_length, gapL_length, List.length_cons, List.length_nil]; omega)
  have HYS := Lh hys
  clear X hys
  refine grow_region (B := rvAB6) [0, 1, 2, 3, 4, 5, 6, 7, 8] [3, 7, 8] (fun s v W => RX w2 (match s with | 0 => ys | 1 => ys ++ fourL [x.f2] | 2 => ys ++ fourL [x.f2] ++ twoL [x.f3] | _ => ys ++ fourL [x.f2] ++ twoL [x.f3]) v W) (.slice none 0 0) (fun vs => [(0, 23, .slice none 0 0), (1, 24, .pointer (some ⟨g, 2, none⟩)), (2, 25, .int .u32 x.f2), (3, 26, vs 1), (4, 27, .pointer (some ⟨g, 3, none⟩)), (5, 28, .int .u16 x.f3), (6, 29, .int .u32 (IntKind.u32.wrap x.f3)), (7, 30, vs 2), (8, 3, vs 3)]) (by kernel_rfl) rfl (l := #[false, false, false, false, false, false, false, false, false]) rfl rvAtab6 rvAbits6 (by kernel_rfl) (by kernel_rfl) (fun _ => rfl) rfl ?_ ?_ ?_
  ·exact HX.out.drewN 1
  ·exact steps_cons (gr_op (p := 3) (fun w => Below w2.heap.size w2 w) 0 0 rfl rfl rfl (fun _ => rfl) (fun _ => rfl) rfl (u := .slice none 0 0) (rd_not (p := 3) 8 (by kernel_rfl) (fun _ => rfl) rfl) (fun s x w h => RX.bl h) (fun a w hJ e => by go_simp)) (steps_cons (gr_op (p := 1) (fun w => Below w2.heap.size w2 w) 1 1 rfl rfl rfl (fun _ => rfl) (fun _ => rfl) rfl (u := .pointer (some ⟨g, 0, none⟩)) (rd_off (p := 1) (fun _ => rfl) rfl) (fun s x w h => RX.bl h) (fun a w hJ e => by go_simp)) (steps_cons (gr_op (p := 24) (fun w => Below w2.heap.size w2 w) 2 2 rfl rfl rfl (fun _ => rfl) (fun _ => rfl) rfl (u := .pointer (some ⟨g, 2, none⟩)) (rd_on (p := 24) 1 1 (fun _ => rfl) (fun _ => rfl) (by kernel_rfl) rfl) (fun s x w h => RX.bl h) (fun a w hJ e => by have hs : w.cell? ⟨g, 2, none⟩ = some (.int .u32 x.f2) := blk_cell (blk_below HB0.out hJ) 2; go_simp)) (steps_cons (gr_call (vals := [.int .u32 x.f2, .int .i64 4]) 3 3 0 rfl rfl rfl rfl (fun _ => rfl) (fun _ _ => rfl) (fun _ => rfl) rfl (by kernel_rfl) Tryd.func63 (by kernel_rfl) rfl rfl rfl (fv := fun vs => .slice none 0 0) (rd_on (p := 23) 0 0 (fun _ => rfl) (fun _ => rfl) (by kernel_rfl) rfl) (fun _ h => h.symm) (ar_t (rd_on (p := 25) 2 2 (fun _ => rfl) (fun _ => rfl) (by kernel_rfl) rfl) (ar_c (.int .i64 4) (ar_n))) (fun u w h => h.four _ (by have := HYL.out; (try simp only [List.length_append, twoL_length, fourL_length, List.length_cons, List.length_nil]); omega))) (steps_cons (gr_op (p := 1) (fun w => Below w2.heap.size w2 w) 4 4 rfl rfl rfl (fun _ => rfl) (fun _ => rfl) rfl (u := .pointer (some ⟨g, 0, none⟩)) (rd_off (p := 1) (fun _ => rfl) rfl) (fun s x w h => RX.bl h) (fun a w hJ e => by go_simp)) (steps_cons (gr_op (p := 27) (fun w => Below w2.heap.size w2 w) 5 5 rfl rfl rfl (fun _ => rfl) (fun _ => rfl) rfl (u := .pointer (some ⟨g, 3, none⟩)) (rd_on (p := 27) 4 4 (fun _ => rfl) (fun _ => rfl) (by kernel_rfl) rfl) (fun s x w h => RX.bl h) (fun a w hJ e => by have hs : w.cell? ⟨g, 3, none⟩ = some (.int .u16 x.f3) := blk_cell (blk_below HB0.out hJ) 3; go_simp)) (steps_cons (gr_op (p := 28) (fun w => Below w2.heap.size w2 w) 6 6 rfl rfl rfl (fun _ => rfl) (fun _ => rfl) rfl (u := .int .u16 x.f3) (rd_on (p := 28) 5 5 (fun _ => rfl) (fun _ => rfl) (by kernel_rfl) rfl) (fun s x w h => RX.bl h) (fun a w hJ e => by go_simp)) (steps_cons (gr_call (vals := [.int .u32 (IntKind.u32.wrap x.f3), .int .i64 2]) 7 7 1 rfl rfl rfl rfl (fun _ => rfl) (fun _ _ => rfl) (fun _ => rfl) rfl (by kernel_rfl) Tryd.func63 (by kernel_rfl) rfl rfl rfl (fv := fun vs => vs 1) (rd_on (p := 26) 3 3 (fun _ => rfl) (fun _ => rfl) (by kernel_rfl) rfl) (fun _ _ => rfl) (ar_t (rd_on (p := 29) 6 6 (fun _ => rfl) (fun _ => rfl) (by kernel_rfl) rfl) (ar_c (.int .i64 2) (ar_n))) (fun u w h => h.two _ _ (two32 _) (by have := HYL.out; (try simp only [List.length_append, twoL_length, fourL_length, List.length_cons, List.length_nil]); omega))) (steps_cons (gr_last 8 8 2 rfl rfl rfl rfl (fun _ => rfl) (fun _ _ => rfl) (fun _ => rfl) rfl (by kernel_rfl) (fv := fun vs => vs 2) (rd_on (p := 30) 7 7 (fun _ => rfl) (fun _ => rfl) (by kernel_rfl) rfl) (fun _ _ => rfl) (fun a w u e => by go_simp) (fun _ _ h => h)) steps_nil))))))))
  intro vs1 W1 hX9
  have HRR := Lh hX9
  clear hX9
  simp only [putSel, if_true, Act.put, List.setIfInBounds_toArray, List.set_cons_zero, List.set_cons_succ]
  obtain ⟨u1_, hu⟩ : ∃ u, vs1 3 = u := ⟨_, rfl⟩
  replace HRR := Lh (show RX w2 (ys ++ fourL [x.f2] ++ twoL [x.f3]) (vs1 3) W1 from HRR.out)
  rw [hu] at HRR ⊢
  clear hu
  have X := HRR.out
  rw [HYS.out] at X
  clear HRR HYS HX HYL
  clear ys
  go_upto_region 7 with (fail)
  obtain ⟨ys, hys⟩ : ∃ ys : List Int, ys = [] ++ fourL [x.f2] ++ twoL [x.f3] := ⟨_, rfl⟩
  have HX := Lh X
  rw [← hys] at HX
  have HYL := Lh (show ys.length ≤ 100000 by have := HN10.out; have := HN11.out; have := HN12.out; rw [hys]; simp only [List.length_append, twoL_length, fourL_length, gapL_length, List.length_cons, List.length_nil]; omega)
  have HYS := Lh hys
  clear X hys
  refine grow_region (B := rvBB7) [0, 1, 2, 3, 4, 5, 6, 7, 8] [4, 7, 8] (fun s v W => RX w2 (match s with | 0 => ys | 1 => ys ++ twoL [x.f4] | 2 => ys ++ twoL [x.f4] ++ fourL [x.f5] | _ => ys ++ twoL [x.f4] ++ fourL [x.f5]) v W) (u1_) (fun vs => [(0, 31, u1_), (1, 32, .pointer (some ⟨g, 4, none⟩)), (2, 33, .int .u16 x.f4), (3, 34, .int .u32 (IntKind.u32.wrap x.f4)), (4, 35, vs 1), (5, 36, .pointer (some ⟨g, 5, none⟩)), (6, 37, .int .u32 x.f5), (7, 38, vs 2), (8, 3, vs 3)]) (by kernel_rfl) rfl (l := #[false, false, false, false, false, false, false, false, false]) rfl rvBtab7 rvBbits7 (by kernel_rfl) (by kernel_rfl) (fun _ => rfl) rfl ?_ ?_ ?_
  ·exact HX.out.drewN 1
  ·exact steps_cons (gr_op (p := 3) (fun w => Below w2.heap.size w2 w) 0 0 rfl rfl rfl (fun _ => rfl) (fun _ => rfl) rfl (u := u1_) (rd_not (p := 3) 8 (by kernel_rfl) (fun _ => rfl) rfl) (fun s x w h => RX.bl h) (fun a w hJ e => by go_simp)) (steps_cons (gr_op (p := 1) (fun w => Below w2.heap.size w2 w) 1 1 rfl rfl rfl (fun _ => rfl) (fun _ => rfl) rfl (u := .pointer (some ⟨g, 0, none⟩)) (rd_off (p := 1) (fun _ => rfl) rfl) (fun s x w h => RX.bl h) (fun a w hJ e => by go_simp)) (steps_cons (gr_op (p := 32) (fun w => Below w2.heap.size w2 w) 2 2 rfl rfl rfl (fun _ => rfl) (fun _ => rfl) rfl (u := .pointer (some ⟨g, 4, none⟩)) (rd_on (p := 32) 1 1 (fun _ => rfl) (fun _ => rfl) (by kernel_rfl) rfl) (fun s x w h => RX.bl h) (fun a w hJ e => by have hs : w.cell? ⟨g, 4, none⟩ = some (.int .u16 x.f4) := blk_cell (blk_below HB0.out hJ) 4; go_simp)) (steps_cons (gr_op (p := 33) (fun w => Below w2.heap.size w2 w) 3 3 rfl rfl rfl (fun _ => rfl) (fun _ => rfl) rfl (u := .int .u16 x.f4) (rd_on (p := 33) 2 2 (fun _ => rfl) (fun _ => rfl) (by kernel_rfl) rfl) (fun s x w h => RX.bl h) (fun a w hJ e => by go_simp)) (steps_cons (gr_call (vals := [.int .u32 (IntKind.u32.wrap x.f4), .int .i64 2]) 4 4 0 rfl rfl rfl rfl (fun _ => rfl) (fun _ _ => rfl) (fun _ => rfl) rfl (by kernel_rfl) Tryd.func63 (by kernel_rfl) rfl rfl rfl (fv := fun vs => u1_) (rd_on (p := 31) 0 0 (fun _ => rfl) (fun _ => rfl) (by kernel_rfl) rfl) (fun _ h => h.symm) (ar_t (rd_on (p := 34) 3 3 (fun _ => rfl) (fun _ => rfl) (by kernel_rfl) rfl) (ar_c (.int .i64 2) (ar_n))) (fun u w h => h.two _ _ (two32 _) (by have := HYL.out; (try simp only [List.length_append, twoL_length, fourL_length, List.length_cons, List.length_nil]); omega))) (steps_cons (gr_op (p := 1) (fun w => Below w2.heap.size w2 w) 5 5 rfl rfl rfl (fun _ => rfl) (fun _ => rfl) rfl (u := .pointer (some ⟨g, 0, none⟩)) (rd_off (p := 1) (fun _ => rfl) rfl) (fun s x w h => RX.bl h) (fun a w hJ e => by go_simp)) (steps_cons (gr_op (p := 36) (fun w => Below w2.heap.size w2 w) 6 6 rfl rfl rfl (fun _ => rfl) (fun _ => rfl) rfl (u := .pointer (some ⟨g, 5, none⟩)) (rd_on (p := 36) 5 5 (fun _ => rfl) (fun _ => rfl) (by kernel_rfl) rfl) (fun s x w h => RX.bl h) (fun a w hJ e => by have hs : w.cell? ⟨g, 5, none⟩ = some (.int .u32 x.f5) := blk_cell (blk_below HB0.out hJ) 5; go_simp)) (steps_cons (gr_call (vals := [.int .u32 x.f5, .int .i64 4]) 7 7 1 rfl rfl rfl rfl (fun _ => rfl) (fun _ _ => rfl) (fun _ => rfl) rfl (by kernel_rfl) Tryd.func63 (by kernel_rfl) rfl rfl rfl (fv := fun vs => vs 1) (rd_on (p := 35) 4 4 (fun _ => rfl) (fun _ => rfl) (by kernel_rfl) rfl) (fun _ _ => rfl) (ar_t (rd_on (p := 37) 6 6 (fun _ => rfl) (fun _ => rfl) (by kernel_rfl) rfl) (ar_c (.int .i64 4) (ar_n))) (fun u w h => h.four _ (by have := HYL.out; (try simp only [List.length_append, twoL_length, fourL_length, List.length_cons, List.length_nil]); omega))) (steps_cons (gr_last 8 8 2 rfl rfl rfl rfl (fun _ => rfl) (fun _ _ => rfl) (fun _ => rfl) rfl (by kernel_rfl) (fv := fun vs => vs 2) (rd_on (p := 38) 7 7 (fun _ => rfl) (fun _ => rfl) (by kernel_rfl) rfl) (fun _ _ => rfl) (fun a w u e => by go_simp) (fun _ _ h => h)) steps_nil))))))))
  intro vs2 W2 hX9
  have HRR := Lh hX9
  clear hX9
  simp only [putSel, if_true, Act.put, List.setIfInBounds_toArray, List.set_cons_zero, List.set_cons_succ]
  obtain ⟨u2_, hu⟩ : ∃ u, vs2 3 = u := ⟨_, rfl⟩
  replace HRR := Lh (show RX w2 (ys ++ twoL [x.f4] ++ fourL [x.f5]) (vs2 3) W2 from HRR.out)
  rw [hu] at HRR ⊢
  clear hu
  have X := HRR.out
  rw [HYS.out] at X
  clear HRR HYS HX HYL
  clear ys
  go_upto_region 8 with (fail)
  obtain ⟨ys, hys⟩ : ∃ ys : List Int, ys = [] ++ fourL [x.f2] ++ twoL [x.f3] ++ twoL [x.f4] ++ fourL [x.f5] := ⟨_, rfl⟩
  have HX := Lh X
  rw [← hys] at HX
  have HYL := Lh (show ys.length ≤ 1000 by have := HN10.out; have := HN11.out; have := HN12.out; rw [hys]; simp only [List.length_append, twoL_length, fourL_length, gapL_length, List.length_cons, List.length_nil]; omega)
  have HYS := Lh hys
  clear X hys
  have k13 : W2.cell? ⟨g, 13, none⟩ = some (.slice L.A13 x.f13.length L.c13) := blk_cell (blk_below HB0.out HX.out.bl) 13
  obtain ⟨Au, cu, hu⟩ := Kd.R_slice HX.out.r
  have HV := Lh HX.out
  rw [hu] at HV
  subst hu
  have HRC := Lh HX.out.r
  have HBC := Lh HX.out.bl
  go_wp2_with (at_builtin; go_must (refine Kd.R_append_row (Value.int .u8) (0 : Int) (w0 := w2) (W := W2) w2.heap.size rfl _ _ 27 5 _ 1 rfl Tryd.underlying27 info_u8 rfl (by decide) (.slice Au ys.length cu) ys x.f13 L.A13 _ L.c13 (fun _ => True) rfl rfl (fun _ _ => trivial) HRC.out (Kd.C_below HD13.out HBC.out) HBC.out HBC.out.size (by have := HYL.out; have := HN13.out; omega) ?_); (intro v1 w1 hR1 hB1 hG1 _; have HR1 := Lh hR1; have HB1 := Lh hB1; clear hR1 hB1 hG1; refine RowKit.Hid.out ?_))
  refine Lh ?_
  go_wp2
  go_ret
  rw [HYS.out] at HR1
  subst hg
  exact HFIN.out _ _ _ HB1.out HR1.out (by rw [HVD.out])
 have n0 := h
 clear h
 by_cases h : x.f0 = 1
 ·have q0 : (x.f0 == 0) = false := by simp; omega
  have q1 : (x.f0 == 1) = true := by simp [h]
  have HVD := Lh (show valueD x = [] ++ fourL [x.f6] ++ fourL [x.f7] ++ twoL [x.f8] ++ twoL [x.f9] ++ fourL [x.f2] ++ (encP x.f14).1 from by unfold valueD; rw [if_neg (by omega), if_pos (by omega)]; simp only [List.nil_append, List.append_assoc, two2, four2])
  go_upto_region 11 with (fail)
  obtain ⟨ys, hys⟩ : ∃ ys : List Int, ys = [] := ⟨_, rfl⟩
  have HX := Lh X
  rw [← hys] at HX
  have HYL := Lh (show ys.length ≤ 100000 by have := HN10.out; have := HN11.out; have := HN12.out; rw [hys]; simp only [List.length_append, twoL_length, fourL_length, gapL_length, List.length_cons, List.length_nil]; omega)
  have HYS := Lh hys
  clear X hys
  refine grow_region (B := rvCB11) [0, 1, 2, 3, 4, 5, 6, 7] [3, 6, 7] (fun s v W => RX w2 (match s with | 0 => ys | 1 => ys ++ fourL [x.f6] | 2 => ys ++ fourL [x.f6] ++ fourL [x.f7] | _ => ys ++ fourL [x.f6] ++ fourL [x.f7]) v W) (.slice none 0 0) (fun vs => [(0, 46, .slice none 0 0), (1, 47, .pointer (some ⟨g, 6, none⟩)), (2, 48, .int .u32 x.f6), (3, 49, vs 1), (4, 50, .pointer (some ⟨g, 7, none⟩)), (5, 51, .int .u32 x.f7), (6, 52, vs 2), (7, 3, vs 3)]) (by kernel_rfl) rfl (l := #[false, false, false, false, false, false, false, false]) rfl rvCtab11 rvCbits11 (by kernel_rfl) (by kernel_rfl) (fun _ => rfl) rfl ?_ ?_ ?_
  ·exact HX.out.drewN 1
  ·exact steps_cons (gr_op (p := 3) (fun w => Below w2.heap.size w2 w) 0 0 rfl rfl rfl (fun _ => rfl) (fun _ => rfl) rfl (u := .slice none 0 0) (rd_not (p := 3) 7 (by kernel_rfl) (fun _ => rfl) rfl) (fun s x w h => RX.bl h) (fun a w hJ e => by go_simp)) (steps_cons (gr_op (p := 1) (fun w => Below w2.heap.size w2 w) 1 1 rfl rfl rfl (fun _ => rfl) (fun _ => rfl) rfl (u := .pointer (some ⟨g, 0, none⟩)) (rd_off (p := 1) (fun _ => rfl) rfl) (fun s x w h => RX.bl h) (fun a w hJ e => by go_simp)) (steps_cons (gr_op (p := 47) (fun w => Below w2.heap.size w2 w) 2 2 rfl rfl rfl (fun _ => rfl) (fun _ => rfl) rfl (u := .pointer (some ⟨g, 6, none⟩)) (rd_on (p := 47) 1 1 (fun _ => rfl) (fun _ => rfl) (by kernel_rfl) rfl) (fun s x w h => RX.bl h) (fun a w hJ e => by have hs : w.cell? ⟨g, 6, none⟩ = some (.int .u32 x.f6) := blk_cell (blk_below HB0.out hJ) 6; go_simp)) (steps_cons (gr_call (vals := [.int .u32 x.f6, .int .i64 4]) 3 3 0 rfl rfl rfl rfl (fun _ => rfl) (fun _ _ => rfl) (fun _ => rfl) rfl (by kernel_rfl) Tryd.func63 (by kernel_rfl) rfl rfl rfl (fv := fun vs => .slice none 0 0) (rd_on (p := 46) 0 0 (fun _ => rfl) (fun _ => rfl) (by kernel_rfl) rfl) (fun _ h => h.symm) (ar_t (rd_on (p := 48) 2 2 (fun _ => rfl) (fun _ => rfl) (by kernel_rfl) rfl) (ar_c (.int .i64 4) (ar_n))) (fun u w h => h.four _ (by have := HYL.out; (try simp only [List.length_append, twoL_length, fourL_length, List.length_cons, List.length_nil]); omega))) (steps_cons (gr_op (p := 1) (fun w => Below w2.heap.size w2 w) 4 4 rfl rfl rfl (fun _ => rfl) (fun _ => rfl) rfl (u := .pointer (some ⟨g, 0, none⟩)) (rd_off (p := 1) (fun _ => rfl) rfl) (fun s x w h => RX.bl h) (fun a w hJ e => by go_simp)) (steps_cons (gr_op (p := 50) (fun w => Below w2.heap.size w2 w) 5 5 rfl rfl rfl (fun _ => rfl) (fun _ => rfl) rfl (u := .pointer (some ⟨g, 7, none⟩)) (rd_on (p := 50) 4 4 (fun _ => rfl) (fun _ => rfl) (by kernel_rfl) rfl) (fun s x w h => RX.bl h) (fun a w hJ e => by have hs : w.cell? ⟨g, 7, none⟩ = some (.int .u32 x.f7) := blk_cell (blk_below HB0.out hJ) 7; go_simp)) (steps_cons (gr_call (vals := [.int .u32 x.f7, .int .i64 4]) 6 6 1 rfl rfl rfl rfl (fun _ => rfl) (fun _ _ => rfl) (fun _ => rfl) rfl (by kernel_rfl) Tryd.func63 (by kernel_rfl) rfl rfl rfl (fv := fun vs => vs 1) (rd_on (p := 49) 3 3 (fun _ => rfl) (fun _ => rfl) (by kernel_rfl) rfl) (fun _ _ => rfl) (ar_t (rd_on (p := 51) 5 5 (fun _ => rfl) (fun _ => rfl) (by kernel_rfl) rfl) (ar_c (.int .i64 4) (ar_n))) (fun u w h => h.four _ (by have := HYL.out; (try simp only [List.length_append, twoL_length, fourL_length, List.length_cons, List.length_nil]); omega))) (steps_cons (gr_last 7 7 2 rfl rfl rfl rfl (fun _ => rfl) (fun _ _ => rfl) (fun _ => rfl) rfl (by kernel_rfl) (fv := fun vs => vs 2) (rd_on (p := 52) 6 6 (fun _ => rfl) (fun _ => rfl) (by kernel_rfl) rfl) (fun _ _ => rfl) (fun a w u e => by go_simp) (fun _ _ h => h)) steps_nil)))))))
  intro vs1 W1 hX9
  have HRR := Lh hX9
  clear hX9
  simp only [putSel, if_true, Act.put, List.setIfInBounds_toArray, List.set_cons_zero, List.set_cons_succ]
  obtain ⟨u1_, hu⟩ : ∃ u, vs1 3 = u := ⟨_, rfl⟩
  replace HRR := Lh (show RX w2 (ys ++ fourL [x.f6] ++ fourL [x.f7]) (vs1 3) W1 from HRR.out)
  rw [hu] at HRR ⊢
  clear hu
  have X := HRR.out
  rw [HYS.out] at X
  clear HRR HYS HX HYL
  clear ys
  go_upto_region 12 with (fail)
  obtain ⟨ys, hys⟩ : ∃ ys : List Int, ys = [] ++ fourL [x.f6] ++ fourL [x.f7] := ⟨_, rfl⟩
  have HX := Lh X
  rw [← hys] at HX
  have HYL := Lh (show ys.length ≤ 100000 by have := HN10.out; have := HN11.out; have := HN12.out; rw [hys]; simp only [List.length_append, twoL_length, fourL_length, gapL_length, List.length_cons, List.length_nil]; omega)
  have HYS := Lh hys
  clear X hys
  refine grow_region (B := rvDB12) [0, 1, 2, 3, 4, 5, 6, 7, 8, 9] [4, 8, 9] (fun s v W => RX w2 (match s with | 0 => ys | 1 => ys ++ twoL [x.f8] | 2 => ys ++ twoL [x.f8] ++ twoL [x.f9] | _ => ys ++ twoL [x.f8] ++ twoL [x.f9]) v W) (u1_) (fun vs => [(0, 53, u1_), (1, 54, .pointer (some ⟨g, 8, none⟩)), (2, 55, .int .u16 x.f8), (3, 56, .int .u32 (IntKind.u32.wrap x.f8)), (4, 57, vs 1), (5, 58, .pointer (some ⟨g, 9, none⟩)), (6, 59, .int .u16 x.f9), (7, 60, .int .u32 (IntKind.u32.wrap x.f9)), (8, 61, vs 2), (9, 3, vs 3)]) (by kernel_rfl) rfl (l := #[false, false, false, false, false, false, false, false, false, false]) rfl rvDtab12 rvDbits12 (by kernel_rfl) (by kernel_rfl) (fun _ => rfl) rfl ?_ ?_ ?_
  ·exact HX.out.drewN 1
  ·exact steps_cons (gr_op (p := 3) (fun w => Below w2.heap.size w2 w) 0 0 rfl rfl rfl (fun _ => rfl) (fun _ => rfl) rfl (u := u1_) (rd_not (p := 3) 9 (by kernel_rfl) (fun _ => rfl) rfl) (fun s x w h => RX.bl h) (fun a w hJ e => by go_simp)) (steps_cons (gr_op (p := 1) (fun w => Below w2.heap.size w2 w) 1 1 rfl rfl rfl (fun _ => rfl) (fun _ => rfl) rfl (u := .pointer (some ⟨g, 0, none⟩)) (rd_off (p := 1) (fun _ => rfl) rfl) (fun s x w h => RX.bl h) (fun a w hJ e => by go_simp)) (steps_cons (gr_op (p := 54) (fun w => Below w2.heap.size w2 w) 2 2 rfl rfl rfl (fun _ => rfl) (fun _ => rfl) rfl (u := .pointer (some ⟨g, 8, none⟩)) (rd_on (p := 54) 1 1 (fun _ => rfl) (fun _ => rfl) (by kernel_rfl) rfl) (fun s x w h => RX.bl h) (fun a w hJ e => by have hs : w.cell? ⟨g, 8, none⟩ = some (.int .u16 x.f8) := blk_cell (blk_below HB0.out hJ) 8; go_simp)) (steps_cons (gr_op (p := 55) (fun w => Below w2.heap.size w2 w) 3 3 rfl rfl rfl (fun _ => rfl) (fun _ => rfl) rfl (u := .int .u16 x.f8) (rd_on (p := 55) 2 2 (fun _ => rfl) (fun _ => rfl) (by kernel_rfl) rfl) (fun s x w h => RX.bl h) (fun a w hJ e => by go_simp)) (steps_cons (gr_call (vals := [.int .u32 (IntKind.u32.wrap x.f8), .int .i64 2]) 4 4 0 rfl rfl rfl rfl (fun _ => rfl) (fun _ _ => rfl) (fun _ => rfl) rfl (by kernel_rfl) Tryd.func63 (by kernel_rfl) rfl rfl rfl (fv := fun vs => u1_) (rd_on (p := 53) 0 0 (fun _ => rfl) (fun _ => rfl) (by kernel_rfl) rfl) (fun _ h => h.symm) (ar_t (rd_on (p := 56) 3 3 (fun _ => rfl) (fun _ => rfl) (by kernel_rfl) rfl) (ar_c (.int .i64 2) (ar_n))) (fun u w h => h.two _ _ (two32 _) (by have := HYL.out; (try simp only [List.length_append, twoL_length, fourL_length, List.length_cons, List.length_nil]); omega))) (steps_cons (gr_op (p := 1) (fun w => Below w2.heap.size w2 w) 5 5 rfl rfl rfl (fun _ => rfl) (fun _ => rfl) rfl (u := .pointer (some ⟨g, 0, none⟩)) (rd_off (p := 1) (fun _ => rfl) rfl) (fun s x w h => RX.bl h) (fun a w hJ e => by go_simp)) (steps_cons (gr_op (p := 58) (fun w => Below w2.heap.size w2 w) 6 6 rfl rfl rfl (fun _ => rfl) (fun _ => rfl) rfl (u := .pointer (some ⟨g, 9, none⟩)) (rd_on (p := 58) 5 5 (fun _ => rfl) (fun _ => rfl) (by kernel_rfl) rfl) (fun s x w h => RX.bl h) (fun a w hJ e => by have hs : w.cell? ⟨g, 9, none⟩ = some (.int .u16 x.f9) := blk_cell (blk_below HB0.out hJ) 9; go_simp)) (steps_cons (gr_op (p := 59) (fun w => Below w2.heap.size w2 w) 7 7 rfl rfl rfl (fun _ => rfl) (fun _ => rfl) rfl (u := .int .u16 x.f9) (rd_on (p := 59) 6 6 (fun _ => rfl) (fun _ => rfl) (by kernel_rfl) rfl) (fun s x w h => RX.bl h) (fun a w hJ e => by go_simp)) (steps_cons (gr_call (vals := [.int .u32 (IntKind.u32.wrap x.f9), .int .i64 2]) 8 8 1 rfl rfl rfl rfl (fun _ => rfl) (fun _ _ => rfl) (fun _ => rfl) rfl (by kernel_rfl) Tryd.func63 (by kernel_rfl) rfl rfl rfl (fv := fun vs => vs 1) (rd_on (p := 57) 4 4 (fun _ => rfl) (fun _ => rfl) (by kernel_rfl) rfl) (fun _ _ => rfl) (ar_t (rd_on (p := 60) 7 7 (fun _ => rfl) (fun _ => rfl) (by kernel_rfl) rfl) (ar_c (.int .i64 2) (ar_n))) (fun u w h => h.two _ _ (two32 _) (by have := HYL.out; (try simp only [List.length_append, twoL_length, fourL_length, List.length_cons, List.length_nil]); omega))) (steps_cons (gr_last 9 9 2 rfl rfl rfl rfl (fun _ => rfl) (fun _ _ => rfl) (fun _ => rfl) rfl (by kernel_rfl) (fv := fun vs => vs 2) (rd_on (p := 61) 8 8 (fun _ => rfl) (fun _ => rfl) (by kernel_rfl) rfl) (fun _ _ => rfl) (fun a w u e => by go_simp) (fun _ _ h => h)) steps_nil)))))))))
  intro vs2 W2 hX9
  have HRR := Lh hX9
  clear hX9
  simp only [putSel, if_true, Act.put, List.setIfInBounds_toArray, List.set_cons_zero, List.set_cons_succ]
  obtain ⟨u2_, hu⟩ : ∃ u, vs2 3 = u := ⟨_, rfl⟩
  replace HRR := Lh (show RX w2 (ys ++ twoL [x.f8] ++ twoL [x.f9]) (vs2 3) W2 from HRR.out)
  rw [hu] at HRR ⊢
  clear hu
  have X := HRR.out
  rw [HYS.out] at X
  clear HRR HYS HX HYL
  clear ys
  go_upto_region 13 with (fail)
  obtain ⟨ys, hys⟩ : ∃ ys : List Int, ys = [] ++ fourL [x.f6] ++ fourL [x.f7] ++ twoL [x.f8] ++ twoL [x.f9] := ⟨_, rfl⟩
  have HX := Lh X
  rw [← hys] at HX
  have HYL := Lh (show ys.length ≤ 100000 by have := HN10.out; have := HN11.out; have := HN12.out; rw [hys]; simp only [List.length_append, twoL_length, fourL_length, gapL_length, List.length_cons, List.length_nil]; omega)
  have HYS := Lh hys
  clear X hys
  have k2 : W2.cell? ⟨g, 2, none⟩ = some (.int .u32 x.f2) := blk_cell (blk_below HB0.out HX.out.bl) 2
  go_wp2_with fail
  refine (HX.out.four _ (by have := HYL.out; (try simp only [List.length_append, twoL_length, fourL_length, List.length_cons, List.length_nil]); omega)).mono ?_
  rintro e W3 ⟨v3_, rfl, hX9⟩
  have HRR := Lh hX9
  clear hX9 k2
  have X := HRR.out
  rw [HYS.out] at X
  clear HRR HYS HX HYL
  clear ys
  obtain ⟨ys, hys⟩ : ∃ ys : List Int, ys = [] ++ fourL [x.f6] ++ fourL [x.f7] ++ twoL [x.f8] ++ twoL [x.f9] ++ fourL [x.f2] := ⟨_, rfl⟩
  have HX := Lh X
  rw [← hys] at HX
  have HYL := Lh (show ys.length ≤ 100000 by have := HN10.out; have := HN11.out; have := HN12.out; rw [hys]; simp only [List.length_append, twoL_length, fourL_length, gapL_length, List.length_cons, List.length_nil]; omega)
  have HYS := Lh hys
  clear X hys
  obtain ⟨Au, cu, hu⟩ := Kd.R_slice HX.out.r
  have HV := Lh HX.out
  rw [hu] at HV
  subst hu
  have HRC := Lh HX.out.r
  have HBC := Lh HX.out.bl
  go_wp2_with (at_builtin; go_must (refine Kd.R_append_row (Value.int .u8) (0 : Int) (w0 := w2) (W := W3) w2.heap.size rfl _ _ 27 5 _ 1 rfl Tryd.underlying27 info_u8 rfl (by decide) (.slice Au ys.length cu) ys (encP x.f14).1 A0 _ c0 (fun _ => True) rfl rfl (fun _ _ => trivial) HRC.out (Kd.C_below HP0.out HBC.out) HBC.out HBC.out.size (by have := HYL.out; have := HNP.out; omega) ?_); (intro v1 w1 hR1 hB1 hG1 _; have HR1 := Lh hR1; have HB1 := Lh hB1; clear hR1 hB1 hG1; refine RowKit.Hid.out ?_))
  refine Lh ?_
  go_wp2
  go_ret
  rw [HYS.out] at HR1
  subst hg
  exact HFIN.out _ _ _ HB1.out HR1.out (by rw [HVD.out])
 have n1 := h
 clear h
 by_cases h : x.f0 = 2
 ·have q0 : (x.f0 == 0) = false := by simp; omega
  have q1 : (x.f0 == 1) = false := by simp; omega
  have q2 : (x.f0 == 2) = true := by simp [h]
  have HVD := Lh (show valueD x = [] ++ fourL [x.f6] ++ fourL [x.f7] ++ twoL [x.f8] ++ twoL [x.f9] ++ fourL [x.f2] ++ (encP x.f14).1 from by unfold valueD; rw [if_neg (by omega), if_pos (by omega)]; simp only [List.nil_append, List.append_assoc, two2, four2])
  go_upto_region 11 with (fail)
  obtain ⟨ys, hys⟩ : ∃ ys : List Int, ys = [] := ⟨_, rfl⟩
  have HX := Lh X
  rw [← hys] at HX
  have HYL := Lh (show ys.length ≤ 100000 by have := HN10.out; have := HN11.out; have := HN12.out; rw [hys]; simp only [List.length_append, twoL_length, fourL_length, gapL_length, List.length_cons, List.length_nil]; omega)
  have HYS := Lh hys
  clear X hys
  refine grow_region (B := rvCxB11) [0, 1, 2, 3, 4, 5, 6, 7] [3, 6, 7] (fun s v W => RX w2 (match s with | 0 => ys | 1 => ys ++ fourL [x.f6] | 2 => ys ++ fourL [x.f6] ++ fourL [x.f7] | _ => ys ++ fourL [x.f6] ++ fourL [x.f7]) v W) (.slice none 0 0) (fun vs => [(0, 46, .slice none 0 0), (1, 47, .pointer (some ⟨g, 6, none⟩)), (2, 48, .int .u32 x.f6), (3, 49, vs 1), (4, 50, .pointer (some ⟨g, 7, none⟩)), (5, 51, .int .u32 x.f7), (6, 52, vs 2), (7, 3, vs 3)]) (by kernel_rfl) rfl (l := #[false, false, false, false, false, false, false, false]) rfl rvCxtab11 rvCxbits11 (by kernel_rfl) (by kernel_rfl) (fun _ => rfl) rfl ?_ ?_ ?_
  ·exact HX.out.drewN 1
  ·exact steps_cons (gr_op (p := 3) (fun w => Below w2.heap.size w2 w) 0 0 rfl rfl rfl (fun _ => rfl) (fun _ => rfl) rfl (u := .slice none 0 0) (rd_not (p := 3) 7 (by kernel_rfl) (fun _ => rfl) rfl) (fun s x w h => RX.bl h) (fun a w hJ e => by go_simp)) (steps_cons (gr_op (p := 1) (fun w => Below w2.heap.size w2 w) 1 1 rfl rfl rfl (fun _ => rfl) (fun _ => rfl) rfl (u := .pointer (some ⟨g, 0, none⟩)) (rd_off (p := 1) (fun _ => rfl) rfl) (fun s x w h => RX.bl h) (fun a w hJ e => by go_simp)) (steps_cons (gr_op (p := 47) (fun w => Below w2.heap.size w2 w) 2 2 rfl rfl rfl (fun _ => rfl) (fun _ => rfl) rfl (u := .pointer (some ⟨g, 6, none⟩)) (rd_on (p := 47) 1 1 (fun _ => rfl) (fun _ => rfl) (by kernel_rfl) rfl) (fun s x w h => RX.bl h) (fun a w hJ e => by have hs : w.cell? ⟨g, 6, none⟩ = some (.int .u32 x.f6) := blk_cell (blk_below HB0.out hJ) 6; go_simp)) (steps_cons (gr_call (vals := [.int .u32 x.f6, .int .i64 4]) 3 3 0 rfl rfl rfl rfl (fun _ => rfl) (fun _ _ => rfl) (fun _ => rfl) rfl (by kernel_rfl) Tryd.func63 (by kernel_rfl) rfl rfl rfl (fv := fun vs => .slice none 0 0) (rd_on (p := 46) 0 0 (fun _ => rfl) (fun _ => rfl) (by kernel_rfl) rfl) (fun _ h => h.symm) (ar_t (rd_on (p := 48) 2 2 (fun _ => rfl) (fun _ => rfl) (by kernel_rfl) rfl) (ar_c (.int .i64 4) (ar_n))) (fun u w h => h.four _ (by have := HYL.out; (try simp only [List.length_append, twoL_length, fourL_length, List.length_cons, List.length_nil]); omega))) (steps_cons (gr_op (p := 1) (fun w => Below w2.heap.size w2 w) 4 4 rfl rfl rfl (fun _ => rfl) (fun _ => rfl) rfl (u := .pointer (some ⟨g, 0, none⟩)) (rd_off (p := 1) (fun _ => rfl) rfl) (fun s x w h => RX.bl h) (fun a w hJ e => by go_simp)) (steps_cons (gr_op (p := 50) (fun w => Below w2.heap.size w2 w) 5 5 rfl rfl rfl (fun _ => rfl) (fun _ => rfl) rfl (u := .pointer (some ⟨g, 7, none⟩)) (rd_on (p := 50) 4 4 (fun _ => rfl) (fun _ => rfl) (by kernel_rfl) rfl) (fun s x w h => RX.bl h) (fun a w hJ e => by have hs : w.cell? ⟨g, 7, none⟩ = some (.int .u32 x.f7) := blk_cell (blk_below HB0.out hJ) 7; go_simp)) (steps_cons (gr_call (vals := [.int .u32 x.f7, .int .i64 4]) 6 6 1 rfl rfl rfl rfl (fun _ => rfl) (fun _ _ => rfl) (fun _ => rfl) rfl (by kernel_rfl) Tryd.func63 (by kernel_rfl) rfl rfl rfl (fv := fun vs => vs 1) (rd_on (p := 49) 3 3 (fun _ => rfl) (fun _ => rfl) (by kernel_rfl) rfl) (fun _ _ => rfl) (ar_t (rd_on (p := 51) 5 5 (fun _ => rfl) (fun _ => rfl) (by kernel_rfl) rfl) (ar_c (.int .i64 4) (ar_n))) (fun u w h => h.four _ (by have := HYL.out; (try simp only [List.length_append, twoL_length, fourL_length, List.length_cons, List.length_nil]); omega))) (steps_cons (gr_last 7 7 2 rfl rfl rfl rfl (fun _ => rfl) (fun _ _ => rfl) (fun _ => rfl) rfl (by kernel_rfl) (fv := fun vs => vs 2) (rd_on (p := 52) 6 6 (fun _ => rfl) (fun _ => rfl) (by kernel_rfl) rfl) (fun _ _ => rfl) (fun a w u e => by go_simp) (fun _ _ h => h)) steps_nil)))))))
  intro vs1 W1 hX9
  have HRR := Lh hX9
  clear hX9
  simp only [putSel, if_true, Act.put, List.setIfInBounds_toArray, List.set_cons_zero, List.set_cons_succ]
  obtain ⟨u1_, hu⟩ : ∃ u, vs1 3 = u := ⟨_, rfl⟩
  replace HRR := Lh (show RX w2 (ys ++ fourL [x.f6] ++ fourL [x.f7]) (vs1 3) W1 from HRR.out)
  rw [hu] at HRR ⊢
  clear hu
  have X := HRR.out
  rw [HYS.out] at X
  clear HRR HYS HX HYL
  clear ys
  go_upto_region 12 with (fail)
  obtain ⟨ys, hys⟩ : ∃ ys : List Int, ys = [] ++ fourL [x.f6] ++ fourL [x.f7] := ⟨_, rfl⟩
  have HX := Lh X
  rw [← hys] at HX
  have HYL := Lh (show ys.length ≤ 100000 by have := HN10.out; have := HN11.out; have := HN12.out; rw [hys]; simp only [List.length_append, twoL_length, fourL_length, gapL_length, List.length_cons, List.length_nil]; omega)
  have HYS := Lh hys
  clear X hys
  refine grow_region (B := rvDxB12) [0, 1, 2, 3, 4, 5, 6, 7, 8, 9] [4, 8, 9] (fun s v W => RX w2 (match s with | 0 => ys | 1 => ys ++ twoL [x.f8] | 2 => ys ++ twoL [x.f8] ++ twoL [x.f9] | _ => ys ++ twoL [x.f8] ++ twoL [x.f9]) v W) (u1_) (fun vs => [(0, 53, u1_), (1, 54, .pointer (some ⟨g, 8, none⟩)), (2, 55, .int .u16 x.f8), (3, 56, .int .u32 (IntKind.u32.wrap x.f8)), (4, 57, vs 1), (5, 58, .pointer (some ⟨g, 9, none⟩)), (6, 59, .int .u16 x.f9), (7, 60, .int .u32 (IntKind.u32.wrap x.f9)), (8, 61, vs 2), (9, 3, vs 3)]) (by kernel_rfl) rfl (l := #[false, false, false, false, false, false, false, false, false, false]) rfl rvDxtab12 rvDxbits12 (by kernel_rfl) (by kernel_rfl) (fun _ => rfl) rfl ?_ ?_ ?_
  ·exact HX.out.drewN 1
  ·exact steps_cons (gr_op (p := 3) (fun w => Below w2.heap.size w2 w) 0 0 rfl rfl rfl (fun _ => rfl) (fun _ => rfl) rfl (u := u1_) (rd_not (p := 3) 9 (by kernel_rfl) (fun _ => rfl) rfl) (fun s x w h => RX.bl h) (fun a w hJ e => by go_simp)) (steps_cons (gr_op (p := 1) (fun w => Below w2.heap.size w2 w) 1 1 rfl rfl rfl (fun _ => rfl) (fun _ => rfl) rfl (u := .pointer (some ⟨g, 0, none⟩)) (rd_off (p := 1) (fun _ => rfl) rfl) (fun s x w h => RX.bl h) (fun a w hJ e => by go_simp)) (steps_cons (gr_op (p := 54) (fun w => Below w2.heap.size w2 w) 2 2 rfl rfl rfl (fun _ => rfl) (fun _ => rfl) rfl (u := .pointer (some ⟨g, 8, none⟩)) (rd_on (p := 54) 1 1 (fun _ => rfl) (fun _ => rfl) (by kernel_rfl) rfl) (fun s x w h => RX.bl h) (fun a w hJ e => by have hs : w.cell? ⟨g, 8, none⟩ = some (.int .u16 x.f8) := blk_cell (blk_below HB0.out hJ) 8; go_simp)) (steps_cons (gr_op (p := 55) (fun w => Below w2.heap.size w2 w) 3 3 rfl rfl rfl (fun _ => rfl) (fun _ => rfl) rfl (u := .int .u16 x.f8) (rd_on (p := 55) 2 2 (fun _ => rfl) (fun _ => rfl) (by kernel_rfl) rfl) (fun s x w h => RX.bl h) (fun a w hJ e => by go_simp)) (steps_cons (gr_call (vals := [.int .u32 (IntKind.u32.wrap x.f8), .int .i64 2]) 4 4 0 rfl rfl rfl rfl (fun _ => rfl) (fun _ _ => rfl) (fun _ => rfl) rfl (by kernel_rfl) Tryd.func63 (by kernel_rfl) rfl rfl rfl (fv := fun vs => u1_) (rd_on (p := 53) 0 0 (fun _ => rfl) (fun _ => rfl) (by kernel_rfl) rfl) (fun _ h => h.symm) (ar_t (rd_on (p := 56) 3 3 (fun _ => rfl) (fun _ => rfl) (by kernel_rfl) rfl) (ar_c (.int .i64 2) (ar_n))) (fun u w h => h.two _ _ (two32 _) (by have := HYL.out; (try simp only [List.length_append, twoL_length, fourL_length, List.length_cons, List.length_nil]); omega))) (steps_cons (gr_op (p := 1) (fun w => Below w2.heap.size w2 w) 5 5 rfl rfl rfl (fun _ => rfl) (fun _ => rfl) rfl (u := .pointer (some ⟨g, 0, none⟩)) (rd_off (p := 1) (fun _ => rfl) rfl) (fun s x w h => RX.bl h) (fun a w hJ e => by go_simp)) (steps_cons (gr_op (p := 58) (fun w => Below w2.heap.size w2 w) 6 6 rfl rfl rfl (fun _ => rfl) (fun _ => rfl) rfl (u := .pointer (some ⟨g, 9, none⟩)) (rd_on (p := 58) 5 5 (fun _ => rfl) (fun _ => rfl) (by kernel_rfl) rfl) (fun s x w h => RX.bl h) (fun a w hJ e => by have hs : w.cell? ⟨g, 9, none⟩ = some (.int .u16 x.f9) := blk_cell (blk_below HB0.out hJ) 9; go_simp)) (steps_cons (gr_op (p := 59) (fun w => Below w2.heap.size w2 w) 7 7 rfl rfl rfl (fun _ => rfl) (fun _ => rfl) rfl (u := .int .u16 x.f9) (rd_on (p := 59) 6 6 (fun _ => rfl) (fun _ => rfl) (by kernel_rfl) rfl) (fun s x w h => RX.bl h) (fun a w hJ e => by go_simp)) (steps_cons (gr_call (vals := [.int .u32 (IntKind.u32.wrap x.f9), .int .i64 2]) 8 8 1 rfl rfl rfl rfl (fun _ => rfl) (fun _ _ => rfl) (fun _ => rfl) rfl (by kernel_rfl) Tryd.func63 (by kernel_rfl) rfl rfl rfl (fv := fun vs => vs 1) (rd_on (p := 57) 4 4 (fun _ => rfl) (fun _ => rfl) (by kernel_rfl) rfl) (fun _ _ => rfl) (ar_t (rd_on (p := 60) 7 7 (fun _ => rfl) (fun _ => rfl) (by kernel_rfl) rfl) (ar_c (.int .i64 2) (ar_n))) (fun u w h => h.two _ _ (two32 _) (by have := HYL.out; (try simp only [List.length_append, twoL_length, fourL_length, List.length_cons, List.length_nil]); omega))) (steps_cons (gr_last 9 9 2 rfl rfl rfl rfl (fun _ => rfl) (fun _ _ => rfl) (fun _ => rfl) rfl (by kernel_rfl) (fv := fun vs => vs 2) (rd_on (p := 61) 8 8 (fun _ => rfl) (fun _ => rfl) (by kernel_rfl) rfl) (fun _ _ => rfl) (fun a w u e => by go_simp) (fun _ _ h => h)) steps_nil)))))))))
  intro vs2 W2 hX9
  have HRR := Lh hX9
  clear hX9
  simp only [putSel, if_true, Act.put, List.setIfInBounds_toArray, List.set_cons_zero, List.set_cons_succ]
  obtain ⟨u2_, hu⟩ : ∃ u, vs2 3 = u := ⟨_, rfl⟩
  replace HRR := Lh (show RX w2 (ys ++ twoL [x.f8] ++ twoL [x.f9]) (vs2 3) W2 from HRR.out)
  rw [hu] at HRR ⊢
  clear hu
  have X := HRR.out
  rw [HYS.out] at X
  clear HRR HYS HX HYL
  clear ys
  go_upto_region 13 with (fail)
  obtain ⟨ys, hys⟩ : ∃ ys : List Int, ys = [] ++ fourL [x.f6] ++ fourL [x.f7] ++ twoL [x.f8] ++ twoL [x.f9] := ⟨_, rfl⟩
  have HX := Lh X
  rw [← hys] at HX
  have HYL := Lh (show ys.length ≤ 100000 by have := HN10.out; have := HN11.out; have := HN12.out; rw [hys]; simp only [List.length_append, twoL_length, fourL_length, gapL_length, List.length_cons, List.length_nil]; omega)
  have HYS := Lh hys
  clear X hys
  have k2 : W2.cell? ⟨g, 2, none⟩ = some (.int .u32 x.f2) := blk_cell (blk_below HB0.out HX.out.bl) 2
  go_wp2_with fail
  refine (HX.out.four _ (by have := HYL.out; (try simp only [List.length_append, twoL_length, fourL_length, List.length_cons, List.length_nil]); omega)).mono ?_
  rintro e W3 ⟨v3_, rfl, hX9⟩
  have HRR := Lh hX9
  clear hX9 k2
  have X := HRR.out
  rw [HYS.out] at X
  clear HRR HYS HX HYL
  clear ys
  obtain ⟨ys, hys⟩ : ∃ ys : List Int, ys = [] ++ fourL [x.f6] ++ fourL [x.f7] ++ twoL [x.f8] ++ twoL [x.f9] ++ fourL [x.f2] := ⟨_, rfl⟩
  have HX := Lh X
  rw [← hys] at HX
  have HYL := Lh (show ys.length ≤ 100000 by have := HN10.out; have := HN11.out; have := HN12.out; rw [hys]; simp only [List.length_append, twoL_length, fourL_length, gapL_length, List.length_cons, List.length_nil]; omega)
  have HYS := Lh hys
  clear X hys
  obtain ⟨Au, cu, hu⟩ := Kd.R_slice HX.out.r
  have HV := Lh HX.out
  rw [hu] at HV
  subst hu
  have HRC := Lh HX.out.r
  have HBC := Lh HX.out.bl
  go_wp2_with (at_builtin; go_must (refine Kd.R_append_row (Value.int .u8) (0 : Int) (w0 := w2) (W := W3) w2.heap.size rfl _ _ 27 5 _ 1 rfl Tryd.underlying27 info_u8 rfl (by decide) (.slice Au ys.length cu) ys (encP x.f14).1 A0 _ c0 (fun _ => True) rfl rfl (fun _ _ => trivial) HRC.out (Kd.C_below HP0.out HBC.out) HBC.out HBC.out.size (by have := HYL.out; have := HNP.out; omega) ?_); (intro v1 w1 hR1 hB1 hG1 _; have HR1 := Lh hR1; have HB1 := Lh hB1; clear hR1 hB1 hG1; refine RowKit.Hid.out ?_))
  refine Lh ?_
  go_wp2
  go_ret
  rw [HYS.out] at HR1
  subst hg
  exact HFIN.out _ _ _ HB1.out HR1.out (by rw [HVD.out])
 have n2 := h
 clear h
 by_cases h : x.f0 = 3
 ·have q0 : (x.f0 == 0) = false := by simp; omega
  have q1 : (x.f0 == 1) = false := by simp; omega
  have q2 : (x.f0 == 2) = false := by simp; omega
  have q3 : (x.f0 == 3) = true := by simp [h]
  have HVD := Lh (show valueD x = [] ++ fourL [x.f2] ++ fourL [x.f7] ++ twoL [IntKind.u16.wrap (x.f10.length : Int)] ++ twoL [IntKind.u16.wrap (x.f12.length : Int)] ++ twoL (gapL x.f10) ++ fourL x.f12 from by unfold valueD; rw [if_neg (by omega), if_neg (by omega), if_pos h]; simp only [List.nil_append, List.append_assoc, two2, four2])
  go_upto_region 15 with (fail)
  obtain ⟨ys, hys⟩ : ∃ ys : List Int, ys = [] := ⟨_, rfl⟩
  have HX := Lh X
  rw [← hys] at HX
  have HYL := Lh (show ys.length ≤ 100000 by have := HN10.out; have := HN11.out; have := HN12.out; rw [hys]; simp only [List.length_append, twoL_length, fourL_length, gapL_length, List.length_cons, List.length_nil]; omega)
  have HYS := Lh hys
  clear X hys
  refine grow_region (B := rvEB15) [0, 1, 2, 3, 4, 5, 6, 7] [3, 6, 7] (fun s v W => RX w2 (match s with | 0 => ys | 1 => ys ++ fourL [x.f2] | 2 => ys ++ fourL [x.f2] ++ fourL [x.f7] | _ => ys ++ fourL [x.f2] ++ fourL [x.f7]) v W) (.slice none 0 0) (fun vs => [(0, 70, .slice none 0 0), (1, 71, .pointer (some ⟨g, 2, none⟩)), (2, 72, .int .u32 x.f2), (3, 73, vs 1), (4, 74, .pointer (some ⟨g, 7, none⟩)), (5, 75, .int .u32 x.f7), (6, 76, vs 2), (7, 3, vs 3)]) (by kernel_rfl) rfl (l := #[false, false, false, false, false, false, false, false]) rfl rvEtab15 rvEbits15 (by kernel_rfl) (by kernel_rfl) (fun _ => rfl) rfl ?_ ?_ ?_
  ·exact HX.out.drewN 1
  ·exact steps_cons (gr_op (p := 3) (fun w => Below w2.heap.size w2 w) 0 0 rfl rfl rfl (fun _ => rfl) (fun _ => rfl) rfl (u := .slice none 0 0) (rd_not (p := 3) 7 (by kernel_rfl) (fun _ => rfl) rfl) (fun s x w h => RX.bl h) (fun a w hJ e => by go_simp)) (steps_cons (gr_op (p := 1) (fun w => Below w2.heap.size w2 w) 1 1 rfl rfl rfl (fun _ => rfl) (fun _ => rfl) rfl (u := .pointer (some ⟨g, 0, none⟩)) (rd_off (p := 1) (fun _ => rfl) rfl) (fun s x w h => RX.bl h) (fun a w hJ e => by go_simp)) (steps_cons (gr_op (p := 71) (fun w => Below w2.heap.size w2 w) 2 2 rfl rfl rfl (fun _ => rfl) (fun _ => rfl) rfl (u := .pointer (some ⟨g, 2, none⟩)) (rd_on (p := 71) 1 1 (fun _ => rfl) (fun _ => rfl) (by kernel_rfl) rfl) (fun s x w h => RX.bl h) (fun a w hJ e => by have hs : w.cell? ⟨g, 2, none⟩ = some (.int .u32 x.f2) := blk_cell (blk_below HB0.out hJ) 2; go_simp)) (steps_cons (gr_call (vals := [.int .u32 x.f2, .int .i64 4]) 3 3 0 rfl rfl rfl rfl (fun _ => rfl) (fun _ _ => rfl) (fun _ => rfl) rfl (by kernel_rfl) Tryd.func63 (by kernel_rfl) rfl rfl rfl (fv := fun vs => .slice none 0 0) (rd_on (p := 70) 0 0 (fun _ => rfl) (fun _ => rfl) (by kernel_rfl) rfl) (fun _ h => h.symm) (ar_t (rd_on (p := 72) 2 2 (fun _ => rfl) (fun _ => rfl) (by kernel_rfl) rfl) (ar_c (.int .i64 4) (ar_n))) (fun u w h => h.four _ (by have := HYL.out; (try simp only [List.length_append, twoL_length, fourL_length, List.length_cons, List.length_nil]); omega))) (steps_cons (gr_op (p := 1) (fun w => Below w2.heap.size w2 w) 4 4 rfl rfl rfl (fun _ => rfl) (fun _ => rfl) rfl (u := .pointer (some ⟨g, 0, none⟩)) (rd_off (p := 1) (fun _ => rfl) rfl) (fun s x w h => RX.bl h) (fun a w hJ e => by go_simp)) (steps_cons (gr_op (p := 74) (fun w => Below w2.heap.size w2 w) 5 5 rfl rfl rfl (fun _ => rfl) (fun _ => rfl) rfl (u := .pointer (some ⟨g, 7, none⟩)) (rd_on (p := 74) 4 4 (fun _ => rfl) (fun _ => rfl) (by kernel_rfl) rfl) (fun s x w h => RX.bl h) (fun a w hJ e => by have hs : w.cell? ⟨g, 7, none⟩ = some (.int .u32 x.f7) := blk_cell (blk_below HB0.out hJ) 7; go_simp)) (steps_cons (gr_call (vals := [.int .u32 x.f7, .int .i64 4]) 6 6 1 rfl rfl rfl rfl (fun _ => rfl) (fun _ _ => rfl) (fun _ => rfl) rfl (by kernel_rfl) Tryd.func63 (by kernel_rfl) rfl rfl rfl (fv := fun vs => vs 1) (rd_on (p := 73) 3 3 (fun _ => rfl) (fun _ => rfl) (by kernel_rfl) rfl) (fun _ _ => rfl) (ar_t (rd_on (p := 75) 5 5 (fun _ => rfl) (fun _ => rfl) (by kernel_rfl) rfl) (ar_c (.int .i64 4) (ar_n))) (fun u w h => h.four _ (by have := HYL.out; (try simp only [List.length_append, twoL_length, fourL_length, List.length_cons, List.length_nil]); omega))) (steps_cons (gr_last 7 7 2 rfl rfl rfl rfl (fun _ => rfl) (fun _ _ => rfl) (fun _ => rfl) rfl (by kernel_rfl) (fv := fun vs => vs 2) (rd_on (p := 76) 6 6 (fun _ => rfl) (fun _ => rfl) (by kernel_rfl) rfl) (fun _ _ => rfl) (fun a w u e => by go_simp) (fun _ _ h => h)) steps_nil)))))))
  intro vs1 W1 hX9
  have HRR := Lh hX9
  clear hX9
  simp only [putSel, if_true, Act.put, List.setIfInBounds_toArray, List.set_cons_zero, List.set_cons_succ]
  obtain ⟨u1_, hu⟩ : ∃ u, vs1 3 = u := ⟨_, rfl⟩
  replace HRR := Lh (show RX w2 (ys ++ fourL [x.f2] ++ fourL [x.f7]) (vs1 3) W1 from HRR.out)
  rw [hu] at HRR ⊢
  clear hu
  have X := HRR.out
  rw [HYS.out] at X
  clear HRR HYS HX HYL
  clear ys
  go_upto_region 16 with (fail)
  obtain ⟨ys, hys⟩ : ∃ ys : List Int, ys = [] ++ fourL [x.f2] ++ fourL [x.f7] := ⟨_, rfl⟩
  have HX := Lh X
  rw [← hys] at HX
  have HYL := Lh (show ys.length ≤ 100000 by have := HN10.out; have := HN11.out; have := HN12.out; rw [hys]; simp only [List.length_append, twoL_length, fourL_length, gapL_length, List.length_cons, List.length_nil]; omega)
  have HYS := Lh hys
  clear X hys
  refine grow_region (B := rvFB16) [0, 1, 2, 3, 4, 5, 6, 7, 8, 9, 10, 11] [5, 10, 11] (fun s v W => RX w2 (match s with | 0 => ys | 1 => ys ++ twoL [IntKind.u16.wrap (x.f10.length : Int)] | 2 => ys ++ twoL [IntKind.u16.wrap (x.f10.length : Int)] ++ twoL [IntKind.u16.wrap (x.f12.length : Int)] | _ => ys ++ twoL [IntKind.u16.wrap (x.f10.length : Int)] ++ twoL [IntKind.u16.wrap (x.f12.length : Int)]) v W) (u1_) (fun vs => [(0, 77, u1_), (1, 78, .pointer (some ⟨g, 10, none⟩)), (2, 79, .slice L.A10 x.f10.length L.c10), (3, 80, .int .i64 (x.f10.length : Int)), (4, 81, .int .u32 (IntKind.u32.wrap (x.f10.length : Int))), (5, 82, vs 1), (6, 83, .pointer (some ⟨g, 12, none⟩)), (7, 84, .slice L.A12 x.f12.length L.c12), (8, 85, .int .i64 (x.f12.length : Int)), (9, 86, .int .u32 (IntKind.u32.wrap (x.f12.length : Int))), (10, 87, vs 2), (11, 3, vs 3)]) (by kernel_rfl) rfl (l := #[false, false, false, false, false, false, false, false, false, false, false, false]) rfl rvFtab16 rvFbits16 (by kernel_rfl) (by kernel_rfl) (fun _ => rfl) rfl ?_ ?_ ?_
  ·exact HX.out.drewN 1
  ·exact steps_cons (gr_op (p := 3) (fun w => Below w2.heap.size w2 w) 0 0 rfl rfl rfl (fun _ => rfl) (fun _ => rfl) rfl (u := u1_) (rd_not (p := 3) 11 (by kernel_rfl) (fun _ => rfl) rfl) (fun s x w h => RX.bl h) (fun a w hJ e => by go_simp)) (steps_cons (gr_op (p := 1) (fun w => Below w2.heap.size w2 w) 1 1 rfl rfl rfl (fun _ => rfl) (fun _ => rfl) rfl (u := .pointer (some ⟨g, 0, none⟩)) (rd_off (p := 1) (fun _ => rfl) rfl) (fun s x w h => RX.bl h) (fun a w hJ e => by go_simp)) (steps_cons (gr_op (p := 78) (fun w => Below w2.heap.size w2 w) 2 2 rfl rfl rfl (fun _ => rfl) (fun _ => rfl) rfl (u := .pointer (some ⟨g, 10, none⟩)) (rd_on (p := 78) 1 1 (fun _ => rfl) (fun _ => rfl) (by kernel_rfl) rfl) (fun s x w h => RX.bl h) (fun a w hJ e => by have hs : w.cell? ⟨g, 10, none⟩ = some (.slice L.A10 x.f10.length L.c10) := blk_cell (blk_below HB0.out hJ) 10; go_simp)) (steps_cons (gr_op (p := 79) (fun w => Below w2.heap.size w2 w) 3 3 rfl rfl rfl (fun _ => rfl) (fun _ => rfl) rfl (u := .slice L.A10 x.f10.length L.c10) (rd_on (p := 79) 2 2 (fun _ => rfl) (fun _ => rfl) (by kernel_rfl) rfl) (fun s x w h => RX.bl h) (fun a w hJ e => by go_simp)) (steps_cons (gr_op (p := 80) (fun w => Below w2.heap.size w2 w) 4 4 rfl rfl rfl (fun _ => rfl) (fun _ => rfl) rfl (u := .int .i64 (x.f10.length : Int)) (rd_on (p := 80) 3 3 (fun _ => rfl) (fun _ => rfl) (by kernel_rfl) rfl) (fun s x w h => RX.bl h) (fun a w hJ e => by go_simp)) (steps_cons (gr_call (vals := [.int .u32 (IntKind.u32.wrap (x.f10.length : Int)), .int .i64 2]) 5 5 0 rfl rfl rfl rfl (fun _ => rfl) (fun _ _ => rfl) (fun _ => rfl) rfl (by kernel_rfl) Tryd.func63 (by kernel_rfl) rfl rfl rfl (fv := fun vs => u1_) (rd_on (p := 77) 0 0 (fun _ => rfl) (fun _ => rfl) (by kernel_rfl) rfl) (fun _ h => h.symm) (ar_t (rd_on (p := 81) 4 4 (fun _ => rfl) (fun _ => rfl) (by kernel_rfl) rfl) (ar_c (.int .i64 2) (ar_n))) (fun u w h => h.two _ _ ((two32 _).trans (two16 _).symm) (by have := HYL.out; (try simp only [List.length_append, twoL_length, fourL_length, List.length_cons, List.length_nil]); omega))) (steps_cons (gr_op (p := 1) (fun w => Below w2.heap.size w2 w) 6 6 rfl rfl rfl (fun _ => rfl) (fun _ => rfl) rfl (u := .pointer (some ⟨g, 0, none⟩)) (rd_off (p := 1) (fun _ => rfl) rfl) (fun s x w h => RX.bl h) (fun a w hJ e => by go_simp)) (steps_cons (gr_op (p := 83) (fun w => Below w2.heap.size w2 w) 7 7 rfl rfl rfl (fun _ => rfl) (fun _ => rfl) rfl (u := .pointer (some ⟨g, 12, none⟩)) (rd_on (p := 83) 6 6 (fun _ => rfl) (fun _ => rfl) (by kernel_rfl) rfl) (fun s x w h => RX.bl h) (fun a w hJ e => by have hs : w.cell? ⟨g, 12, none⟩ = some (.slice L.A12 x.f12.length L.c12) := blk_cell (blk_below HB0.out hJ) 12; go_simp)) (steps_cons (gr_op (p := 84) (fun w => Below w2.heap.size w2 w) 8 8 rfl rfl rfl (fun _ => rfl) (fun _ => rfl) rfl (u := .slice L.A12 x.f12.length L.c12) (rd_on (p := 84) 7 7 (fun _ => rfl) (fun _ => rfl) (by kernel_rfl) rfl) (fun s x w h => RX.bl h) (fun a w hJ e => by go_simp)) (steps_cons (gr_op (p := 85) (fun w => Below w2.heap.size w2 w) 9 9 rfl rfl rfl (fun _ => rfl) (fun _ => rfl) rfl (u := .int .i64 (x.f12.length : Int)) (rd_on (p := 85) 8 8 (fun _ => rfl) (fun _ => rfl) (by kernel_rfl) rfl) (fun s x w h => RX.bl h) (fun a w hJ e => by go_simp)) (steps_cons (gr_call (vals := [.int .u32 (IntKind.u32.wrap (x.f12.length : Int)), .int .i64 2]) 10 10 1 rfl rfl rfl rfl (fun _ => rfl) (fun _ _ => rfl) (fun _ => rfl) rfl (by kernel_rfl) Tryd.func63 (by kernel_rfl) rfl rfl rfl (fv := fun vs => vs 1) (rd_on (p := 82) 5 5 (fun _ => rfl) (fun _ => rfl) (by kernel_rfl) rfl) (fun _ _ => rfl) (ar_t (rd_on (p := 86) 9 9 (fun _ => rfl) (fun _ => rfl) (by kernel_rfl) rfl) (ar_c (.int .i64 2) (ar_n))) (fun u w h => h.two _ _ ((two32 _).trans (two16 _).symm) (by have := HYL.out; (try simp only [List.length_append, twoL_length, fourL_length, List.length_cons, List.length_nil]); omega))) (steps_cons (gr_last 11 11 2 rfl rfl rfl rfl (fun _ => rfl) (fun _ _ => rfl) (fun _ => rfl) rfl (by kernel_rfl) (fv := fun vs => vs 2) (rd_on (p := 87) 10 10 (fun _ => rfl) (fun _ => rfl) (by kernel_rfl) rfl) (fun _ _ => rfl) (fun a w u e => by go_simp) (fun _ _ h => h)) steps_nil)))))))))))
  intro vs2 W2 hX9
  have HRR := Lh hX9
  clear hX9
  simp only [putSel, if_true, Act.put, List.setIfInBounds_toArray, List.set_cons_zero, List.set_cons_succ]
  obtain ⟨u2_, hu⟩ : ∃ u, vs2 3 = u := ⟨_, rfl⟩
  replace HRR := Lh (show RX w2 (ys ++ twoL [IntKind.u16.wrap (x.f10.length : Int)] ++ twoL [IntKind.u16.wrap (x.f12.length : Int)]) (vs2 3) W2 from HRR.out)
  rw [hu] at HRR ⊢
  clear hu
  have X := HRR.out
  rw [HYS.out] at X
  clear HRR HYS HX HYL
  clear ys
  go_upto_region 17 with (fail)
  obtain ⟨ys, hys⟩ : ∃ ys : List Int, ys = [] ++ fourL [x.f2] ++ fourL [x.f7] ++ twoL [IntKind.u16.wrap (x.f10.length : Int)] ++ twoL [IntKind.u16.wrap (x.f12.length : Int)] := ⟨_, rfl⟩
  have HX := Lh X
  rw [← hys] at HX
  have HYL := Lh (show ys.length ≤ 100000 by have := HN10.out; have := HN11.out; have := HN12.out; rw [hys]; simp only [List.length_append, twoL_length, fourL_length, gapL_length, List.length_cons, List.length_nil]; omega)
  have HYS := Lh hys
  clear X hys
  have k10 : W2.cell? ⟨g, 10, none⟩ = some (.slice L.A10 x.f10.length L.c10) := blk_cell (blk_below HB0.out HX.out.bl) 10
  go_wp2_with fail
  refine (rwgaps_calls w2 W2 _ _ _ _ _ HX.out HG10.out (by have := HYL.out; have := HN10.out; have := HN10.out; (try simp only [List.length_append, twoL_length, fourL_length, gapL_length, List.length_cons, List.length_nil]); omega)).mono ?_
  rintro e W3 ⟨v3_, rfl, hX9⟩
  have HRR := Lh hX9
  clear hX9 k10
  have X := HRR.out
  rw [HYS.out] at X
  clear HRR HYS HX HYL
  clear ys
  go_upto_region 25 with (fail)
  obtain ⟨ys, hys⟩ : ∃ ys : List Int, ys = [] ++ fourL [x.f2] ++ fourL [x.f7] ++ twoL [IntKind.u16.wrap (x.f10.length : Int)] ++ twoL [IntKind.u16.wrap (x.f12.length : Int)] ++ twoL (gapL x.f10) := ⟨_, rfl⟩
  have HX := Lh X
  rw [← hys] at HX
  have HYL := Lh (show ys.length ≤ 100000 by have := HN10.out; have := HN11.out; have := HN12.out; rw [hys]; simp only [List.length_append, twoL_length, fourL_length, gapL_length, List.length_cons, List.length_nil]; omega)
  have HYS := Lh hys
  clear X hys
  have HYL2 := Lh (show ys.length ≤ 100000 from HYL.out)
  have HX2 := HX
  have HYS2 := HYS
  clear HX HYS HYL
  go_wp2
  go_loopw [3, 6] (fun v3 v6 wr => ∃ (i : Nat) (zs : List Int), i ≤ x.f12.length ∧ v6 = .int .i64 (i : Int) ∧ Hid (zs.length = ys.length + 4 * i) ∧ Hid (zs ++ fourL (x.f12.drop i) = ys ++ fourL x.f12) ∧ Hid (RX w2 zs v3 wr)) (fun _ v6 _ => x.f12.length - (intOf v6).toNat)
  case atStart => exact ⟨0, ys, Nat.zero_le _, rfl, (by show _ = _; omega), rfl, HX2.out⟩
  case round =>
   clear HX2
   obtain ⟨i, zs, hi, rfl, HZL, HZE, HZ⟩ := hrel
   have k12 : wr.cell? ⟨g, 12, none⟩ = some (.slice L.A12 x.f12.length L.c12) := blk_cell (blk_below HB0.out HZ.out.bl) 12
   have hm12 := HN12.out
   by_cases hlt : i < x.f12.length
   ·obtain ⟨ad, hA12, x0⟩ := int_at (Kd.C_below HD12.out HZ.out.bl) i hlt
    rw [hA12] at k12
    have hE := HZE.out
    have hd : x.f12.drop i = x.f12.getD i 0 :: x.f12.drop (i + 1) := by
     rw [List.drop_eq_getElem_cons hlt]
     congr 1
     simp [List.getD_eq_getElem?_getD, hlt]
    rw [hd, fourL_cons, ← List.append_assoc] at hE
    generalize x.f12.getD i 0 = q at *
    have HE2 := Lh hE
    have HP := Lh (HZ.out.four q (by have := HZL.out; have := HYL2.out; omega))
    have HL2 := Lh (show (zs ++ fourL [q]).length = ys.length + 4 * (i + 1) by rw [List.length_append, fourL_length]; have := HZL.out; simp; omega)
    clear hE hd HZE hA12 HZL HZ
    go_wp2_with fail
    refine HP.out.mono ?_
    rintro e wn ⟨vn, rfl, hX9⟩
    have HX9 := Lh hX9
    clear hX9 HP k12 x0
    go_wp2
    go_roundw
    case rel => exact ⟨i + 1, _, by omega, by go_num, HL2, HE2, HX9⟩
    case measure => simp [intOf]; omega
   ·obtain rfl : i = x.f12.length := by omega
    have hE := HZE.out
    rw [List.drop_length, show fourL [] = [] from rfl, List.append_nil] at hE
    subst hE
    clear HZE
    go_wp2
    go_ret
    have hX := HZ.out
    rw [HYS2.out] at hX
    subst hg
    exact HFIN.out _ _ _ hX.bl hX.r (by rw [HVD.out])
 have n3 := h
 clear h
 by_cases h : x.f0 = 16
 ·have q0 : (x.f0 == 0) = false := by simp; omega
  have q1 : (x.f0 == 1) = false := by simp; omega
  have q2 : (x.f0 == 2) = false := by simp; omega
  have q3 : (x.f0 == 3) = false := by simp; omega
  have q16 : (x.f0 == 16) = true := by simp [h]
  have HVD := Lh (show valueD x = [] ++ fourL [x.f2] ++ fourL [x.f7] ++ twoL [IntKind.u16.wrap (x.f10.length : Int)] ++ twoL [IntKind.u16.wrap (x.f11.length : Int)] ++ twoL [IntKind.u16.wrap (x.f12.length : Int)] ++ twoL [0] ++ twoL (gapL x.f10) ++ twoL (gapL x.f11) ++ fourL x.f12 from by unfold valueD; rw [if_neg (by omega), if_neg (by omega), if_neg (by omega), if_pos h]; simp only [List.nil_append, List.append_assoc, two4, four2])
  go_upto_region 19 with (fail)
  obtain ⟨ys, hys⟩ : ∃ ys : List Int, ys = [] := ⟨_, rfl⟩
  have HX := Lh X
  rw [← hys] at HX
  have HYL := Lh (show ys.length ≤ 100000 by have := HN10.out; have := HN11.out; have := HN12.out; rw [hys]; simp only [List.length_append, twoL_length, fourL_length, gapL_length, List.length_cons, List.length_nil]; omega)
  have HYS := Lh hys
  clear X hys
  refine grow_region (B := rvGB19) [0, 1, 2, 3, 4, 5, 6, 7] [3, 6, 7] (fun s v W => RX w2 (match s with | 0 => ys | 1 => ys ++ fourL [x.f2] | 2 => ys ++ fourL [x.f2] ++ fourL [x.f7] | _ => ys ++ fourL [x.f2] ++ fourL [x.f7]) v W) (.slice none 0 0) (fun vs => [(0, 94, .slice none 0 0), (1, 95, .pointer (some ⟨g, 2, none⟩)), (2, 96, .int .u32 x.f2), (3, 97, vs 1), (4, 98, .pointer (some ⟨g, 7, none⟩)), (5, 99, .int .u32 x.f7), (6, 100, vs 2), (7, 3, vs 3)]) (by kernel_rfl) rfl (l := #[false, false, false, false, false, false, false, false]) rfl rvGtab19 rvGbits19 (by kernel_rfl) (by kernel_rfl) (fun _ => rfl) rfl ?_ ?_ ?_
  ·exact HX.out.drewN 1
  ·exact steps_cons (gr_op (p := 3) (fun w => Below w2.heap.size w2 w) 0 0 rfl rfl rfl (fun _ => rfl) (fun _ => rfl) rfl (u := .slice none 0 0) (rd_not (p := 3) 7 (by kernel_rfl) (fun _ => rfl) rfl) (fun s x w h => RX.bl h) (fun a w hJ e => by go_simp)) (steps_cons (gr_op (p := 1) (fun w => Below w2.heap.size w2 w) 1 1 rfl rfl rfl (fun _ => rfl) (fun _ => rfl) rfl (u := .pointer (some ⟨g, 0, none⟩)) (rd_off (p := 1) (fun _ => rfl) rfl) (fun s x w h => RX.bl h) (fun a w hJ e => by go_simp)) (steps_cons (gr_op (p := 95) (fun w => Below w2.heap.size w2 w) 2 2 rfl rfl rfl (fun _ => rfl) (fun _ => rfl) rfl (u := .pointer (some ⟨g, 2, none⟩)) (rd_on (p := 95) 1 1 (fun _ => rfl) (fun _ => rfl) (by kernel_rfl) rfl) (fun s x w h => RX.bl h) (fun a w hJ e => by have hs : w.cell? ⟨g, 2, none⟩ = some (.int .u32 x.f2) := blk_cell (blk_below HB0.out hJ) 2; go_simp)) (steps_cons (gr_call (vals := [.int .u32 x.f2, .int .i64 4]) 3 3 0 rfl rfl rfl rfl (fun _ => rfl) (fun _ _ => rfl) (fun _ => rfl) rfl (by kernel_rfl) Tryd.func63 (by kernel_rfl) rfl rfl rfl (fv := fun vs => .slice none 0 0) (rd_on (p := 94) 0 0 (fun _ => rfl) (fun _ => rfl) (by kernel_rfl) rfl) (fun _ h => h.symm) (ar_t (rd_on (p := 96) 2 2 (fun _ => rfl) (fun _ => rfl) (by kernel_rfl) rfl) (ar_c (.int .i64 4) (ar_n))) (fun u w h => h.four _ (by have := HYL.out; (try simp only [List.length_append, twoL_length, fourL_length, List.length_cons, List.length_nil]); omega))) (steps_cons (gr_op (p := 1) (fun w => Below w2.heap.size w2 w) 4 4 rfl rfl rfl (fun _ => rfl) (fun _ => rfl) rfl (u := .pointer (some ⟨g, 0, none⟩)) (rd_off (p := 1) (fun _ => rfl) rfl) (fun s x w h => RX.bl h) (fun a w hJ e => by go_simp)) (steps_cons (gr_op (p := 98) (fun w => Below w2.heap.size w2 w) 5 5 rfl rfl rfl (fun _ => rfl) (fun _ => rfl) rfl (u := .pointer (some ⟨g, 7, none⟩)) (rd_on (p := 98) 4 4 (fun _ => rfl) (fun _ => rfl) (by kernel_rfl) rfl) (fun s x w h => RX.bl h) (fun a w hJ e => by have hs : w.cell? ⟨g, 7, none⟩ = some (.int .u32 x.f7) := blk_cell (blk_below HB0.out hJ) 7; go_simp)) (steps_cons (gr_call (vals := [.int .u32 x.f7, .int .i64 4]) 6 6 1 rfl rfl rfl rfl (fun _ => rfl) (fun _ _ => rfl) (fun _ => rfl) rfl (by kernel_rfl) Tryd.func63 (by kernel_rfl) rfl rfl rfl (fv := fun vs => vs 1) (rd_on (p := 97) 3 3 (fun _ => rfl) (fun _ => rfl) (by kernel_rfl) rfl) (fun _ _ => rfl) (ar_t (rd_on (p := 99) 5 5 (fun _ => rfl) (fun _ => rfl) (by kernel_rfl) rfl) (ar_c (.int .i64 4) (ar_n))) (fun u w h => h.four _ (by have := HYL.out; (try simp only [List.length_append, twoL_length, fourL_length, List.length_cons, List.length_nil]); omega))) (steps_cons (gr_last 7 7 2 rfl rfl rfl rfl (fun _ => rfl) (fun _ _ => rfl) (fun _ => rfl) rfl (by kernel_rfl) (fv := fun vs => vs 2) (rd_on (p := 100) 6 6 (fun _ => rfl) (fun _ => rfl) (by kernel_rfl) rfl) (fun _ _ => rfl) (fun a w u e => by go_simp) (fun _ _ h => h)) steps_nil)))))))
  intro vs1 W1 hX9
  have HRR := Lh hX9
  clear hX9
  simp only [putSel, if_true, Act.put, List.setIfInBounds_toArray, List.set_cons_zero, List.set_cons_succ]
  obtain ⟨u1_, hu⟩ : ∃ u, vs1 3 = u := ⟨_, rfl⟩
  replace HRR := Lh (show RX w2 (ys ++ fourL [x.f2] ++ fourL [x.f7]) (vs1 3) W1 from HRR.out)
  rw [hu] at HRR ⊢
  clear hu
  have X := HRR.out
  rw [HYS.out] at X
  clear HRR HYS HX HYL
  clear ys
  go_upto_region 20 with (fail)
  obtain ⟨ys, hys⟩ : ∃ ys : List Int, ys = [] ++ fourL [x.f2] ++ fourL [x.f7] := ⟨_, rfl⟩
  have HX := Lh X
  rw [← hys] at HX
  have HYL := Lh (show ys.length ≤ 100000 by have := HN10.out; have := HN11.out; have := HN12.out; rw [hys]; simp only [List.length_append, twoL_length, fourL_length, gapL_length, List.length_cons, List.length_nil]; omega)
  have HYS := Lh hys
  clear X hys
  refine grow_region (B := rvHB20) [0, 1, 2, 3, 4, 5, 6, 7, 8, 9, 10, 11] [5, 10, 11] (fun s v W => RX w2 (match s with | 0 => ys | 1 => ys ++ twoL [IntKind.u16.wrap (x.f10.length : Int)] | 2 => ys ++ twoL [IntKind.u16.wrap (x.f10.length : Int)] ++ twoL [IntKind.u16.wrap (x.f11.length : Int)] | _ => ys ++ twoL [IntKind.u16.wrap (x.f10.length : Int)] ++ twoL [IntKind.u16.wrap (x.f11.length : Int)]) v W) (u1_) (fun vs => [(0, 101, u1_), (1, 102, .pointer (some ⟨g, 10, none⟩)), (2, 103, .slice L.A10 x.f10.length L.c10), (3, 104, .int .i64 (x.f10.length : Int)), (4, 105, .int .u32 (IntKind.u32.wrap (x.f10.length : Int))), (5, 106, vs 1), (6, 107, .pointer (some ⟨g, 11, none⟩)), (7, 108, .slice L.A11 x.f11.length L.c11), (8, 109, .int .i64 (x.f11.length : Int)), (9, 110, .int .u32 (IntKind.u32.wrap (x.f11.length : Int))), (10, 111, vs 2), (11, 3, vs 3)]) (by kernel_rfl) rfl (l := #[false, false, false, false, false, false, false, false, false, false, false, false]) rfl rvHtab20 rvHbits20 (by kernel_rfl) (by kernel_rfl) (fun _ => rfl) rfl ?_ ?_ ?_
  ·exact HX.out.drewN 1
  ·exact steps_cons (gr_op (p := 3) (fun w => Below w2.heap.size w2 w) 0 0 rfl rfl rfl (fun _ => rfl) (fun _ => rfl) rfl (u := u1_) (rd_not (p := 3) 11 (by kernel_rfl) (fun _ => rfl) rfl) (fun s x w h => RX.bl h) (fun a w hJ e => by go_simp)) (steps_cons (gr_op (p := 1) (fun w => Below w2.heap.size w2 w) 1 1 rfl rfl rfl (fun _ => rfl) (fun _ => rfl) rfl (u := .pointer (some ⟨g, 0, none⟩)) (rd_off (p := 1) (fun _ => rfl) rfl) (fun s x w h => RX.bl h) (fun a w hJ e => by go_simp)) (steps_cons (gr_op (p := 102) (fun w => Below w2.heap.size w2 w) 2 2 rfl rfl rfl (fun _ => rfl) (fun _ => rfl) rfl (u := .pointer (some ⟨g, 10, none⟩)) (rd_on (p := 102) 1 1 (fun _ => rfl) (fun _ => rfl) (by kernel_rfl) rfl) (fun s x w h => RX.bl h) (fun a w hJ e => by have hs : w.cell? ⟨g, 10, none⟩ = some (.slice L.A10 x.f10.length L.c10) := blk_cell (blk_below HB0.out hJ) 10; go_simp)) (steps_cons (gr_op (p := 103) (fun w => Below w2.heap.size w2 w) 3 3 rfl rfl rfl (fun _ => rfl) (fun _ => rfl) rfl (u := .slice L.A10 x.f10.length L.c10) (rd_on (p := 103) 2 2 (fun _ => rfl) (fun _ => rfl) (by kernel_rfl) rfl) (fun s x w h => RX.bl h) (fun a w hJ e => by go_simp)) (steps_cons (gr_op (p := 104) (fun w => Below w2.heap.size w2 w) 4 4 rfl rfl rfl (fun _ => rfl) (fun _ => rfl) rfl (u := .int .i64 (x.f10.length : Int)) (rd_on (p := 104) 3 3 (fun _ => rfl) (fun _ => rfl) (by kernel_rfl) rfl) (fun s x w h => RX.bl h) (fun a w hJ e => by go_simp)) (steps_cons (gr_call (vals := [.int .u32 (IntKind.u32.wrap (x.f10.length : Int)), .int .i64 2]) 5 5 0 rfl rfl rfl rfl (fun _ => rfl) (fun _ _ => rfl) (fun _ => rfl) rfl (by kernel_rfl) Tryd.func63 (by kernel_rfl) rfl rfl rfl (fv := fun vs => u1_) (rd_on (p := 101) 0 0 (fun _ => rfl) (fun _ => rfl) (by kernel_rfl) rfl) (fun _ h => h.symm) (ar_t (rd_on (p := 105) 4 4 (fun _ => rfl) (fun _ => rfl) (by kernel_rfl) rfl) (ar_c (.int .i64 2) (ar_n))) (fun u w h => h.two _ _ ((two32 _).trans (two16 _).symm) (by have := HYL.out; (try simp only [List.length_append, twoL_length, fourL_length, List.length_cons, List.length_nil]); omega))) (steps_cons (gr_op (p := 1) (fun w => Below w2.heap.size w2 w) 6 6 rfl rfl rfl (fun _ => rfl) (fun _ => rfl) rfl (u := .pointer (some ⟨g, 0, none⟩)) (rd_off (p := 1) (fun _ => rfl) rfl) (fun s x w h => RX.bl h) (fun a w hJ e => by go_simp)) (steps_cons (gr_op (p := 107) (fun w => Below w2.heap.size w2 w) 7 7 rfl rfl rfl (fun _ => rfl) (fun _ => rfl) rfl (u := .pointer (some ⟨g, 11, none⟩)) (rd_on (p := 107) 6 6 (fun _ => rfl) (fun _ => rfl) (by kernel_rfl) rfl) (fun s x w h => RX.bl h) (fun a w hJ e => by have hs : w.cell? ⟨g, 11, none⟩ = some (.slice L.A11 x.f11.length L.c11) := blk_cell (blk_below HB0.out hJ) 11; go_simp)) (steps_cons (gr_op (p := 108) (fun w => Below w2.heap.size w2 w) 8 8 rfl rfl rfl (fun _ => rfl) (fun _ => rfl) rfl (u := .slice L.A11 x.f11.length L.c11) (rd_on (p := 108) 7 7 (fun _ => rfl) (fun _ => rfl) (by kernel_rfl) rfl) (fun s x w h => RX.bl h) (fun a w hJ e => by go_simp)) (steps_cons (gr_op (p := 109) (fun w => Below w2.heap.size w2 w) 9 9 rfl rfl rfl (fun _ => rfl) (fun _ => rfl) rfl (u := .int .i64 (x.f11.length : Int)) (rd_on (p := 109) 8 8 (fun _ => rfl) (fun _ => rfl) (by kernel_rfl) rfl) (fun s x w h => RX.bl h) (fun a w hJ e => by go_simp)) (steps_cons (gr_call (vals := [.int .u32 (IntKind.u32.wrap (x.f11.length : Int)), .int .i64 2]) 10 10 1 rfl rfl rfl rfl (fun _ => rfl) (fun _ _ => rfl) (fun _ => rfl) rfl (by kernel_rfl) Tryd.func63 (by kernel_rfl) rfl rfl rfl (fv := fun vs => vs 1) (rd_on (p := 106) 5 5 (fun _ => rfl) (fun _ => rfl) (by kernel_rfl) rfl) (fun _ _ => rfl) (ar_t (rd_on (p := 110) 9 9 (fun _ => rfl) (fun _ => rfl) (by kernel_rfl) rfl) (ar_c (.int .i64 2) (ar_n))) (fun u w h => h.two _ _ ((two32 _).trans (two16 _).symm) (by have := HYL.out; (try simp only [List.length_append, twoL_length, fourL_length, List.length_cons, List.length_nil]); omega))) (steps_cons (gr_last 11 11 2 rfl rfl rfl rfl (fun _ => rfl) (fun _ _ => rfl) (fun _ => rfl) rfl (by kernel_rfl) (fv := fun vs => vs 2) (rd_on (p := 111) 10 10 (fun _ => rfl) (fun _ => rfl) (by kernel_rfl) rfl) (fun _ _ => rfl) (fun a w u e => by go_simp) (fun _ _ h => h)) steps_nil)))))))))))
  intro vs2 W2 hX9
  have HRR := Lh hX9
  clear hX9
  simp only [putSel, if_true, Act.put, List.setIfInBounds_toArray, List.set_cons_zero, List.set_cons_succ]
  obtain ⟨u2_, hu⟩ : ∃ u, vs2 3 = u := ⟨_, rfl⟩
  replace HRR := Lh (show RX w2 (ys ++ twoL [IntKind.u16.wrap (x.f10.length : Int)] ++ twoL [IntKind.u16.wrap (x.f11.length : Int)]) (vs2 3) W2 from HRR.out)
  rw [hu] at HRR ⊢
  clear hu
  have X := HRR.out
  rw [HYS.out] at X
  clear HRR HYS HX HYL
  clear ys
  go_upto_region 21 with (fail)
  obtain ⟨ys, hys⟩ : ∃ ys : List Int, ys = [] ++ fourL [x.f2] ++ fourL [x.f7] ++ twoL [IntKind.u16.wrap (x.f10.length : Int)] ++ twoL [IntKind.u16.wrap (x.f11.length : Int)] := ⟨_, rfl⟩
  have HX := Lh X
  rw [← hys] at HX
  have HYL := Lh (show ys.length ≤ 100000 by have := HN10.out; have := HN11.out; have := HN12.out; rw [hys]; simp only [List.length_append, twoL_length, fourL_length, gapL_length, List.length_cons, List.length_nil]; omega)
  have HYS := Lh hys
  clear X hys
  have k12 : W2.cell? ⟨g, 12, none⟩ = some (.slice L.A12 x.f12.length L.c12) := blk_cell (blk_below HB0.out HX.out.bl) 12
  go_wp2_with fail
  refine (HX.out.two _ _ ((two32 _).trans (two16 _).symm) (by have := HYL.out; (try simp only [List.length_append, twoL_length, fourL_length, List.length_cons, List.length_nil]); omega)).mono ?_
  rintro e W3 ⟨v3_, rfl, hX9⟩
  have HRR := Lh hX9
  clear hX9 k12
  have X := HRR.out
  rw [HYS.out] at X
  clear HRR HYS HX HYL
  clear ys
  obtain ⟨ys, hys⟩ : ∃ ys : List Int, ys = [] ++ fourL [x.f2] ++ fourL [x.f7] ++ twoL [IntKind.u16.wrap (x.f10.length : Int)] ++ twoL [IntKind.u16.wrap (x.f11.length : Int)] ++ twoL [IntKind.u16.wrap (x.f12.length : Int)] := ⟨_, rfl⟩
  have HX := Lh X
  rw [← hys] at HX
  have HYL := Lh (show ys.length ≤ 100000 by have := HN10.out; have := HN11.out; have := HN12.out; rw [hys]; simp only [List.length_append, twoL_length, fourL_length, gapL_length, List.length_cons, List.length_nil]; omega)
  have HYS := Lh hys
  clear X hys
  go_wp2_with fail
  refine (HX.out.two _ _ rfl (by have := HYL.out; (try simp only [List.length_append, twoL_length, fourL_length, List.length_cons, List.length_nil]); omega)).mono ?_
  rintro e W4 ⟨v4_, rfl, hX9⟩
  have HRR := Lh hX9
  clear hX9
  have X := HRR.out
  rw [HYS.out] at X
  clear HRR HYS HX HYL
  clear ys
  go_upto_region 22 with (fail)
  obtain ⟨ys, hys⟩ : ∃ ys : List Int, ys = [] ++ fourL [x.f2] ++ fourL [x.f7] ++ twoL [IntKind.u16.wrap (x.f10.length : Int)] ++ twoL [IntKind.u16.wrap (x.f11.length : Int)] ++ twoL [IntKind.u16.wrap (x.f12.length : Int)] ++ twoL [0] := ⟨_, rfl⟩
  have HX := Lh X
  rw [← hys] at HX
  have HYL := Lh (show ys.length ≤ 100000 by have := HN10.out; have := HN11.out; have := HN12.out; rw [hys]; simp only [List.length_append, twoL_length, fourL_length, gapL_length, List.length_cons, List.length_nil]; omega)
  have HYS := Lh hys
  clear X hys
  refine grow_region (B := rvIB22) [0, 1, 2, 3, 4, 5, 6, 7] [3, 6, 7] (fun s v W => RX w2 (match s with | 0 => ys | 1 => ys ++ twoL (gapL x.f10) | 2 => ys ++ twoL (gapL x.f10) ++ twoL (gapL x.f11) | _ => ys ++ twoL (gapL x.f10) ++ twoL (gapL x.f11)) v W) (v4_) (fun vs => [(0, 119, v4_), (1, 120, .pointer (some ⟨g, 10, none⟩)), (2, 121, .slice L.A10 x.f10.length L.c10), (3, 122, vs 1), (4, 123, .pointer (some ⟨g, 11, none⟩)), (5, 124, .slice L.A11 x.f11.length L.c11), (6, 125, vs 2), (7, 3, vs 3)]) (by kernel_rfl) rfl (l := #[false, false, false, false, false, false, false, false]) rfl rvItab22 rvIbits22 (by kernel_rfl) (by kernel_rfl) (fun _ => rfl) rfl ?_ ?_ ?_
  ·exact HX.out.drewN 1
  ·exact steps_cons (gr_op (p := 3) (fun w => Below w2.heap.size w2 w) 0 0 rfl rfl rfl (fun _ => rfl) (fun _ => rfl) rfl (u := v4_) (rd_not (p := 3) 7 (by kernel_rfl) (fun _ => rfl) rfl) (fun s x w h => RX.bl h) (fun a w hJ e => by go_simp)) (steps_cons (gr_op (p := 1) (fun w => Below w2.heap.size w2 w) 1 1 rfl rfl rfl (fun _ => rfl) (fun _ => rfl) rfl (u := .pointer (some ⟨g, 0, none⟩)) (rd_off (p := 1) (fun _ => rfl) rfl) (fun s x w h => RX.bl h) (fun a w hJ e => by go_simp)) (steps_cons (gr_op (p := 120) (fun w => Below w2.heap.size w2 w) 2 2 rfl rfl rfl (fun _ => rfl) (fun _ => rfl) rfl (u := .pointer (some ⟨g, 10, none⟩)) (rd_on (p := 120) 1 1 (fun _ => rfl) (fun _ => rfl) (by kernel_rfl) rfl) (fun s x w h => RX.bl h) (fun a w hJ e => by have hs : w.cell? ⟨g, 10, none⟩ = some (.slice L.A10 x.f10.length L.c10) := blk_cell (blk_below HB0.out hJ) 10; go_simp)) (steps_cons (gr_call (vals := [.slice L.A10 x.f10.length L.c10]) 3 3 0 rfl rfl rfl rfl (fun _ => rfl) (fun _ _ => rfl) (fun _ => rfl) rfl (by kernel_rfl) Tryd.func64 (by kernel_rfl) rfl rfl rfl (fv := fun vs => v4_) (rd_on (p := 119) 0 0 (fun _ => rfl) (fun _ => rfl) (by kernel_rfl) rfl) (fun _ h => h.symm) (ar_t (rd_on (p := 121) 2 2 (fun _ => rfl) (fun _ => rfl) (by kernel_rfl) rfl) (ar_n)) (fun u w h => rwgaps_calls w2 w u _ _ _ _ h HG10.out (by have := HYL.out; have := HN10.out; have := HN10.out; (try simp only [List.length_append, twoL_length, fourL_length, gapL_length, List.length_cons, List.length_nil]); omega))) (steps_cons (gr_op (p := 1) (fun w => Below w2.heap.size w2 w) 4 4 rfl rfl rfl (fun _ => rfl) (fun _ => rfl) rfl (u := .pointer (some ⟨g, 0, none⟩)) (rd_off (p := 1) (fun _ => rfl) rfl) (fun s x w h => RX.bl h) (fun a w hJ e => by go_simp)) (steps_cons (gr_op (p := 123) (fun w => Below w2.heap.size w2 w) 5 5 rfl rfl rfl (fun _ => rfl) (fun _ => rfl) rfl (u := .pointer (some ⟨g, 11, none⟩)) (rd_on (p := 123) 4 4 (fun _ => rfl) (fun _ => rfl) (by kernel_rfl) rfl) (fun s x w h => RX.bl h) (fun a w hJ e => by have hs : w.cell? ⟨g, 11, none⟩ = some (.slice L.A11 x.f11.length L.c11) := blk_cell (blk_below HB0.out hJ) 11; go_simp)) (steps_cons (gr_call (vals := [.slice L.A11 x.f11.length L.c11]) 6 6 1 rfl rfl rfl rfl (fun _ => rfl) (fun _ _ => rfl) (fun _ => rfl) rfl (by kernel_rfl) Tryd.func64 (by kernel_rfl) rfl rfl rfl (fv := fun vs => vs 1) (rd_on (p := 122) 3 3 (fun _ => rfl) (fun _ => rfl) (by kernel_rfl) rfl) (fun _ _ => rfl) (ar_t (rd_on (p := 124) 5 5 (fun _ => rfl) (fun _ => rfl) (by kernel_rfl) rfl) (ar_n)) (fun u w h => rwgaps_calls w2 w u _ _ _ _ h HG11.out (by have := HYL.out; have := HN10.out; have := HN11.out; (try simp only [List.length_append, twoL_length, fourL_length, gapL_length, List.length_cons, List.length_nil]); omega))) (steps_cons (gr_last 7 7 2 rfl rfl rfl rfl (fun _ => rfl) (fun _ _ => rfl) (fun _ => rfl) rfl (by kernel_rfl) (fv := fun vs => vs 2) (rd_on (p := 125) 6 6 (fun _ => rfl) (fun _ => rfl) (by kernel_rfl) rfl) (fun _ _ => rfl) (fun a w u e => by go_simp) (fun _ _ h => h)) steps_nil)))))))
  intro vs5 W5 hX9
  have HRR := Lh hX9
  clear hX9
  simp only [putSel, if_true, Act.put, List.setIfInBounds_toArray, List.set_cons_zero, List.set_cons_succ]
  obtain ⟨u5_, hu⟩ : ∃ u, vs5 3 = u := ⟨_, rfl⟩
  replace HRR := Lh (show RX w2 (ys ++ twoL (gapL x.f10) ++ twoL (gapL x.f11)) (vs5 3) W5 from HRR.out)
  rw [hu] at HRR ⊢
  clear hu
  have X := HRR.out
  rw [HYS.out] at X
  clear HRR HYS HX HYL
  clear ys
  go_upto_region 25 with (fail)
  obtain ⟨ys, hys⟩ : ∃ ys : List Int, ys = [] ++ fourL [x.f2] ++ fourL [x.f7] ++ twoL [IntKind.u16.wrap (x.f10.length : Int)] ++ twoL [IntKind.u16.wrap (x.f11.length : Int)] ++ twoL [IntKind.u16.wrap (x.f12.length : Int)] ++ twoL [0] ++ twoL (gapL x.f10) ++ twoL (gapL x.f11) := ⟨_, rfl⟩
  have HX := Lh X
  rw [← hys] at HX
  have HYL := Lh (show ys.length ≤ 100000 by have := HN10.out; have := HN11.out; have := HN12.out; rw [hys]; simp only [List.length_append, twoL_length, fourL_length, gapL_length, List.length_cons, List.length_nil]; omega)
  have HYS := Lh hys
  clear X hys
  have HYL2 := Lh (show ys.length ≤ 100000 from HYL.out)
  have HX2 := HX
  have HYS2 := HYS
  clear HX HYS HYL
  go_wp2
  go_loopw [3, 6] (fun v3 v6 wr => ∃ (i : Nat) (zs : List Int), i ≤ x.f12.length ∧ v6 = .int .i64 (i : Int) ∧ Hid (zs.length = ys.length + 4 * i) ∧ Hid (zs ++ fourL (x.f12.drop i) = ys ++ fourL x.f12) ∧ Hid (RX w2 zs v3 wr)) (fun _ v6 _ => x.f12.length - (intOf v6).toNat)
  case atStart => exact ⟨0, ys, Nat.zero_le _, rfl, (by show _ = _; omega), rfl, HX2.out⟩
  case round =>
   clear HX2
   obtain ⟨i, zs, hi, rfl, HZL, HZE, HZ⟩ := hrel
   have k12 : wr.cell? ⟨g, 12, none⟩ = some (.slice L.A12 x.f12.length L.c12) := blk_cell (blk_below HB0.out HZ.out.bl) 12
   have hm12 := HN12.out
   by_cases hlt : i < x.f12.length
   ·obtain ⟨ad, hA12, x0⟩ := int_at (Kd.C_below HD12.out HZ.out.bl) i hlt
    rw [hA12] at k12
    have hE := HZE.out
    have hd : x.f12.drop i = x.f12.getD i 0 :: x.f12.drop (i + 1) := by
     rw [List.drop_eq_getElem_cons hlt]
     congr 1
     simp [List.getD_eq_getElem?_getD, hlt]
    rw [hd, fourL_cons, ← List.append_assoc] at hE
    generalize x.f12.getD i 0 = q at *
    have HE2 := Lh hE
    have HP := Lh (HZ.out.four q (by have := HZL.out; have := HYL2.out; omega))
    have HL2 := Lh (show (zs ++ fourL [q]).length = ys.length + 4 * (i + 1) by rw [List.length_append, fourL_length]; have := HZL.out; simp; omega)
    clear hE hd HZE hA12 HZL HZ
    go_wp2_with fail
    refine HP.out.mono ?_
    rintro e wn ⟨vn, rfl, hX9⟩
    have HX9 := Lh hX9
    clear hX9 HP k12 x0
    go_wp2
    go_roundw
    case rel => exact ⟨i + 1, _, by omega, by go_num, HL2, HE2, HX9⟩
    case measure => simp [intOf]; omega
   ·obtain rfl : i = x.f12.length := by omega
    have hE := HZE.out
    rw [List.drop_length, show fourL [] = [] from rfl, List.append_nil] at hE
    subst hE
    clear HZE
    go_wp2
    go_ret
    have hX := HZ.out
    rw [HYS2.out] at hX
    subst hg
    exact HFIN.out _ _ _ hX.bl hX.r (by rw [HVD.out])
 have n16 := h
 clear h
 by_cases h : x.f0 = 7
 ·have q0 : (x.f0 == 0) = false := by simp; omega
  have q1 : (x.f0 == 1) = false := by simp; omega
  have q2 : (x.f0 == 2) = false := by simp; omega
  have q3 : (x.f0 == 3) = false := by simp; omega
  have q16 : (x.f0 == 16) = false := by simp; omega
  have q7 : (x.f0 == 7) = true := by simp [h]
  have HVD := Lh (show valueD x = [] ++ fourL [x.f2] from by unfold valueD; rw [if_neg (by omega), if_neg (by omega), if_neg (by omega), if_neg (by omega), if_neg (by omega), if_pos h]; rfl)
  go_upto_region 24 with (fail)
  obtain ⟨ys, hys⟩ : ∃ ys : List Int, ys = [] := ⟨_, rfl⟩
  have HX := Lh X
  rw [← hys] at HX
  have HYL := Lh (show ys.length ≤ 100000 by have := HN10.out; have := HN11.out; have := HN12.out; rw [hys]; simp only [List.length_append, twoL_length, fourL_length, gapL_length, List.length_cons, List.length_nil]; omega)
  have HYS := Lh hys
  clear X hys
  have k2 : w2.cell? ⟨g, 2, none⟩ = some (.int .u32 x.f2) := blk_cell (blk_below HB0.out HX.out.bl) 2
  go_wp2_with fail
  refine (HX.out.four _ (by have := HYL.out; (try simp only [List.length_append, twoL_length, fourL_length, List.length_cons, List.length_nil]); omega)).mono ?_
  rintro e W1 ⟨v1_, rfl, hX9⟩
  have HRR := Lh hX9
  clear hX9 k2
  have X := HRR.out
  rw [HYS.out] at X
  clear HRR HYS HX HYL
  clear ys
  go_wp2
  go_ret
  subst hg
  exact HFIN.out _ _ _ X.bl X.r (by rw [HVD.out])
 have n7 := h
 clear h
 have q0 : (x.f0 == 0) = false := by simp [n0]
 have q1 : (x.f0 == 1) = false := by simp [n1]
 have q2 : (x.f0 == 2) = false := by simp [n2]
 have q3 : (x.f0 == 3) = false := by simp [n3]
 have q16 : (x.f0 == 16) = false := by simp [n16]
 have q7 : (x.f0 == 7) = false := by simp [n7]
 have HVD := Lh (rest_value HB.out n0 n1 n2 n3 n16 n7).1
 have HSUM := Lh ((rest_value HB.out n0 n1 n2 n3 n16 n7).2 HN13.out)
 generalize (encP x.f14).1 = ps at *
 obtain ⟨pl, hpl⟩ : ∃ pl, ps.length = pl := ⟨_, rfl⟩
 rw [hpl]
 have HPL := Lh hpl
 clear hpl
 go_upto_region 4 with (fail)
 have HX := Lh X
 clear X
 refine grow_region (B := rvZB4) [0, 1, 2, 3, 4, 5, 6] [2, 5, 6] (fun s v W => RX w2 (match s with | 0 => [] | 1 => [] ++ ps | _ => [] ++ ps ++ x.f13) v W) (.slice none 0 0) (fun vs => [(0, 15, .slice none 0 0), (1, 16, .slice A0 pl c0), (2, 17, vs 1), (3, 18, .pointer (some ⟨g, 13, none⟩)), (4, 19, .slice L.A13 x.f13.length L.c13), (5, 20, vs 2), (6, 2, vs 3)]) (by kernel_rfl) rfl (l := #[false, false, false, false, false, false, false]) rfl rvZtab4 rvZbits4 (by kernel_rfl) (by kernel_rfl) (fun _ => rfl) rfl ?_ ?_ ?_
 ·exact HX.out.drewN 1
 ·exact steps_cons (gr_op (p := 3) (fun w => Below w2.heap.size w2 w) 0 0 rfl rfl rfl (fun _ => rfl) (fun _ => rfl) rfl (u := .slice none 0 0) (rd_off (p := 3) (fun _ => rfl) rfl) (fun s x w h => RX.bl h) (fun a w hJ e => by go_simp)) (steps_cons (gr_op (p := 4) (fun w => Below w2.heap.size w2 w) 1 1 rfl rfl rfl (fun _ => rfl) (fun _ => rfl) rfl (u := .slice A0 pl c0) (rd_off (p := 4) (fun _ => rfl) rfl) (fun s x w h => RX.bl h) (fun a w hJ e => by go_simp)) (steps_cons (gr_gen (vals := [.slice A0 pl c0]) 2 2 0 rfl rfl rfl rfl (fun _ => rfl) (fun _ _ => rfl) (fun _ => rfl) rfl (by kernel_rfl) (fv := fun vs => .slice none 0 0) (rd_on (p := 15) 0 0 (fun _ => rfl) (fun _ => rfl) (by kernel_rfl) rfl) (fun _ h => h.symm) (ar_t (rd_on (p := 16) 1 1 (fun _ => rfl) (fun _ => rfl) (by kernel_rfl) rfl) (ar_n)) (fun a w K u h e1 e2 hK => by
   obtain ⟨A7, c7, e7⟩ := Kd.R_slice h.r
   subst e7
   refine Kd.R_append_rows_step (Kd.int .u8) (Rr := (Kd.int .u8).K w) (w0 := w2) (W := w) w2.heap.size (by rfl) _ _ 27 5 _ 1 rfl Tryd.underlying27 info_u8 rfl (by decide) (by decide) (.slice A7 ([] : List Int).length c7) [] ps A0 pl c0 (fun _ => True) (fun _ => False) (eval_of e1) (List.cons.inj e2).1 h.r (by have h := Kd.C_below HP0.out h.bl; rw [HPL.out] at h; exact h) (fun _ _ h => h) (fun _ h => h.elim) (fun _ _ => trivial) h.bl h.bl.size (by have := HSUM.out; have := HPL.out; simp; omega) ?_
   intro v1 w1 hR1 hB1 hG1 _
   exact hK v1 w1 ⟨hB1, hR1⟩)) (steps_cons (gr_op (p := 1) (fun w => Below w2.heap.size w2 w) 3 3 rfl rfl rfl (fun _ => rfl) (fun _ => rfl) rfl (u := .pointer (some ⟨g, 0, none⟩)) (rd_off (p := 1) (fun _ => rfl) rfl) (fun s x w h => RX.bl h) (fun a w hJ e => by go_simp)) (steps_cons (gr_op (p := 18) (fun w => Below w2.heap.size w2 w) 4 4 rfl rfl rfl (fun _ => rfl) (fun _ => rfl) rfl (u := .pointer (some ⟨g, 13, none⟩)) (rd_on (p := 18) 3 3 (fun _ => rfl) (fun _ => rfl) (by kernel_rfl) rfl) (fun s x w h => RX.bl h) (fun a w hJ e => by have hs : w.cell? ⟨g, 13, none⟩ = some (.slice L.A13 x.f13.length L.c13) := blk_cell (blk_below HB0.out hJ) 13; go_simp)) (steps_cons (gr_gen (vals := [.slice L.A13 x.f13.length L.c13]) 5 5 1 rfl rfl rfl rfl (fun _ => rfl) (fun _ _ => rfl) (fun _ => rfl) rfl (by kernel_rfl) (fv := fun vs => vs 1) (rd_on (p := 17) 2 2 (fun _ => rfl) (fun _ => rfl) (by kernel_rfl) rfl) (fun _ _ => rfl) (ar_t (rd_on (p := 19) 4 4 (fun _ => rfl) (fun _ => rfl) (by kernel_rfl) rfl) (ar_n)) (fun a w K u h e1 e2 hK => by
   obtain ⟨A7, c7, e7⟩ := Kd.R_slice h.r
   subst e7
   refine Kd.R_append_rows_step (Kd.int .u8) (Rr := (Kd.int .u8).K w) (w0 := w2) (W := w) w2.heap.size (by rfl) _ _ 27 5 _ 1 rfl Tryd.underlying27 info_u8 rfl (by decide) (by decide) (.slice A7 ([] ++ ps).length c7) ([] ++ ps) x.f13 L.A13 x.f13.length L.c13 (fun _ => True) (fun _ => False) (eval_of e1) (List.cons.inj e2).1 h.r (Kd.C_below HD13.out h.bl) (fun _ _ h => h) (fun _ h => h.elim) (fun _ _ => trivial) h.bl h.bl.size (by have := HSUM.out; have := HPL.out; simp; omega) ?_
   intro v1 w1 hR1 hB1 hG1 _
   exact hK v1 w1 ⟨hB1, hR1⟩)) (steps_cons (gr_last 6 6 2 rfl rfl rfl rfl (fun _ => rfl) (fun _ _ => rfl) (fun _ => rfl) rfl (by kernel_rfl) (fv := fun vs => vs 2) (rd_on (p := 20) 5 5 (fun _ => rfl) (fun _ => rfl) (by kernel_rfl) rfl) (fun _ _ => rfl) (fun a w u e => by go_simp) (fun _ _ h => h)) steps_nil))))))
 intro vs W9 hX9
 have HRR := Lh hX9
 clear hX9
 simp only [putSel, if_true, Act.put, List.setIfInBounds_toArray, List.set_cons_zero, List.set_cons_succ]
 go_wp2
 go_ret
 subst hg
 exact HFIN.out _ _ _ HRR.out.bl HRR.out.r HVD.out
end Go.Proofs.YtdlamomabonkjaaDoor.Ch
end
section
namespace Go.Proofs.YtdlamomabonkjaaDoor.Ch
open Go.RowKit YtdlamomabonkjaaDoorW.PrintWords YtdlamomabonkjaaDoorW.PrintLast Base PCh ParDec ParEnc
def rcheckT1 : Bool × List (List Nat × List Nat) := (true, [([], []), ([], []), ([1], [1]), ([0, 2, 2], [0, 2]), ([3], [3])])
def rcheckB1 : List Nat := [0, 0, 2, 7, 15]
theorem rchecktab1 : Go.Proofs.YtdlamomabonkjaaDoorW.PrintLast.rtab .any (Go.Proofs.YtdlamomabonkjaaDoorW.PrintLast.opsOf Tryd.f13 1) = rcheckT1 := by kernel_rfl
theorem rcheckbits1 : Go.Proofs.YtdlamomabonkjaaDoorW.PrintLast.waitsOk rcheckT1.2 rcheckB1 = true := by kernel_rfl
theorem encP_code (ps : List PrmS) : (encP ps).2 = 0 ∨ (encP ps).2 = 2 ∨ (encP ps).2 = 3 := by
 unfold encP
 by_cases h : ps.length > 256
 ·rw [if_pos h]; exact Or.inr (Or.inr rfl)
 rw [if_neg h]
 by_cases hs : allShort ps
 ·rw [runB_short ps hs]; exact Or.inl rfl
 ·rw [runB_long ps hs]; exact Or.inr (Or.inl rfl)
theorem rb4_f {a : Int} (h : a = 4 ∨ a = 5) (b1 b2 b3 b4 b5 b6 b7 b8 b9 : Int) (l0 l1 : List GapS) (l2 l3 : List Int) (l4 : List PrmS) : ropewalkref06_beat.f a b1 b2 b3 b4 b5 b6 b7 b8 b9 l0 l1 l2 l3 l4 = some true := by
 unfold ropewalkref06_beat.f
 rcases h with rfl | rfl <;> simp
theorem nobeat_f {a : Int} (h : ¬ (a = 4 ∨ a = 5)) (b1 b2 b3 b4 b5 b6 b7 b8 b9 : Int) (l0 l1 : List GapS) (l2 l3 : List Int) (l4 : List PrmS) : ropewalkref06_beat.f a b1 b2 b3 b4 b5 b6 b7 b8 b9 l0 l1 l2 l3 l4 = some false := by
 unfold ropewalkref06_beat.f
 rw [if_neg (by omega)]
 simp
 omega
theorem okB_bare {x : Chk} (h : OkB x) : OkB (bareD x) := by
 refine ⟨fun b hb => ?_, fun p hp => ?_⟩
 ·unfold bareD keepF at hb
  dsimp only at hb
  by_cases e : hasF x.f0 13 = true
  ·rw [if_pos e] at hb; exact h.body b hb
  ·rw [if_neg e] at hb; cases hb
 ·unfold bareD keepF at hp
  dsimp only at hp
  by_cases e : hasF x.f0 14 = true
  ·rw [if_pos e] at hp; exact h.prm p hp
  ·rw [if_neg e] at hp; cases hp
theorem prm_one {w : World} {x : Chk} {L : Lay} {p : PrmS} (h : CR w x L) (hp : x.f14 = [p]) : ∃ ad, L.A14 = some ad ∧ w.cell? ad = some (.int .u16 p.f0) := by
 obtain ⟨ad, _, _, e, x0, _⟩ := at_T72 h.h14 (0 : Int) (by omega) (by rw [hp]; simp)
 refine ⟨ad, e, ?_⟩
 rw [hp] at x0
 exact x0
set_option maxHeartbeats 8000000 in
theorem rcheck_calls (w : World) (x : Chk) (L : Lay) (hx : CR w x L) (hok : OkC x) :
  Calls Tryd.prog 13 #[.agg (CV x L)] w fun e w' => e = .returned (.int .i64 (checkD x)) ∧ Below w.heap.size w w' := by
 have HBR := Lh (fun (W : World) (h : Below w.heap.size w W) => rbare_calls W x L hok.r0.1 hok.r1.1 hok.r1.2)
 have hokb : OkB (bareD x) := okB_bare hok.okB
 have HSM := Lh (fun (W : World) (h : Below w.heap.size w W) => rsame_calls W x (bareD x) L (keepL (hasF x.f0) L) (hx.below h) (keep_CR (hx.below h) _ _) hok.okB hokb)
 have HEN := Lh (fun (W : World) (h : Below w.heap.size w W) => encR_calls W L.A14 L.c14 x.f14 (Kd.C_below hx.h14 h) hx.l14)
 have HXC := Lh (fun (W : World) (h : Below w.heap.size w W) => hx.below h)
 have HXS := Lh (show (Tryd.prog.info? 41).map (·.size) = some (CV x L).size by kernel_rfl)
 have HM13 := Lh hx.h13.2.1
 have HM14 := Lh hx.h14.2.1
 have HL13 := Lh hok.l13
 obtain ⟨CD, hcd⟩ : ∃ CD, checkD x = CD := ⟨_, rfl⟩
 have HCD := Lh hcd
 rw [hcd]
 have X := B1.new w x L
 clear hx hcd hok hokb
 go_enter Tryd.func13, Tryd.ntmps13
 go_upto_region 1 with (fail)
 refine wp_gen (B1 w x L) X ?_
 clear X
 intro W X
 obtain ⟨q, hq⟩ : ∃ q, decide (x = bareD x) = q := ⟨_, rfl⟩
 rw [hq] at HSM
 have HQ := Lh hq
 clear hq
 have HX0 := Lh X
 have B := True.intro
 refine start_ (n := 5) (S := fun w' => True) (ds := []) #[false, false, false, false, false] (by kernel_rfl) rfl rfl trivial (fun hHeld => ?_)
 refine with_tabW rchecktab1 rcheckbits1 (fun HT_ HW_ => ?_)
 refine inv_at [0, 1, 2, 3, 4] (fun a0_ b a w' => a = putSel a0_ b [(0, 5, .agg (CV x L)), (1, 6, .agg (CV x L)), (2, 7, .agg (CV (bareD x) (keepL (hasF x.f0) L))), (3, 8, .bool q), (4, 9, .bool (!q))] ∧ (Below W.heap.size W w')) HT_.out HW_.out (by kernel_rfl) (by kernel_rfl) ?_ ?_ ?_
 ·exact ⟨by simp only [putSel, Bool.false_eq_true, if_false], below_drew (Below.refl _ _)⟩
 ·skip
  clear B
  refine steps_cons ?_ ?_
  ·rintro b a w' ⟨ha, Q_B⟩ hb_ hon hoff
   refine ⟨_, rfl, fun K hK => ?_⟩
   have e1 : a.tmps[1]? = some (.pointer (some ⟨w.heap.size, 0, none⟩)) := by rw [ha]; exact (putSel_off rfl).trans rfl
   replace ha := Am ha
   have B := Am Q_B
   refine value_ (w1 := w') (v := .agg (CV x L)) (by rfl) rfl (exec_load_row 41 (.tmp 1) rfl (eval_of e1) (blk_below HX0.out.x0 B.out) Tryd.underlying41 rfl HXS.out) ?_
   refine hK.out _ _ ⟨(puk ha 0 hb_ rfl rfl rfl), B.out⟩
  refine steps_cons ?_ ?_
  ·rintro b a w' ⟨ha, Q_B⟩ hb_ hon hoff
   refine ⟨_, rfl, fun K hK => ?_⟩
   have e1 : a.tmps[1]? = some (.pointer (some ⟨w.heap.size, 0, none⟩)) := by rw [ha]; exact (putSel_off rfl).trans rfl
   replace ha := Am ha
   have B := Am Q_B
   refine value_ (w1 := w') (v := .agg (CV x L)) (by rfl) rfl (exec_load_row 41 (.tmp 1) rfl (eval_of e1) (blk_below HX0.out.x0 B.out) Tryd.underlying41 rfl HXS.out) ?_
   refine hK.out _ _ ⟨(puk ha 1 hb_ rfl rfl rfl), B.out⟩
  refine steps_cons ?_ ?_
  ·rintro b a w' ⟨ha, Q_B⟩ hb_ hon hoff
   refine ⟨_, rfl, fun K hK => ?_⟩
   have e6 := psn ha 1 rfl rfl (hon 1 (by kernel_rfl)) rfl
   replace ha := Am ha
   have B := Am Q_B
   refine goes_ Tryd.func33 (by kernel_rfl) rfl #[.agg (CV x L)] (by rfl) rfl rfl (by first | (simp only [List.map_toArray, List.map_cons, List.map_nil, Act.eval, Array.getD_eq_getD_getElem?, Option.getD_some, e6]; done) | (simp only [List.map_toArray, List.map_cons, List.map_nil, Act.eval, Array.getD_eq_getD_getElem?, Option.getD_some, e6]; rfl)) ?_
   refine (HBR.out w' (HX0.out.below B.out).x2).mono ?_
   rintro e w1 ⟨rfl, hB1⟩
   refine ⟨_, rfl, ?_⟩
   refine hK.out _ _ ⟨(puk ha 2 hb_ rfl rfl rfl), B.out.trans (hB1.mono B.out.size)⟩
  refine steps_cons ?_ ?_
  ·rintro b a w' ⟨ha, Q_B⟩ hb_ hon hoff
   refine ⟨_, rfl, fun K hK => ?_⟩
   have e5 := psn ha 0 rfl rfl (hon 0 (by kernel_rfl)) rfl
   have e7 := psn ha 2 rfl rfl (hon 2 (by kernel_rfl)) rfl
   replace ha := Am ha
   have B := Am Q_B
   refine goes_ Tryd.func32 (by kernel_rfl) rfl #[.agg (CV x L), .agg (CV (bareD x) (keepL (hasF x.f0) L))] (by rfl) rfl rfl (by first | (simp only [List.map_toArray, List.map_cons, List.map_nil, Act.eval, Array.getD_eq_getD_getElem?, Option.getD_some, e5, e7]; done) | (simp only [List.map_toArray, List.map_cons, List.map_nil, Act.eval, Array.getD_eq_getD_getElem?, Option.getD_some, e5, e7]; rfl)) ?_
   refine (HSM.out w' (HX0.out.below B.out).x2).mono ?_
   rintro e w1 ⟨rfl, hB1⟩
   refine ⟨_, rfl, ?_⟩
   refine hK.out _ _ ⟨(puk ha 3 hb_ rfl rfl rfl), B.out.trans (hB1.mono B.out.size)⟩
  refine steps_cons ?_ ?_
  ·rintro b a w' ⟨ha, Q_B⟩ hb_ hon hoff
   refine ⟨_, rfl, fun K hK => ?_⟩
   have e8 := psn ha 3 rfl rfl (hon 3 (by kernel_rfl)) rfl
   replace ha := Am ha
   refine value_ (w1 := w') (v := .bool (!q)) (by rfl) rfl ?_ ?_
   ·go_simp
    (try simp only [i64_w])
    try rfl
   refine hK.out _ _ ⟨(puk ha 4 hb_ rfl rfl rfl), Q_B⟩
  exact steps_nil
 rintro b a w' hall ⟨ha, Q_B⟩
 clear B
 have hb0_ := hall 0 (by kernel_rfl)
 have hb1_ := hall 1 (by kernel_rfl)
 have hb2_ := hall 2 (by kernel_rfl)
 have hb3_ := hall 3 (by kernel_rfl)
 have hb4_ := hall 4 (by kernel_rfl)
 subst ha
 simp only [putSel, hb0_, hb1_, hb2_, hb3_, hb4_, if_true, Act.put, List.setIfInBounds_toArray, List.set_cons_zero, List.set_cons_succ]
 have B := Am Q_B
 clear Q_B
 clear hall hb0_ hb1_ hb2_ hb3_ hb4_
 replace X := X.below B.out
 clear B HBR HSM HX0
 generalize w' = W at *
 cases q with
 | false =>
  have hC : CD = 63 := by rw [← HCD.out]; unfold checkD; rw [if_pos HQ.out]
  subst hC
  go_wp2
  go_ret
  exact ⟨rfl, X.x2⟩
 | true =>
 have HXE := Lh (show x = bareD x from of_decide_eq_true HQ.out)
 have n1 : ¬ decide (x = bareD x) = false := by rw [HQ.out]; decide
 have hcd := HCD.out
 unfold checkD at hcd
 rw [if_neg n1] at hcd
 clear n1 HCD
 have k0 : W.cell? ⟨w.heap.size, 0, none⟩ = some (.int .u8 x.f0) := X.cell 0
 have k10 : W.cell? ⟨w.heap.size, 10, none⟩ = some (.slice L.A10 x.f10.length L.c10) := X.cell 10
 have k11 : W.cell? ⟨w.heap.size, 11, none⟩ = some (.slice L.A11 x.f11.length L.c11) := X.cell 11
 have k12 : W.cell? ⟨w.heap.size, 12, none⟩ = some (.slice L.A12 x.f12.length L.c12) := X.cell 12
 have k13 : W.cell? ⟨w.heap.size, 13, none⟩ = some (.slice L.A13 x.f13.length L.c13) := X.cell 13
 have k14 : W.cell? ⟨w.heap.size, 14, none⟩ = some (.slice L.A14 x.f14.length L.c14) := X.cell 14
 by_cases h62 : x.f0 = 0 ∧ x.f13.length = 0
 ·rw [if_pos h62] at hcd
  have q0 : (x.f0 == 0) = true := by simp [h62.1]
  have q13 : ((x.f13.length : Int) == 0) = true := by rw [h62.2]; rfl
  subst hcd
  clear h62
  go_wp2
  go_ret
  exact ⟨rfl, X.x2⟩
 rw [if_neg h62] at hcd
 have hbt : beatB x.f14 = true ∨ beatB x.f14 = false := by cases beatB x.f14 <;> simp
 by_cases h61 : (x.f0 = 4 ∨ x.f0 = 5) ∧ beatB x.f14 = false
 ·rw [if_pos h61] at hcd
  have q0 : (x.f0 == 0) = false := by simp; omega
  subst hcd
  by_cases hn : x.f14.length = 1
  ·obtain ⟨p, hp⟩ := List.length_eq_one_iff.1 hn
   have hpf : ¬ p.f0 = 1 := fun e => by
    have := h61.2
    rw [hp] at this
    simp [beatB, e] at this
   have qn : ((x.f14.length : Int) != 1) = false := by rw [hn]; rfl
   have qp : (p.f0 != 1) = true := by simp [hpf]
   have HBT := Lh (fun (W' : World) (h : Below w.heap.size w W') => ropewalkref06_beat.calls x.f0 x.f1 x.f2 x.f3 x.f4 x.f5 x.f6 x.f7 x.f8 x.f9 L.A10 L.c10 x.f10 L.A11 L.c11 x.f11 L.A12 L.c12 x.f12 L.A13 L.c13 x.f13 L.A14 L.c14 x.f14 true W' (HXC.out W' h).h10 (HXC.out W' h).l10 (HXC.out W' h).h11 (HXC.out W' h).l11 (HXC.out W' h).h12 (HXC.out W' h).l12 (HXC.out W' h).h13 (HXC.out W' h).l13 (HXC.out W' h).h14 (HXC.out W' h).l14 (rb4_f h61.1 _ _ _ _ _ _ _ _ _ _ _ _ _ _))
   go_wp2_with (with_reducible refine gate_dst (N := 19) rfl ?_; refine wpList_load_row rfl 41 (.tmp 1) rfl _ rfl 41 _ (0, 0) _ X.x0 Tryd.underlying41 rfl HXS.out ?_)
   refine (HBT.out _ X.x2).mono ?_
   rintro e w2 ⟨rfl, hB2⟩
   replace X := X.below hB2
   clear HBT
   have hAt := HXC.out w2 X.x2
   have x0 := (prm_one hAt hp)
   obtain ⟨ad, hA, x0⟩ := x0
   have k14 : w2.cell? ⟨w.heap.size, 14, none⟩ = some (.slice L.A14 x.f14.length L.c14) := X.cell 14
   rw [hA, hn] at k14
   clear hAt h61 h62 hbt hpf hp hn
   go_wp2
   go_ret
   exact ⟨rfl, X.x2⟩
  ·have qn : ((x.f14.length : Int) != 1) = true := by simp; omega
   have HBT := Lh (fun (W' : World) (h : Below w.heap.size w W') => ropewalkref06_beat.calls x.f0 x.f1 x.f2 x.f3 x.f4 x.f5 x.f6 x.f7 x.f8 x.f9 L.A10 L.c10 x.f10 L.A11 L.c11 x.f11 L.A12 L.c12 x.f12 L.A13 L.c13 x.f13 L.A14 L.c14 x.f14 true W' (HXC.out W' h).h10 (HXC.out W' h).l10 (HXC.out W' h).h11 (HXC.out W' h).l11 (HXC.out W' h).h12 (HXC.out W' h).l12 (HXC.out W' h).h13 (HXC.out W' h).l13 (HXC.out W' h).h14 (HXC.out W' h).l14 (rb4_f h61.1 _ _ _ _ _ _ _ _ _ _ _ _ _ _))
   go_wp2_with (with_reducible refine gate_dst (N := 19) rfl ?_; refine wpList_load_row rfl 41 (.tmp 1) rfl _ rfl 41 _ (0, 0) _ X.x0 Tryd.underlying41 rfl HXS.out ?_)
   refine (HBT.out _ X.x2).mono ?_
   rintro e w2 ⟨rfl, hB2⟩
   replace X := X.below hB2
   clear HBT
   have k14 : w2.cell? ⟨w.heap.size, 14, none⟩ = some (.slice L.A14 x.f14.length L.c14) := X.cell 14
   clear h61 h62 hbt hn
   go_wp2
   go_ret
   exact ⟨rfl, X.x2⟩
 rw [if_neg h61] at hcd
 have HCD := Lh hcd
 clear hcd
 have hq0 : (x.f0 == 0) = true ∧ ((x.f13.length : Int) == 0) = false ∨ (x.f0 == 0) = false := by
  by_cases a0 : x.f0 = 0
  ·exact Or.inl ⟨by simp [a0], by rw [beq_eq_false_iff_ne]; intro e; exact h62 ⟨a0, by omega⟩⟩
  ·exact Or.inr (by simp [a0])
 have hvar : (x.f0 = 4 ∨ x.f0 = 5) ∧ beatB x.f14 = true ∨ ¬ (x.f0 = 4 ∨ x.f0 = 5) := by
  by_cases a4 : x.f0 = 4 ∨ x.f0 = 5
  ·exact Or.inl ⟨a4, hbt.elim id (fun e => absurd ⟨a4, e⟩ h61)⟩
  ·exact Or.inr a4
 have hz : x.f0 = 0 → ¬ (x.f0 = 4 ∨ x.f0 = 5) := by omega
 clear h61 h62 hbt
 rcases hvar with ⟨a4, hbt⟩ | a4
 ·have q0 : (x.f0 == 0) = false := by simp; omega
  clear hq0 hz
  obtain ⟨p, hp, hpf⟩ : ∃ p, x.f14 = [p] ∧ p.f0 = 1 := by
   cases hx14 : x.f14 with
   | nil => rw [hx14] at hbt; cases hbt
   | cons p r =>
    cases r with
    | nil => rw [hx14] at hbt; exact ⟨p, rfl, by simpa [beatB] using hbt⟩
    | cons q r => rw [hx14] at hbt; cases hbt
  have hn : x.f14.length = 1 := by rw [hp]; rfl
  have qn : ((x.f14.length : Int) != 1) = false := by rw [hn]; rfl
  have qp : (p.f0 != 1) = false := by simp [hpf]
  have HBT := Lh (fun (W' : World) (h : Below w.heap.size w W') => ropewalkref06_beat.calls x.f0 x.f1 x.f2 x.f3 x.f4 x.f5 x.f6 x.f7 x.f8 x.f9 L.A10 L.c10 x.f10 L.A11 L.c11 x.f11 L.A12 L.c12 x.f12 L.A13 L.c13 x.f13 L.A14 L.c14 x.f14 true W' (HXC.out W' h).h10 (HXC.out W' h).l10 (HXC.out W' h).h11 (HXC.out W' h).l11 (HXC.out W' h).h12 (HXC.out W' h).l12 (HXC.out W' h).h13 (HXC.out W' h).l13 (HXC.out W' h).h14 (HXC.out W' h).l14 (rb4_f a4 _ _ _ _ _ _ _ _ _ _ _ _ _ _))
  go_wp2_with (with_reducible refine gate_dst (N := 19) rfl ?_; refine wpList_load_row rfl 41 (.tmp 1) rfl _ rfl 41 _ (0, 0) _ X.x0 Tryd.underlying41 rfl HXS.out ?_)
  refine (HBT.out _ X.x2).mono ?_
  rintro e w2 ⟨rfl, hB2⟩
  replace X := X.below hB2
  clear HBT
  have hAt := HXC.out w2 X.x2
  obtain ⟨ad, hA, x0⟩ := prm_one hAt hp
  have k14' : w2.cell? ⟨w.heap.size, 14, none⟩ = some (.slice L.A14 x.f14.length L.c14) := X.cell 14
  rw [hA, hn] at k14'
  clear hAt hbt hpf hp a4 k14
  go_upto_region 7 with (fail)
  refine wp_gen (B1 w x L) X ?_
  clear X k0 k10 k11 k12 k13 k14' x0 q0 qn qp hA hn
  intro W X
  have k10 : W.cell? ⟨w.heap.size, 10, none⟩ = some (.slice L.A10 x.f10.length L.c10) := X.cell 10
  have k11 : W.cell? ⟨w.heap.size, 11, none⟩ = some (.slice L.A11 x.f11.length L.c11) := X.cell 11
  have k12 : W.cell? ⟨w.heap.size, 12, none⟩ = some (.slice L.A12 x.f12.length L.c12) := X.cell 12
  have k14 : W.cell? ⟨w.heap.size, 14, none⟩ = some (.slice L.A14 x.f14.length L.c14) := X.cell 14
  by_cases hm : 4096 < x.f10.length ∨ 4096 < x.f11.length ∨ 4096 < x.f12.length
  ·have hc := HCD.out
   rw [if_pos hm] at hc
   have HEW := Lh (HEN.out W X.x2)
   generalize (encP x.f14).2 = ec at *
   subst hc
   go_wp2_with fail
   refine HEW.out.mono ?_
   rintro e w3 ⟨v0, rfl, hR, hB3⟩
   obtain ⟨A0, c0, rfl⟩ := Kd.R_slice hR
   replace X := X.below hB3
   clear hR hB3 k10 k11 k12 k14
   have k10 : w3.cell? ⟨w.heap.size, 10, none⟩ = some (.slice L.A10 x.f10.length L.c10) := X.cell 10
   have k11 : w3.cell? ⟨w.heap.size, 11, none⟩ = some (.slice L.A11 x.f11.length L.c11) := X.cell 11
   have k12 : w3.cell? ⟨w.heap.size, 12, none⟩ = some (.slice L.A12 x.f12.length L.c12) := X.cell 12
   go_wp2
   all_goals first | (exfalso; omega) | (go_ret; exact ⟨rfl, X.x2⟩)
  have b10 : decide ((4096 : Int) < (x.f10.length : Int)) = false := by simp; omega
  have b11 : decide ((4096 : Int) < (x.f11.length : Int)) = false := by simp; omega
  have b12 : decide ((4096 : Int) < (x.f12.length : Int)) = false := by simp; omega
  have HCE := Lh HCD.out
  rw [if_neg hm] at HCE
  have l10 : x.f10.length ≤ 4096 := by omega
  have l11 : x.f11.length ≤ 4096 := by omega
  have l12 : x.f12.length ≤ 4096 := by omega
  have HEW := Lh (HEN.out W X.x2)
  have he3 := encP_code x.f14
  by_cases he : (encP x.f14).2 = 0
  ·have HVL := Lh (fun (W' : World) (h : Below w.heap.size w W') => rvalue_calls W' x L (HXC.out W' h) HXE.out l10 l11 l12 HL13.out)
   rw [if_neg (fun e => e he)] at HCE
   rw [he] at HEW
   clear hm he he3
   go_wp2_with fail
   refine HEW.out.mono ?_
   rintro e w3 ⟨v0, rfl, hR, hB3⟩
   obtain ⟨A0, c0, rfl⟩ := Kd.R_slice hR
   replace X := X.below hB3
   clear hR hB3 k10 k11 k12 k14
   have k10 : w3.cell? ⟨w.heap.size, 10, none⟩ = some (.slice L.A10 x.f10.length L.c10) := X.cell 10
   have k11 : w3.cell? ⟨w.heap.size, 11, none⟩ = some (.slice L.A11 x.f11.length L.c11) := X.cell 11
   have k12 : w3.cell? ⟨w.heap.size, 12, none⟩ = some (.slice L.A12 x.f12.length L.c12) := X.cell 12
   go_wp2_with (with_reducible refine gate_dst (N := 64) rfl ?_; go_must (refine step_on (wanted_on rfl rfl rfl rfl) (exec_load_row 41 (.tmp 1) rfl rfl X.x0 Tryd.underlying41 rfl HXS.out) ?_))
   refine (HVL.out _ X.x2).mono ?_
   rintro e w5 ⟨v9, rfl, hR5, hB5⟩
   obtain ⟨A9, c9, rfl⟩ := Kd.R_slice hR5
   replace X := X.below hB5
   clear hR5 hB5
   generalize (valueD x).length = vl at *
   by_cases h2 : 65531 < vl
   ·have hc := HCE.out
    rw [if_pos h2] at hc
    subst hc
    go_wp2
    go_ret
    exact ⟨rfl, X.x2⟩
   ·have hc := HCE.out
    rw [if_neg h2] at hc
    subst hc
    go_wp2
    go_ret
    exact ⟨rfl, X.x2⟩
  ·have hc := HCE.out
   rw [if_pos he] at hc
   rw [hc] at HEW he he3
   rcases he3 with rfl | rfl | rfl
   ·exact absurd rfl he
   ·clear hm he hc
    go_wp2_with fail
    refine HEW.out.mono ?_
    rintro e w3 ⟨v0, rfl, hR, hB3⟩
    obtain ⟨A0, c0, rfl⟩ := Kd.R_slice hR
    replace X := X.below hB3
    clear hR hB3 k10 k11 k12 k14
    have k10 : w3.cell? ⟨w.heap.size, 10, none⟩ = some (.slice L.A10 x.f10.length L.c10) := X.cell 10
    have k11 : w3.cell? ⟨w.heap.size, 11, none⟩ = some (.slice L.A11 x.f11.length L.c11) := X.cell 11
    have k12 : w3.cell? ⟨w.heap.size, 12, none⟩ = some (.slice L.A12 x.f12.length L.c12) := X.cell 12
    go_wp2
    go_ret
    exact ⟨rfl, X.x2⟩
   ·clear hm he hc
    go_wp2_with fail
    refine HEW.out.mono ?_
    rintro e w3 ⟨v0, rfl, hR, hB3⟩
    obtain ⟨A0, c0, rfl⟩ := Kd.R_slice hR
    replace X := X.below hB3
    clear hR hB3 k10 k11 k12 k14
    have k10 : w3.cell? ⟨w.heap.size, 10, none⟩ = some (.slice L.A10 x.f10.length L.c10) := X.cell 10
    have k11 : w3.cell? ⟨w.heap.size, 11, none⟩ = some (.slice L.A11 x.f11.length L.c11) := X.cell 11
    have k12 : w3.cell? ⟨w.heap.size, 12, none⟩ = some (.slice L.A12 x.f12.length L.c12) := X.cell 12
    go_wp2
    go_ret
    exact ⟨rfl, X.x2⟩
 ·rcases hq0 with ⟨q0, q13⟩ | q0
  ·clear hz
   have HBT := Lh (fun (W' : World) (h : Below w.heap.size w W') => ropewalkref06_beat.calls x.f0 x.f1 x.f2 x.f3 x.f4 x.f5 x.f6 x.f7 x.f8 x.f9 L.A10 L.c10 x.f10 L.A11 L.c11 x.f11 L.A12 L.c12 x.f12 L.A13 L.c13 x.f13 L.A14 L.c14 x.f14 false W' (HXC.out W' h).h10 (HXC.out W' h).l10 (HXC.out W' h).h11 (HXC.out W' h).l11 (HXC.out W' h).h12 (HXC.out W' h).l12 (HXC.out W' h).h13 (HXC.out W' h).l13 (HXC.out W' h).h14 (HXC.out W' h).l14 (nobeat_f a4 _ _ _ _ _ _ _ _ _ _ _ _ _ _))
   go_wp2_with (with_reducible refine gate_dst (N := 19) rfl ?_; refine wpList_load_row rfl 41 (.tmp 1) rfl _ rfl 41 _ (0, 0) _ X.x0 Tryd.underlying41 rfl HXS.out ?_)
   refine (HBT.out _ X.x2).mono ?_
   rintro e w2 ⟨rfl, hB2⟩
   replace X := X.below hB2
   clear HBT
   clear a4
   go_upto_region 7 with (fail)
   refine wp_gen (B1 w x L) X ?_
   clear X k0 k10 k11 k12 k13 k14 q0 q13
   intro W X
   have k10 : W.cell? ⟨w.heap.size, 10, none⟩ = some (.slice L.A10 x.f10.length L.c10) := X.cell 10
   have k11 : W.cell? ⟨w.heap.size, 11, none⟩ = some (.slice L.A11 x.f11.length L.c11) := X.cell 11
   have k12 : W.cell? ⟨w.heap.size, 12, none⟩ = some (.slice L.A12 x.f12.length L.c12) := X.cell 12
   have k14 : W.cell? ⟨w.heap.size, 14, none⟩ = some (.slice L.A14 x.f14.length L.c14) := X.cell 14
   by_cases hm : 4096 < x.f10.length ∨ 4096 < x.f11.length ∨ 4096 < x.f12.length
   ·have hc := HCD.out
    rw [if_pos hm] at hc
    have HEW := Lh (HEN.out W X.x2)
    generalize (encP x.f14).2 = ec at *
    subst hc
    go_wp2_with fail
    refine HEW.out.mono ?_
    rintro e w3 ⟨v0, rfl, hR, hB3⟩
    obtain ⟨A0, c0, rfl⟩ := Kd.R_slice hR
    replace X := X.below hB3
    clear hR hB3 k10 k11 k12 k14
    have k10 : w3.cell? ⟨w.heap.size, 10, none⟩ = some (.slice L.A10 x.f10.length L.c10) := X.cell 10
    have k11 : w3.cell? ⟨w.heap.size, 11, none⟩ = some (.slice L.A11 x.f11.length L.c11) := X.cell 11
    have k12 : w3.cell? ⟨w.heap.size, 12, none⟩ = some (.slice L.A12 x.f12.length L.c12) := X.cell 12
    go_wp2
    all_goals first | (exfalso; omega) | (go_ret; exact ⟨rfl, X.x2⟩)
   have b10 : decide ((4096 : Int) < (x.f10.length : Int)) = false := by simp; omega
   have b11 : decide ((4096 : Int) < (x.f11.length : Int)) = false := by simp; omega
   have b12 : decide ((4096 : Int) < (x.f12.length : Int)) = false := by simp; omega
   have HCE := Lh HCD.out
   rw [if_neg hm] at HCE
   have l10 : x.f10.length ≤ 4096 := by omega
   have l11 : x.f11.length ≤ 4096 := by omega
   have l12 : x.f12.length ≤ 4096 := by omega
   have HEW := Lh (HEN.out W X.x2)
   have he3 := encP_code x.f14
   by_cases he : (encP x.f14).2 = 0
   ·have HVL := Lh (fun (W' : World) (h : Below w.heap.size w W') => rvalue_calls W' x L (HXC.out W' h) HXE.out l10 l11 l12 HL13.out)
    rw [if_neg (fun e => e he)] at HCE
    rw [he] at HEW
    clear hm he he3
    go_wp2_with fail
    refine HEW.out.mono ?_
    rintro e w3 ⟨v0, rfl, hR, hB3⟩
    obtain ⟨A0, c0, rfl⟩ := Kd.R_slice hR
    replace X := X.below hB3
    clear hR hB3 k10 k11 k12 k14
    have k10 : w3.cell? ⟨w.heap.size, 10, none⟩ = some (.slice L.A10 x.f10.length L.c10) := X.cell 10
    have k11 : w3.cell? ⟨w.heap.size, 11, none⟩ = some (.slice L.A11 x.f11.length L.c11) := X.cell 11
    have k12 : w3.cell? ⟨w.heap.size, 12, none⟩ = some (.slice L.A12 x.f12.length L.c12) := X.cell 12
    go_wp2_with (with_reducible refine gate_dst (N := 64) rfl ?_; go_must (refine step_on (wanted_on rfl rfl rfl rfl) (exec_load_row 41 (.tmp 1) rfl rfl X.x0 Tryd.underlying41 rfl HXS.out) ?_))
    refine (HVL.out _ X.x2).mono ?_
    rintro e w5 ⟨v9, rfl, hR5, hB5⟩
    obtain ⟨A9, c9, rfl⟩ := Kd.R_slice hR5
    replace X := X.below hB5
    clear hR5 hB5
    generalize (valueD x).length = vl at *
    by_cases h2 : 65531 < vl
    ·have hc := HCE.out
     rw [if_pos h2] at hc
     subst hc
     go_wp2
     go_ret
     exact ⟨rfl, X.x2⟩
    ·have hc := HCE.out
     rw [if_neg h2] at hc
     subst hc
     go_wp2
     go_ret
     exact ⟨rfl, X.x2⟩
   ·have hc := HCE.out
    rw [if_pos he] at hc
    rw [hc] at HEW he he3
    rcases he3 with rfl | rfl | rfl
    ·exact absurd rfl he
    ·clear hm he hc
     go_wp2_with fail
     refine HEW.out.mono ?_
     rintro e w3 ⟨v0, rfl, hR, hB3⟩
     obtain ⟨A0, c0, rfl⟩ := Kd.R_slice hR
     replace X := X.below hB3
     clear hR hB3 k10 k11 k12 k14
     have k10 : w3.cell? ⟨w.heap.size, 10, none⟩ = some (.slice L.A10 x.f10.length L.c10) := X.cell 10
     have k11 : w3.cell? ⟨w.heap.size, 11, none⟩ = some (.slice L.A11 x.f11.length L.c11) := X.cell 11
     have k12 : w3.cell? ⟨w.heap.size, 12, none⟩ = some (.slice L.A12 x.f12.length L.c12) := X.cell 12
     go_wp2
     go_ret
     exact ⟨rfl, X.x2⟩
    ·clear hm he hc
     go_wp2_with fail
     refine HEW.out.mono ?_
     rintro e w3 ⟨v0, rfl, hR, hB3⟩
     obtain ⟨A0, c0, rfl⟩ := Kd.R_slice hR
     replace X := X.below hB3
     clear hR hB3 k10 k11 k12 k14
     have k10 : w3.cell? ⟨w.heap.size, 10, none⟩ = some (.slice L.A10 x.f10.length L.c10) := X.cell 10
     have k11 : w3.cell? ⟨w.heap.size, 11, none⟩ = some (.slice L.A11 x.f11.length L.c11) := X.cell 11
     have k12 : w3.cell? ⟨w.heap.size, 12, none⟩ = some (.slice L.A12 x.f12.length L.c12) := X.cell 12
     go_wp2
     go_ret
     exact ⟨rfl, X.x2⟩
  ·clear hz
   have HBT := Lh (fun (W' : World) (h : Below w.heap.size w W') => ropewalkref06_beat.calls x.f0 x.f1 x.f2 x.f3 x.f4 x.f5 x.f6 x.f7 x.f8 x.f9 L.A10 L.c10 x.f10 L.A11 L.c11 x.f11 L.A12 L.c12 x.f12 L.A13 L.c13 x.f13 L.A14 L.c14 x.f14 false W' (HXC.out W' h).h10 (HXC.out W' h).l10 (HXC.out W' h).h11 (HXC.out W' h).l11 (HXC.out W' h).h12 (HXC.out W' h).l12 (HXC.out W' h).h13 (HXC.out W' h).l13 (HXC.out W' h).h14 (HXC.out W' h).l14 (nobeat_f a4 _ _ _ _ _ _ _ _ _ _ _ _ _ _))
   go_wp2_with (with_reducible refine gate_dst (N := 19) rfl ?_; refine wpList_load_row rfl 41 (.tmp 1) rfl _ rfl 41 _ (0, 0) _ X.x0 Tryd.underlying41 rfl HXS.out ?_)
   refine (HBT.out _ X.x2).mono ?_
   rintro e w2 ⟨rfl, hB2⟩
   replace X := X.below hB2
   clear HBT
   clear a4
   go_upto_region 7 with (fail)
   refine wp_gen (B1 w x L) X ?_
   clear X k0 k10 k11 k12 k13 k14 q0
   intro W X
   have k10 : W.cell? ⟨w.heap.size, 10, none⟩ = some (.slice L.A10 x.f10.length L.c10) := X.cell 10
   have k11 : W.cell? ⟨w.heap.size, 11, none⟩ = some (.slice L.A11 x.f11.length L.c11) := X.cell 11
   have k12 : W.cell? ⟨w.heap.size, 12, none⟩ = some (.slice L.A12 x.f12.length L.c12) := X.cell 12
   have k14 : W.cell? ⟨w.heap.size, 14, none⟩ = some (.slice L.A14 x.f14.length L.c14) := X.cell 14
   by_cases hm : 4096 < x.f10.length ∨ 4096 < x.f11.length ∨ 4096 < x.f12.length
   ·have hc := HCD.out
    rw [if_pos hm] at hc
    have HEW := Lh (HEN.out W X.x2)
    generalize (encP x.f14).2 = ec at *
    subst hc
    go_wp2_with fail
    refine HEW.out.mono ?_
    rintro e w3 ⟨v0, rfl, hR, hB3⟩
    obtain ⟨A0, c0, rfl⟩ := Kd.R_slice hR
    replace X := X.below hB3
    clear hR hB3 k10 k11 k12 k14
    have k10 : w3.cell? ⟨w.heap.size, 10, none⟩ = some (.slice L.A10 x.f10.length L.c10) := X.cell 10
    have k11 : w3.cell? ⟨w.heap.size, 11, none⟩ = some (.slice L.A11 x.f11.length L.c11) := X.cell 11
    have k12 : w3.cell? ⟨w.heap.size, 12, none⟩ = some (.slice L.A12 x.f12.length L.c12) := X.cell 12
    go_wp2
    all_goals first | (exfalso; omega) | (go_ret; exact ⟨rfl, X.x2⟩)
   have b10 : decide ((4096 : Int) < (x.f10.length : Int)) = false := by simp; omega
   have b11 : decide ((4096 : Int) < (x.f11.length : Int)) = false := by simp; omega
   have b12 : decide ((4096 : Int) < (x.f12.length : Int)) = false := by simp; omega
   have HCE := Lh HCD.out
   rw [if_neg hm] at HCE
   have l10 : x.f10.length ≤ 4096 := by omega
   have l11 : x.f11.length ≤ 4096 := by omega
   have l12 : x.f12.length ≤ 4096 := by omega
   have HEW := Lh (HEN.out W X.x2)
   have he3 := encP_code x.f14
   by_cases he : (encP x.f14).2 = 0
   ·have HVL := Lh (fun (W' : World) (h : Below w.heap.size w W') => rvalue_calls W' x L (HXC.out W' h) HXE.out l10 l11 l12 HL13.out)
    rw [if_neg (fun e => e he)] at HCE
    rw [he] at HEW
    clear hm he he3
    go_wp2_with fail
    refine HEW.out.mono ?_
    rintro e w3 ⟨v0, rfl, hR, hB3⟩
    obtain ⟨A0, c0, rfl⟩ := Kd.R_slice hR
    replace X := X.below hB3
    clear hR hB3 k10 k11 k12 k14
    have k10 : w3.cell? ⟨w.heap.size, 10, none⟩ = some (.slice L.A10 x.f10.length L.c10) := X.cell 10
    have k11 : w3.cell? ⟨w.heap.size, 11, none⟩ = some (.slice L.A11 x.f11.length L.c11) := X.cell 11
    have k12 : w3.cell? ⟨w.heap.size, 12, none⟩ = some (.slice L.A12 x.f12.length L.c12) := X.cell 12
    go_wp2_with (with_reducible refine gate_dst (N := 64) rfl ?_; go_must (refine step_on (wanted_on rfl rfl rfl rfl) (exec_load_row 41 (.tmp 1) rfl rfl X.x0 Tryd.underlying41 rfl HXS.out) ?_))
    refine (HVL.out _ X.x2).mono ?_
    rintro e w5 ⟨v9, rfl, hR5, hB5⟩
    obtain ⟨A9, c9, rfl⟩ := Kd.R_slice hR5
    replace X := X.below hB5
    clear hR5 hB5
    generalize (valueD x).length = vl at *
    by_cases h2 : 65531 < vl
    ·have hc := HCE.out
     rw [if_pos h2] at hc
     subst hc
     go_wp2
     go_ret
     exact ⟨rfl, X.x2⟩
    ·have hc := HCE.out
     rw [if_neg h2] at hc
     subst hc
     go_wp2
     go_ret
     exact ⟨rfl, X.x2⟩
   ·have hc := HCE.out
    rw [if_pos he] at hc
    rw [hc] at HEW he he3
    rcases he3 with rfl | rfl | rfl
    ·exact absurd rfl he
    ·clear hm he hc
     go_wp2_with fail
     refine HEW.out.mono ?_
     rintro e w3 ⟨v0, rfl, hR, hB3⟩
     obtain ⟨A0, c0, rfl⟩ := Kd.R_slice hR
     replace X := X.below hB3
     clear hR hB3 k10 k11 k12 k14
     have k10 : w3.cell? ⟨w.heap.size, 10, none⟩ = some (.slice L.A10 x.f10.length L.c10) := X.cell 10
     have k11 : w3.cell? ⟨w.heap.size, 11, none⟩ = some (.slice L.A11 x.f11.length L.c11) := X.cell 11
     have k12 : w3.cell? ⟨w.heap.size, 12, none⟩ = some (.slice L.A12 x.f12.length L.c12) := X.cell 12
     go_wp2
     go_ret
     exact ⟨rfl, X.x2⟩
    ·clear hm he hc
     go_wp2_with fail
     refine HEW.out.mono ?_
     rintro e w3 ⟨v0, rfl, hR, hB3⟩
     obtain ⟨A0, c0, rfl⟩ := Kd.R_slice hR
     replace X := X.below hB3
     clear hR hB3 k10 k11 k12 k14
     have k10 : w3.cell? ⟨w.heap.size, 10, none⟩ = some (.slice L.A10 x.f10.length L.c10) := X.cell 10
     have k11 : w3.cell? ⟨w.heap.size, 11, none⟩ = some (.slice L.A11 x.f11.length L.c11) := X.cell 11
     have k12 : w3.cell? ⟨w.heap.size, 12, none⟩ = some (.slice L.A12 x.f12.length L.c12) := X.cell 12
     go_wp2
     go_ret
     exact ⟨rfl, X.x2⟩
end Go.Proofs.YtdlamomabonkjaaDoor.Ch
end
section
namespace Go.Proofs.YtdlamomabonkjaaDoor.Pk
open Go.RowKit YtdlamomabonkjaaDoorW.PrintWords YtdlamomabonkjaaDoorW.PrintLast Base PCh ParDec ParEnc Ch
theorem chkAll_of {l : List Chk} (h : ∀ x ∈ l, checkD x = 0) : chkAll l = 0 := by
 induction l with
 | nil => rfl
 | cons x r ih =>
  unfold chkAll
  rw [if_pos (h x List.mem_cons_self)]
  exact ih fun y hy => h y (List.mem_cons_of_mem _ hy)
end Go.Proofs.YtdlamomabonkjaaDoor.Pk
end
section
namespace Go.Proofs.YtdlamomabonkjaaDoor.Pk
open Go.RowKit YtdlamomabonkjaaDoorW.PrintWords YtdlamomabonkjaaDoorW.PrintLast Base PCh ParDec ParEnc Ch Crc CrcMath
theorem put_take (l : List UInt8) (h : 12 ≤ l.length) : (putL l).take 8 = l.take 8 ∧ (putL l).drop 12 = l.drop 12 := by
 rw [putL_eq, puts_four _ _ h]
 have h8 : (l.take 8).length = 8 := by rw [List.length_take]; omega
 constructor
 ·rw [List.append_assoc, List.take_append_of_le_length (by omega), List.take_of_length_le (by omega)]
 ·rw [List.drop_append]
  simp [h8]
theorem allL_back {l : List Chk} {b : List UInt8} (hok : ∀ x ∈ l, OkC x ∧ checkD x = 0) (hb : ints b = flatL l) : allL b = (l, 0, 0) := by
 have := all_back l (b.length + 1) 0 b [] hok (by rw [List.drop_zero]; exact hb) (Nat.zero_le _) (by omega)
 unfold allL
 rw [this, List.nil_append]
theorem flat_pos (x : Chk) (l : List Chk) : 4 ≤ (flatL (x :: l)).length := by
 rw [flatL, List.length_append, chunkL_len]
 omega
structure PkOk (f t q : Int) (l : List Chk) : Prop where
 f0 : 0 < f
 f1 : f < 65536
 t0 : 0 < t
 t1 : t < 65536
 q : in32 q
 ok : ∀ x ∈ l, OkC x
theorem penc_good {f t q : Int} {l : List Chk} (h : (pencD f t q l).2 = 0) : 0 < f ∧ 0 < t ∧ l.length ≠ 0 ∧ apartB l = false ∧ (encD l).2 = 0 ∧ 12 + (encD l).1.length ≤ 65536 ∧ (pencD f t q l).1 = putL (bytesOf (headL f t q ++ (encD l).1)) := by
 unfold pencD at h ⊢
 by_cases h1 : (decide (0 < f) && decide (0 < t)) = false
 ·rw [if_pos h1] at h; cases h
 rw [if_neg h1] at h ⊢
 have h1' : 0 < f ∧ 0 < t := by simpa using h1
 by_cases h2 : l.length = 0
 ·rw [if_pos h2] at h; cases h
 rw [if_neg h2] at h ⊢
 by_cases h3 : apartB l = true
 ·rw [if_pos h3] at h; cases h
 rw [if_neg h3] at h ⊢
 by_cases h4 : (encD l).2 = 0
 ·rw [if_pos h4] at h ⊢
  by_cases h5 : 65536 < 12 + (encD l).1.length
  ·rw [if_pos h5] at h; cases h
  rw [if_neg h5]
  exact ⟨h1'.1, h1'.2, h2, Bool.eq_false_iff.2 h3, h4, by omega, rfl⟩
 ·rw [if_neg h4] at h; exact absurd h h4
theorem penc_ok {f t q : Int} {l : List Chk} (h1 : 0 < f) (h2 : 0 < t) (h3 : l.length ≠ 0) (h4 : apartB l = false) (h5 : (encD l).2 = 0) (h6 : 12 + (encD l).1.length ≤ 65536) : pencD f t q l = (putL (bytesOf (headL f t q ++ (encD l).1)), 0) := by
 unfold pencD
 rw [if_neg (by simp [h1, h2]), if_neg h3, if_neg (by rw [h4]; exact Bool.false_ne_true), if_pos h5, if_neg (by omega)]
theorem in16_of {f : Int} (h0 : 0 < f) (h1 : f < 65536) : in16 f := ⟨by omega, h1⟩
theorem pback {f t q : Int} {l : List Chk} (hk : PkOk f t q l) (h : (pencD f t q l).2 = 0) : preadD (pencD f t q l).1 true = ⟨f, t, q, l, 0, 0⟩ ∧ 12 < (pencD f t q l).1.length ∧ (pencD f t q l).1.length ≤ 65536 := by
 obtain ⟨_, _, hl, hap, he, hlen, hb⟩ := penc_good h
 obtain ⟨hck, hfl, _⟩ := enc_good he
 rw [hb]
 have hin : ∀ b ∈ headL f t q ++ (encD l).1, inB b := app_in (head_in f t q) (enc_in hk.ok)
 obtain ⟨hs, hhs⟩ : ∃ hs, bytesOf (headL f t q ++ (encD l).1) = hs := ⟨_, rfl⟩
 have hi : ints hs = headL f t q ++ (encD l).1 := by rw [← hhs]; exact ints_bytesOf _ hin
 rw [hhs]
 have hln : hs.length = 12 + (encD l).1.length := by rw [← ints_length, hi, List.length_append, headL_length]
 obtain ⟨p8, p12⟩ := put_take hs (by omega)
 have hpl := putL_length hs
 have hi0 : ints hs = twoL [f] ++ (twoL [t] ++ (fourL [q] ++ (fourL [0] ++ (encD l).1))) := by rw [hi]; unfold headL; simp only [List.append_assoc]
 obtain ⟨b1, r1⟩ := be2 hi0 (in16_of hk.f0 hk.f1)
 obtain ⟨b2, r2⟩ := be2 r1 (in16_of hk.t0 hk.t1)
 obtain ⟨b3, r3⟩ := be4 r2 hk.q
 obtain ⟨b4, r4⟩ := be4 r3 z32
 rw [List.drop_drop, List.drop_drop, List.drop_drop] at r4
 have hF : ((hdF (putL hs) : Nat) : Int) = f := by
  unfold hdF
  rw [← b1, show (putL hs).take 2 = ((putL hs).take 8).take 2 by rw [List.take_take]; rfl, p8, List.take_take]
  rfl
 have hT : ((hdT (putL hs) : Nat) : Int) = t := by
  unfold hdT
  rw [← b2, show ((putL hs).drop 2).take 2 = (((putL hs).take 8).drop 2).take 2 by rw [List.drop_take, List.take_take]; rfl, p8, List.drop_take, List.take_take]
  rfl
 have hQ : ((hdQ (putL hs) : Nat) : Int) = q := by
  unfold hdQ
  rw [← b3, List.drop_drop, List.drop_drop, show ((putL hs).drop (2 + 2)).take 4 = (((putL hs).take 8).drop (2 + 2)).take 4 by rw [List.drop_take, List.take_take]; rfl, p8, List.drop_take, List.take_take]
  rfl
 have hH : headE (putL hs) = 0 := by
  unfold headE
  rw [if_neg (by omega), if_pos (check_put hs (by omega)), if_pos]
  rw [hF, hT]
  have := hk.f0
  have := hk.t0
  simp [*]
 have hA : allL ((putL hs).drop 12) = (l, 0, 0) := by
  rw [p12]
  refine allL_back (fun x hx => ⟨hk.ok x hx, hck x hx⟩) ?_
  rw [← hfl]
  exact r4
 have hpos : 4 ≤ (encD l).1.length := by
  rw [hfl]
  cases l with
  | nil => exact absurd rfl hl
  | cons x r => exact flat_pos x r
 refine ⟨?_, by omega, by omega⟩
 unfold preadD
 rw [if_pos hH, if_neg (by decide), if_neg (by rw [List.length_drop]; omega), hA, if_pos rfl, if_neg (by rw [hap]; exact Bool.false_ne_true), hF, hT, hQ]
theorem all_check (b : List UInt8) : ∀ (n at_ : Nat) (acc : List Chk), (∀ x ∈ acc, checkD x = 0) → ∀ x ∈ (allD n b at_ acc).1, checkD x = 0 := by
 intro n
 induction n with
 | zero => intro at_ acc h; exact h
 | succ n ih =>
  intro at_ acc h
  unfold allD
  by_cases hl : at_ < b.length
  ·rw [if_pos hl]
   by_cases he : (decC (b.drop at_)).2.2 ≠ 0
   ·rw [if_pos he]; intro x hx; cases hx
   ·rw [if_neg he]
    refine ih _ _ (fun x hx => ?_)
    rcases List.mem_append.1 hx with hx | hx
    ·exact h x hx
    ·rw [List.mem_singleton.1 hx]
     exact (dec_may (by omega)).2
  ·rw [if_neg hl]; exact h
theorem all_grow (b : List UInt8) : ∀ (n at_ : Nat) (acc : List Chk), (allD n b at_ acc).2.2 = 0 → acc.length ≤ (allD n b at_ acc).1.length := by
 intro n
 induction n with
 | zero => intro at_ acc h; exact Nat.le_refl _
 | succ n ih =>
  intro at_ acc h
  unfold allD at h ⊢
  by_cases hl : at_ < b.length
  ·rw [if_pos hl] at h ⊢
   by_cases he : (decC (b.drop at_)).2.2 ≠ 0
   ·rw [if_pos he] at h; exact absurd h he
   ·rw [if_neg he] at h ⊢
    have := ih _ _ h
    rw [List.length_append] at this
    omega
  ·rw [if_neg hl]; exact Nat.le_refl _
theorem all_some (b : List UInt8) (hn : ¬ b.length = 0) (h : (allL b).2.2 = 0) : (allL b).1.length ≠ 0 := by
 unfold allL at h ⊢
 rw [allD, if_pos (by omega)] at h ⊢
 by_cases he : (decC (b.drop 0)).2.2 ≠ 0
 ·rw [if_pos he] at h; exact absurd h he
 ·rw [if_neg he] at h ⊢
  have := all_grow b _ _ _ h
  intro h0
  rw [h0] at this
  simp at this
theorem pread_good {b : List UInt8} (h : (preadD b true).e = 0) : PkOk (preadD b true).f (preadD b true).t (preadD b true).q (preadD b true).l ∧ (preadD b true).a = 0 ∧ (∀ x ∈ (preadD b true).l, checkD x = 0) ∧ ((preadD b true).l).length ≠ 0 ∧ apartB (preadD b true).l = false := by
 unfold preadD at h ⊢
 by_cases hh : headE b = 0
 ·rw [if_pos hh, if_neg (by decide)] at h ⊢
  by_cases hn : (b.drop 12).length = 0
  ·rw [if_pos hn] at h; cases h
  rw [if_neg hn] at h ⊢
  by_cases he : (allL (b.drop 12)).2.2 = 0
  ·rw [if_pos he] at h ⊢
   by_cases ha : apartB (allL (b.drop 12)).1 = true
   ·rw [if_pos ha] at h; cases h
   rw [if_neg ha] at h ⊢
   have hp : 0 < hdF b ∧ 0 < hdT b := by
    unfold headE at hh
    obtain ⟨_, h6, hc⟩ := head_len (show headE b = 0 from hh)
    rw [if_neg (by omega), if_pos hc] at hh
    by_cases hq : (decide (0 < (hdF b : Int)) && decide (0 < (hdT b : Int))) = true
    ·simp at hq; exact hq
    ·rw [if_neg hq] at hh; cases hh
   have h2 : hdF b < 65536 := be_lt2 _ (by rw [List.length_take]; omega)
   have h3 : hdT b < 65536 := be_lt2 _ (by rw [List.length_take]; omega)
   have hall := all_may (b.drop 12) ((b.drop 12).length + 1) 0 [] (fun x hx => by cases hx)
   have hne := all_some (b.drop 12) hn he
   refine ⟨⟨by dsimp only; omega, by dsimp only; omega, by dsimp only; omega, by dsimp only; omega, be4_in _, hall⟩, rfl, ?_, hne, Bool.eq_false_iff.2 ha⟩
   exact all_check (b.drop 12) ((b.drop 12).length + 1) 0 [] (fun x hx => by cases hx)
  ·rw [if_neg he] at h; exact absurd h he
 ·rw [if_neg hh] at h; exact absurd h hh
theorem pread_bad {b : List UInt8} (h : (preadD b true).e ≠ 0) : (preadD b true).l = [] := by
 unfold preadD at h ⊢
 by_cases hh : headE b = 0
 ·rw [if_pos hh, if_neg (by decide)] at h ⊢
  by_cases hn : (b.drop 12).length = 0
  ·rw [if_pos hn]; rfl
  rw [if_neg hn] at h ⊢
  by_cases he : (allL (b.drop 12)).2.2 = 0
  ·rw [if_pos he] at h ⊢
   by_cases ha : apartB (allL (b.drop 12)).1 = true
   ·rw [if_pos ha]; rfl
   rw [if_neg ha] at h; exact absurd rfl h
  ·rw [if_neg he]; rfl
 ·rw [if_neg hh]; rfl
theorem penc_may {f t q : Int} {l : List Chk} (hf : 0 < f) (ht : 0 < t) (hc : ∀ x ∈ l, checkD x = 0) (hl : l.length ≠ 0) (ha : apartB l = false) : (pencD f t q l).2 = 0 ∨ (pencD f t q l).2 = 2 := by
 unfold pencD
 rw [if_neg (by simp [hf, ht]), if_neg hl, if_neg (by rw [ha]; exact Bool.false_ne_true)]
 by_cases h4 : (encD l).2 = 0
 ·rw [if_pos h4]
  by_cases h5 : 65536 < 12 + (encD l).1.length
  ·rw [if_pos h5]; exact Or.inr rfl
  ·rw [if_neg h5]; exact Or.inl rfl
 ·rw [if_neg h4]
  right
  have h2 : encD l = runE [] l := by unfold encD; rw [if_pos (chkAll_of hc)]
  show (encD l).2 = 2
  rw [h2] at h4 ⊢
  have key : ∀ (r : List Chk) (acc : List Int), (runE acc r).2 = 0 ∨ (runE acc r).2 = 2 := by
   intro r
   induction r with
   | nil => intro acc; exact Or.inl rfl
   | cons x r ih =>
    intro acc
    unfold runE
    by_cases h : 65536 < (acc ++ chunkL x).length
    ·rw [if_pos h]; exact Or.inr rfl
    ·rw [if_neg h]; exact ih _
  rcases key l [] with h | h
  ·exact absurd h h4
  ·exact h
end Go.Proofs.YtdlamomabonkjaaDoor.Pk
end
section
namespace Go.Proofs.YtdlamomabonkjaaDoor.Pk
open Go.RowKit YtdlamomabonkjaaDoorW.PrintWords YtdlamomabonkjaaDoorW.PrintLast Base PCh ParDec ParEnc Ch Crc CrcMath
theorem chk_size (x : Chk) (L : Lay) : (Tryd.prog.info? 41).map (·.size) = some (CV x L).size := by kernel_rfl
end Go.Proofs.YtdlamomabonkjaaDoor.Pk
end
section
namespace Go.Proofs.YtdlamomabonkjaaDoor.Ch
open Go.RowKit YtdlamomabonkjaaDoorW.PrintWords YtdlamomabonkjaaDoorW.PrintLast Base PCh ParDec
theorem inB_ints (l : List UInt8) : ∀ b ∈ intsL l, inB b := fun b hb => by
 unfold intsL at hb
 obtain ⟨x, _, rfl⟩ := List.mem_map.1 hb
 have := x.toNat_lt
 unfold inB
 omega
theorem prmsD_ok {v : List UInt8} {ps : List PrmS} (h : prmsD v = .ok ps) : ∀ p ∈ ps, ∀ b ∈ p.f1, inB b := by
 unfold prmsD at h
 by_cases e : (decD v).2.2 = 0
 ·rw [if_pos e] at h
  injection h with h
  subst h
  exact fun p hp b hb => ((dec_ok v e).2.1 p hp).2.2.2 b hb
 ·rw [if_neg e] at h
  cases h
theorem readD_okB {kd fl : Int} {v : List UInt8} {d : Chk} (h : readD kd fl v = .ok d) : OkB d := by
 have nb : ∀ b ∈ ([] : List Int), inB b := fun _ h => by cases h
 have np : ∀ p ∈ ([] : List PrmS), ∀ b ∈ p.f1, inB b := fun _ h => by cases h
 unfold readD readData readInit readLists readPrms readShut readNone readBody at h
 repeat' split at h
 all_goals first | (cases h; done) | (injection h with h; subst h; first | exact ⟨nb, np⟩ | exact ⟨inB_ints _, np⟩ | (rename_i e; exact ⟨nb, prmsD_ok e⟩) | (rename_i e _; exact ⟨nb, prmsD_ok e⟩))
theorem dec_okB (b : List UInt8) : OkB (decC b).1 := by
 have n0 : OkB (chk0 0 0) := ⟨fun _ h => (by cases h), fun _ h => (by cases h)⟩
 unfold decC
 split
 ·exact n0
 ·split
  ·exact n0
  ·split
   ·exact n0
   ·rename_i e
    exact readD_okB e
theorem all_okB (b : List UInt8) : ∀ (n at_ : Nat) (acc : List Chk), (∀ x ∈ acc, OkB x) → ∀ x ∈ (allD n b at_ acc).1, OkB x := by
 intro n
 induction n with
 | zero => intro at_ acc h; exact h
 | succ n ih =>
  intro at_ acc h
  unfold allD
  split
  ·split
   ·intro x hx; cases hx
   ·refine ih _ _ ?_
    intro x hx
    rcases List.mem_append.1 hx with hx | hx
    ·exact h x hx
    ·rw [List.mem_singleton.1 hx]
     exact dec_okB _
  ·exact h
end Go.Proofs.YtdlamomabonkjaaDoor.Ch
end
section
namespace Go.Proofs.YtdlamomabonkjaaDoor.Ch
open Go.RowKit YtdlamomabonkjaaDoorW.PrintWords YtdlamomabonkjaaDoorW.PrintLast Base PCh ParDec
def schT6 : Bool × List (List Nat × List Nat) := (true, [([], []), ([], []), ([0, 1], [0, 1]), ([2], [2]), ([], []), ([], []), ([4, 5], [4, 5]), ([6], [6]), ([3, 7], [3, 7]), ([8], [8])])
def schB6 : List Nat := [0, 0, 3, 7, 0, 0, 48, 112, 255, 511]
theorem schtab6 : Go.Proofs.YtdlamomabonkjaaDoorW.PrintLast.rtab .any (Go.Proofs.YtdlamomabonkjaaDoorW.PrintLast.opsOf Tryd.f25 6) = schT6 := by kernel_rfl
theorem schbits6 : Go.Proofs.YtdlamomabonkjaaDoorW.PrintLast.waitsOk schT6.2 schB6 = true := by kernel_rfl
set_option maxHeartbeats 4000000 in
theorem schunks_calls (w : World) (A B' : Option Addr) (c d : Nat) (xs ys : List Chk) (hx : Kd.C k41 w A xs.length xs) (hy : Kd.C k41 w B' ys.length ys) (ox : ∀ x ∈ xs, OkB x) (oy : ∀ y ∈ ys, OkB y) :
  Calls Tryd.prog 25 #[.slice A xs.length c, .slice B' ys.length d] w fun e w' => e = .returned (.bool (decide (xs = ys))) ∧ Below w.heap.size w w' := by
 have hmx := hx.2.1
 have hmy := hy.2.1
 have HX := Lh (fun (W : World) (h : Below w.heap.size w W) => Kd.C_below hx h)
 have HY := Lh (fun (W : World) (h : Below w.heap.size w W) => Kd.C_below hy h)
 have HOX := Lh ox
 have HOY := Lh oy
 clear hx hy ox oy
 by_cases hl : xs.length = ys.length
 ·have q : ((xs.length : Int) != (ys.length : Int)) = false := by simp [hl]
  have HL := Lh hl
  clear hl
  go_enter Tryd.func25, Tryd.ntmps25
  go_wp2
  go_loopw [5] (fun v5 wr => ∃ i : Nat, i ≤ xs.length ∧ v5 = .int .i64 (i : Int) ∧ Hid (decide (xs = ys) = decide (xs.drop i = ys.drop i)) ∧ Hid (Below w.heap.size w wr)) (fun v5 _ => xs.length - (intOf v5).toNat)
  case atStart => exact ⟨0, Nat.zero_le _, rfl, rfl, Below.refl _ _⟩
  case round =>
   obtain ⟨i, hi, rfl, HS, HB⟩ := hrel
   by_cases hlt : i < xs.length
   ·have hlt' : i < ys.length := by have := HL.out; omega
    obtain ⟨ax, x, L, rfl, hdx, hxm, hcx, hxr⟩ := chk_at (HX.out _ HB.out) i hlt
    obtain ⟨ay, y, M, rfl, hdy, hym, hcy, hyr⟩ := chk_at (HY.out _ HB.out) i hlt'
    have hd := HS.out
    rw [hdx, hdy] at hd
    have HSM := Lh (fun (W : World) (h : Below wr.heap.size wr W) => rsame_calls W x y L M (hxr.below h) (hyr.below h) (HOX.out x hxm) (HOY.out y hym))
    have HXS := Lh (show (Tryd.prog.info? 41).map (·.size) = some (CV x L).size by kernel_rfl)
    have HYS := Lh (show (Tryd.prog.info? 41).map (·.size) = some (CV y M).size by kernel_rfl)
    have HLX := Lh hcx
    have HLY := Lh hcy
    have s2 : (x :: xs.drop (i + 1) = y :: ys.drop (i + 1)) = (x = y ∧ xs.drop (i + 1) = ys.drop (i + 1)) := by simp
    have HD := Lh hd
    have HS2 := Lh s2
    clear hd s2 hcx hcy hxr hyr hdx hdy hxm hym
    by_cases hxy : x = y
    ·have HDD := Lh (show decide (xs = ys) = decide (xs.drop (i + 1) = ys.drop (i + 1)) by rw [HD.out]; exact decide_eq_decide.2 (by rw [HS2.out]; simp [hxy]))
     rw [decide_eq_true hxy] at HSM
     clear HD HS2 hxy HS
     generalize CV x L = CX at *
     generalize CV y M = CY at *
     obtain ⟨q, hq⟩ : ∃ q, q = true := ⟨_, rfl⟩
     rw [← hq] at HSM
     have HQ := Lh hq
     clear hq
     have HN2 := HB
     go_upto_region 6 with (fail)
     generalize wr = W at *
     have B := True.intro
     refine start_ (n := 10) (S := fun w' => True) (ds := []) #[false, false, false, false, false, false, false, false, false, false] (by kernel_rfl) rfl rfl trivial (fun hHeld => ?_)
     refine with_tabW schtab6 schbits6 (fun HT_ HW_ => ?_)
     refine pure_ (i := 0) (N := some 17) (v := ?_) (a' := ?_) #[true, false, false, false, false, false, false, false, false, false] rfl rfl (any_of HT_.out (by kernel_rfl)) (fun _ _ _ h => h) (Or.inl ⟨by rfl, ?_⟩) ?_ ?_
     rotate_left
     ·intro w'
      go_simp
      with_reducible rfl
     rotate_left
     ·simp only [Act.put, List.setIfInBounds_toArray, List.set_cons_zero, List.set_cons_succ, i64_w, i32_w]
      rfl
     refine pure_ (i := 1) (N := some 18) (v := ?_) (a' := ?_) #[true, true, false, false, false, false, false, false, false, false] rfl rfl (any_of HT_.out (by kernel_rfl)) (fun _ _ _ h => h) (Or.inl ⟨by rfl, ?_⟩) ?_ ?_
     rotate_left
     ·intro w'
      go_simp
      with_reducible rfl
     rotate_left
     ·simp only [Act.put, List.setIfInBounds_toArray, List.set_cons_zero, List.set_cons_succ, i64_w, i32_w]
      rfl
     refine pure_ (i := 4) (N := some 21) (v := ?_) (a' := ?_) #[true, true, false, false, true, false, false, false, false, false] rfl rfl (any_of HT_.out (by kernel_rfl)) (fun _ _ _ h => h) (Or.inl ⟨by rfl, ?_⟩) ?_ ?_
     rotate_left
     ·intro w'
      go_simp
      with_reducible rfl
     rotate_left
     ·simp only [Act.put, List.setIfInBounds_toArray, List.set_cons_zero, List.set_cons_succ, i64_w, i32_w]
      rfl
     refine pure_ (i := 5) (N := some 22) (v := ?_) (a' := ?_) #[true, true, false, false, true, true, false, false, false, false] rfl rfl (any_of HT_.out (by kernel_rfl)) (fun _ _ _ h => h) (Or.inl ⟨by rfl, ?_⟩) ?_ ?_
     rotate_left
     ·intro w'
      go_simp
      with_reducible rfl
     rotate_left
     ·simp only [Act.put, List.setIfInBounds_toArray, List.set_cons_zero, List.set_cons_succ, i64_w, i32_w]
      rfl
     refine inv_at [2, 3, 6, 7, 8, 9] (fun a0_ b a w' => a = putSel a0_ b [(2, 19, .pointer (some (ax.add (i * 15)))), (3, 20, .agg CX), (6, 23, .pointer (some (ay.add (i * 15)))), (7, 24, .agg CY), (8, 25, .bool q), (9, 26, .bool (!q))] ∧ (Below W.heap.size W w')) HT_.out HW_.out (by kernel_rfl) (by kernel_rfl) ?_ ?_ ?_
     ·exact ⟨by simp only [putSel, Bool.false_eq_true, if_false], below_drew (Below.refl _ _)⟩
     ·skip
      clear B
      refine steps_cons ?_ ?_
      ·rintro b a w' ⟨ha, Q_B⟩ hb_ hon hoff
       refine ⟨_, rfl, fun K hK => ?_⟩
       have e17 : a.tmps[17]? = some (.slice (some ax) xs.length c) := by rw [ha]; exact (putSel_off rfl).trans rfl
       have e18 : a.tmps[18]? = some (.int .i64 (i : Int)) := by rw [ha]; exact (putSel_off rfl).trans rfl
       replace ha := Am ha
       refine value_ (w1 := w') (v := .pointer (some (ax.add (i * 15)))) (by rfl) rfl ?_ ?_
       ·go_simp
        (try simp only [i64_w])
        try rfl
       refine hK.out _ _ ⟨(puk ha 0 hb_ rfl rfl rfl), Q_B⟩
      refine steps_cons ?_ ?_
      ·rintro b a w' ⟨ha, Q_B⟩ hb_ hon hoff
       refine ⟨_, rfl, fun K hK => ?_⟩
       have e19 := psn ha 0 rfl rfl (hon 2 (by kernel_rfl)) rfl
       replace ha := Am ha
       have B := Am Q_B
       refine value_ (w1 := w') (v := .agg CX) (by rfl) rfl (exec_load_cells 41 (.tmp 19) rfl (eval_of e19) CX _ (fun j v hv => pw_cell_below B.out (HLX.out j v hv)) Tryd.underlying41 rfl HXS.out) ?_
       refine hK.out _ _ ⟨(puk ha 1 hb_ rfl rfl rfl), B.out⟩
      refine steps_cons ?_ ?_
      ·rintro b a w' ⟨ha, Q_B⟩ hb_ hon hoff
       refine ⟨_, rfl, fun K hK => ?_⟩
       have e21 : a.tmps[21]? = some (.slice (some ay) ys.length d) := by rw [ha]; exact (putSel_off rfl).trans rfl
       have e22 : a.tmps[22]? = some (.int .i64 (i : Int)) := by rw [ha]; exact (putSel_off rfl).trans rfl
       replace ha := Am ha
       refine value_ (w1 := w') (v := .pointer (some (ay.add (i * 15)))) (by rfl) rfl ?_ ?_
       ·go_simp
        (try simp only [i64_w])
        try rfl
       refine hK.out _ _ ⟨(puk ha 2 hb_ rfl rfl rfl), Q_B⟩
      refine steps_cons ?_ ?_
      ·rintro b a w' ⟨ha, Q_B⟩ hb_ hon hoff
       refine ⟨_, rfl, fun K hK => ?_⟩
       have e23 := psn ha 2 rfl rfl (hon 6 (by kernel_rfl)) rfl
       replace ha := Am ha
       have B := Am Q_B
       refine value_ (w1 := w') (v := .agg CY) (by rfl) rfl (exec_load_cells 41 (.tmp 23) rfl (eval_of e23) CY _ (fun j v hv => pw_cell_below B.out (HLY.out j v hv)) Tryd.underlying41 rfl HYS.out) ?_
       refine hK.out _ _ ⟨(puk ha 3 hb_ rfl rfl rfl), B.out⟩
      refine steps_cons ?_ ?_
      ·rintro b a w' ⟨ha, Q_B⟩ hb_ hon hoff
       refine ⟨_, rfl, fun K hK => ?_⟩
       have e20 := psn ha 1 rfl rfl (hon 3 (by kernel_rfl)) rfl
       have e24 := psn ha 3 rfl rfl (hon 7 (by kernel_rfl)) rfl
       replace ha := Am ha
       have B := Am Q_B
       refine goes_ Tryd.func32 (by kernel_rfl) rfl #[.agg CX, .agg CY] (by rfl) rfl rfl (by first | (simp only [List.map_toArray, List.map_cons, List.map_nil, Act.eval, Array.getD_eq_getD_getElem?, Option.getD_some, e20, e24]; done) | (simp only [List.map_toArray, List.map_cons, List.map_nil, Act.eval, Array.getD_eq_getD_getElem?, Option.getD_some, e20, e24]; rfl)) ?_
       refine (HSM.out w' B.out).mono ?_
       rintro e w1 ⟨rfl, hB1⟩
       refine ⟨_, rfl, ?_⟩
       refine hK.out _ _ ⟨(puk ha 4 hb_ rfl rfl rfl), below_then B.out B.out.size hB1⟩
      refine steps_cons ?_ ?_
      ·rintro b a w' ⟨ha, Q_B⟩ hb_ hon hoff
       refine ⟨_, rfl, fun K hK => ?_⟩
       have e25 := psn ha 4 rfl rfl (hon 8 (by kernel_rfl)) rfl
       replace ha := Am ha
       refine value_ (w1 := w') (v := .bool (!q)) (by rfl) rfl ?_ ?_
       ·go_simp
        (try simp only [i64_w])
        try rfl
       refine hK.out _ _ ⟨(puk ha 5 hb_ rfl rfl rfl), Q_B⟩
      exact steps_nil
     rintro b a w' hall ⟨ha, Q_B⟩
     clear B
     have hb2_ := hall 2 (by kernel_rfl)
     have hb3_ := hall 3 (by kernel_rfl)
     have hb6_ := hall 6 (by kernel_rfl)
     have hb7_ := hall 7 (by kernel_rfl)
     have hb8_ := hall 8 (by kernel_rfl)
     have hb9_ := hall 9 (by kernel_rfl)
     subst ha
     simp only [putSel, hb2_, hb3_, hb6_, hb7_, hb8_, hb9_, if_true, Act.put, List.setIfInBounds_toArray, List.set_cons_zero, List.set_cons_succ]
     have B := Am Q_B
     clear Q_B
     clear hall hb2_ hb3_ hb6_ hb7_ hb8_ hb9_
     have HB2 := Lh (below_then HB.out HB.out.size B.out)
     rw [HQ.out]
     clear B HSM HLX HLY HQ HN2
     go_wp2
     go_roundw
     case rel => exact ⟨i + 1, by omega, by go_num, HDD, HB2⟩
     case measure => simp [intOf]; omega
    ·have HDD := Lh (show decide (xs = ys) = false by rw [HD.out]; exact decide_eq_false (fun e => hxy (HS2.out.mp e).1))
     rw [decide_eq_false hxy] at HSM
     clear HD HS2 hxy HS
     generalize CV x L = CX at *
     generalize CV y M = CY at *
     obtain ⟨q, hq⟩ : ∃ q, q = false := ⟨_, rfl⟩
     rw [← hq] at HSM
     have HQ := Lh hq
     clear hq
     go_upto_region 6 with (fail)
     generalize wr = W at *
     have B := True.intro
     refine start_ (n := 10) (S := fun w' => True) (ds := []) #[false, false, false, false, false, false, false, false, false, false] (by kernel_rfl) rfl rfl trivial (fun hHeld => ?_)
     refine with_tabW schtab6 schbits6 (fun HT_ HW_ => ?_)
     refine pure_ (i := 0) (N := some 17) (v := ?_) (a' := ?_) #[true, false, false, false, false, false, false, false, false, false] rfl rfl (any_of HT_.out (by kernel_rfl)) (fun _ _ _ h => h) (Or.inl ⟨by rfl, ?_⟩) ?_ ?_
     rotate_left
     ·intro w'
      go_simp
      with_reducible rfl
     rotate_left
     ·simp only [Act.put, List.setIfInBounds_toArray, List.set_cons_zero, List.set_cons_succ, i64_w, i32_w]
      rfl
     refine pure_ (i := 1) (N := some 18) (v := ?_) (a' := ?_) #[true, true, false, false, false, false, false, false, false, false] rfl rfl (any_of HT_.out (by kernel_rfl)) (fun _ _ _ h => h) (Or.inl ⟨by rfl, ?_⟩) ?_ ?_
     rotate_left
     ·intro w'
      go_simp
      with_reducible rfl
     rotate_left
     ·simp only [Act.put, List.setIfInBounds_toArray, List.set_cons_zero, List.set_cons_succ, i64_w, i32_w]
      rfl
     refine pure_ (i := 4) (N := some 21) (v := ?_) (a' := ?_) #[true, true, false, false, true, false, false, false, false, false] rfl rfl (any_of HT_.out (by kernel_rfl)) (fun _ _ _ h => h) (Or.inl ⟨by rfl, ?_⟩) ?_ ?_
     rotate_left
     ·intro w'
      go_simp
      with_reducible rfl
     rotate_left
     ·simp only [Act.put, List.setIfInBounds_toArray, List.set_cons_zero, List.set_cons_succ, i64_w, i32_w]
      rfl
     refine pure_ (i := 5) (N := some 22) (v := ?_) (a' := ?_) #[true, true, false, false, true, true, false, false, false, false] rfl rfl (any_of HT_.out (by kernel_rfl)) (fun _ _ _ h => h) (Or.inl ⟨by rfl, ?_⟩) ?_ ?_
     rotate_left
     ·intro w'
      go_simp
      with_reducible rfl
     rotate_left
     ·simp only [Act.put, List.setIfInBounds_toArray, List.set_cons_zero, List.set_cons_succ, i64_w, i32_w]
      rfl
     refine inv_at [2, 3, 6, 7, 8, 9] (fun a0_ b a w' => a = putSel a0_ b [(2, 19, .pointer (some (ax.add (i * 15)))), (3, 20, .agg CX), (6, 23, .pointer (some (ay.add (i * 15)))), (7, 24, .agg CY), (8, 25, .bool q), (9, 26, .bool (!q))] ∧ (Below W.heap.size W w')) HT_.out HW_.out (by kernel_rfl) (by kernel_rfl) ?_ ?_ ?_
     ·exact ⟨by simp only [putSel, Bool.false_eq_true, if_false], below_drew (Below.refl _ _)⟩
     ·skip
      clear B
      refine steps_cons ?_ ?_
      ·rintro b a w' ⟨ha, Q_B⟩ hb_ hon hoff
       refine ⟨_, rfl, fun K hK => ?_⟩
       have e17 : a.tmps[17]? = some (.slice (some ax) xs.length c) := by rw [ha]; exact (putSel_off rfl).trans rfl
       have e18 : a.tmps[18]? = some (.int .i64 (i : Int)) := by rw [ha]; exact (putSel_off rfl).trans rfl
       replace ha := Am ha
       refine value_ (w1 := w') (v := .pointer (some (ax.add (i * 15)))) (by rfl) rfl ?_ ?_
       ·go_simp
        (try simp only [i64_w])
        try rfl
       refine hK.out _ _ ⟨(puk ha 0 hb_ rfl rfl rfl), Q_B⟩
      refine steps_cons ?_ ?_
      ·rintro b a w' ⟨ha, Q_B⟩ hb_ hon hoff
       refine ⟨_, rfl, fun K hK => ?_⟩
       have e19 := psn ha 0 rfl rfl (hon 2 (by kernel_rfl)) rfl
       replace ha := Am ha
       have B := Am Q_B
       refine value_ (w1 := w') (v := .agg CX) (by rfl) rfl (exec_load_cells 41 (.tmp 19) rfl (eval_of e19) CX _ (fun j v hv => pw_cell_below B.out (HLX.out j v hv)) Tryd.underlying41 rfl HXS.out) ?_
       refine hK.out _ _ ⟨(puk ha 1 hb_ rfl rfl rfl), B.out⟩
      refine steps_cons ?_ ?_
      ·rintro b a w' ⟨ha, Q_B⟩ hb_ hon hoff
       refine ⟨_, rfl, fun K hK => ?_⟩
       have e21 : a.tmps[21]? = some (.slice (some ay) ys.length d) := by rw [ha]; exact (putSel_off rfl).trans rfl
       have e22 : a.tmps[22]? = some (.int .i64 (i : Int)) := by rw [ha]; exact (putSel_off rfl).trans rfl
       replace ha := Am ha
       refine value_ (w1 := w') (v := .pointer (some (ay.add (i * 15)))) (by rfl) rfl ?_ ?_
       ·go_simp
        (try simp only [i64_w])
        try rfl
       refine hK.out _ _ ⟨(puk ha 2 hb_ rfl rfl rfl), Q_B⟩
      refine steps_cons ?_ ?_
      ·rintro b a w' ⟨ha, Q_B⟩ hb_ hon hoff
       refine ⟨_, rfl, fun K hK => ?_⟩
       have e23 := psn ha 2 rfl rfl (hon 6 (by kernel_rfl)) rfl
       replace ha := Am ha
       have B := Am Q_B
       refine value_ (w1 := w') (v := .agg CY) (by rfl) rfl (exec_load_cells 41 (.tmp 23) rfl (eval_of e23) CY _ (fun j v hv => pw_cell_below B.out (HLY.out j v hv)) Tryd.underlying41 rfl HYS.out) ?_
       refine hK.out _ _ ⟨(puk ha 3 hb_ rfl rfl rfl), B.out⟩
      refine steps_cons ?_ ?_
      ·rintro b a w' ⟨ha, Q_B⟩ hb_ hon hoff
       refine ⟨_, rfl, fun K hK => ?_⟩
       have e20 := psn ha 1 rfl rfl (hon 3 (by kernel_rfl)) rfl
       have e24 := psn ha 3 rfl rfl (hon 7 (by kernel_rfl)) rfl
       replace ha := Am ha
       have B := Am Q_B
       refine goes_ Tryd.func32 (by kernel_rfl) rfl #[.agg CX, .agg CY] (by rfl) rfl rfl (by first | (simp only [List.map_toArray, List.map_cons, List.map_nil, Act.eval, Array.getD_eq_getD_getElem?, Option.getD_some, e20, e24]; done) | (simp only [List.map_toArray, List.map_cons, List.map_nil, Act.eval, Array.getD_eq_getD_getElem?, Option.getD_some, e20, e24]; rfl)) ?_
       refine (HSM.out w' B.out).mono ?_
       rintro e w1 ⟨rfl, hB1⟩
       refine ⟨_, rfl, ?_⟩
       refine hK.out _ _ ⟨(puk ha 4 hb_ rfl rfl rfl), below_then B.out B.out.size hB1⟩
      refine steps_cons ?_ ?_
      ·rintro b a w' ⟨ha, Q_B⟩ hb_ hon hoff
       refine ⟨_, rfl, fun K hK => ?_⟩
       have e25 := psn ha 4 rfl rfl (hon 8 (by kernel_rfl)) rfl
       replace ha := Am ha
       refine value_ (w1 := w') (v := .bool (!q)) (by rfl) rfl ?_ ?_
       ·go_simp
        (try simp only [i64_w])
        try rfl
       refine hK.out _ _ ⟨(puk ha 5 hb_ rfl rfl rfl), Q_B⟩
      exact steps_nil
     rintro b a w' hall ⟨ha, Q_B⟩
     clear B
     have hb2_ := hall 2 (by kernel_rfl)
     have hb3_ := hall 3 (by kernel_rfl)
     have hb6_ := hall 6 (by kernel_rfl)
     have hb7_ := hall 7 (by kernel_rfl)
     have hb8_ := hall 8 (by kernel_rfl)
     have hb9_ := hall 9 (by kernel_rfl)
     subst ha
     simp only [putSel, hb2_, hb3_, hb6_, hb7_, hb8_, hb9_, if_true, Act.put, List.setIfInBounds_toArray, List.set_cons_zero, List.set_cons_succ]
     have B := Am Q_B
     clear Q_B
     clear hall hb2_ hb3_ hb6_ hb7_ hb8_ hb9_
     have HB2 := Lh (below_then HB.out HB.out.size B.out)
     rw [HQ.out]
     clear B HSM HLX HLY HQ
     go_wp2
     go_ret
     exact ⟨by rw [HDD.out]; try rfl, HB2.out⟩
   ·obtain rfl : i = xs.length := by omega
    have HD := Lh (show decide (xs = ys) = true by rw [HS.out, List.drop_length, HL.out, List.drop_length]; rfl)
    go_wp2
    go_ret
    exact ⟨by rw [HD.out]; try rfl, HB.out⟩
 ·have HD := Lh (show decide (xs = ys) = false from decide_eq_false (fun e => hl (congrArg List.length e)))
  have hl2 : ¬ (xs.length : Int) = (ys.length : Int) := by omega
  go_enter Tryd.func25, Tryd.ntmps25
  go_wp2
  go_ret
  exact ⟨by rw [HD.out]; try rfl, Below.refl _ _⟩
end Go.Proofs.YtdlamomabonkjaaDoor.Ch
end
section
namespace Go.Proofs.YtdlamomabonkjaaDoor.Pk
open Go.RowKit YtdlamomabonkjaaDoorW.PrintWords YtdlamomabonkjaaDoorW.PrintLast Base PCh ParDec ParEnc Ch Crc CrcMath
set_option maxHeartbeats 2000000 in
theorem rpsame_calls (w : World) (f t q f2 t2 q2 : Int) (A B : Option Addr) (c d : Nat) (l l2 : List Chk) (hl : Kd.C k41 w A l.length l) (hl2 : Kd.C k41 w B l2.length l2) (ho : ∀ x ∈ l, OkB x) (ho2 : ∀ x ∈ l2, OkB x) :
  Calls Tryd.prog 14 #[.agg #[.int .u16 f, .int .u16 t, .int .u32 q, .slice A l.length c], .agg #[.int .u16 f2, .int .u16 t2, .int .u32 q2, .slice B l2.length d]] w fun e w' => e = .returned (.bool ((f == f2 && t == t2 && q == q2) && decide (l = l2))) ∧ Below w.heap.size w w' := by
 have HE := Lh (fun (W : World) (hW : Below w.heap.size w W) => schunks_calls W A B c d l l2 (Kd.C_below hl hW) (Kd.C_below hl2 hW) ho ho2)
 clear hl hl2 ho ho2
 generalize decide (l = l2) = dl at *
 obtain ⟨R, hR⟩ : ∃ R, (f == f2 && t == t2 && q == q2 && dl) = R := ⟨_, rfl⟩
 rw [hR]
 have HR := Lh hR
 clear hR
 generalize l.length = n at *
 generalize l2.length = n2 at *
 obtain ⟨g, hg⟩ : ∃ g, w.heap.size = g := ⟨_, rfl⟩
 have HG := Lh hg
 clear hg
 go_enter Tryd.func14, Tryd.ntmps14
 go_upto_region 1 with (fail)
 refine wp_gen (fun W => W.heap[w.heap.size]? = some (.cells #[.int .u16 f, .int .u16 t, .int .u32 q, .slice A n c] 26 (0, 0)) ∧ W.heap[w.heap.size + 1]? = some (.cells #[.int .u16 f2, .int .u16 t2, .int .u32 q2, .slice B n2 d] 26 (0, 0)) ∧ Below w.heap.size w W) ⟨blk_alloc (blk_new _ _) _, by have h := blk_new (w.alloc (.cells #[.int .u16 f, .int .u16 t, .int .u32 q, .slice A n c] 26)) (.cells #[.int .u16 f2, .int .u16 t2, .int .u32 q2, .slice B n2 d] 26); rw [show (w.alloc (.cells #[.int .u16 f, .int .u16 t, .int .u32 q, .slice A n c] 26)).heap.size = w.heap.size + 1 by simp] at h; exact h, below_alloc (below_alloc (Below.refl _ _) _) _⟩ ?_
 rintro W1 ⟨hk1, hk2, hb1⟩
 rw [HG.out] at hk1 hk2 ⊢
 have x0 : W1.cell? ⟨g, 0, none⟩ = some (.int .u16 f) := blk_cell hk1 0
 have x1 : W1.cell? ⟨g, 1, none⟩ = some (.int .u16 t) := blk_cell hk1 1
 have x2 : W1.cell? ⟨g, 2, none⟩ = some (.int .u32 q) := blk_cell hk1 2
 have x3 : W1.cell? ⟨g, 3, none⟩ = some (.slice A n c) := blk_cell hk1 3
 have y0 : W1.cell? ⟨g + 1, 0, none⟩ = some (.int .u16 f2) := blk_cell hk2 0
 have y1 : W1.cell? ⟨g + 1, 1, none⟩ = some (.int .u16 t2) := blk_cell hk2 1
 have y2 : W1.cell? ⟨g + 1, 2, none⟩ = some (.int .u32 q2) := blk_cell hk2 2
 have y3 : W1.cell? ⟨g + 1, 3, none⟩ = some (.slice B n2 d) := blk_cell hk2 3
 have HB1 := Lh hb1
 clear hk1 hk2 hb1
 by_cases h1 : f = f2
 ·have e1 : (f == f2) = true := by simp [h1]
  clear h1
  by_cases h2 : t = t2
  ·have e2 : (t == t2) = true := by simp [h2]
   clear h2
   by_cases h3 : q = q2
   ·have e3 : (q == q2) = true := by simp [h3]
    clear h3
    have HZ := Lh (show dl = R by rw [← HR.out, e1, e2, e3]; simp)
    go_wp2_with fail
    refine (HE.out W1 HB1.out).mono ?_
    rintro e W2 ⟨rfl, hB2⟩
    have HB2 := Lh (below_then HB1.out HB1.out.size hB2)
    clear hB2 HE
    go_wp2
    go_ret
    exact ⟨by rw [← HZ.out]; rfl, HB2.out⟩
   ·have e3 : (q == q2) = false := by simp [h3]
    clear h3
    have HZ := Lh (show false = R by rw [← HR.out, e1, e2, e3]; simp)
    go_wp2
    go_ret
    exact ⟨by rw [← HZ.out]; rfl, HB1.out⟩
  ·have e2 : (t == t2) = false := by simp [h2]
   clear h2
   have HZ := Lh (show false = R by rw [← HR.out, e1, e2]; simp)
   go_wp2
   go_ret
   exact ⟨by rw [← HZ.out]; rfl, HB1.out⟩
 ·have e1 : (f == f2) = false := by simp [h1]
  clear h1
  have HZ := Lh (show false = R by rw [← HR.out, e1]; simp)
  go_wp2
  go_ret
  exact ⟨by rw [← HZ.out]; rfl, HB1.out⟩
end Go.Proofs.YtdlamomabonkjaaDoor.Pk
end
section
namespace Go.Proofs.YtdlamomabonkjaaDoor.Pk
open Go.RowKit YtdlamomabonkjaaDoorW.PrintWords YtdlamomabonkjaaDoorW.PrintLast Base PCh ParDec ParEnc Ch Crc CrcMath
def avX : Chk := ⟨11, 0, 0, 0, 0, 0, 0, 0, 0, 0, [], [], [], [], []⟩
def avL : Lay := ⟨none, 0, none, 0, none, 0, none, 0, none, 0⟩
theorem av_bare : bareD avX = avX := by
 unfold bareD
 rw [show flD avX.f0 avX.f1 = 0 from by rfl]
 rfl
theorem av_value : valueD avX = [] := by rfl
theorem av_check : checkD avX = 0 := by
 unfold checkD
 rw [av_bare, if_neg (by simp), if_neg (by simp [avX]), if_neg (by simp [avX]), if_neg (by simp [avX]), if_neg (by simp [avX, encP, runB]), av_value, if_neg (by simp)]
theorem av_enc : encD [avX] = ([11, 0, 0, 4], 0) := by
 unfold encD chkAll
 rw [if_pos av_check, chkAll, if_pos rfl, runE]
 have h : [] ++ chunkL avX = [11, 0, 0, 4] := by
  unfold chunkL
  rw [av_value]
  rfl
 rw [h, if_neg (by decide), runE]
theorem av_ok : OkC avX := ⟨(show 0 ≤ (11 : Int) ∧ (11 : Int) < 256 by omega), (show 0 ≤ (0 : Int) ∧ (0 : Int) < 256 by omega), z32, z16, z16, z32, z32, z32, z16, z16, nog, nog, noi, noi, nop, by decide⟩
theorem av_pk : PkOk 1 2 3 [avX] := ⟨by decide, by decide, by decide, by decide, by unfold in32; omega, fun x hx => by rw [List.mem_singleton.1 hx]; exact av_ok⟩
theorem av_penc : pencD 1 2 3 [avX] = (putL (bytesOf (headL 1 2 3 ++ [11, 0, 0, 4])), 0) := by
 have h := penc_ok (f := 1) (t := 2) (q := 3) (l := [avX]) (by decide) (by decide) (by decide) rfl (by rw [av_enc]) (by rw [av_enc]; decide)
 rw [av_enc] at h
 exact h
theorem av_len : (pencD 1 2 3 [avX]).1.length = 16 := by
 rw [av_penc]
 show (putL _).length = 16
 rw [putL_length]
 rfl
theorem av_12 : (pencD 1 2 3 [avX]).1.getD 12 0 = 11 := by
 have h : ∀ l : List UInt8, l.getD 12 0 = (l.drop 12).getD 0 0 := fun l => by simp [List.getD_eq_getElem?_getD, List.getElem?_drop]
 rw [h, av_penc]
 show ((putL _).drop 12).getD 0 0 = 11
 rw [(put_take _ (by decide)).2]
 rfl
theorem av_back : preadD (pencD 1 2 3 [avX]).1 true = ⟨1, 2, 3, [avX], 0, 0⟩ := (pback av_pk (by rw [av_penc])).1
theorem CR_av (w : World) : CR w avX avL := ⟨Nat.le_refl _, Kd.C_nil _ _, Nat.le_refl _, Kd.C_nil _ _, Nat.le_refl _, Kd.C_nil _ _, Nat.le_refl _, Kd.C_nil _ _, Nat.le_refl _, Kd.C_nil _ _⟩
theorem av_drop : (pencD 1 2 3 [avX]).1.drop 12 = [11, 0, 0, 4] := by
 rw [av_penc]
 show (putL _).drop 12 = _
 rw [(put_take _ (by decide)).2]
 rfl
theorem av_all : AllOk ((pencD 1 2 3 [avX]).1.drop 12) := by
 rw [av_drop]
 intro W A c hb hc hv
 refine all_with W A [11, 0, 0, 4] c hb hc hv fun at_ W B d hlt hB hd => decC_with W B (([11, 0, 0, 4] : List UInt8).drop at_) d hB hd (by rw [List.length_drop]; simp; omega) ?_
 intro h4 kd fl v hk hv2 w0 w g gc j1 j2 j3 j4 j5 j6 j7
 have ha : at_ = 0 := by
  rw [List.length_drop] at h4
  simp at h4
  omega
 subst ha
 obtain rfl : kd = 11 := hk.symm
 exact read_none w0 w g gc v 11 fl j1 j2 j3 j4 j5 j6 j7 (Or.inr (Or.inl rfl))
set_option maxHeartbeats 4000000 in
theorem alive_calls (w : World) (hT : Table w) : Calls Tryd.prog 11 #[] w fun e w' => e = .returned (.bool true) ∧ Below w.heap.size w w' := by
 have HT := Lh (fun (W : World) (h : Below w.heap.size w W) => hT.below h)
 have HE := Lh (fun (W : World) (h : Below w.heap.size w W) (g : Nat) (hb : W.heap[g]? = some (.cells (CV avX avL) 41 (0, 0))) => pencode_calls W 1 2 3 (some ⟨g, 0, none⟩) 1 [avX] (hT.below h) (chk_row1 hb (CR_av W)) (by decide) (fun x hx => by rw [List.mem_singleton.1 hx]; decide) (enc_in av_pk.ok) (fun _ => by rw [av_enc]; decide))
 have HD := Lh (fun (W : World) (h : Below w.heap.size w W) (A : Option Addr) (c : Nat) (hb : byte.C W A (pencD 1 2 3 [avX]).1.length (pencD 1 2 3 [avX]).1) (hc : (pencD 1 2 3 [avX]).1.length ≤ c) => pdecode_with W A (pencD 1 2 3 [avX]).1 c (hT.below h) hb hc (by rw [av_len]; decide) av_all)
 rw [av_back] at HD
 unfold ReadPP at HD
 have HP2 := Lh (show (pencD 1 2 3 [avX]).2 = 0 by rw [av_penc])
 have HPL := Lh av_len
 have HP12 := Lh av_12
 rw [HP2.out] at HE
 generalize (pencD 1 2 3 [avX]).1 = V at *
 clear hT HP2
 obtain ⟨g, hg⟩ : ∃ g, w.heap.size = g := ⟨_, rfl⟩
 have HG := Lh hg
 clear hg
 go_enter Tryd.func11, Tryd.ntmps11
 go_wp2_with fail
 refine (HE.out _ (below_alloc (Below.refl _ _) _) w.heap.size (by first | exact blk_new _ _ | (rw [HG.out]; exact blk_new _ _))).mono ?_
 rintro e W1 ⟨v, rfl, hR, hB1⟩
 obtain ⟨A1, c1, rfl, hle, hC⟩ := Kd.R_reads hR
 have HB1 := Lh (below_then (below_alloc (Below.refl w.heap.size w) _) (by simp) hB1)
 have HDD := Lh (HD.out W1 HB1.out A1 c1 hC hle)
 obtain ⟨ad, rfl, x12⟩ := byte_at hC 12 (by rw [HPL.out]; decide)
 have X12 := Lh (fun (W : World) (h : Below W1.heap.size W1 W) => (show W.cell? ⟨ad.block, ad.off + 12, none⟩ = some (.int .u8 11) by
  have h1 := pw_cell_below h x12
  rw [HP12.out, show ad.add 12 = ad.add (0 + 12) from rfl, add_field _ _ 12 (by omega)] at h1
  exact h1))
 rw [HPL.out] at HDD ⊢
 clear hR hB1 hC hle x12 HE HD HPL HP12
 go_wp2_with fail
 refine HDD.out.mono ?_
 rintro e W2 ⟨v2, rfl, hR2, hB2⟩
 obtain ⟨A2, c2, rfl, hle2, hC2⟩ := Kd.R_reads hR2
 obtain ⟨ad2, x2, L2, rfl, hd2, _, hc2, hx2⟩ := chk_at hC2 0 (by decide)
 obtain rfl : x2 = avX := by
  have h : ([avX] : List Chk) = x2 :: [] := hd2
  exact (List.cons.inj h).1.symm
 have HB2 := Lh (below_then HB1.out HB1.out.size hB2)
 have XC := Lh (fun (W : World) (h : Below W2.heap.size W2 W) => (show W.cell? ad2 = some (.int .u8 11) from by
  have h1 := pw_cell_below h (hc2 0 _ rfl)
  rw [Nat.zero_mul] at h1
  have h0 : ∀ a : Addr, (a.add 0).add 0 = a := fun a => by
   rw [show a.add 0 = a from rfl]
   rfl
  rw [h0] at h1
  exact h1))
 have X13 := Lh (fun (W : World) (h : Below W2.heap.size W2 W) => X12.out W (below_then hB2 hB2.size h))
 clear hR2 hB2 hC2 hle2 hd2 hc2 hx2 X12 HDD
 obtain ⟨g2, hg2⟩ : ∃ g, W2.heap.size = g := ⟨_, rfl⟩
 have HG2 := Lh hg2
 clear hg2
 go_upto_region 5 with (fail)
 refine wp_gen (fun W => W.heap[W2.heap.size]? = some (.cells #[.int .u16 1, .int .u16 2, .int .u32 3, .slice (some ad2) 1 c2] 26 (0, 0)) ∧ Below W2.heap.size W2 W) ⟨by first | exact blk_new _ _ | exact blk_put (blk_new _ _) 0 _ rfl, below_alloc (Below.refl _ _) _⟩ ?_
 rintro W3 ⟨h3, hB3⟩
 rw [HG2.out] at h3 ⊢
 have k2 : W3.cell? ⟨g2, 2, none⟩ = some (.int .u32 3) := blk_cell h3 2
 have k3 : W3.cell? ⟨g2, 3, none⟩ = some (.slice (some ad2) 1 c2) := blk_cell h3 3
 have kc := XC.out W3 hB3
 have kb := X13.out W3 hB3
 have HB3 := Lh (below_then HB2.out HB2.out.size hB3)
 clear h3 hB3 XC X13
 go_wp2
 go_ret
 exact ⟨rfl, HB3.out⟩
end Go.Proofs.YtdlamomabonkjaaDoor.Pk
end
section
namespace Go.Proofs.YtdlamomabonkjaaDoor.Pk
open Go.RowKit YtdlamomabonkjaaDoorW.PrintWords YtdlamomabonkjaaDoorW.PrintLast Base PCh ParDec ParEnc Ch Crc CrcMath
theorem rpself (W : World) (f t q : Int) (A B : Option Addr) (c d : Nat) (l : List Chk) (hl : Kd.C k41 W A l.length l) (hl2 : Kd.C k41 W B l.length l) (ho : ∀ x ∈ l, OkB x) :
  Calls Tryd.prog 14 #[.agg #[.int .u16 f, .int .u16 t, .int .u32 q, .slice A l.length c], .agg #[.int .u16 f, .int .u16 t, .int .u32 q, .slice B l.length d]] W fun e w' => e = .returned (.bool true) ∧ Below W.heap.size W w' := by
 have h := rpsame_calls W f t q f t q A B c d l l hl hl2 ho ho
 rw [show (f == f && t == t && q == q && decide (l = l)) = true by simp] at h
 exact h
theorem pread_okB (b : List UInt8) (wh : Bool) : ∀ x ∈ (preadD b wh).l, OkB x := by
 unfold preadD
 by_cases hh : headE b = 0
 ·rw [if_pos hh]
  by_cases hw : wh = false
  ·rw [if_pos hw]; intro x hx; cases hx
  rw [if_neg hw]
  by_cases hn : (b.drop 12).length = 0
  ·rw [if_pos hn]; intro x hx; cases hx
  rw [if_neg hn]
  by_cases he : (allL (b.drop 12)).2.2 = 0
  ·rw [if_pos he]
   by_cases ha : apartB (allL (b.drop 12)).1 = true
   ·rw [if_pos ha]; intro x hx; cases hx
   rw [if_neg ha]
   exact all_okB (b.drop 12) ((b.drop 12).length + 1) 0 [] (fun x hx => by cases hx)
  ·rw [if_neg he]; intro x hx; cases hx
 ·rw [if_neg hh]; intro x hx; cases hx
end Go.Proofs.YtdlamomabonkjaaDoor.Pk
end
section
namespace Go.Proofs.YtdlamomabonkjaaDoor.Pk
open Go.RowKit YtdlamomabonkjaaDoorW.PrintWords YtdlamomabonkjaaDoorW.PrintLast Base PCh ParDec ParEnc Ch Crc CrcMath
set_option maxHeartbeats 4000000 in
theorem again_row {w : World} (A : Option Addr) (c : Nat) (l : List UInt8) (hb : byte.C w A l.length l) (hc : l.length ≤ c) (hm : c ≤ 140737488351232) (ht : Table w) :
  Calls Tryd.prog 4 #[.slice A l.length c] w fun e w' => e = .returned (.bool true) ∧ Below w.heap.size w w' := by
 have H1 := Lh (fun (W : World) (h : Below w.heap.size w W) => pdecode_calls W A l c (ht.below h) (Kd.C_below hb h) hc (by omega))
 have HA := Lh (fun (W : World) (h : Below w.heap.size w W) => alive_calls W (ht.below h))
 have HT := Lh (fun (W : World) (h : Below w.heap.size w W) => ht.below h)
 have HOB := Lh (pread_okB l true)
 have HGD := Lh (fun h : (preadD l true).e = 0 => pread_good h)
 have HBD := Lh (fun h : (preadD l true).e ≠ 0 => pread_bad h)
 generalize preadD l true = D at *
 obtain ⟨f, t, q, xs, a, e⟩ := D
 dsimp only at H1 HOB HGD HBD
 unfold ReadPP at H1
 dsimp only at H1
 clear hb hc ht hm
 generalize l.length = n at *
 by_cases he : e = 0
 ·subst he
  obtain ⟨hpk, rfl, hck, hln, hap⟩ := HGD.out rfl
  have HCK := Lh hck
  have HPK := Lh hpk
  have HLN := Lh hln
  have HAP := Lh hap
  clear hpk hck hln hap HGD HBD
  go_enter Tryd.func4, Tryd.ntmps4
  go_wp2_with fail
  refine (H1.out w (Below.refl _ _)).mono ?_
  rintro e W1 ⟨v1, rfl, hR1, hB1⟩
  obtain ⟨A1, c1, rfl, hle1, hC1⟩ := Kd.R_reads hR1
  have HB1 := Lh hB1
  have HC1 := Lh hC1
  have HLE1 := Lh hle1
  clear hR1 hB1 hC1 hle1 H1
  obtain ⟨g1, hg1⟩ : ∃ g, W1.heap.size = g := ⟨_, rfl⟩
  have HG1 := Lh hg1
  clear hg1
  go_upto_region 4 with (fail)
  refine wp_gen (fun W => W.heap[W1.heap.size]? = some (.cells #[.int .u16 f, .int .u16 t, .int .u32 q, .slice A1 xs.length c1] 26 (0, 0)) ∧ Below W1.heap.size W1 W) ⟨by first | exact blk_new _ _ | exact blk_put (blk_new _ _) 0 _ rfl, below_alloc (Below.refl _ _) _⟩ ?_
  rintro V1 ⟨hk1, hb1⟩
  rw [HG1.out] at hk1 ⊢
  have K1 := Lh hk1
  have HV1 := Lh hb1
  clear hk1 hb1
  replace HB1 := Lh (below_then HB1.out HB1.out.size HV1.out)
  replace HC1 := Lh (fun (W : World) (h : Below V1.heap.size V1 W) => Kd.C_below (Kd.C_below HC1.out HV1.out) h)
  have KK := Lh (fun (W : World) (h : Below V1.heap.size V1 W) => blk_below K1.out h)
  have HMX := Lh ((HC1.out V1 (Below.refl _ _)).2.1)
  clear HV1 K1
  go_wp2
  go_loopw [6] (fun v6 W => ∃ i : Nat, i ≤ xs.length ∧ v6 = .int .i64 i ∧ Hid (Below V1.heap.size V1 W)) (fun v6 _ => xs.length - (intOf v6).toNat)
  case atStart => exact ⟨0, by omega, rfl, Below.refl _ _⟩
  case round =>
   obtain ⟨i, hi, rfl, HB⟩ := hrel
   have k3 : wr.cell? ⟨g1, 3, none⟩ = some (.slice A1 xs.length c1) := blk_cell (KK.out wr HB.out) 3
   by_cases hlt : i < xs.length
   ·obtain ⟨ad, x, L, rfl, _, hxm, hcell, hx⟩ := chk_at (HC1.out wr HB.out) i hlt
    have HCX := Lh hcell
    have HXS := Lh (chk_size x L)
    have hk := rcheck_calls wr x L hx (HPK.out.ok x hxm)
    rw [HCK.out x hxm] at hk
    have HK := Lh hk
    have hm := HMX.out
    clear hcell hk hx hxm
    generalize CV x L = CX at *
    go_wp2_with ((with_reducible refine gate_dst (N := 38) rfl ?_); go_must (refine wpList_load_cells rfl 41 (.tmp 37) rfl rfl CX _ (fun j v hv => HCX.out j v hv) Tryd.underlying41 rfl HXS.out ?_))
    refine HK.out.mono ?_
    rintro e W2 ⟨rfl, hB2⟩
    have HB2 := Lh (below_then HB.out HB.out.size hB2)
    clear hB2 HK k3 HCX HXS
    go_wp2
    go_roundw
    case rel => exact ⟨i + 1, by omega, by go_num, HB2⟩
    case measure => simp [intOf]; omega
   ·obtain rfl : i = xs.length := by omega
    have hen := pencode_calls wr f t q A1 c1 xs (HT.out wr (below_then HB1.out HB1.out.size HB.out)) (HC1.out wr HB.out) HLE1.out (fun x hx => Nat.le_trans (HPK.out.ok x hx).l13 (by decide)) (enc_in HPK.out.ok) (fun he => by rw [(enc_good he).2.1]; exact (enc_good he).2.2)
    have HEN := Lh hen
    have HMAY := Lh (penc_may (q := q) HPK.out.f0 HPK.out.t0 HCK.out HLN.out HAP.out)
    have HBACK := Lh (fun h : (pencD f t q xs).2 = 0 => pback HPK.out h)
    have KR := Lh (KK.out wr HB.out)
    have HBW := Lh (below_then HB1.out HB1.out.size HB.out)
    have HCW := Lh (HC1.out wr HB.out)
    clear hen KK HC1 HB hi hlt HLE1 HCK HLN HAP HMX
    generalize pencD f t q xs = E at *
    obtain ⟨B, ec⟩ := E
    dsimp only at HEN HMAY HBACK
    go_wp2_with ((with_reducible refine gate_dst (N := 42) rfl ?_); go_must (refine wpList_load_row rfl 26 (.tmp 3) rfl _ rfl 26 _ (0, 0) _ KR.out Tryd.underlying26 rfl (by kernel_rfl) ?_))
    refine HEN.out.mono ?_
    rintro e W3 ⟨v3, rfl, hR3, hB3⟩
    obtain ⟨A3, c3, rfl, hle3, hC3⟩ := Kd.R_reads hR3
    replace KR := Lh (blk_below KR.out hB3)
    replace HBW := Lh (below_then HBW.out HBW.out.size hB3)
    replace HCW := Lh (Kd.C_below HCW.out hB3)
    by_cases hec : ec = 0
    ·subst hec
     obtain ⟨hbk, _, hl6⟩ := HBACK.out rfl
     have HD := Lh (pdecode_calls W3 A3 B c3 (HT.out W3 HBW.out) hC3 hle3 (by omega))
     rw [hbk] at HD
     unfold ReadPP at HD
     dsimp only at HD
     clear hR3 hB3 hle3 hC3 hbk hl6 HBACK HMAY HEN k3
     generalize B.length = nb at *
     go_wp2_with fail
     refine HD.out.mono ?_
     rintro e W4 ⟨v4, rfl, hR4, hB4⟩
     obtain ⟨A4, c4, rfl, _, hC4⟩ := Kd.R_reads hR4
     replace KR := Lh (blk_below KR.out hB4)
     replace HBW := Lh (below_then HBW.out HBW.out.size hB4)
     replace HCW := Lh (Kd.C_below HCW.out hB4)
     have HC4 := Lh hC4
     clear hR4 hB4 hC4 HD
     obtain ⟨g9, hg9⟩ : ∃ g, W4.heap.size = g := ⟨_, rfl⟩
     have HG9 := Lh hg9
     clear hg9
     go_upto_region 13 with (fail)
     refine wp_gen (fun W => W.heap[W4.heap.size]? = some (.cells #[.int .u16 f, .int .u16 t, .int .u32 q, .slice A4 xs.length c4] 26 (0, 0)) ∧ Below W4.heap.size W4 W) ⟨by first | exact blk_new _ _ | exact blk_put (blk_new _ _) 0 _ rfl, below_alloc (Below.refl _ _) _⟩ ?_
     rintro V9 ⟨hk9, hb9⟩
     rw [HG9.out] at hk9 ⊢
     have K9 := Lh hk9
     have HV9 := Lh hb9
     clear hk9 hb9
     replace KR := Lh (blk_below KR.out HV9.out)
     replace HBW := Lh (below_then HBW.out HBW.out.size HV9.out)
     have HS := Lh (rpself V9 f t q A1 A4 c1 c4 xs (Kd.C_below HCW.out HV9.out) (Kd.C_below HC4.out HV9.out) HOB.out)
     clear HV9 HC4 HCW
     generalize xs.length = m at *
     go_wp2_with (first | ((with_reducible refine gate_dst (N := 62) rfl ?_); go_must (refine gate_guard (wanted_on rfl rfl rfl rfl) ?_; refine wpList_load_row rfl 26 (.tmp 3) rfl _ rfl 26 _ (0, 0) _ KR.out Tryd.underlying26 rfl (by kernel_rfl) ?_)) | ((with_reducible refine gate_dst (N := 63) rfl ?_); go_must (refine gate_guard (wanted_on rfl rfl rfl rfl) ?_; refine wpList_load_row rfl 26 (.tmp 9) rfl _ rfl 26 _ (0, 0) _ K9.out Tryd.underlying26 rfl (by kernel_rfl) ?_)))
     refine HS.out.mono ?_
     rintro e W5 ⟨rfl, hB5⟩
     have HB5 := Lh (below_then HBW.out HBW.out.size hB5)
     clear hB5 HS KR K9
     have HAL := Lh (HA.out W5 HB5.out)
     go_wp2_with fail
     refine HAL.out.mono ?_
     rintro e W8 ⟨rfl, hB8⟩
     have HB8 := Lh (below_then HB5.out HB5.out.size hB8)
     clear hB8 HAL
     go_wp2
     go_ret
     exact ⟨rfl, HB8.out⟩
    ·obtain rfl : ec = 2 := by
      rcases HMAY.out with h | h
      ·exact absurd h hec
      ·exact h
     clear hR3 hB3 hle3 hC3 HBACK HMAY HEN hec KR HCW k3
     generalize B.length = nb at *
     have HAL := Lh (HA.out W3 HBW.out)
     go_wp2_with fail
     refine HAL.out.mono ?_
     rintro e W8 ⟨rfl, hB8⟩
     have HB8 := Lh (below_then HBW.out HBW.out.size hB8)
     clear hB8 HAL
     go_wp2
     go_ret
     exact ⟨rfl, HB8.out⟩
 ·have hx := HBD.out he
  subst hx
  have hz : (e != 0) = true := by simp [he]
  clear HGD HBD HOB he
  go_enter Tryd.func4, Tryd.ntmps4
  go_wp2_with fail
  refine (H1.out w (Below.refl _ _)).mono ?_
  rintro e W1 ⟨v1, rfl, hR1, hB1⟩
  obtain ⟨A1, c1, rfl, hle1, hC1⟩ := Kd.R_reads hR1
  rw [List.length_nil]
  have HB1 := Lh hB1
  clear hR1 hB1 hC1 hle1 H1
  obtain ⟨g1, hg1⟩ : ∃ g, W1.heap.size = g := ⟨_, rfl⟩
  have HG1 := Lh hg1
  clear hg1
  go_upto_region 2 with (fail)
  refine wp_gen (fun W => W.heap[W1.heap.size]? = some (.cells #[.int .u16 f, .int .u16 t, .int .u32 q, .slice A1 0 c1] 26 (0, 0)) ∧ Below W1.heap.size W1 W) ⟨by first | exact blk_new _ _ | exact blk_put (blk_new _ _) 0 _ rfl, below_alloc (Below.refl _ _) _⟩ ?_
  rintro V1 ⟨hk1, hb1⟩
  rw [HG1.out] at hk1 ⊢
  have K1 := Lh hk1
  have HV1 := Lh hb1
  clear hk1 hb1
  replace HB1 := Lh (below_then HB1.out HB1.out.size HV1.out)
  have k3 : V1.cell? ⟨g1, 3, none⟩ = some (.slice A1 0 c1) := blk_cell K1.out 3
  clear HV1 K1
  have HAL := Lh (HA.out V1 HB1.out)
  go_wp2_with fail
  refine HAL.out.mono ?_
  rintro e W8 ⟨rfl, hB8⟩
  have HB8 := Lh (below_then HB1.out HB1.out.size hB8)
  clear hB8 HAL
  go_wp2
  go_ret
  exact ⟨rfl, HB8.out⟩
end Go.Proofs.YtdlamomabonkjaaDoor.Pk
end
section
namespace Go.Proofs.YtdlamomabonkjaaDoor.Crc
open Go.RowKit YtdlamomabonkjaaDoorW.PrintWords Base CrcMath
theorem gSteps : Tryd.prog.globalNamed "ropewalk/crc.steps" = some 0 := by kernel_rfl
theorem gStepsType : (Tryd.prog.globals[0]?).map (·.type) = some 136 := by kernel_rfl
theorem cells16 : Tryd.prog.cellsOf 136 = 16 := by kernel_rfl
theorem cells32 : Tryd.prog.cellsOf 23 = 1 := by kernel_rfl
theorem table_of {W : World} (h : laidMetH Tryd.prog [("ropewalk/crc.steps", Rows.laid_ropewalk_crc_steps)] W) : Table W := by
 have ht : Lib.TabIs Tryd.prog W "ropewalk/crc.steps" .u32 [0, 274646895, 549293790, 820201905, 1098587580, 1361435347, 1640403810, 1905808397, 2197175160, 2460548119, 2722870694, 2987750089, 3280807620, 3553878443, 3811616794, 4084100981] :=
  Lib.tabIs_of_head (rest := []) gSteps gStepsType Tryd.underlying136 Tryd.underlying23 cells32 cells16 h
 refine ⟨fun i hi => ?_⟩
 have := ht.cell gSteps i (by simpa using hi)
 rw [this]
 have hn : ∀ i : Nat, i < 16 → ([0, 274646895, 549293790, 820201905, 1098587580, 1361435347, 1640403810, 1905808397, 2197175160, 2460548119, 2722870694, 2987750089, 3280807620, 3553878443, 3811616794, 4084100981] : List Int).getD i 0 = (nib i : Int) := by decide +kernel
 rw [← hn i hi]
end Go.Proofs.YtdlamomabonkjaaDoor.Crc
end
section
namespace Go.Proofs.YtdlamomabonkjaaDoor.packetAgain
open Go.ChangeShapes Go.WideShapes Go.ChangeAt Go.RowKit Base
open Go.ChangeMaps (open_string shut_string)
set_option maxRecDepth 100000 in
theorem contract (H : Type) (enc : TypeId × Value → H) (W : World) (base : Nat) (args : Array Value) (ds gs : List (DataW H)) (before : List MemPlace)
  (hval : ∀ (j : Nat) t v, Tryd.f4.params[j]? = some t → args[j]? = some v → Value.okWide Tryd.prog W .any base t v)
  (hW : DataW.Whole enc Tryd.prog Tryd.f4.params.toList Rows.packetAgainSpec.vars false W args.toList ds gs before)
  (hsz0 : (DataW.weightsEach Tryd.prog (Tryd.f4.params.toList ++ (OpenSpec.ofChange Rows.packetAgainSpec).bare.plain.varTypes Tryd.prog) (ds ++ gs)).all (· ≤ reachBytes) = true)
  (hL : laidMetH Tryd.prog Rows.packetAgainRow.laid W) :
  Calls Tryd.prog 4 args W fun e W' => ∃ v, e = .returned v ∧ Rows.packetAgainSpec.post enc Tryd.prog Tryd.f4 false true false false W args v W' := by
 have hW' := hW
 obtain ⟨p, q, hA0, hV, rfl, hfz, hnd⟩ := hW
 have hA : DataW.TrodAll enc Tryd.prog W 0 (fun _ => true) true Tryd.f4.params.toList args.toList ds p := hA0
 rw [Tryd.params4] at hA hval
 obtain ⟨v0, vs0, d0, ds0, p0, q0, hargs, rfl, rfl, h0, r0⟩ := trodAll_cons hA
 obtain ⟨rfl, rfl, rfl⟩ := trodAll_nil r0
 obtain rfl : args = #[v0] := by cases args; simp_all
 obtain ⟨rfl, rfl⟩ := trodVars_none hV
 have hsz := hsz0
 rw [Tryd.params4] at hsz
 obtain ⟨a0, len0, cap0, rfl⟩ := okWide_slice Tryd.underlying27 (hval 0 27 v0 rfl rfl)
 have k0 := h0
 have lt0 : ∀ x ∈ p0, x.block < W.heap.size := by obtain ⟨m, hm⟩ := k0; exact DataW.trod_lt m _ _ _ hm
 obtain ⟨l0, rfl, hc0, hb0, hd0⟩ := open_bytes h0
 have hm0 : cap0 ≤ 140737488351232 := reach_bytes hsz (j := 0) rfl rfl hd0
 clear hA0 hsz hsz0
 have ht := Crc.table_of hL
 refine (Pk.again_row a0 cap0 l0 hb0 hc0 hm0 ht).mono fun e W' ⟨he, bel⟩ => ?_
 subst he
 exact ⟨_, rfl, _, _, _, [], _, [], hW', trodAll_mk1 (shut_bool Tryd.underlying4 _), (trodAll_cons_mk (Below.trod laidOut (by kernel_rfl) (of_decide_eq_true (by kernel_rfl)) k0 bel lt0) trodAll_mk0), rfl, bel.frame _, fun h => by cases h⟩
noncomputable def laidWorld (os : Os) : World := World.doorLaid Tryd.prog 14 os
theorem laid_met (os : Os) : laidMet Tryd.prog Rows.packetAgainRow.laid ((laidWorld os).forCall (fun _ _ => 0) ⟨#[], #[.slice none 0 0], []⟩).memory :=
 laidMet_of_run' 8 (by kernel_rfl) (by kernel_rfl)
theorem reads (os : Os) {H : Type} (enc : TypeId × Value → H) : ∃ places, DataW.whole enc Tryd.prog ((laidWorld os).forCall (fun _ _ => 0) ⟨#[], #[.slice none 0 0], []⟩).memory Tryd.f4.params.toList Rows.packetAgainSpec.vars false (#[.slice none 0 0] : Array Value).toList 8 = some ([.nil], [], places) :=
 ⟨[], by kernel_rfl⟩
set_option maxRecDepth 100000 in
theorem lifted (os : Os) (started : os.Started) (H : Type) (enc : TypeId × Value → H) (F : Stop.Interp) :
  ReturnsInHanded {} Tryd.checked os 4 .any ((OpenSpec.ofChange Rows.packetAgainSpec).preRow enc Tryd.prog Tryd.f4 Rows.packetAgainRow.domain false Rows.packetAgainRow.laid) (((OpenSpec.ofChange Rows.packetAgainSpec).at F).post enc Tryd.prog Tryd.f4 false true false false) := by
 obtain ⟨places, hx⟩ := reads os enc
 refine returnsInHanded_of_row (C := Tryd.checked) (s := (OpenSpec.ofChange Rows.packetAgainSpec)) own started (by kernel_rfl) Tryd.func4
  (witness_row_at (enc := enc) (C := Tryd.checked) false (laidWorld os) #[.slice none 0 0] rfl (by kernel_rfl) (by kernel_rfl) (by kernel_rfl)
   (OpenSpec.preRow_of_cond 8 hx (by kernel_rfl) (fun k hk => by cases hk) (by kernel_rfl) (laid_met os))) ?_
 intro W base args ds gs before hval hW _ hcond hsz hL _ _
 exact contract H enc W base args ds gs before hval hW hsz hL
theorem said : Rows.PacketAgainSaid :=
 OpenClaim.holds_of_cond 4 Tryd.f4 rfl rfl rfl rfl rfl rfl rfl ⟨rfl, rfl, rfl, rfl, rfl⟩ rfl rfl rfl rfl rfl (by kernel_rfl) Tryd.func4 (by kernel_rfl)
  (of_decide_eq_true (by kernel_rfl)) (by unfold Func.isWrapper; first | (rw [if_pos (by decide +kernel)]; kernel_rfl) | (rw [if_neg (by decide +kernel)]; exact ⟨rfl, rfl⟩))
  (fun os started H enc _ F => by rw [OpenClaim.pre_eq_preRow]; exact lifted os started H enc F)
theorem plain (f : FuncId) (fn : Func) (hf : Tryd.pinned.checked.prog.funcNamed "ropewalk/ropewalklaw07.PacketAgain" = some f) (hfn : Tryd.pinned.checked.prog.funcs[f]? = some fn) :
  true = Tryd.pinned.checked.prog.looks [] ∧ ∀ (j : Nat) t, fn.params[j]? = some t → Tryd.pinned.checked.prog.wantsStandIn t = false := by
 obtain rfl : f = 4 := Option.some.inj ((show Tryd.prog.funcNamed "ropewalk/ropewalklaw07.PacketAgain" = some 4 by kernel_rfl).symm.trans hf) |>.symm
 obtain rfl : fn = Tryd.f4 := (Option.some.inj (Tryd.func4.symm.trans hfn)).symm
 refine ⟨by kernel_rfl, fun j t ht => ?_⟩
 rw [Tryd.params4] at ht
 have hm : t ∈ [27] := by simpa using Array.mem_of_getElem? ht
 have hall : ([27].all fun u => !Tryd.prog.wantsStandIn u) = true := by kernel_rfl
 exact (show Tryd.prog.wantsStandIn t = false by simpa using List.all_eq_true.1 hall t hm)
theorem packetAgain_holds : Rows.PacketAgainCardSaid :=
 Claim7.holds_tied_plain_at .later [] _ _ _ _ said (fun _ h => by cases h) (by kernel_rfl) (fun _ h => by cases h) packetAgain_row_tie rfl ⟨rfl, rfl⟩ (by kernel_rfl) rfl plain (by kernel_rfl)
#print axioms packetAgain_holds
end Go.Proofs.YtdlamomabonkjaaDoor.packetAgain
end
