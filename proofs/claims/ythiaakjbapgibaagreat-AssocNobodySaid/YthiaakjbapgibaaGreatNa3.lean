/- The statement AssocNobody of ropewalk/ropewalklaw22.AssocNobody. Proved from the walk As.nobody_row. -/
import Derived.Test.YthiaakjbapgibaaGreatNa2
import Derived.Test.YthiaakjbapgibaaGreatProg
import Derived.Deep.LoopGhost
import Derived.Deep.QuietTactic
import Derived.BigQuiet
import Derived.Laws.BitsLemmas
import Derived.Lib.Hide
import Derived.Outline
import Derived.Test.YthiaakjbapgibaaGreatRows
import Derived.WalkKit
import Derived.ProofKit
import Derived.OpenShut
import Derived.ShutString
import Derived.ChangeOld
import Derived.SizedLaws
import Derived.Deep.Slices
import Derived.Deep.DeepHandedRow
import Derived.Lib.LaidTab
import Derived.LaidMore
import Derived.Defers
import Derived.Recover
import Derived.Laws.Pointers
import Derived.Deep.WholeRow
import Derived.WalkSpells
import Derived.Laws.CopyRow
import Derived.Laws.Tables
section
namespace Go.Proofs.YthiaakjbapgibaaGreat.Base
open Go.RowKit Go.Proofs.YthiaakjbapgibaaGreatW.PrintWords
set_option linter.unusedVariables false
set_option linter.unusedSimpArgs false
structure Only (S : Nat → Prop) (w w' : World) : Prop where
 os : w'.os = w.os
 tape : w'.tape = w.tape
 output : w'.output = w.output
 size : w.heap.size ≤ w'.heap.size
 block : ∀ k, k < w.heap.size → ¬ S k → w'.heap[k]? = w.heap[k]?
theorem Only.refl (S : Nat → Prop) (w : World) : Only S w w := ⟨rfl, rfl, rfl, Nat.le_refl _, fun _ _ _ => rfl⟩
theorem Only.mono {S S' : Nat → Prop} {w w' : World} (h : Only S w w') (hs : ∀ k, k < w.heap.size → S k → S' k) : Only S' w w' := ⟨h.os, h.tape, h.output, h.size, fun k hk hn => h.block k hk (fun hx => hn (hs k hk hx))⟩
theorem Only.trans {S S' : Nat → Prop} {a b c : World} (h : Only S a b) (k : Only S' b c) (hs : ∀ k, k < a.heap.size → S' k → S k) : Only S a c :=
 ⟨k.os.trans h.os, k.tape.trans h.tape, k.output.trans h.output, Nat.le_trans h.size k.size, fun i hi hn => (k.block i (Nat.lt_of_lt_of_le hi h.size) (fun hx => hn (hs i hi hx))).trans (h.block i hi hn)⟩
theorem Only.of_below {S : Nat → Prop} {w w' : World} (h : Below w.heap.size w w') : Only S w w' := ⟨h.os, h.tape, h.output, h.size, fun k hk _ => h.block k hk⟩
theorem Only.below {S : Nat → Prop} {B : Nat} {w w' : World} (h : Only S w w') (hB : B ≤ w.heap.size) (hs : ∀ k, S k → B ≤ k) : Below B w w' :=
 ⟨h.os, h.tape, h.output, h.size, fun k hk => h.block k (by omega) (fun hx => by have := hs k hx; omega)⟩
theorem Only.drew {S : Nat → Prop} {a w : World} (h : Only S a w) : Only S a w.drew := ⟨h.os, h.tape, h.output, h.size, h.block⟩
theorem Only.drewN {S : Nat → Prop} {a w : World} (h : Only S a w) (n : Nat) : Only S a (w.drewN n) := ⟨h.os, h.tape, h.output, h.size, h.block⟩
theorem Only.alloc {S : Nat → Prop} {a w : World} (h : Only S a w) (o : Obj) : Only S a (w.alloc o) := h.trans (.of_below (below_alloc (Below.refl _ _) o)) (S' := fun _ => False) (fun _ _ hf => hf.elim)
theorem Only.setCell {S : Nat → Prop} {a w : World} (h : Only S a w) {p : Addr} (hp : p.block < a.heap.size → S p.block) (u : Value) : Only S a (w.setCell p u) :=
 ⟨h.os, h.tape, h.output, by simpa [World.setCell] using h.size, fun k hk hn => (Below.heap_setCell w p u k (fun e => hn (by subst e; exact hp hk))).trans (h.block k hk hn)⟩
theorem Only.blk {S : Nat → Prop} {w w' : World} (h : Only S w w') {g : Nat} {o : Obj} (hb : w.heap[g]? = some o) (hg : ¬ S g) : w'.heap[g]? = some o := (h.block g (blk_lt hb) hg).trans hb
theorem Only.cell {S : Nat → Prop} {w w' : World} (h : Only S w w') {a : Addr} {v : Value} (hc : w.cell? a = some v) (hg : ¬ S a.block) : w'.cell? a = some v := by
 have := h.block a.block (World.block_lt_of_cell? w a hc) hg
 simpa [World.cell?, this] using hc
def bstr (l : List UInt8) : ByteArray := ⟨l.toArray⟩
attribute [irreducible] bstr
end Go.Proofs.YthiaakjbapgibaaGreat.Base
end
section
namespace Go.Proofs.YthiaakjbapgibaaGreat.Base
open Go.ChangeShapes Go.WideShapes Go.ChangeAt Go.RowKit Go.Proofs.YthiaakjbapgibaaGreatW.PrintWords
open Go.ChangeMaps (open_string shut_string)
set_option linter.unusedVariables false
set_option linter.unusedSimpArgs false
theorem own : ownKnob Tryz.prog.godebug = none := by kernel_rfl
theorem laidOut : laidOutB Tryz.prog = true := by kernel_rfl
end Go.Proofs.YthiaakjbapgibaaGreat.Base
end
section
namespace Go.Proofs.YthiaakjbapgibaaGreat.As
open Go.RowKit Go.Proofs.YthiaakjbapgibaaGreatW.PrintWords Go.Proofs.YthiaakjbapgibaaGreatW.PrintLast Go.Proofs.YthiaakjbapgibaaGreat.Base
set_option maxRecDepth 100000
set_option linter.unusedVariables false
set_option linter.unusedSimpArgs false
theorem wp_gen {P : Program} {c : Code} {Q : Exit → Act → World → Prop} {a : Act} {W0 : World} (Pd : World → Prop) (h0 : Pd W0) (h : ∀ W, Pd W → c.wp P Q a W) : c.wp P Q a W0 := h W0 h0
def Nob (w : World) (p : Option Addr) : Prop := p = none ∨ ∃ g cs, p = some ⟨g, 0, none⟩ ∧ w.heap[g]? = some (.cells cs 90 (0, 0)) ∧ cs[37]? = some (.bool false)
theorem Nob.below {w W : World} {p : Option Addr} (h : Nob w p) (hb : Below w.heap.size w W) : Nob W p := by
 rcases h with h | ⟨g, cs, h1, h2, h3⟩
 ·exact Or.inl h
 ·exact Or.inr ⟨g, cs, h1, blk_below h2 hb, h3⟩
theorem is_nob (w : World) (p : Option Addr) (h : Nob w p) : Calls Tryz.prog 39 #[.pointer p] w fun e w' => e = .returned (.bool false) ∧ w = w' := by
 rcases h with rfl | ⟨g, cs, rfl, h2, h3⟩
 ·go_enter Tryz.func39, Tryz.ntmps39
  go_wp2
  go_ret
  exact ⟨rfl, rfl⟩
 ·have k : w.cell? ⟨g, 37, none⟩ = some (.bool false) := (blk_cell h2 37).trans h3
  clear h2 h3
  go_enter Tryz.func39, Tryz.ntmps39
  go_wp2
  go_ret
  exact ⟨rfl, rfl⟩
theorem state_nob (w : World) (p : Option Addr) (h : Nob w p) : Calls Tryz.prog 17 #[.pointer p] w fun e w' => e = .returned (.int .i64 0) ∧ w = w' := by
 have H := Lib.hid (is_nob w p h)
 clear h
 go_enter Tryz.func17, Tryz.ntmps17
 go_wp2_with fail
 refine H.out.mono ?_
 rintro e w1 ⟨rfl, rfl⟩
 go_wp2
 go_ret
 exact ⟨rfl, rfl⟩
theorem own_nob (w : World) (p : Option Addr) (h : Nob w p) : Calls Tryz.prog 22 #[.pointer p] w fun e w' => e = .returned (.tuple #[.int .u32 0, .int .u32 0]) ∧ w = w' := by
 have H := Lib.hid (is_nob w p h)
 clear h
 go_enter Tryz.func22, Tryz.ntmps22
 go_wp2_with fail
 refine H.out.mono ?_
 rintro e w1 ⟨rfl, rfl⟩
 go_wp2
 go_ret2
 exact ⟨rfl, rfl⟩
theorem boxes3 (w : World) (x y z : Obj) : ((((w.alloc x).alloc y).alloc z).heap[w.heap.size]? = some x ∧ (((w.alloc x).alloc y).alloc z).heap[w.heap.size + 1]? = some y ∧ (((w.alloc x).alloc y).alloc z).heap[w.heap.size + 2]? = some z ∧ Below w.heap.size w (((w.alloc x).alloc y).alloc z)) := by
 have s1 : (w.alloc x).heap.size = w.heap.size + 1 := by simp
 have s2 : ((w.alloc x).alloc y).heap.size = w.heap.size + 1 + 1 := by simp
 have h1 := blk_new (w.alloc x) y
 have h2 := blk_new ((w.alloc x).alloc y) z
 rw [s1] at h1
 rw [s2] at h2
 exact ⟨blk_alloc (blk_alloc (blk_new _ _) _) _, blk_alloc h1 _, h2, below_alloc (below_alloc (below_alloc (Below.refl _ _) _) _) _⟩
theorem peer_results (tmps : Array Value) (w : World) (a : Nat) (cs : Array Value) (t0 : tmps.getD 2 undef = .pointer (some ⟨a, 0, none⟩)) (h0 : w.heap[a]? = some (.cells cs 71 (0, 0))) (hcs : cs.size = 5) : (results Tryz.f30 tmps).run Tryz.prog w = .ok (.agg cs) w := by
 have hi : (Tryz.prog.info? 71).map (·.size) = some cs.size := by rw [hcs]; kernel_rfl
 have hl := run_loadVar_row w a 71 71 cs (0, 0) _ h0 Tryz.underlying71 rfl hi
 rw [Array.getD_eq_getD_getElem?] at t0
 simp [results, Tryz.results30, asAddr, t0, hl]
theorem peer_nob (w : World) (p : Option Addr) (h : Nob w p) : Calls Tryz.prog 30 #[.pointer p] w fun e w' => e = .returned (.agg #[.int .u32 0, .int .u32 0, .int .u32 0, .int .u16 0, .int .u16 0]) ∧ Below w.heap.size w w' := by
 have H := Lib.hid (fun (W : World) (hb : Below w.heap.size w W) => is_nob W p (h.below hb))
 clear h
 go_enter Tryz.func30, Tryz.ntmps30
 go_wp2_with fail
 refine (H.out _ (below_alloc (Below.refl _ _) _)).mono ?_
 rintro e w1 ⟨rfl, rfl⟩
 go_wp2
 exact bodyPost_ret (peer_results _ _ w.heap.size _ rfl (blk_new _ _) rfl) rfl ⟨rfl, below_alloc (Below.refl _ _) _⟩
theorem call_results (tmps : Array Value) (w : World) (a b : Nat) (u v : Value) (t0 : tmps.getD 4 undef = .pointer (some ⟨a, 0, none⟩)) (t1 : tmps.getD 5 undef = .pointer (some ⟨b, 0, none⟩)) (h0 : w.heap[a]? = some (.cells #[u] 30 (0, 0))) (h1 : w.heap[b]? = some (.cells #[v] 31 (0, 0))) : (results Tryz.f35 tmps).run Tryz.prog w = .ok (.tuple #[u, v]) w := by
 have c0 : w.cell? ⟨a, 0, none⟩ = some u := blk_cell h0 0
 have c1 : w.cell? ⟨b, 0, none⟩ = some v := blk_cell h1 0
 rw [Array.getD_eq_getD_getElem?] at t0 t1
 simp [results, Tryz.results35, asAddr, t0, t1]
 go_simp
theorem call_nob (w : World) (p : Option Addr) (f : Value) (h : Nob w p) : Calls Tryz.prog 35 #[.pointer p, f] w fun e w' => e = .returned (.tuple #[.slice none 0 0, .int .i64 4]) ∧ Below w.heap.size w w' := by
 have H := Lib.hid (fun (W : World) (hb : Below w.heap.size w W) => is_nob W p (h.below hb))
 clear h
 go_enter Tryz.func35, Tryz.ntmps35
 go_upto_region 1 with (fail)
 refine wp_gen (fun W => W.heap[w.heap.size]? = some (.cells #[.pointer p] 33 (0, 0)) ∧ W.heap[w.heap.size + 1]? = some (.cells #[.slice none 0 0] 30 (0, 0)) ∧ W.heap[w.heap.size + 2]? = some (.cells #[.int .i64 0] 31 (0, 0)) ∧ Below w.heap.size w W) (boxes3 w _ _ _) ?_
 rintro W ⟨h0, h1, h2, hB⟩
 have k0 : W.cell? ⟨w.heap.size, 0, none⟩ = some (.pointer p) := blk_cell h0 0
 go_wp2_with fail
 refine (H.out W hB).mono ?_
 rintro e w1 ⟨rfl, rfl⟩
 have k1 : W.cell? ⟨w.heap.size + 1, 0, none⟩ = some (.slice none 0 0) := blk_cell h1 0
 have k2 : W.cell? ⟨w.heap.size + 2, 0, none⟩ = some (.int .i64 0) := blk_cell h2 0
 have f1 := blk_frozen h1 0
 have f2 := blk_frozen h2 0
 have H1 := Lib.hid h1
 have H2 := Lib.hid h2
 have HB := Lib.hid hB
 clear h0 h1 h2 hB
 go_wp2
 exact bodyPost_ret (call_results _ _ _ _ (.slice none 0 0) (.int .i64 4) rfl rfl (blk_far (blk_put H1.out 0 _ rfl) (by dsimp only; omega) _) (blk_put (blk_far H2.out (by dsimp only; omega) _) 0 _ rfl)) rfl ⟨rfl, (HB.out.setCell (by dsimp only; omega) _).setCell (by dsimp only; omega) _⟩
theorem open_nob (w : World) (p : Option Addr) (h : Nob w p)  : Calls Tryz.prog 33 #[.pointer p] w fun e w' => e = .returned (.tuple #[.slice none 0 0, .int .i64 4]) ∧ Below w.heap.size w w' := by
 have H := Lib.hid (fun (W : World) (f : Value) (hb : Below w.heap.size w W) => call_nob W p f (h.below hb))
 have hmf : ∀ (fn : Fn) (first cap : Array Value) (w : World), (Instr.makeFunc fn first cap).run Tryz.prog w = .ok (.func fn first cap) w := fun _ _ _ _ => rfl
 clear h
 go_enter Tryz.func33, Tryz.ntmps33
 go_upto_region 1 with (fail)
 refine wp_gen (fun W => W.heap[w.heap.size]? = some (.cells #[.pointer p] 33 (0, 0)) ∧ Below w.heap.size w W) ⟨?_, ?_⟩ ?_
 rotate_left 2
 ·rintro W ⟨h0, hB⟩
  have k0 : W.cell? ⟨w.heap.size, 0, none⟩ = some (.pointer p) := blk_cell h0 0
  have HB := Lib.hid hB
  clear h0 hB
  go_wp2_with fail
  refine (H.out W _ HB.out).mono ?_
  rintro e w1 ⟨rfl, hB1⟩
  have HB1 := Lib.hid (below_then HB.out HB.out.size hB1)
  clear hB1 k0
  go_wp2
  go_ret2
  exact ⟨rfl, HB1.out⟩
 ·first | exact blk_new _ _ | exact blk_alloc (blk_new _ _) _ | exact blk_alloc (blk_alloc (blk_new _ _) _) _ | exact blk_alloc (blk_alloc (blk_alloc (blk_new _ _) _) _) _
 ·repeat (first | exact Below.refl _ _ | refine below_alloc ?_ _)
theorem take_nob (w : World) (p : Option Addr) (h : Nob w p) (t : Int) (cs : Array Value) (n : Int) : Calls Tryz.prog 31 #[.pointer p, .int .u32 t, .agg cs, .int .i64 n] w fun e w' => e = .returned (.tuple #[.slice none 0 0, .int .i64 4]) ∧ Below w.heap.size w w' := by
 have H := Lib.hid (fun (W : World) (f : Value) (hb : Below w.heap.size w W) => call_nob W p f (h.below hb))
 have hmf : ∀ (fn : Fn) (first cap : Array Value) (w : World), (Instr.makeFunc fn first cap).run Tryz.prog w = .ok (.func fn first cap) w := fun _ _ _ _ => rfl
 clear h
 go_enter Tryz.func31, Tryz.ntmps31
 go_upto_region 1 with (fail)
 refine wp_gen (fun W => W.heap[w.heap.size]? = some (.cells #[.pointer p] 33 (0, 0)) ∧ Below w.heap.size w W) ⟨?_, ?_⟩ ?_
 rotate_left 2
 ·rintro W ⟨h0, hB⟩
  have k0 : W.cell? ⟨w.heap.size, 0, none⟩ = some (.pointer p) := blk_cell h0 0
  have HB := Lib.hid hB
  clear h0 hB
  go_wp2_with fail
  refine (H.out W _ HB.out).mono ?_
  rintro e w1 ⟨rfl, hB1⟩
  have HB1 := Lib.hid (below_then HB.out HB.out.size hB1)
  clear hB1 k0
  go_wp2
  go_ret2
  exact ⟨rfl, HB1.out⟩
 ·first | exact blk_new _ _ | exact blk_alloc (blk_new _ _) _ | exact blk_alloc (blk_alloc (blk_new _ _) _) _ | exact blk_alloc (blk_alloc (blk_alloc (blk_new _ _) _) _) _
 ·repeat (first | exact Below.refl _ _ | refine below_alloc ?_ _)
theorem expire_nob (w : World) (p : Option Addr) (h : Nob w p) (n t : Int) : Calls Tryz.prog 25 #[.pointer p, .int .i64 n, .int .u32 t] w fun e w' => e = .returned (.tuple #[.slice none 0 0, .int .i64 4]) ∧ Below w.heap.size w w' := by
 have H := Lib.hid (fun (W : World) (f : Value) (hb : Below w.heap.size w W) => call_nob W p f (h.below hb))
 have hmf : ∀ (fn : Fn) (first cap : Array Value) (w : World), (Instr.makeFunc fn first cap).run Tryz.prog w = .ok (.func fn first cap) w := fun _ _ _ _ => rfl
 clear h
 go_enter Tryz.func25, Tryz.ntmps25
 go_upto_region 1 with (fail)
 refine wp_gen (fun W => W.heap[w.heap.size]? = some (.cells #[.pointer p] 33 (0, 0)) ∧ Below w.heap.size w W) ⟨?_, ?_⟩ ?_
 rotate_left 2
 ·rintro W ⟨h0, hB⟩
  have k0 : W.cell? ⟨w.heap.size, 0, none⟩ = some (.pointer p) := blk_cell h0 0
  have HB := Lib.hid hB
  clear h0 hB
  go_wp2_with fail
  refine (H.out W _ HB.out).mono ?_
  rintro e w1 ⟨rfl, hB1⟩
  have HB1 := Lib.hid (below_then HB.out HB.out.size hB1)
  clear hB1 k0
  go_wp2
  go_ret2
  exact ⟨rfl, HB1.out⟩
 ·first | exact blk_new _ _ | exact blk_alloc (blk_new _ _) _ | exact blk_alloc (blk_alloc (blk_new _ _) _) _ | exact blk_alloc (blk_alloc (blk_alloc (blk_new _ _) _) _) _
 ·repeat (first | exact Below.refl _ _ | refine below_alloc ?_ _)
theorem shutdown_nob (w : World) (p : Option Addr) (h : Nob w p) (b : Bool) (t : Int) : Calls Tryz.prog 15 #[.pointer p, .bool b, .int .u32 t] w fun e w' => e = .returned (.tuple #[.slice none 0 0, .int .i64 4]) ∧ Below w.heap.size w w' := by
 have H := Lib.hid (fun (W : World) (f : Value) (hb : Below w.heap.size w W) => call_nob W p f (h.below hb))
 have hmf : ∀ (fn : Fn) (first cap : Array Value) (w : World), (Instr.makeFunc fn first cap).run Tryz.prog w = .ok (.func fn first cap) w := fun _ _ _ _ => rfl
 clear h
 go_enter Tryz.func15, Tryz.ntmps15
 go_upto_region 1 with (fail)
 refine wp_gen (fun W => W.heap[w.heap.size]? = some (.cells #[.pointer p] 33 (0, 0)) ∧ Below w.heap.size w W) ⟨?_, ?_⟩ ?_
 rotate_left 2
 ·rintro W ⟨h0, hB⟩
  have k0 : W.cell? ⟨w.heap.size, 0, none⟩ = some (.pointer p) := blk_cell h0 0
  have HB := Lib.hid hB
  clear h0 hB
  go_wp2_with fail
  refine (H.out W _ HB.out).mono ?_
  rintro e w1 ⟨rfl, hB1⟩
  have HB1 := Lib.hid (below_then HB.out HB.out.size hB1)
  clear hB1 k0
  go_wp2
  go_ret2
  exact ⟨rfl, HB1.out⟩
 ·first | exact blk_new _ _ | exact blk_alloc (blk_new _ _) _ | exact blk_alloc (blk_alloc (blk_new _ _) _) _ | exact blk_alloc (blk_alloc (blk_alloc (blk_new _ _) _) _) _
 ·repeat (first | exact Below.refl _ _ | refine below_alloc ?_ _)
theorem empty_nob (w : World) (p : Option Addr) (h : Nob w p) (t : Int) : Calls Tryz.prog 18 #[.pointer p, .int .u32 t] w fun e w' => e = .returned (.tuple #[.slice none 0 0, .int .i64 4]) ∧ Below w.heap.size w w' := by
 have H := Lib.hid (fun (W : World) (f : Value) (hb : Below w.heap.size w W) => call_nob W p f (h.below hb))
 have hmf : ∀ (fn : Fn) (first cap : Array Value) (w : World), (Instr.makeFunc fn first cap).run Tryz.prog w = .ok (.func fn first cap) w := fun _ _ _ _ => rfl
 clear h
 go_enter Tryz.func18, Tryz.ntmps18
 go_upto_region 1 with (fail)
 refine wp_gen (fun W => W.heap[w.heap.size]? = some (.cells #[.pointer p] 33 (0, 0)) ∧ Below w.heap.size w W) ⟨?_, ?_⟩ ?_
 rotate_left 2
 ·rintro W ⟨h0, hB⟩
  have k0 : W.cell? ⟨w.heap.size, 0, none⟩ = some (.pointer p) := blk_cell h0 0
  have HB := Lib.hid hB
  clear h0 hB
  go_wp2_with fail
  refine (H.out W _ HB.out).mono ?_
  rintro e w1 ⟨rfl, hB1⟩
  have HB1 := Lib.hid (below_then HB.out HB.out.size hB1)
  clear hB1 k0
  go_wp2
  go_ret2
  exact ⟨rfl, HB1.out⟩
 ·first | exact blk_new _ _ | exact blk_alloc (blk_new _ _) _ | exact blk_alloc (blk_alloc (blk_new _ _) _) _ | exact blk_alloc (blk_alloc (blk_alloc (blk_new _ _) _) _) _
 ·repeat (first | exact Below.refl _ _ | refine below_alloc ?_ _)
theorem again_nob (w : World) (p : Option Addr) (h : Nob w p) (t : Int) : Calls Tryz.prog 42 #[.pointer p, .int .u32 t] w fun e w' => e = .returned (.tuple #[.slice none 0 0, .int .i64 4]) ∧ Below w.heap.size w w' := by
 have H := Lib.hid (fun (W : World) (f : Value) (hb : Below w.heap.size w W) => call_nob W p f (h.below hb))
 have hmf : ∀ (fn : Fn) (first cap : Array Value) (w : World), (Instr.makeFunc fn first cap).run Tryz.prog w = .ok (.func fn first cap) w := fun _ _ _ _ => rfl
 clear h
 go_enter Tryz.func42, Tryz.ntmps42
 go_upto_region 1 with (fail)
 refine wp_gen (fun W => W.heap[w.heap.size]? = some (.cells #[.pointer p] 33 (0, 0)) ∧ Below w.heap.size w W) ⟨?_, ?_⟩ ?_
 rotate_left 2
 ·rintro W ⟨h0, hB⟩
  have k0 : W.cell? ⟨w.heap.size, 0, none⟩ = some (.pointer p) := blk_cell h0 0
  have HB := Lib.hid hB
  clear h0 hB
  go_wp2_with fail
  refine (H.out W _ HB.out).mono ?_
  rintro e w1 ⟨rfl, hB1⟩
  have HB1 := Lib.hid (below_then HB.out HB.out.size hB1)
  clear hB1 k0
  go_wp2
  go_ret2
  exact ⟨rfl, HB1.out⟩
 ·first | exact blk_new _ _ | exact blk_alloc (blk_new _ _) _ | exact blk_alloc (blk_alloc (blk_new _ _) _) _ | exact blk_alloc (blk_alloc (blk_alloc (blk_new _ _) _) _) _
 ·repeat (first | exact Below.refl _ _ | refine below_alloc ?_ _)
theorem abort_nob (w : World) (p : Option Addr) (h : Nob w p) (y : ByteArray) : Calls Tryz.prog 43 #[.pointer p, .string y] w fun e w' => e = .returned (.tuple #[.slice none 0 0, .int .i64 4]) ∧ Below w.heap.size w w' := by
 have H := Lib.hid (fun (W : World) (f : Value) (hb : Below w.heap.size w W) => call_nob W p f (h.below hb))
 have hmf : ∀ (fn : Fn) (first cap : Array Value) (w : World), (Instr.makeFunc fn first cap).run Tryz.prog w = .ok (.func fn first cap) w := fun _ _ _ _ => rfl
 clear h
 go_enter Tryz.func43, Tryz.ntmps43
 go_upto_region 1 with (fail)
 refine wp_gen (fun W => W.heap[w.heap.size]? = some (.cells #[.pointer p] 33 (0, 0)) ∧ Below w.heap.size w W) ⟨?_, ?_⟩ ?_
 rotate_left 2
 ·rintro W ⟨h0, hB⟩
  have k0 : W.cell? ⟨w.heap.size, 0, none⟩ = some (.pointer p) := blk_cell h0 0
  have HB := Lib.hid hB
  clear h0 hB
  go_wp2_with fail
  refine (H.out W _ HB.out).mono ?_
  rintro e w1 ⟨rfl, hB1⟩
  have HB1 := Lib.hid (below_then HB.out HB.out.size hB1)
  clear hB1 k0
  go_wp2
  go_ret2
  exact ⟨rfl, HB1.out⟩
 ·first | exact blk_new _ _ | exact blk_alloc (blk_new _ _) _ | exact blk_alloc (blk_alloc (blk_new _ _) _) _ | exact blk_alloc (blk_alloc (blk_alloc (blk_new _ _) _) _) _
 ·repeat (first | exact Below.refl _ _ | refine below_alloc ?_ _)
end Go.Proofs.YthiaakjbapgibaaGreat.As
end
section
namespace Go.Proofs.YthiaakjbapgibaaGreat.As
open Go.RowKit Go.Proofs.YthiaakjbapgibaaGreatW.PrintWords Go.Proofs.YthiaakjbapgibaaGreatW.PrintLast Go.Proofs.YthiaakjbapgibaaGreat.Base
set_option maxRecDepth 100000
set_option linter.unusedVariables false
set_option linter.unusedSimpArgs false
def OpV (k : Int) (t n u x0 x1 x2 x3 x4 x5 x6 x7 x8 x9 : Int) (A0 : Option Addr) (n0 c0 : Nat) (A1 : Option Addr) (n1 c1 : Nat) (A2 : Option Addr) (n2 c2 : Nat) (A3 : Option Addr) (n3 c3 : Nat) (A4 : Option Addr) (n4 c4 : Nat) (b : Bool) (y : ByteArray) : Array Value := #[.int .i64 k, .int .u32 t, .int .u8 x0, .int .u8 x1, .int .u32 x2, .int .u16 x3, .int .u16 x4, .int .u32 x5, .int .u32 x6, .int .u32 x7, .int .u16 x8, .int .u16 x9, .slice A0 n0 c0, .slice A1 n1 c1, .slice A2 n2 c2, .slice A3 n3 c3, .slice A4 n4 c4, .int .i64 n, .int .u32 u, .bool b, .string y]
theorem wpList_load_cells {P : Program} {ops : Array Oper} {rest : List Oper} {op : Oper} {a : Act} {w : World} {Q : Exit → Act → World → Prop} (hgd : op.guard = none) (ty : TypeId) (x : Operand) (ho : op.op = .load ty x)
  {ad : Addr} (hx : a.eval x = .pointer (some ad)) (cs : Array Value) (d : TypeDesc) (hc : ∀ j v, cs.toList[j]? = some v → w.cell? (ad.add j) = some v)
  (hu : P.underlying ty = some d) (hd : d.isRow = true) (hi : (P.info? ty).map (·.size) = some cs.size)
  (h : wpList P ops Q rest (a.put op.dst (.agg cs)) w) : wpList P ops Q (op :: rest) a w := by
 have hl : (loadCells ad cs.size).run P w = .ok cs w := run_loadCells_list (P := P) w ad cs.toList hc
 have hv : (loadVar ty ad).run P w = .ok (.agg cs) w := by
  cases hq : P.info? ty with
  | none => simp [hq] at hi
  | some i =>
   have hs : i.size = cs.size := by simpa [hq] using hi
   have hagg : (isAgg ty).run P w = .ok true w := by
    unfold isAgg
    rw [Sem.run_bind, run_underlying hu w]
    cases d <;> simp_all [TypeDesc.isRow]
   simp [loadVar, Sem.run_bind, hagg, sizeOf, typeInfo, hq, hs, hl]
 refine wpList_plain hgd fun _ hK => ?_
 have hK' := hK _ _ h
 unfold Oper.wp execOp
 simp only [ho, hx, Instr.loadAt, Instr.sureAddr, Sem.run_bind, Sem.run_pure, Result.andThen_ok, hv]
 exact hK'
theorem cell_part {W : World} {g : Nat} {cs : Array Value} {T : TypeId} (h : W.heap[g]? = some (.cells cs T (0, 0))) (m j : Nat) (v : Value) (hv : cs.toList[j + m]? = some v) : W.cell? ((⟨g, m, none⟩ : Addr).add j) = some v := by
 rw [Addr.add_lit]
 rw [blk_cell h (m + j), Nat.add_comm, ← Array.getElem?_toList]
 exact hv
set_option maxHeartbeats 1000000 in
theorem do_nob1 (w : World) (q : Option Addr) (h : Nob w q) (t n u x0 x1 x2 x3 x4 x5 x6 x7 x8 x9 : Int) (A0 : Option Addr) (n0 c0 : Nat) (A1 : Option Addr) (n1 c1 : Nat) (A2 : Option Addr) (n2 c2 : Nat) (A3 : Option Addr) (n3 c3 : Nat) (A4 : Option Addr) (n4 c4 : Nat) (b : Bool) (y : ByteArray) : Calls Tryz.prog 23 #[.pointer q, .agg (OpV 1 t n u x0 x1 x2 x3 x4 x5 x6 x7 x8 x9 A0 n0 c0 A1 n1 c1 A2 n2 c2 A3 n3 c3 A4 n4 c4 b y)] w fun e w' => e = .returned (.tuple #[.slice none 0 0, .int .i64 4]) ∧ Below w.heap.size w w' := by
 have HC := Lib.hid (fun (W : World) (hB : Below w.heap.size w W) => open_nob W q (h.below hB))
 unfold OpV
 clear h
 go_enter Tryz.func23, Tryz.ntmps23
 go_upto_region 1 with (fail)
 refine wp_gen (fun W => W.heap[w.heap.size]? = some (.cells (#[.int .i64 1, .int .u32 t, .int .u8 x0, .int .u8 x1, .int .u32 x2, .int .u16 x3, .int .u16 x4, .int .u32 x5, .int .u32 x6, .int .u32 x7, .int .u16 x8, .int .u16 x9, .slice A0 n0 c0, .slice A1 n1 c1, .slice A2 n2 c2, .slice A3 n3 c3, .slice A4 n4 c4, .int .i64 n, .int .u32 u, .bool b, .string y]) 67 (0, 0)) ∧ Below w.heap.size w W) ⟨blk_new _ _, below_alloc (Below.refl _ _) _⟩ ?_
 rintro W ⟨h0, hB⟩
 have k0 : W.cell? ⟨w.heap.size, 0, none⟩ = some (.int .i64 1) := blk_cell h0 0
 have HB := Lib.hid hB
 clear h0 hB
 go_wp2_with fail
 refine (HC.out W HB.out).mono ?_
 rintro e w1 ⟨rfl, hB1⟩
 have HB1 := Lib.hid (below_then HB.out HB.out.size hB1)
 clear hB1 k0
 go_wp2
 go_ret2
 exact ⟨rfl, HB1.out⟩
set_option maxHeartbeats 1000000 in
theorem do_nob2 (w : World) (q : Option Addr) (h : Nob w q) (t n u x0 x1 x2 x3 x4 x5 x6 x7 x8 x9 : Int) (A0 : Option Addr) (n0 c0 : Nat) (A1 : Option Addr) (n1 c1 : Nat) (A2 : Option Addr) (n2 c2 : Nat) (A3 : Option Addr) (n3 c3 : Nat) (A4 : Option Addr) (n4 c4 : Nat) (b : Bool) (y : ByteArray) : Calls Tryz.prog 23 #[.pointer q, .agg (OpV 2 t n u x0 x1 x2 x3 x4 x5 x6 x7 x8 x9 A0 n0 c0 A1 n1 c1 A2 n2 c2 A3 n3 c3 A4 n4 c4 b y)] w fun e w' => e = .returned (.tuple #[.slice none 0 0, .int .i64 4]) ∧ Below w.heap.size w w' := by
 have HC := Lib.hid (fun (W : World) (hB : Below w.heap.size w W) => take_nob W q (h.below hB) t #[.int .u8 x0, .int .u8 x1, .int .u32 x2, .int .u16 x3, .int .u16 x4, .int .u32 x5, .int .u32 x6, .int .u32 x7, .int .u16 x8, .int .u16 x9, .slice A0 n0 c0, .slice A1 n1 c1, .slice A2 n2 c2, .slice A3 n3 c3, .slice A4 n4 c4] n)
 unfold OpV
 clear h
 go_enter Tryz.func23, Tryz.ntmps23
 go_upto_region 1 with (fail)
 refine wp_gen (fun W => W.heap[w.heap.size]? = some (.cells (#[.int .i64 2, .int .u32 t, .int .u8 x0, .int .u8 x1, .int .u32 x2, .int .u16 x3, .int .u16 x4, .int .u32 x5, .int .u32 x6, .int .u32 x7, .int .u16 x8, .int .u16 x9, .slice A0 n0 c0, .slice A1 n1 c1, .slice A2 n2 c2, .slice A3 n3 c3, .slice A4 n4 c4, .int .i64 n, .int .u32 u, .bool b, .string y]) 67 (0, 0)) ∧ Below w.heap.size w W) ⟨blk_new _ _, below_alloc (Below.refl _ _) _⟩ ?_
 rintro W ⟨h0, hB⟩
 have k0 : W.cell? ⟨w.heap.size, 0, none⟩ = some (.int .i64 2) := blk_cell h0 0
 have k1 : W.cell? ⟨w.heap.size, 1, none⟩ = some (.int .u32 t) := blk_cell h0 1
 have k17 : W.cell? ⟨w.heap.size, 17, none⟩ = some (.int .i64 n) := blk_cell h0 17
 have HCC := Lib.hid (show ∀ (j : Nat) (v : Value), (#[.int .u8 x0, .int .u8 x1, .int .u32 x2, .int .u16 x3, .int .u16 x4, .int .u32 x5, .int .u32 x6, .int .u32 x7, .int .u16 x8, .int .u16 x9, .slice A0 n0 c0, .slice A1 n1 c1, .slice A2 n2 c2, .slice A3 n3 c3, .slice A4 n4 c4] : Array Value).toList[j]? = some v → W.cell? ((⟨w.heap.size, 2, none⟩ : Addr).add j) = some v from fun j v hv => cell_part h0 2 j v ((List.getElem?_append_left (l₂ := [Value.int .i64 n, Value.int .u32 u, Value.bool b, Value.string y]) (List.getElem?_eq_some_iff.1 hv).1).trans hv))
 have HXS := Lib.hid (show (Tryz.prog.info? 65).map (·.size) = some (#[.int .u8 x0, .int .u8 x1, .int .u32 x2, .int .u16 x3, .int .u16 x4, .int .u32 x5, .int .u32 x6, .int .u32 x7, .int .u16 x8, .int .u16 x9, .slice A0 n0 c0, .slice A1 n1 c1, .slice A2 n2 c2, .slice A3 n3 c3, .slice A4 n4 c4] : Array Value).size by kernel_rfl)
 have HB := Lib.hid hB
 clear h0 hB
 go_wp2_with (with_reducible refine gate_dst (N := 20) rfl ?_; go_must (refine wpList_load_cells rfl 65 (.tmp 19) rfl rfl #[.int .u8 x0, .int .u8 x1, .int .u32 x2, .int .u16 x3, .int .u16 x4, .int .u32 x5, .int .u32 x6, .int .u32 x7, .int .u16 x8, .int .u16 x9, .slice A0 n0 c0, .slice A1 n1 c1, .slice A2 n2 c2, .slice A3 n3 c3, .slice A4 n4 c4] _ (fun j v hv => HCC.out j v hv) Tryz.underlying65 rfl HXS.out ?_))
 refine (HC.out W HB.out).mono ?_
 rintro e w1 ⟨rfl, hB1⟩
 have HB1 := Lib.hid (below_then HB.out HB.out.size hB1)
 clear hB1 k0
 go_wp2
 go_ret2
 exact ⟨rfl, HB1.out⟩
set_option maxHeartbeats 1000000 in
theorem do_nob3 (w : World) (q : Option Addr) (h : Nob w q) (t n u x0 x1 x2 x3 x4 x5 x6 x7 x8 x9 : Int) (A0 : Option Addr) (n0 c0 : Nat) (A1 : Option Addr) (n1 c1 : Nat) (A2 : Option Addr) (n2 c2 : Nat) (A3 : Option Addr) (n3 c3 : Nat) (A4 : Option Addr) (n4 c4 : Nat) (b : Bool) (y : ByteArray) : Calls Tryz.prog 23 #[.pointer q, .agg (OpV 3 t n u x0 x1 x2 x3 x4 x5 x6 x7 x8 x9 A0 n0 c0 A1 n1 c1 A2 n2 c2 A3 n3 c3 A4 n4 c4 b y)] w fun e w' => e = .returned (.tuple #[.slice none 0 0, .int .i64 4]) ∧ Below w.heap.size w w' := by
 have HC := Lib.hid (fun (W : World) (hB : Below w.heap.size w W) => expire_nob W q (h.below hB) n u)
 unfold OpV
 clear h
 go_enter Tryz.func23, Tryz.ntmps23
 go_upto_region 1 with (fail)
 refine wp_gen (fun W => W.heap[w.heap.size]? = some (.cells (#[.int .i64 3, .int .u32 t, .int .u8 x0, .int .u8 x1, .int .u32 x2, .int .u16 x3, .int .u16 x4, .int .u32 x5, .int .u32 x6, .int .u32 x7, .int .u16 x8, .int .u16 x9, .slice A0 n0 c0, .slice A1 n1 c1, .slice A2 n2 c2, .slice A3 n3 c3, .slice A4 n4 c4, .int .i64 n, .int .u32 u, .bool b, .string y]) 67 (0, 0)) ∧ Below w.heap.size w W) ⟨blk_new _ _, below_alloc (Below.refl _ _) _⟩ ?_
 rintro W ⟨h0, hB⟩
 have k0 : W.cell? ⟨w.heap.size, 0, none⟩ = some (.int .i64 3) := blk_cell h0 0
 have k17 : W.cell? ⟨w.heap.size, 17, none⟩ = some (.int .i64 n) := blk_cell h0 17
 have k18 : W.cell? ⟨w.heap.size, 18, none⟩ = some (.int .u32 u) := blk_cell h0 18
 have HB := Lib.hid hB
 clear h0 hB
 go_wp2_with fail
 refine (HC.out W HB.out).mono ?_
 rintro e w1 ⟨rfl, hB1⟩
 have HB1 := Lib.hid (below_then HB.out HB.out.size hB1)
 clear hB1 k0
 go_wp2
 go_ret2
 exact ⟨rfl, HB1.out⟩
set_option maxHeartbeats 1000000 in
theorem do_nob4 (w : World) (q : Option Addr) (h : Nob w q) (t n u x0 x1 x2 x3 x4 x5 x6 x7 x8 x9 : Int) (A0 : Option Addr) (n0 c0 : Nat) (A1 : Option Addr) (n1 c1 : Nat) (A2 : Option Addr) (n2 c2 : Nat) (A3 : Option Addr) (n3 c3 : Nat) (A4 : Option Addr) (n4 c4 : Nat) (b : Bool) (y : ByteArray) : Calls Tryz.prog 23 #[.pointer q, .agg (OpV 4 t n u x0 x1 x2 x3 x4 x5 x6 x7 x8 x9 A0 n0 c0 A1 n1 c1 A2 n2 c2 A3 n3 c3 A4 n4 c4 b y)] w fun e w' => e = .returned (.tuple #[.slice none 0 0, .int .i64 4]) ∧ Below w.heap.size w w' := by
 have HC := Lib.hid (fun (W : World) (hB : Below w.heap.size w W) => shutdown_nob W q (h.below hB) b u)
 unfold OpV
 clear h
 go_enter Tryz.func23, Tryz.ntmps23
 go_upto_region 1 with (fail)
 refine wp_gen (fun W => W.heap[w.heap.size]? = some (.cells (#[.int .i64 4, .int .u32 t, .int .u8 x0, .int .u8 x1, .int .u32 x2, .int .u16 x3, .int .u16 x4, .int .u32 x5, .int .u32 x6, .int .u32 x7, .int .u16 x8, .int .u16 x9, .slice A0 n0 c0, .slice A1 n1 c1, .slice A2 n2 c2, .slice A3 n3 c3, .slice A4 n4 c4, .int .i64 n, .int .u32 u, .bool b, .string y]) 67 (0, 0)) ∧ Below w.heap.size w W) ⟨blk_new _ _, below_alloc (Below.refl _ _) _⟩ ?_
 rintro W ⟨h0, hB⟩
 have k0 : W.cell? ⟨w.heap.size, 0, none⟩ = some (.int .i64 4) := blk_cell h0 0
 have k19 : W.cell? ⟨w.heap.size, 19, none⟩ = some (.bool b) := blk_cell h0 19
 have k18 : W.cell? ⟨w.heap.size, 18, none⟩ = some (.int .u32 u) := blk_cell h0 18
 have HB := Lib.hid hB
 clear h0 hB
 go_wp2_with fail
 refine (HC.out W HB.out).mono ?_
 rintro e w1 ⟨rfl, hB1⟩
 have HB1 := Lib.hid (below_then HB.out HB.out.size hB1)
 clear hB1 k0
 go_wp2
 go_ret2
 exact ⟨rfl, HB1.out⟩
set_option maxHeartbeats 1000000 in
theorem do_nob5 (w : World) (q : Option Addr) (h : Nob w q) (t n u x0 x1 x2 x3 x4 x5 x6 x7 x8 x9 : Int) (A0 : Option Addr) (n0 c0 : Nat) (A1 : Option Addr) (n1 c1 : Nat) (A2 : Option Addr) (n2 c2 : Nat) (A3 : Option Addr) (n3 c3 : Nat) (A4 : Option Addr) (n4 c4 : Nat) (b : Bool) (y : ByteArray) : Calls Tryz.prog 23 #[.pointer q, .agg (OpV 5 t n u x0 x1 x2 x3 x4 x5 x6 x7 x8 x9 A0 n0 c0 A1 n1 c1 A2 n2 c2 A3 n3 c3 A4 n4 c4 b y)] w fun e w' => e = .returned (.tuple #[.slice none 0 0, .int .i64 4]) ∧ Below w.heap.size w w' := by
 have HC := Lib.hid (fun (W : World) (hB : Below w.heap.size w W) => empty_nob W q (h.below hB) u)
 unfold OpV
 clear h
 go_enter Tryz.func23, Tryz.ntmps23
 go_upto_region 1 with (fail)
 refine wp_gen (fun W => W.heap[w.heap.size]? = some (.cells (#[.int .i64 5, .int .u32 t, .int .u8 x0, .int .u8 x1, .int .u32 x2, .int .u16 x3, .int .u16 x4, .int .u32 x5, .int .u32 x6, .int .u32 x7, .int .u16 x8, .int .u16 x9, .slice A0 n0 c0, .slice A1 n1 c1, .slice A2 n2 c2, .slice A3 n3 c3, .slice A4 n4 c4, .int .i64 n, .int .u32 u, .bool b, .string y]) 67 (0, 0)) ∧ Below w.heap.size w W) ⟨blk_new _ _, below_alloc (Below.refl _ _) _⟩ ?_
 rintro W ⟨h0, hB⟩
 have k0 : W.cell? ⟨w.heap.size, 0, none⟩ = some (.int .i64 5) := blk_cell h0 0
 have k18 : W.cell? ⟨w.heap.size, 18, none⟩ = some (.int .u32 u) := blk_cell h0 18
 have HB := Lib.hid hB
 clear h0 hB
 go_wp2_with fail
 refine (HC.out W HB.out).mono ?_
 rintro e w1 ⟨rfl, hB1⟩
 have HB1 := Lib.hid (below_then HB.out HB.out.size hB1)
 clear hB1 k0
 go_wp2
 go_ret2
 exact ⟨rfl, HB1.out⟩
set_option maxHeartbeats 1000000 in
theorem do_nob6 (w : World) (q : Option Addr) (h : Nob w q) (t n u x0 x1 x2 x3 x4 x5 x6 x7 x8 x9 : Int) (A0 : Option Addr) (n0 c0 : Nat) (A1 : Option Addr) (n1 c1 : Nat) (A2 : Option Addr) (n2 c2 : Nat) (A3 : Option Addr) (n3 c3 : Nat) (A4 : Option Addr) (n4 c4 : Nat) (b : Bool) (y : ByteArray) : Calls Tryz.prog 23 #[.pointer q, .agg (OpV 6 t n u x0 x1 x2 x3 x4 x5 x6 x7 x8 x9 A0 n0 c0 A1 n1 c1 A2 n2 c2 A3 n3 c3 A4 n4 c4 b y)] w fun e w' => e = .returned (.tuple #[.slice none 0 0, .int .i64 4]) ∧ Below w.heap.size w w' := by
 have HC := Lib.hid (fun (W : World) (hB : Below w.heap.size w W) => again_nob W q (h.below hB) u)
 unfold OpV
 clear h
 go_enter Tryz.func23, Tryz.ntmps23
 go_upto_region 1 with (fail)
 refine wp_gen (fun W => W.heap[w.heap.size]? = some (.cells (#[.int .i64 6, .int .u32 t, .int .u8 x0, .int .u8 x1, .int .u32 x2, .int .u16 x3, .int .u16 x4, .int .u32 x5, .int .u32 x6, .int .u32 x7, .int .u16 x8, .int .u16 x9, .slice A0 n0 c0, .slice A1 n1 c1, .slice A2 n2 c2, .slice A3 n3 c3, .slice A4 n4 c4, .int .i64 n, .int .u32 u, .bool b, .string y]) 67 (0, 0)) ∧ Below w.heap.size w W) ⟨blk_new _ _, below_alloc (Below.refl _ _) _⟩ ?_
 rintro W ⟨h0, hB⟩
 have k0 : W.cell? ⟨w.heap.size, 0, none⟩ = some (.int .i64 6) := blk_cell h0 0
 have k18 : W.cell? ⟨w.heap.size, 18, none⟩ = some (.int .u32 u) := blk_cell h0 18
 have HB := Lib.hid hB
 clear h0 hB
 go_wp2_with fail
 refine (HC.out W HB.out).mono ?_
 rintro e w1 ⟨rfl, hB1⟩
 have HB1 := Lib.hid (below_then HB.out HB.out.size hB1)
 clear hB1 k0
 go_wp2
 go_ret2
 exact ⟨rfl, HB1.out⟩
set_option maxHeartbeats 1000000 in
theorem do_nob7 (w : World) (q : Option Addr) (h : Nob w q) (t n u x0 x1 x2 x3 x4 x5 x6 x7 x8 x9 : Int) (A0 : Option Addr) (n0 c0 : Nat) (A1 : Option Addr) (n1 c1 : Nat) (A2 : Option Addr) (n2 c2 : Nat) (A3 : Option Addr) (n3 c3 : Nat) (A4 : Option Addr) (n4 c4 : Nat) (b : Bool) (y : ByteArray) : Calls Tryz.prog 23 #[.pointer q, .agg (OpV 7 t n u x0 x1 x2 x3 x4 x5 x6 x7 x8 x9 A0 n0 c0 A1 n1 c1 A2 n2 c2 A3 n3 c3 A4 n4 c4 b y)] w fun e w' => e = .returned (.tuple #[.slice none 0 0, .int .i64 4]) ∧ Below w.heap.size w w' := by
 have HC := Lib.hid (fun (W : World) (hB : Below w.heap.size w W) => abort_nob W q (h.below hB) y)
 unfold OpV
 clear h
 go_enter Tryz.func23, Tryz.ntmps23
 go_upto_region 1 with (fail)
 refine wp_gen (fun W => W.heap[w.heap.size]? = some (.cells (#[.int .i64 7, .int .u32 t, .int .u8 x0, .int .u8 x1, .int .u32 x2, .int .u16 x3, .int .u16 x4, .int .u32 x5, .int .u32 x6, .int .u32 x7, .int .u16 x8, .int .u16 x9, .slice A0 n0 c0, .slice A1 n1 c1, .slice A2 n2 c2, .slice A3 n3 c3, .slice A4 n4 c4, .int .i64 n, .int .u32 u, .bool b, .string y]) 67 (0, 0)) ∧ Below w.heap.size w W) ⟨blk_new _ _, below_alloc (Below.refl _ _) _⟩ ?_
 rintro W ⟨h0, hB⟩
 have k0 : W.cell? ⟨w.heap.size, 0, none⟩ = some (.int .i64 7) := blk_cell h0 0
 have k20 : W.cell? ⟨w.heap.size, 20, none⟩ = some (.string y) := blk_cell h0 20
 have HB := Lib.hid hB
 clear h0 hB
 go_wp2_with fail
 refine (HC.out W HB.out).mono ?_
 rintro e w1 ⟨rfl, hB1⟩
 have HB1 := Lib.hid (below_then HB.out HB.out.size hB1)
 clear hB1 k0
 go_wp2
 go_ret2
 exact ⟨rfl, HB1.out⟩
end Go.Proofs.YthiaakjbapgibaaGreat.As
end
section
namespace Go.Proofs.YthiaakjbapgibaaGreat.As
open Go.ChangeShapes Go.WideShapes Go.ChangeAt Go.RowKit Go.Proofs.YthiaakjbapgibaaGreatW.PrintWords Go.Proofs.YthiaakjbapgibaaGreat.Base
set_option linter.unusedVariables false
set_option linter.unusedSimpArgs false
set_option maxRecDepth 100000
section
variable {W : World} {r : Reach} {b0 : Nat}
theorem cell_int {t : TypeId} {v : Value} {k : IntKind} (ht : Tryz.prog.underlying t = some (.int k)) (h : Cell.okWide Tryz.prog W r b0 t v) : ∃ n, v = .int k n := okWide_int (r := r) (base := b0) (w := W) ht (by unfold Value.okWide; rw [ht]; exact h)
theorem cell_slice {t e : TypeId} {v : Value} (ht : Tryz.prog.underlying t = some (.slice e)) (h : Cell.okWide Tryz.prog W r b0 t v) : ∃ a n c, v = .slice a n c := okWide_slice (r := r) (base := b0) (w := W) ht (by unfold Value.okWide; rw [ht]; exact h)
theorem cell_bool {t : TypeId} {v : Value} (ht : Tryz.prog.underlying t = some .bool) (h : Cell.okWide Tryz.prog W r b0 t v) : ∃ b, v = .bool b := okWide_bool (r := r) (base := b0) (w := W) ht (by unfold Value.okWide; rw [ht]; exact h)
theorem cell_string {t : TypeId} {v : Value} (ht : Tryz.prog.underlying t = some .string) (h : Cell.okWide Tryz.prog W r b0 t v) : ∃ s, v = .string s := okWide_string (r := r) (base := b0) (w := W) ht (by unfold Value.okWide; rw [ht]; exact h)
theorem op_types : Tryz.prog.cellTypes Tryz.prog.depth 67 = some [3, 41, 59, 5, 41, 50, 50, 41, 41, 41, 50, 50, 60, 60, 61, 62, 63, 3, 41, 4, 9] := by kernel_rfl
theorem open_op {v : Value} (hv : Value.okWide Tryz.prog W r b0 67 v) : ∃ k t x0 x1 x2 x3 x4 x5 x6 x7 x8 x9 A0 n0 c0 A1 n1 c1 A2 n2 c2 A3 n3 c3 A4 n4 c4 n u b y, v = .agg (OpV k t n u x0 x1 x2 x3 x4 x5 x6 x7 x8 x9 A0 n0 c0 A1 n1 c1 A2 n2 c2 A3 n3 c3 A4 n4 c4 b y) := by
 unfold Value.okWide at hv
 rw [Tryz.underlying67] at hv
 obtain ⟨cs, rfl, hsz, ts, hts, _, hc⟩ := hv
 rw [op_types] at hts
 injection hts with hts
 subst hts
 have hs : cs.size = 21 := hsz.trans (by kernel_rfl)
 obtain ⟨l, rfl⟩ : ∃ l : List Value, cs = l.toArray := ⟨cs.toList, by simp⟩
 have hl : l.length = 21 := by simpa using hs
 match l, hl with
 | [v0, v1, v2, v3, v4, v5, v6, v7, v8, v9, v10, v11, v12, v13, v14, v15, v16, v17, v18, v19, v20], _ =>
  obtain ⟨u0_, e0, h0⟩ := hc 0 v0 rfl
  obtain rfl : 3 = u0_ := Option.some.inj e0
  obtain ⟨k, rfl⟩ := cell_int Tryz.underlying3 h0
  obtain ⟨u1_, e1, h1⟩ := hc 1 v1 rfl
  obtain rfl : 41 = u1_ := Option.some.inj e1
  obtain ⟨t, rfl⟩ := cell_int Tryz.underlying41 h1
  obtain ⟨u2_, e2, h2⟩ := hc 2 v2 rfl
  obtain rfl : 59 = u2_ := Option.some.inj e2
  obtain ⟨x0, rfl⟩ := cell_int Tryz.underlying59 h2
  obtain ⟨u3_, e3, h3⟩ := hc 3 v3 rfl
  obtain rfl : 5 = u3_ := Option.some.inj e3
  obtain ⟨x1, rfl⟩ := cell_int Tryz.underlying5 h3
  obtain ⟨u4_, e4, h4⟩ := hc 4 v4 rfl
  obtain rfl : 41 = u4_ := Option.some.inj e4
  obtain ⟨x2, rfl⟩ := cell_int Tryz.underlying41 h4
  obtain ⟨u5_, e5, h5⟩ := hc 5 v5 rfl
  obtain rfl : 50 = u5_ := Option.some.inj e5
  obtain ⟨x3, rfl⟩ := cell_int Tryz.underlying50 h5
  obtain ⟨u6_, e6, h6⟩ := hc 6 v6 rfl
  obtain rfl : 50 = u6_ := Option.some.inj e6
  obtain ⟨x4, rfl⟩ := cell_int Tryz.underlying50 h6
  obtain ⟨u7_, e7, h7⟩ := hc 7 v7 rfl
  obtain rfl : 41 = u7_ := Option.some.inj e7
  obtain ⟨x5, rfl⟩ := cell_int Tryz.underlying41 h7
  obtain ⟨u8_, e8, h8⟩ := hc 8 v8 rfl
  obtain rfl : 41 = u8_ := Option.some.inj e8
  obtain ⟨x6, rfl⟩ := cell_int Tryz.underlying41 h8
  obtain ⟨u9_, e9, h9⟩ := hc 9 v9 rfl
  obtain rfl : 41 = u9_ := Option.some.inj e9
  obtain ⟨x7, rfl⟩ := cell_int Tryz.underlying41 h9
  obtain ⟨u10_, e10, h10⟩ := hc 10 v10 rfl
  obtain rfl : 50 = u10_ := Option.some.inj e10
  obtain ⟨x8, rfl⟩ := cell_int Tryz.underlying50 h10
  obtain ⟨u11_, e11, h11⟩ := hc 11 v11 rfl
  obtain rfl : 50 = u11_ := Option.some.inj e11
  obtain ⟨x9, rfl⟩ := cell_int Tryz.underlying50 h11
  obtain ⟨u12_, e12, h12⟩ := hc 12 v12 rfl
  obtain rfl : 60 = u12_ := Option.some.inj e12
  obtain ⟨A0, n0, c0, rfl⟩ := cell_slice Tryz.underlying60 h12
  obtain ⟨u13_, e13, h13⟩ := hc 13 v13 rfl
  obtain rfl : 60 = u13_ := Option.some.inj e13
  obtain ⟨A1, n1, c1, rfl⟩ := cell_slice Tryz.underlying60 h13
  obtain ⟨u14_, e14, h14⟩ := hc 14 v14 rfl
  obtain rfl : 61 = u14_ := Option.some.inj e14
  obtain ⟨A2, n2, c2, rfl⟩ := cell_slice Tryz.underlying61 h14
  obtain ⟨u15_, e15, h15⟩ := hc 15 v15 rfl
  obtain rfl : 62 = u15_ := Option.some.inj e15
  obtain ⟨A3, n3, c3, rfl⟩ := cell_slice Tryz.underlying62 h15
  obtain ⟨u16_, e16, h16⟩ := hc 16 v16 rfl
  obtain rfl : 63 = u16_ := Option.some.inj e16
  obtain ⟨A4, n4, c4, rfl⟩ := cell_slice Tryz.underlying63 h16
  obtain ⟨u17_, e17, h17⟩ := hc 17 v17 rfl
  obtain rfl : 3 = u17_ := Option.some.inj e17
  obtain ⟨n, rfl⟩ := cell_int Tryz.underlying3 h17
  obtain ⟨u18_, e18, h18⟩ := hc 18 v18 rfl
  obtain rfl : 41 = u18_ := Option.some.inj e18
  obtain ⟨u, rfl⟩ := cell_int Tryz.underlying41 h18
  obtain ⟨u19_, e19, h19⟩ := hc 19 v19 rfl
  obtain rfl : 4 = u19_ := Option.some.inj e19
  obtain ⟨b, rfl⟩ := cell_bool Tryz.underlying4 h19
  obtain ⟨u20_, e20, h20⟩ := hc 20 v20 rfl
  obtain rfl : 9 = u20_ := Option.some.inj e20
  obtain ⟨y, rfl⟩ := cell_string Tryz.underlying9 h20
  exact ⟨k, t, x0, x1, x2, x3, x4, x5, x6, x7, x8, x9, A0, n0, c0, A1, n1, c1, A2, n2, c2, A3, n3, c3, A4, n4, c4, n, u, b, y, rfl⟩
end
end Go.Proofs.YthiaakjbapgibaaGreat.As
end
section
namespace Go.Proofs.YthiaakjbapgibaaGreat.As
open Go.RowKit Go.Proofs.YthiaakjbapgibaaGreatW.PrintWords Go.Proofs.YthiaakjbapgibaaGreatW.PrintLast Go.Proofs.YthiaakjbapgibaaGreat.Base Go.Proofs.YthiaakjbapgibaaGreat.PCh
set_option maxRecDepth 100000
set_option linter.unusedVariables false
set_option linter.unusedSimpArgs false
abbrev Act' := S73
abbrev Chk := S65
theorem R_one {α : Type} (d : Kd α) (W : World) (base e : Nat) (x : α) (cs : List Value) (ok : Nat → Prop) (hM : d.M W base ok x cs) (hb : base ≤ W.heap.size) (hf : ok W.heap.size) : d.R e (W.alloc (.cells cs.toArray e)) base ok (.slice (some ⟨W.heap.size, 0, none⟩) 1 1) [x] := by
 refine ⟨fun k hk => ?_, cs, ?_, ?_⟩
 ·have : W.heap.size = k := by simpa [Value.ownBlock] using hk
  subst this
  exact hf
 ·have hl := d.K_len (d.K_of_M hM)
  have h := World.ownsRow_lit (base := base) (e := e) (size := d.sz) W cs.toArray 1 hb (by simp [maxLen]) (by simp [hl])
  simpa using h
 ·have hr : Reps (d.M W base ok) d.sz [x] cs := by
   have hl := d.K_len (d.K_of_M hM)
   refine ⟨by simp [hl], fun j p hj => ?_⟩
   obtain ⟨hjl, hp⟩ := List.getElem?_eq_some_iff.1 hj
   have hj0 : j = 0 := by simpa using hjl
   subst hj0
   have hp' : x = p := by simpa using hp
   subst hp'
   rw [Nat.zero_mul, List.drop_zero, List.take_of_length_le (by omega)]
   exact hM
  refine hr.imp_ (fun p c hp => d.M_mono (fun k hk => ⟨hk.1, fun he => ?_⟩) (Kd.M_below (d.M_bound hp) (below_alloc (Below.refl _ _) _)))
  have h3 : k = W.heap.size := by simpa [Value.ownBlock] using he
  have := hk.2.2.1
  omega
theorem R_only' {α : Type} {d : Kd α} {e : Nat} {w w' : World} {base : Nat} {ok : Nat → Prop} {v : Value} {xs : List α} (h : d.R e w base ok v xs) (o : Below w.heap.size w w') : d.R e w' base ok v xs := Kd.R_below h o
theorem R_base {α : Type} {d : Kd α} {w : World} {e base : Nat} {v : Value} {q : List α} (h : d.R e w base (fun _ => True) v q) : d.R e w base (fun k => base ≤ k) v q := Kd.R_mono (Kd.R_bound h) fun _ hk => hk.2.1
theorem only_then {S : Nat → Prop} {w W W' : World} (h : Only S w W) (hb : Below W.heap.size W W') : Only S w W' :=
 ⟨hb.os.trans h.os, hb.tape.trans h.tape, hb.output.trans h.output, Nat.le_trans h.size hb.size, fun k hk hn => (hb.block k (Nat.lt_of_lt_of_le hk h.size)).trans (h.block k hk hn)⟩
theorem only_grown {S : Nat → Prop} {a b c : World} {own : Option Nat} (h : Only S a b) (hG : b.grownBy c own) (hS : ∀ k, k < a.heap.size → own = some k → S k) : Only S a c :=
 ⟨hG.os.trans h.os, hG.tape.trans h.tape, hG.output.trans h.output, Nat.le_trans h.size hG.size, fun k hk hn => (hG.block k (Nat.lt_of_lt_of_le hk h.size) (fun e => hn (hS k hk e.symm))).trans (h.block k hk hn)⟩
structure MA (W0 : World) (g : Nat) (cs : Array Value) (xs : List Act') (W : World) : Prop where
 lt : g < W0.heap.size
 sz : cs.size = 38
 row : ∃ av, W.heap[g]? = some (.cells (cs.setIfInBounds 36 av) 90 (0, 0)) ∧ k73.R 73 W W0.heap.size (fun _ => True) av xs
 only : Only (· = g) W0 W
theorem info_act : (Tryz.prog.info? 73).map (fun i => (i.zero, i.size, i.bytes)) = some (some (.agg #[.int .i64 0, .int .u32 0, .slice none 0 0, .int .i64 0, .int .u32 0, .int .u32 0, .int .u32 0, .int .u16 0, .int .u16 0, .int .i64 0]), k73.sz, 72) := by kernel_rfl
set_option maxHeartbeats 2000000 in
theorem ask1 (W0 We W : World) (g : Nat) (cs : Array Value) (xs : List Act') (y : Act') (ycs : List Value) (h : MA W0 g cs xs We) (hB : Below We.heap.size We W) (hM : k73.M W W0.heap.size (fun k => We.heap.size ≤ k) y ycs) (hl : xs.length ≤ 100000) :
  Calls Tryz.prog 74 #[.pointer (some ⟨g, 0, none⟩), .slice (some ⟨W.heap.size, 0, none⟩) 1 1] (W.alloc (.cells ycs.toArray 73)) fun e w' => e = .returned (.tuple #[]) ∧ MA W0 g cs (xs ++ [y]) w' := by
 obtain ⟨hlt, hsz, ⟨av, hrow, hR⟩, ho⟩ := h
 have hrowW := blk_below hrow hB
 have HRow := Lib.hid hrowW
 have k36 : (W.alloc (.cells ycs.toArray 73)).cell? ⟨g, 36, none⟩ = some av := (blk_cell (blk_alloc hrowW _) 36).trans (by simp [hsz])
 have HB := Lib.hid hB
 have HR := Lib.hid (R_only' hR hB)
 have HOW := Lib.hid (show ∀ k, We.heap.size ≤ k → some k ≠ av.ownBlock from fun k hk e => by have := Kd.R_lt hR k e.symm; omega)
 have HM := Lib.hid hM
 have HO := Lib.hid ho
 have HLT := Lib.hid hlt
 have HL := Lib.hid hl
 have HWS := Lib.hid (show W0.heap.size ≤ W.heap.size from Nat.le_trans ho.size hB.size)
 have HGE := Lib.hid (show ∀ k, av.ownBlock = some k → W0.heap.size ≤ k from fun k e => (Kd.R_bound hR).1 k e |>.2.1)
 clear hrow hrowW hR ho hB hM hlt hl
 go_enter Tryz.func74, Tryz.ntmps74
 go_wp2_with (at_builtin; go_must (refine Kd.R_append k73 (w0 := W) (W := W) W0.heap.size rfl _ _ 30 73 _ 72 rfl Tryz.underlying30 info_act rfl (by decide) (by decide) av xs y ycs (fun _ => True) (fun k => We.heap.size ≤ k) rfl rfl HM.out (fun k hk => ⟨trivial, HOW.out k hk⟩) (fun _ _ => trivial) HR.out (Below.refl _ _) HWS.out (by have := HL.out; omega) ?_); (intro v1 w1 hR1 hB1 hG1 hat; have HR1 := Lib.hid hR1; have HB1 := Lib.hid hB1; have HG1 := Lib.hid hG1; clear hR1 hB1 hG1 hat; refine RowKit.Hid.out ?_))
 refine Lib.hid ?_
 obtain ⟨A7, c7, e7⟩ := Kd.R_slice HR1.out
 have hg1 := blk_grown HRow.out HG1.out (fun e => by have := HGE.out g e.symm; have := HLT.out; omega)
 have hs := blk_cell hg1 36
 have hf := blk_frozen hg1 36
 have hs2 : w1.cell? ⟨g, 36, none⟩ = some av := hs.trans (by simp [hsz])
 clear hs
 have HG := Lib.hid hg1
 clear hg1
 subst e7
 go_wp2
 go_end0
 refine ⟨rfl, HLT.out, hsz, ⟨_, ?_, Kd.R_mono (Kd.R_far (R_base HR1.out) (p := ⟨g, 36, none⟩) (fun k hk => ?_) _) (fun _ _ => trivial)⟩, ?_⟩
 ·have := blk_put HG.out 36 (.slice A7 (xs ++ [y]).length c7) rfl
  simpa using this
 ·have := HLT.out
  dsimp only
  omega
 ·exact (only_grown (only_then HO.out HB.out) HG1.out (fun k hk e => by have := HGE.out k e; omega)).setCell (fun _ => rfl) _
theorem MA.below {W0 : World} {g : Nat} {cs : Array Value} {xs : List Act'} {w w' : World} (h : MA W0 g cs xs w) (hb : Below w.heap.size w w') : MA W0 g cs xs w' := by
 obtain ⟨h1, h2, ⟨av, h3, h4⟩, h5⟩ := h
 exact ⟨h1, h2, ⟨av, blk_below h3 hb, Kd.R_below h4 hb⟩, only_then h5 hb⟩
theorem MA.cell {W0 : World} {g : Nat} {cs : Array Value} {xs : List Act'} {w : World} (h : MA W0 g cs xs w) (i : Nat) (hi : i ≠ 36) {v : Value} (hv : cs[i]? = some v) : w.cell? ⟨g, i, none⟩ = some v := by
 obtain ⟨h1, h2, ⟨av, h3, h4⟩, h5⟩ := h
 rw [blk_cell h3 i, Array.getElem?_setIfInBounds_ne (by omega)]
 exact hv
theorem MA.frozen {W0 : World} {g : Nat} {cs : Array Value} {xs : List Act'} {w : World} (h : MA W0 g cs xs w) (i : Nat) : w.frozen? ⟨g, i, none⟩ = false := by
 obtain ⟨h1, h2, ⟨av, h3, h4⟩, h5⟩ := h
 exact blk_frozen h3 i
theorem MA.set {W0 : World} {g : Nat} {cs : Array Value} {xs : List Act'} {w : World} (h : MA W0 g cs xs w) (i : Nat) (hi : i ≠ 36) (u : Value) : MA W0 g (cs.setIfInBounds i u) xs (w.setCell ⟨g, i, none⟩ u) := by
 obtain ⟨h1, h2, ⟨av, h3, h4⟩, h5⟩ := h
 refine ⟨h1, by simpa using h2, ⟨av, ?_, Kd.R_mono (Kd.R_far (R_base h4) (p := ⟨g, i, none⟩) (fun k hk => by dsimp only; omega) _) (fun _ _ => trivial)⟩, h5.setCell (fun _ => rfl) _⟩
 have := blk_set h3 i u
 rwa [Array.setIfInBounds_comm _ _ (by omega)] at this
def actTimer (k n : Int) : Act' := ⟨k, 0, [], n, ⟨0, 0, 0, 0, 0⟩, 0⟩
def actSend (x : Chk) (t : Int) : Act' := ⟨1, t, [x], 0, ⟨0, 0, 0, 0, 0⟩, 0⟩
theorem act_M {W : World} {base : Nat} {ok : Nat → Prop} (k n : Int) : k73.M W base ok (actTimer k n) [.int .i64 k, .int .u32 0, .slice none 0 0, .int .i64 n, .int .u32 0, .int .u32 0, .int .u32 0, .int .u16 0, .int .u16 0, .int .i64 0] :=
 k73_mkM W base ok (actTimer k n) (Kd.R_nil _ _ _ _ _)
theorem start_calls (W0 W : World) (g : Nat) (cs : Array Value) (xs : List Act') (h : MA W0 g cs xs W) (hl : xs.length ≤ 100000) (n : Int) :
  Calls Tryz.prog 38 #[.pointer (some ⟨g, 0, none⟩), .int .i64 n] W fun e w' => e = .returned (.tuple #[]) ∧ MA W0 g cs (xs ++ [actTimer 2 n]) w' := by
 have H := Lib.hid (ask1 W0 W W g cs xs (actTimer 2 n) _ h (Below.refl _ _) (act_M 2 n) hl)
 clear h
 go_enter Tryz.func38, Tryz.ntmps38
 go_wp2_with fail
 refine H.out.mono ?_
 rintro e w1 ⟨rfl, h1⟩
 go_wp2
 go_end0
 exact ⟨rfl, h1⟩
theorem send_calls (W0 W : World) (g : Nat) (cs : Array Value) (xs : List Act') (h : MA W0 g cs xs W) (hl : xs.length ≤ 100000) (x : Chk) (ccs : Array Value) (hx : k65.M W W0.heap.size (fun k => W.heap.size ≤ k) x ccs.toList) (t : Int) :
  Calls Tryz.prog 81 #[.pointer (some ⟨g, 0, none⟩), .agg ccs, .int .u32 t] W fun e w' => e = .returned (.tuple #[]) ∧ MA W0 g cs (xs ++ [actSend x t]) w' := by
 obtain ⟨v10, v11, v12, v13, v14, hcs, h10, h11, h12, h13, h14⟩ := k65_openM hx
 obtain ⟨A10, c10, e10⟩ := Kd.R_slice h10
 subst e10
 obtain ⟨A11, c11, e11⟩ := Kd.R_slice h11
 subst e11
 obtain ⟨A12, c12, e12⟩ := Kd.R_slice h12
 subst e12
 obtain ⟨A13, c13, e13⟩ := Kd.R_slice h13
 subst e13
 obtain ⟨A14, c14, e14⟩ := Kd.R_slice h14
 subst e14
 obtain rfl : ccs = #[.int .u8 x.f0, .int .u8 x.f1, .int .u32 x.f2, .int .u16 x.f3, .int .u16 x.f4, .int .u32 x.f5, .int .u32 x.f6, .int .u32 x.f7, .int .u16 x.f8, .int .u16 x.f9, .slice A10 x.f10.length c10, .slice A11 x.f11.length c11, .slice A12 x.f12.length c12, .slice A13 x.f13.length c13, .slice A14 x.f14.length c14] := Array.toList_inj.1 hcs
 have s1 : (W.alloc (.cells #[.int .u8 x.f0, .int .u8 x.f1, .int .u32 x.f2, .int .u16 x.f3, .int .u16 x.f4, .int .u32 x.f5, .int .u32 x.f6, .int .u32 x.f7, .int .u16 x.f8, .int .u16 x.f9, .slice A10 x.f10.length c10, .slice A11 x.f11.length c11, .slice A12 x.f12.length c12, .slice A13 x.f13.length c13, .slice A14 x.f14.length c14] 65)).heap.size = W.heap.size + 1 := by simp
 have hM1 := Kd.M_below hx (below_alloc (Below.refl W.heap.size W) (.cells #[.int .u8 x.f0, .int .u8 x.f1, .int .u32 x.f2, .int .u16 x.f3, .int .u16 x.f4, .int .u32 x.f5, .int .u32 x.f6, .int .u32 x.f7, .int .u16 x.f8, .int .u16 x.f9, .slice A10 x.f10.length c10, .slice A11 x.f11.length c11, .slice A12 x.f12.length c12, .slice A13 x.f13.length c13, .slice A14 x.f14.length c14] 65))
 have hR1 := R_one k65 (W.alloc (.cells #[.int .u8 x.f0, .int .u8 x.f1, .int .u32 x.f2, .int .u16 x.f3, .int .u16 x.f4, .int .u32 x.f5, .int .u32 x.f6, .int .u32 x.f7, .int .u16 x.f8, .int .u16 x.f9, .slice A10 x.f10.length c10, .slice A11 x.f11.length c11, .slice A12 x.f12.length c12, .slice A13 x.f13.length c13, .slice A14 x.f14.length c14] 65)) W0.heap.size 65 x _ (fun k => W.heap.size ≤ k) hM1 (by rw [s1]; have := h.only.size; omega) (by rw [s1]; omega)
 rw [s1] at hR1
 have hA := ask1 W0 W _ g cs xs (actSend x t) _ h (below_alloc (below_alloc (Below.refl W.heap.size W) (.cells #[.int .u8 x.f0, .int .u8 x.f1, .int .u32 x.f2, .int .u16 x.f3, .int .u16 x.f4, .int .u32 x.f5, .int .u32 x.f6, .int .u32 x.f7, .int .u16 x.f8, .int .u16 x.f9, .slice A10 x.f10.length c10, .slice A11 x.f11.length c11, .slice A12 x.f12.length c12, .slice A13 x.f13.length c13, .slice A14 x.f14.length c14] 65)) (.cells #[.int .u8 x.f0, .int .u8 x.f1, .int .u32 x.f2, .int .u16 x.f3, .int .u16 x.f4, .int .u32 x.f5, .int .u32 x.f6, .int .u32 x.f7, .int .u16 x.f8, .int .u16 x.f9, .slice A10 x.f10.length c10, .slice A11 x.f11.length c11, .slice A12 x.f12.length c12, .slice A13 x.f13.length c13, .slice A14 x.f14.length c14] 65)) (k73_mkM _ _ _ (actSend x t) hR1) hl
 rw [show ((W.alloc (.cells #[.int .u8 x.f0, .int .u8 x.f1, .int .u32 x.f2, .int .u16 x.f3, .int .u16 x.f4, .int .u32 x.f5, .int .u32 x.f6, .int .u32 x.f7, .int .u16 x.f8, .int .u16 x.f9, .slice A10 x.f10.length c10, .slice A11 x.f11.length c11, .slice A12 x.f12.length c12, .slice A13 x.f13.length c13, .slice A14 x.f14.length c14] 65)).alloc (.cells #[.int .u8 x.f0, .int .u8 x.f1, .int .u32 x.f2, .int .u16 x.f3, .int .u16 x.f4, .int .u32 x.f5, .int .u32 x.f6, .int .u32 x.f7, .int .u16 x.f8, .int .u16 x.f9, .slice A10 x.f10.length c10, .slice A11 x.f11.length c11, .slice A12 x.f12.length c12, .slice A13 x.f13.length c13, .slice A14 x.f14.length c14] 65)).heap.size = W.heap.size + 1 + 1 by simp] at hA
 have HA := Lib.hid hA
 clear h10 h11 h12 h13 h14 hx h hcs hM1 hR1 hA s1
 go_enter Tryz.func81, Tryz.ntmps81
 go_wp2_with fail
 refine HA.out.mono ?_
 rintro e w1 ⟨rfl, h1⟩
 go_wp2
 go_end0
 exact ⟨rfl, h1⟩
end Go.Proofs.YthiaakjbapgibaaGreat.As
end
section
namespace Go.Proofs.YthiaakjbapgibaaGreat.As
open Go.RowKit Go.Proofs.YthiaakjbapgibaaGreatW.PrintWords Go.Proofs.YthiaakjbapgibaaGreatW.PrintLast Go.Proofs.YthiaakjbapgibaaGreat.Base Go.Proofs.YthiaakjbapgibaaGreat.PCh
set_option maxRecDepth 100000
set_option linter.unusedVariables false
set_option linter.unusedSimpArgs false
def nextD (d : Int) : Int := IntKind.u64.wrap (d + 11400714819323198485)
def mixA (z : Int) : Int := IntKind.u64.wrap (bits .xor .u64 z (z / 1073741824) * 13787848793156543929)
def mixB (z : Int) : Int := IntKind.u64.wrap (bits .xor .u64 z (z / 134217728) * 10723151780598845931)
def mixC (z : Int) : Int := bits .xor .u64 z (z / 2147483648)
def zD (d : Int) : Int := mixC (mixB (mixA (nextD d)))
def tagD (d : Int) : Int := if zD d / 4294967296 % 4294967296 ≤ 1 then 1 else zD d / 4294967296 % 4294967296
def tsnD (d : Int) : Int := zD d % 4294967296
theorem pair_calls (W0 W : World) (g : Nat) (cs : Array Value) (xs : List Act') (h : MA W0 g cs xs W) (d : Int) (hd : cs[35]? = some (.int .u64 d)) :
  Calls Tryz.prog 72 #[.pointer (some ⟨g, 0, none⟩)] W fun e w' => e = .returned (.tuple #[.int .u32 (tagD d), .int .u32 (tsnD d)]) ∧ MA W0 g (cs.setIfInBounds 35 (.int .u64 (nextD d))) xs w' := by
 have hs := h.cell 35 (by decide) hd
 have hf := h.frozen 35
 have H := Lib.hid (h.set 35 (by decide) (.int .u64 (nextD d)))
 clear h
 go_enter Tryz.func72, Tryz.ntmps72
 go_wp2
 ·have h2 : 1 < zD d / 4294967296 % 4294967296 := h
  have e1 : zD d / 4294967296 % 4294967296 = tagD d := by rw [tagD, if_neg (by omega)]
  go_ret2
  exact ⟨congrArg (fun z => Ending.returned (.tuple #[.int .u32 z, .int .u32 (tsnD d)])) e1, H.out⟩
 ·have h2 : zD d / 4294967296 % 4294967296 ≤ 1 := h
  have e1 : 1 = tagD d := by rw [tagD, if_pos h2]
  go_ret2
  exact ⟨congrArg (fun z => Ending.returned (.tuple #[.int .u32 z, .int .u32 (tsnD d)])) e1, H.out⟩
def initC (tag tsn win out inn : Int) : Chk := ⟨1, 0, tsn, 0, 0, 0, tag, win, out, inn, [], [], [], [], []⟩
theorem chk_nil {W : World} {base : Nat} {ok : Nat → Prop} (tag tsn win out inn : Int) : k65.M W base ok (initC tag tsn win out inn) [.int .u8 1, .int .u8 0, .int .u32 tsn, .int .u16 0, .int .u16 0, .int .u32 0, .int .u32 tag, .int .u32 win, .int .u16 out, .int .u16 inn, .slice none 0 0, .slice none 0 0, .slice none 0 0, .slice none 0 0, .slice none 0 0] :=
 k65_mkM W base ok (initC tag tsn win out inn) (Kd.R_nil _ _ _ _ _) (Kd.R_nil _ _ _ _ _) (Kd.R_nil _ _ _ _ _) (Kd.R_nil _ _ _ _ _) (Kd.R_nil _ _ _ _ _)
def sInitT0 : Bool × List (List Nat × List Nat) := (true, [([], []), ([], []), ([1], [1]), ([2], [2]), ([3], [3]), ([4], [4]), ([], []), ([6], [6]), ([7], [7]), ([8], [8]), ([9], [9]), ([], []), ([11], [11]), ([12], [12]), ([13], [13]), ([14], [14]), ([], []), ([16], [16]), ([17], [17]), ([18], [18]), ([19], [19]), ([], []), ([21], [21]), ([22], [22]), ([23], [23]), ([24], [24]), ([5, 10, 15, 20, 25], [5, 10, 15, 20, 25]), ([0, 26], [0, 26])])
def sInitB0 : List Nat := [0, 0, 2, 6, 14, 30, 0, 64, 192, 448, 960, 0, 2048, 6144, 14336, 30720, 0, 65536, 196608, 458752, 983040, 0, 2097152, 6291456, 14680064, 31457280, 67108862, 134217727]
theorem sInittab0 : Go.Proofs.YthiaakjbapgibaaGreatW.PrintLast.rtab .any (Go.Proofs.YthiaakjbapgibaaGreatW.PrintLast.opsOf Tryz.f48 0) = sInitT0 := by kernel_rfl
theorem sInitbits0 : Go.Proofs.YthiaakjbapgibaaGreatW.PrintLast.waitsOk sInitT0.2 sInitB0 = true := by kernel_rfl
set_option maxHeartbeats 2000000 in
theorem sendInit_calls (W0 W : World) (g : Nat) (cs : Array Value) (xs : List Act') (h : MA W0 g cs xs W) (hl : xs.length ≤ 10000) (tag tsn win out inn : Int) (h1 : cs[1]? = some (.int .u32 tag)) (h2 : cs[2]? = some (.int .u32 tsn)) (h3 : cs[28]? = some (.int .u32 win)) (h4 : cs[29]? = some (.int .u16 out)) (h5 : cs[30]? = some (.int .u16 inn)) :
  Calls Tryz.prog 48 #[.pointer (some ⟨g, 0, none⟩)] W fun e w' => e = .returned (.tuple #[]) ∧ MA W0 g cs (xs ++ [actSend (initC tag tsn win out inn) 0] ++ [actTimer 2 1]) w' := by
 have k1 := h.cell 1 (by decide) h1
 have k2 := h.cell 2 (by decide) h2
 have k3 := h.cell 28 (by decide) h3
 have k4 := h.cell 29 (by decide) h4
 have k5 := h.cell 30 (by decide) h5
 have H := Lib.hid (fun (W' : World) (hb : Below W.heap.size W W') => send_calls W0 W' g cs xs (h.below hb) (by omega) (initC tag tsn win out inn) #[.int .u8 1, .int .u8 0, .int .u32 tsn, .int .u16 0, .int .u16 0, .int .u32 0, .int .u32 tag, .int .u32 win, .int .u16 out, .int .u16 inn, .slice none 0 0, .slice none 0 0, .slice none 0 0, .slice none 0 0, .slice none 0 0] (chk_nil tag tsn win out inn) 0)
 have HL := Lib.hid hl
 clear h h1 h2 h3 h4 h5
 go_enter Tryz.func48, Tryz.ntmps48
 go_upto_region 0 with (fail)
 have K1 := Lib.hid k1
 have K2 := Lib.hid k2
 have K3 := Lib.hid k3
 have K4 := Lib.hid k4
 have K5 := Lib.hid k5
 clear k1 k2 k3 k4 k5
 have B0 := True.intro
 have S1 := True.intro
 refine start_ (n := 28) (S := fun w' => True) (ds := []) #[false, false, false, false, false, false, false, false, false, false, false, false, false, false, false, false, false, false, false, false, false, false, false, false, false, false, false, false] (by kernel_rfl) rfl rfl trivial (fun hHeld => ?_)
 refine with_tabW sInittab0 sInitbits0 (fun HT_ HW_ => ?_)
 refine pure_ (i := 0) (N := some 2) (v := ?_) (a' := ?_) #[true, false, false, false, false, false, false, false, false, false, false, false, false, false, false, false, false, false, false, false, false, false, false, false, false, false, false, false] rfl rfl (any_of HT_.out (by kernel_rfl)) (fun _ _ _ h => h) (Or.inl ⟨by rfl, ?_⟩) ?_ ?_
 rotate_left
 ·intro w'
  go_simp
  with_reducible rfl
 rotate_left
 ·simp only [Act.put, List.setIfInBounds_toArray, List.set_cons_zero, List.set_cons_succ, i64_w, i32_w]
  rfl
 refine pure_ (i := 1) (N := some 3) (v := ?_) (a' := ?_) #[true, true, false, false, false, false, false, false, false, false, false, false, false, false, false, false, false, false, false, false, false, false, false, false, false, false, false, false] rfl rfl (any_of HT_.out (by kernel_rfl)) (fun _ _ _ h => h) (Or.inl ⟨by rfl, ?_⟩) ?_ ?_
 rotate_left
 ·intro w'
  go_simp
  with_reducible rfl
 rotate_left
 ·simp only [Act.put, List.setIfInBounds_toArray, List.set_cons_zero, List.set_cons_succ, i64_w, i32_w]
  rfl
 refine pure_ (i := 6) (N := some 8) (v := ?_) (a' := ?_) #[true, true, false, false, false, false, true, false, false, false, false, false, false, false, false, false, false, false, false, false, false, false, false, false, false, false, false, false] rfl rfl (any_of HT_.out (by kernel_rfl)) (fun _ _ _ h => h) (Or.inl ⟨by rfl, ?_⟩) ?_ ?_
 rotate_left
 ·intro w'
  go_simp
  with_reducible rfl
 rotate_left
 ·simp only [Act.put, List.setIfInBounds_toArray, List.set_cons_zero, List.set_cons_succ, i64_w, i32_w]
  rfl
 refine pure_ (i := 11) (N := some 13) (v := ?_) (a' := ?_) #[true, true, false, false, false, false, true, false, false, false, false, true, false, false, false, false, false, false, false, false, false, false, false, false, false, false, false, false] rfl rfl (any_of HT_.out (by kernel_rfl)) (fun _ _ _ h => h) (Or.inl ⟨by rfl, ?_⟩) ?_ ?_
 rotate_left
 ·intro w'
  go_simp
  with_reducible rfl
 rotate_left
 ·simp only [Act.put, List.setIfInBounds_toArray, List.set_cons_zero, List.set_cons_succ, i64_w, i32_w]
  rfl
 refine pure_ (i := 16) (N := some 18) (v := ?_) (a' := ?_) #[true, true, false, false, false, false, true, false, false, false, false, true, false, false, false, false, true, false, false, false, false, false, false, false, false, false, false, false] rfl rfl (any_of HT_.out (by kernel_rfl)) (fun _ _ _ h => h) (Or.inl ⟨by rfl, ?_⟩) ?_ ?_
 rotate_left
 ·intro w'
  go_simp
  with_reducible rfl
 rotate_left
 ·simp only [Act.put, List.setIfInBounds_toArray, List.set_cons_zero, List.set_cons_succ, i64_w, i32_w]
  rfl
 refine pure_ (i := 21) (N := some 23) (v := ?_) (a' := ?_) #[true, true, false, false, false, false, true, false, false, false, false, true, false, false, false, false, true, false, false, false, false, true, false, false, false, false, false, false] rfl rfl (any_of HT_.out (by kernel_rfl)) (fun _ _ _ h => h) (Or.inl ⟨by rfl, ?_⟩) ?_ ?_
 rotate_left
 ·intro w'
  go_simp
  with_reducible rfl
 rotate_left
 ·simp only [Act.put, List.setIfInBounds_toArray, List.set_cons_zero, List.set_cons_succ, i64_w, i32_w]
  rfl
 refine inv_at [2, 3, 4, 5, 7, 8, 9, 10, 12, 13, 14, 15, 17, 18, 19, 20, 22, 23, 24, 25, 26, 27] (fun a0_ b a w' => a = putSel a0_ b [(2, 4, .pointer (some ⟨g, 0, none⟩)), (3, 5, .pointer (some ⟨g, 0, none⟩)), (4, 6, .pointer (some ⟨g, 1, none⟩)), (5, 7, .int .u32 tag), (7, 9, .pointer (some ⟨g, 0, none⟩)), (8, 10, .pointer (some ⟨g, 0, none⟩)), (9, 11, .pointer (some ⟨g, 2, none⟩)), (10, 12, .int .u32 tsn), (12, 14, .pointer (some ⟨g, 0, none⟩)), (13, 15, .pointer (some ⟨g, 10, none⟩)), (14, 16, .pointer (some ⟨g, 28, none⟩)), (15, 17, .int .u32 win), (17, 19, .pointer (some ⟨g, 0, none⟩)), (18, 20, .pointer (some ⟨g, 10, none⟩)), (19, 21, .pointer (some ⟨g, 29, none⟩)), (20, 22, .int .u16 out), (22, 24, .pointer (some ⟨g, 0, none⟩)), (23, 25, .pointer (some ⟨g, 10, none⟩)), (24, 26, .pointer (some ⟨g, 30, none⟩)), (25, 27, .int .u16 inn), (26, 28, .agg #[.int .u8 1, .int .u8 0, .int .u32 tsn, .int .u16 0, .int .u16 0, .int .u32 0, .int .u32 tag, .int .u32 win, .int .u16 out, .int .u16 inn, .slice none 0 0, .slice none 0 0, .slice none 0 0, .slice none 0 0, .slice none 0 0]), (27, 29, .tuple #[])] ∧ (b 27 = false → Below W.heap.size W w') ∧ (b 27 = true → MA W0 g cs (xs ++ [actSend (initC tag tsn win out inn) 0]) w')) HT_.out HW_.out (by kernel_rfl) (by kernel_rfl) ?_ ?_ ?_
 ·exact ⟨by simp only [putSel, Bool.false_eq_true, if_false], fun _ => below_drew (Below.refl _ _), fun h_ => absurd h_ (by decide)⟩
 ·skip
  clear B0
  refine steps_cons ?_ ?_
  ·rintro b a w' ⟨ha, Q_B0, Q_S1⟩ hb_ hon hoff
   refine ⟨_, rfl, fun K hK => ?_⟩
   have e3 : a.tmps[3]? = some (.pointer (some ⟨g, 0, none⟩)) := by rw [ha]; exact (putSel_off rfl).trans rfl
   replace ha := Aside0.mk ha
   have B0 := Aside0.mk (Q_B0 (hoff 27 (by kernel_rfl)))
   refine value_ (w1 := w') (v := .pointer (some ⟨g, 0, none⟩)) (by rfl) rfl ?_ ?_
   ·go_simp
    (try simp only [i64_w])
    try rfl
   refine hK.out _ _ ⟨(by rw [ha.out]; exact putSel_upk 0 hb_ rfl rfl rfl), Q_B0, fun h0_ => absurd ((hoff 27 (by kernel_rfl)).symm.trans h0_) (by decide)⟩
  refine steps_cons ?_ ?_
  ·rintro b a w' ⟨ha, Q_B0, Q_S1⟩ hb_ hon hoff
   refine ⟨_, rfl, fun K hK => ?_⟩
   have e4 : a.tmps[4]? = some (.pointer (some ⟨g, 0, none⟩)) := by rw [ha]; exact putSel_on (e := (2, 4, .pointer (some ⟨g, 0, none⟩))) 0 rfl rfl (hon 2 (by kernel_rfl)) rfl
   replace ha := Aside0.mk ha
   have B0 := Aside0.mk (Q_B0 (hoff 27 (by kernel_rfl)))
   refine value_ (w1 := w') (v := .pointer (some ⟨g, 0, none⟩)) (by rfl) rfl ?_ ?_
   ·go_simp
    (try simp only [i64_w])
    try rfl
   refine hK.out _ _ ⟨(by rw [ha.out]; exact putSel_upk 1 hb_ rfl rfl rfl), Q_B0, fun h0_ => absurd ((hoff 27 (by kernel_rfl)).symm.trans h0_) (by decide)⟩
  refine steps_cons ?_ ?_
  ·rintro b a w' ⟨ha, Q_B0, Q_S1⟩ hb_ hon hoff
   refine ⟨_, rfl, fun K hK => ?_⟩
   have e5 : a.tmps[5]? = some (.pointer (some ⟨g, 0, none⟩)) := by rw [ha]; exact putSel_on (e := (3, 5, .pointer (some ⟨g, 0, none⟩))) 1 rfl rfl (hon 3 (by kernel_rfl)) rfl
   replace ha := Aside0.mk ha
   have B0 := Aside0.mk (Q_B0 (hoff 27 (by kernel_rfl)))
   refine value_ (w1 := w') (v := .pointer (some ⟨g, 1, none⟩)) (by rfl) rfl ?_ ?_
   ·go_simp
    (try simp only [i64_w])
    try rfl
   refine hK.out _ _ ⟨(by rw [ha.out]; exact putSel_upk 2 hb_ rfl rfl rfl), Q_B0, fun h0_ => absurd ((hoff 27 (by kernel_rfl)).symm.trans h0_) (by decide)⟩
  refine steps_cons ?_ ?_
  ·rintro b a w' ⟨ha, Q_B0, Q_S1⟩ hb_ hon hoff
   refine ⟨_, rfl, fun K hK => ?_⟩
   have e6 : a.tmps[6]? = some (.pointer (some ⟨g, 1, none⟩)) := by rw [ha]; exact putSel_on (e := (4, 6, .pointer (some ⟨g, 1, none⟩))) 2 rfl rfl (hon 4 (by kernel_rfl)) rfl
   replace ha := Aside0.mk ha
   have B0 := Aside0.mk (Q_B0 (hoff 27 (by kernel_rfl)))
   have hs := pw_cell_below B0.out K1.out
   refine value_ (w1 := w') (v := .int .u32 tag) (by rfl) rfl ?_ ?_
   ·go_simp
    (try simp only [i64_w])
    try rfl
   refine hK.out _ _ ⟨(by rw [ha.out]; exact putSel_upk 3 hb_ rfl rfl rfl), Q_B0, fun h0_ => absurd ((hoff 27 (by kernel_rfl)).symm.trans h0_) (by decide)⟩
  refine steps_cons ?_ ?_
  ·rintro b a w' ⟨ha, Q_B0, Q_S1⟩ hb_ hon hoff
   refine ⟨_, rfl, fun K hK => ?_⟩
   have e8 : a.tmps[8]? = some (.pointer (some ⟨g, 0, none⟩)) := by rw [ha]; exact (putSel_off rfl).trans rfl
   replace ha := Aside0.mk ha
   have B0 := Aside0.mk (Q_B0 (hoff 27 (by kernel_rfl)))
   refine value_ (w1 := w') (v := .pointer (some ⟨g, 0, none⟩)) (by rfl) rfl ?_ ?_
   ·go_simp
    (try simp only [i64_w])
    try rfl
   refine hK.out _ _ ⟨(by rw [ha.out]; exact putSel_upk 4 hb_ rfl rfl rfl), Q_B0, fun h0_ => absurd ((hoff 27 (by kernel_rfl)).symm.trans h0_) (by decide)⟩
  refine steps_cons ?_ ?_
  ·rintro b a w' ⟨ha, Q_B0, Q_S1⟩ hb_ hon hoff
   refine ⟨_, rfl, fun K hK => ?_⟩
   have e9 : a.tmps[9]? = some (.pointer (some ⟨g, 0, none⟩)) := by rw [ha]; exact putSel_on (e := (7, 9, .pointer (some ⟨g, 0, none⟩))) 4 rfl rfl (hon 7 (by kernel_rfl)) rfl
   replace ha := Aside0.mk ha
   have B0 := Aside0.mk (Q_B0 (hoff 27 (by kernel_rfl)))
   refine value_ (w1 := w') (v := .pointer (some ⟨g, 0, none⟩)) (by rfl) rfl ?_ ?_
   ·go_simp
    (try simp only [i64_w])
    try rfl
   refine hK.out _ _ ⟨(by rw [ha.out]; exact putSel_upk 5 hb_ rfl rfl rfl), Q_B0, fun h0_ => absurd ((hoff 27 (by kernel_rfl)).symm.trans h0_) (by decide)⟩
  refine steps_cons ?_ ?_
  ·rintro b a w' ⟨ha, Q_B0, Q_S1⟩ hb_ hon hoff
   refine ⟨_, rfl, fun K hK => ?_⟩
   have e10 : a.tmps[10]? = some (.pointer (some ⟨g, 0, none⟩)) := by rw [ha]; exact putSel_on (e := (8, 10, .pointer (some ⟨g, 0, none⟩))) 5 rfl rfl (hon 8 (by kernel_rfl)) rfl
   replace ha := Aside0.mk ha
   have B0 := Aside0.mk (Q_B0 (hoff 27 (by kernel_rfl)))
   refine value_ (w1 := w') (v := .pointer (some ⟨g, 2, none⟩)) (by rfl) rfl ?_ ?_
   ·go_simp
    (try simp only [i64_w])
    try rfl
   refine hK.out _ _ ⟨(by rw [ha.out]; exact putSel_upk 6 hb_ rfl rfl rfl), Q_B0, fun h0_ => absurd ((hoff 27 (by kernel_rfl)).symm.trans h0_) (by decide)⟩
  refine steps_cons ?_ ?_
  ·rintro b a w' ⟨ha, Q_B0, Q_S1⟩ hb_ hon hoff
   refine ⟨_, rfl, fun K hK => ?_⟩
   have e11 : a.tmps[11]? = some (.pointer (some ⟨g, 2, none⟩)) := by rw [ha]; exact putSel_on (e := (9, 11, .pointer (some ⟨g, 2, none⟩))) 6 rfl rfl (hon 9 (by kernel_rfl)) rfl
   replace ha := Aside0.mk ha
   have B0 := Aside0.mk (Q_B0 (hoff 27 (by kernel_rfl)))
   have hs := pw_cell_below B0.out K2.out
   refine value_ (w1 := w') (v := .int .u32 tsn) (by rfl) rfl ?_ ?_
   ·go_simp
    (try simp only [i64_w])
    try rfl
   refine hK.out _ _ ⟨(by rw [ha.out]; exact putSel_upk 7 hb_ rfl rfl rfl), Q_B0, fun h0_ => absurd ((hoff 27 (by kernel_rfl)).symm.trans h0_) (by decide)⟩
  refine steps_cons ?_ ?_
  ·rintro b a w' ⟨ha, Q_B0, Q_S1⟩ hb_ hon hoff
   refine ⟨_, rfl, fun K hK => ?_⟩
   have e13 : a.tmps[13]? = some (.pointer (some ⟨g, 0, none⟩)) := by rw [ha]; exact (putSel_off rfl).trans rfl
   replace ha := Aside0.mk ha
   have B0 := Aside0.mk (Q_B0 (hoff 27 (by kernel_rfl)))
   refine value_ (w1 := w') (v := .pointer (some ⟨g, 0, none⟩)) (by rfl) rfl ?_ ?_
   ·go_simp
    (try simp only [i64_w])
    try rfl
   refine hK.out _ _ ⟨(by rw [ha.out]; exact putSel_upk 8 hb_ rfl rfl rfl), Q_B0, fun h0_ => absurd ((hoff 27 (by kernel_rfl)).symm.trans h0_) (by decide)⟩
  refine steps_cons ?_ ?_
  ·rintro b a w' ⟨ha, Q_B0, Q_S1⟩ hb_ hon hoff
   refine ⟨_, rfl, fun K hK => ?_⟩
   have e14 : a.tmps[14]? = some (.pointer (some ⟨g, 0, none⟩)) := by rw [ha]; exact putSel_on (e := (12, 14, .pointer (some ⟨g, 0, none⟩))) 8 rfl rfl (hon 12 (by kernel_rfl)) rfl
   replace ha := Aside0.mk ha
   have B0 := Aside0.mk (Q_B0 (hoff 27 (by kernel_rfl)))
   refine value_ (w1 := w') (v := .pointer (some ⟨g, 10, none⟩)) (by rfl) rfl ?_ ?_
   ·go_simp
    (try simp only [i64_w])
    try rfl
   refine hK.out _ _ ⟨(by rw [ha.out]; exact putSel_upk 9 hb_ rfl rfl rfl), Q_B0, fun h0_ => absurd ((hoff 27 (by kernel_rfl)).symm.trans h0_) (by decide)⟩
  refine steps_cons ?_ ?_
  ·rintro b a w' ⟨ha, Q_B0, Q_S1⟩ hb_ hon hoff
   refine ⟨_, rfl, fun K hK => ?_⟩
   have e15 : a.tmps[15]? = some (.pointer (some ⟨g, 10, none⟩)) := by rw [ha]; exact putSel_on (e := (13, 15, .pointer (some ⟨g, 10, none⟩))) 9 rfl rfl (hon 13 (by kernel_rfl)) rfl
   replace ha := Aside0.mk ha
   have B0 := Aside0.mk (Q_B0 (hoff 27 (by kernel_rfl)))
   refine value_ (w1 := w') (v := .pointer (some ⟨g, 28, none⟩)) (by rfl) rfl ?_ ?_
   ·go_simp
    (try simp only [i64_w])
    try rfl
   refine hK.out _ _ ⟨(by rw [ha.out]; exact putSel_upk 10 hb_ rfl rfl rfl), Q_B0, fun h0_ => absurd ((hoff 27 (by kernel_rfl)).symm.trans h0_) (by decide)⟩
  refine steps_cons ?_ ?_
  ·rintro b a w' ⟨ha, Q_B0, Q_S1⟩ hb_ hon hoff
   refine ⟨_, rfl, fun K hK => ?_⟩
   have e16 : a.tmps[16]? = some (.pointer (some ⟨g, 28, none⟩)) := by rw [ha]; exact putSel_on (e := (14, 16, .pointer (some ⟨g, 28, none⟩))) 10 rfl rfl (hon 14 (by kernel_rfl)) rfl
   replace ha := Aside0.mk ha
   have B0 := Aside0.mk (Q_B0 (hoff 27 (by kernel_rfl)))
   have hs := pw_cell_below B0.out K3.out
   refine value_ (w1 := w') (v := .int .u32 win) (by rfl) rfl ?_ ?_
   ·go_simp
    (try simp only [i64_w])
    try rfl
   refine hK.out _ _ ⟨(by rw [ha.out]; exact putSel_upk 11 hb_ rfl rfl rfl), Q_B0, fun h0_ => absurd ((hoff 27 (by kernel_rfl)).symm.trans h0_) (by decide)⟩
  refine steps_cons ?_ ?_
  ·rintro b a w' ⟨ha, Q_B0, Q_S1⟩ hb_ hon hoff
   refine ⟨_, rfl, fun K hK => ?_⟩
   have e18 : a.tmps[18]? = some (.pointer (some ⟨g, 0, none⟩)) := by rw [ha]; exact (putSel_off rfl).trans rfl
   replace ha := Aside0.mk ha
   have B0 := Aside0.mk (Q_B0 (hoff 27 (by kernel_rfl)))
   refine value_ (w1 := w') (v := .pointer (some ⟨g, 0, none⟩)) (by rfl) rfl ?_ ?_
   ·go_simp
    (try simp only [i64_w])
    try rfl
   refine hK.out _ _ ⟨(by rw [ha.out]; exact putSel_upk 12 hb_ rfl rfl rfl), Q_B0, fun h0_ => absurd ((hoff 27 (by kernel_rfl)).symm.trans h0_) (by decide)⟩
  refine steps_cons ?_ ?_
  ·rintro b a w' ⟨ha, Q_B0, Q_S1⟩ hb_ hon hoff
   refine ⟨_, rfl, fun K hK => ?_⟩
   have e19 : a.tmps[19]? = some (.pointer (some ⟨g, 0, none⟩)) := by rw [ha]; exact putSel_on (e := (17, 19, .pointer (some ⟨g, 0, none⟩))) 12 rfl rfl (hon 17 (by kernel_rfl)) rfl
   replace ha := Aside0.mk ha
   have B0 := Aside0.mk (Q_B0 (hoff 27 (by kernel_rfl)))
   refine value_ (w1 := w') (v := .pointer (some ⟨g, 10, none⟩)) (by rfl) rfl ?_ ?_
   ·go_simp
    (try simp only [i64_w])
    try rfl
   refine hK.out _ _ ⟨(by rw [ha.out]; exact putSel_upk 13 hb_ rfl rfl rfl), Q_B0, fun h0_ => absurd ((hoff 27 (by kernel_rfl)).symm.trans h0_) (by decide)⟩
  refine steps_cons ?_ ?_
  ·rintro b a w' ⟨ha, Q_B0, Q_S1⟩ hb_ hon hoff
   refine ⟨_, rfl, fun K hK => ?_⟩
   have e20 : a.tmps[20]? = some (.pointer (some ⟨g, 10, none⟩)) := by rw [ha]; exact putSel_on (e := (18, 20, .pointer (some ⟨g, 10, none⟩))) 13 rfl rfl (hon 18 (by kernel_rfl)) rfl
   replace ha := Aside0.mk ha
   have B0 := Aside0.mk (Q_B0 (hoff 27 (by kernel_rfl)))
   refine value_ (w1 := w') (v := .pointer (some ⟨g, 29, none⟩)) (by rfl) rfl ?_ ?_
   ·go_simp
    (try simp only [i64_w])
    try rfl
   refine hK.out _ _ ⟨(by rw [ha.out]; exact putSel_upk 14 hb_ rfl rfl rfl), Q_B0, fun h0_ => absurd ((hoff 27 (by kernel_rfl)).symm.trans h0_) (by decide)⟩
  refine steps_cons ?_ ?_
  ·rintro b a w' ⟨ha, Q_B0, Q_S1⟩ hb_ hon hoff
   refine ⟨_, rfl, fun K hK => ?_⟩
   have e21 : a.tmps[21]? = some (.pointer (some ⟨g, 29, none⟩)) := by rw [ha]; exact putSel_on (e := (19, 21, .pointer (some ⟨g, 29, none⟩))) 14 rfl rfl (hon 19 (by kernel_rfl)) rfl
   replace ha := Aside0.mk ha
   have B0 := Aside0.mk (Q_B0 (hoff 27 (by kernel_rfl)))
   have hs := pw_cell_below B0.out K4.out
   refine value_ (w1 := w') (v := .int .u16 out) (by rfl) rfl ?_ ?_
   ·go_simp
    (try simp only [i64_w])
    try rfl
   refine hK.out _ _ ⟨(by rw [ha.out]; exact putSel_upk 15 hb_ rfl rfl rfl), Q_B0, fun h0_ => absurd ((hoff 27 (by kernel_rfl)).symm.trans h0_) (by decide)⟩
  refine steps_cons ?_ ?_
  ·rintro b a w' ⟨ha, Q_B0, Q_S1⟩ hb_ hon hoff
   refine ⟨_, rfl, fun K hK => ?_⟩
   have e23 : a.tmps[23]? = some (.pointer (some ⟨g, 0, none⟩)) := by rw [ha]; exact (putSel_off rfl).trans rfl
   replace ha := Aside0.mk ha
   have B0 := Aside0.mk (Q_B0 (hoff 27 (by kernel_rfl)))
   refine value_ (w1 := w') (v := .pointer (some ⟨g, 0, none⟩)) (by rfl) rfl ?_ ?_
   ·go_simp
    (try simp only [i64_w])
    try rfl
   refine hK.out _ _ ⟨(by rw [ha.out]; exact putSel_upk 16 hb_ rfl rfl rfl), Q_B0, fun h0_ => absurd ((hoff 27 (by kernel_rfl)).symm.trans h0_) (by decide)⟩
  refine steps_cons ?_ ?_
  ·rintro b a w' ⟨ha, Q_B0, Q_S1⟩ hb_ hon hoff
   refine ⟨_, rfl, fun K hK => ?_⟩
   have e24 : a.tmps[24]? = some (.pointer (some ⟨g, 0, none⟩)) := by rw [ha]; exact putSel_on (e := (22, 24, .pointer (some ⟨g, 0, none⟩))) 16 rfl rfl (hon 22 (by kernel_rfl)) rfl
   replace ha := Aside0.mk ha
   have B0 := Aside0.mk (Q_B0 (hoff 27 (by kernel_rfl)))
   refine value_ (w1 := w') (v := .pointer (some ⟨g, 10, none⟩)) (by rfl) rfl ?_ ?_
   ·go_simp
    (try simp only [i64_w])
    try rfl
   refine hK.out _ _ ⟨(by rw [ha.out]; exact putSel_upk 17 hb_ rfl rfl rfl), Q_B0, fun h0_ => absurd ((hoff 27 (by kernel_rfl)).symm.trans h0_) (by decide)⟩
  refine steps_cons ?_ ?_
  ·rintro b a w' ⟨ha, Q_B0, Q_S1⟩ hb_ hon hoff
   refine ⟨_, rfl, fun K hK => ?_⟩
   have e25 : a.tmps[25]? = some (.pointer (some ⟨g, 10, none⟩)) := by rw [ha]; exact putSel_on (e := (23, 25, .pointer (some ⟨g, 10, none⟩))) 17 rfl rfl (hon 23 (by kernel_rfl)) rfl
   replace ha := Aside0.mk ha
   have B0 := Aside0.mk (Q_B0 (hoff 27 (by kernel_rfl)))
   refine value_ (w1 := w') (v := .pointer (some ⟨g, 30, none⟩)) (by rfl) rfl ?_ ?_
   ·go_simp
    (try simp only [i64_w])
    try rfl
   refine hK.out _ _ ⟨(by rw [ha.out]; exact putSel_upk 18 hb_ rfl rfl rfl), Q_B0, fun h0_ => absurd ((hoff 27 (by kernel_rfl)).symm.trans h0_) (by decide)⟩
  refine steps_cons ?_ ?_
  ·rintro b a w' ⟨ha, Q_B0, Q_S1⟩ hb_ hon hoff
   refine ⟨_, rfl, fun K hK => ?_⟩
   have e26 : a.tmps[26]? = some (.pointer (some ⟨g, 30, none⟩)) := by rw [ha]; exact putSel_on (e := (24, 26, .pointer (some ⟨g, 30, none⟩))) 18 rfl rfl (hon 24 (by kernel_rfl)) rfl
   replace ha := Aside0.mk ha
   have B0 := Aside0.mk (Q_B0 (hoff 27 (by kernel_rfl)))
   have hs := pw_cell_below B0.out K5.out
   refine value_ (w1 := w') (v := .int .u16 inn) (by rfl) rfl ?_ ?_
   ·go_simp
    (try simp only [i64_w])
    try rfl
   refine hK.out _ _ ⟨(by rw [ha.out]; exact putSel_upk 19 hb_ rfl rfl rfl), Q_B0, fun h0_ => absurd ((hoff 27 (by kernel_rfl)).symm.trans h0_) (by decide)⟩
  refine steps_cons ?_ ?_
  ·rintro b a w' ⟨ha, Q_B0, Q_S1⟩ hb_ hon hoff
   refine ⟨_, rfl, fun K hK => ?_⟩
   have e7 : a.tmps[7]? = some (.int .u32 tag) := by rw [ha]; exact putSel_on (e := (5, 7, .int .u32 tag)) 3 rfl rfl (hon 5 (by kernel_rfl)) rfl
   have e12 : a.tmps[12]? = some (.int .u32 tsn) := by rw [ha]; exact putSel_on (e := (10, 12, .int .u32 tsn)) 7 rfl rfl (hon 10 (by kernel_rfl)) rfl
   have e17 : a.tmps[17]? = some (.int .u32 win) := by rw [ha]; exact putSel_on (e := (15, 17, .int .u32 win)) 11 rfl rfl (hon 15 (by kernel_rfl)) rfl
   have e22 : a.tmps[22]? = some (.int .u16 out) := by rw [ha]; exact putSel_on (e := (20, 22, .int .u16 out)) 15 rfl rfl (hon 20 (by kernel_rfl)) rfl
   have e27 : a.tmps[27]? = some (.int .u16 inn) := by rw [ha]; exact putSel_on (e := (25, 27, .int .u16 inn)) 19 rfl rfl (hon 25 (by kernel_rfl)) rfl
   replace ha := Aside0.mk ha
   have B0 := Aside0.mk (Q_B0 (hoff 27 (by kernel_rfl)))
   refine value_ (w1 := w') (v := .agg #[.int .u8 1, .int .u8 0, .int .u32 tsn, .int .u16 0, .int .u16 0, .int .u32 0, .int .u32 tag, .int .u32 win, .int .u16 out, .int .u16 inn, .slice none 0 0, .slice none 0 0, .slice none 0 0, .slice none 0 0, .slice none 0 0]) (by rfl) rfl ?_ ?_
   ·go_simp
    (try simp only [i64_w])
    try rfl
   refine hK.out _ _ ⟨(by rw [ha.out]; exact putSel_upk 20 hb_ rfl rfl rfl), Q_B0, fun h0_ => absurd ((hoff 27 (by kernel_rfl)).symm.trans h0_) (by decide)⟩
  refine steps_cons ?_ ?_
  ·rintro b a w' ⟨ha, Q_B0, Q_S1⟩ hb_ hon hoff
   refine ⟨_, rfl, fun K hK => ?_⟩
   have e2 : a.tmps[2]? = some (.pointer (some ⟨g, 0, none⟩)) := by rw [ha]; exact (putSel_off rfl).trans rfl
   have e28 : a.tmps[28]? = some (.agg #[.int .u8 1, .int .u8 0, .int .u32 tsn, .int .u16 0, .int .u16 0, .int .u32 0, .int .u32 tag, .int .u32 win, .int .u16 out, .int .u16 inn, .slice none 0 0, .slice none 0 0, .slice none 0 0, .slice none 0 0, .slice none 0 0]) := by rw [ha]; exact putSel_on (e := (26, 28, .agg #[.int .u8 1, .int .u8 0, .int .u32 tsn, .int .u16 0, .int .u16 0, .int .u32 0, .int .u32 tag, .int .u32 win, .int .u16 out, .int .u16 inn, .slice none 0 0, .slice none 0 0, .slice none 0 0, .slice none 0 0, .slice none 0 0])) 20 rfl rfl (hon 26 (by kernel_rfl)) rfl
   replace ha := Aside0.mk ha
   have B0 := Aside0.mk (Q_B0 hb_)
   refine goes_ Tryz.func81 (by kernel_rfl) rfl #[.pointer (some ⟨g, 0, none⟩), .agg #[.int .u8 1, .int .u8 0, .int .u32 tsn, .int .u16 0, .int .u16 0, .int .u32 0, .int .u32 tag, .int .u32 win, .int .u16 out, .int .u16 inn, .slice none 0 0, .slice none 0 0, .slice none 0 0, .slice none 0 0, .slice none 0 0], .int .u32 0] (by rfl) rfl rfl (by first | (simp only [List.map_toArray, List.map_cons, List.map_nil, Act.eval, Array.getD_eq_getD_getElem?, Option.getD_some, e2, e28]; done) | (simp only [List.map_toArray, List.map_cons, List.map_nil, Act.eval, Array.getD_eq_getD_getElem?, Option.getD_some, e2, e28]; rfl)) ?_
   refine (H.out w' B0.out).mono ?_
   rintro e w1 ⟨rfl, hM1⟩
   refine ⟨_, rfl, ?_⟩
   refine hK.out _ _ ⟨(by rw [ha.out]; exact putSel_upk 21 hb_ rfl rfl rfl), fun h0_ => absurd ((up_self b 27).symm.trans h0_) (by decide), fun _ => hM1⟩
  exact steps_nil
 rintro b a w' hall ⟨ha, Q_B0, Q_S1⟩
 clear B0
 have hb2_ := hall 2 (by kernel_rfl)
 have hb3_ := hall 3 (by kernel_rfl)
 have hb4_ := hall 4 (by kernel_rfl)
 have hb5_ := hall 5 (by kernel_rfl)
 have hb7_ := hall 7 (by kernel_rfl)
 have hb8_ := hall 8 (by kernel_rfl)
 have hb9_ := hall 9 (by kernel_rfl)
 have hb10_ := hall 10 (by kernel_rfl)
 have hb12_ := hall 12 (by kernel_rfl)
 have hb13_ := hall 13 (by kernel_rfl)
 have hb14_ := hall 14 (by kernel_rfl)
 have hb15_ := hall 15 (by kernel_rfl)
 have hb17_ := hall 17 (by kernel_rfl)
 have hb18_ := hall 18 (by kernel_rfl)
 have hb19_ := hall 19 (by kernel_rfl)
 have hb20_ := hall 20 (by kernel_rfl)
 have hb22_ := hall 22 (by kernel_rfl)
 have hb23_ := hall 23 (by kernel_rfl)
 have hb24_ := hall 24 (by kernel_rfl)
 have hb25_ := hall 25 (by kernel_rfl)
 have hb26_ := hall 26 (by kernel_rfl)
 have hb27_ := hall 27 (by kernel_rfl)
 subst ha
 simp only [putSel, hb2_, hb3_, hb4_, hb5_, hb7_, hb8_, hb9_, hb10_, hb12_, hb13_, hb14_, hb15_, hb17_, hb18_, hb19_, hb20_, hb22_, hb23_, hb24_, hb25_, hb26_, hb27_, if_true, Act.put, List.setIfInBounds_toArray, List.set_cons_zero, List.set_cons_succ]
 clear Q_B0
 have S1 := Aside0.mk (Q_S1 hb27_)
 clear Q_S1
 clear hall hb2_ hb3_ hb4_ hb5_ hb7_ hb8_ hb9_ hb10_ hb12_ hb13_ hb14_ hb15_ hb17_ hb18_ hb19_ hb20_ hb22_ hb23_ hb24_ hb25_ hb26_ hb27_
 go_wp2_with fail
 refine (start_calls W0 _ g cs _ S1.out (by have := HL.out; simp; omega) 1).mono ?_
 rintro e w2 ⟨rfl, hM2⟩
 go_wp2
 go_end0
 exact ⟨rfl, hM2⟩
end Go.Proofs.YthiaakjbapgibaaGreat.As
end
section
namespace Go.Proofs.YthiaakjbapgibaaGreat.As
open Go.RowKit Go.Proofs.YthiaakjbapgibaaGreatW.PrintWords Go.Proofs.YthiaakjbapgibaaGreatW.PrintLast Go.Proofs.YthiaakjbapgibaaGreat.Base Go.Proofs.YthiaakjbapgibaaGreat.PCh
set_option maxRecDepth 100000
set_option linter.unusedVariables false
set_option linter.unusedSimpArgs false
theorem is_made (w : World) (g : Nat) (cs : Array Value) (h : w.heap[g]? = some (.cells cs 90 (0, 0))) (hb : cs[37]? = some (.bool true)) : Calls Tryz.prog 39 #[.pointer (some ⟨g, 0, none⟩)] w fun e w' => e = .returned (.bool true) ∧ w = w' := by
 have k : w.cell? ⟨g, 37, none⟩ = some (.bool true) := (blk_cell h 37).trans hb
 clear h hb
 go_enter Tryz.func39, Tryz.ntmps39
 go_wp2
 go_ret
 exact ⟨rfl, rfl⟩
theorem typ_ne {w : World} {a b : Nat} {x y : Array Value} {s t : TypeId} {u v : Nat × Nat} (h1 : w.heap[a]? = some (.cells x s u)) (h2 : w.heap[b]? = some (.cells y t v)) (h : s ≠ t) : a ≠ b := fun e => by
 subst e
 rw [h1] at h2
 injection h2 with h2
 injection h2 with _ h2
 exact h h2
theorem below_setRow {B g : Nat} {a w : World} (h : Below B a w) (hg : B ≤ g) (cs : Array Value) : Below B a (w.setRow g cs) :=
 ⟨h.os, h.tape, h.output, by rw [setRow_size]; exact h.size, fun k hk => (setRow_other _ _ _ _ (by omega)).trans (h.block k hk)⟩
theorem exec_store_row {P : Program} {o : Oper} {a : Act} {w : World} (ty : TypeId) (x y : Operand) (ho : o.op = .store ty x y) {g : Nat} {cells : Array Value} (hx : a.eval x = .pointer (some ⟨g, 0, none⟩)) (hy : a.eval y = .agg cells) {t : TypeId} {old : Array Value} (hg : w.heap[g]? = some (.cells old t (0, 0))) (hi : (P.info? ty).map (·.size) = some cells.size)
  (hold : old.size = cells.size) (h1 : cells.all (·.oneCell') = true) : (execOp a.eval o).run P w = .ok .skip (w.setRow g cells) := by
 unfold execOp
 simp only [ho, hx, hy, Instr.storeAt, Instr.sureAddr, Sem.run_bind, Sem.run_pure, Result.andThen_ok, run_storeVar_row w g t ty old cells hg hi hold h1]
theorem exec_load_cells {P : Program} {o : Oper} {a : Act} {w : World} (ty : TypeId) (x : Operand) (ho : o.op = .load ty x) {ad : Addr} (hx : a.eval x = .pointer (some ad)) (cs : Array Value) (d : TypeDesc) (hc : ∀ j v, cs.toList[j]? = some v → w.cell? (ad.add j) = some v)
  (hu : P.underlying ty = some d) (hd : d.isRow = true) (hi : (P.info? ty).map (·.size) = some cs.size) : (execOp a.eval o).run P w = .ok (.value (.agg cs)) w := by
 have hl : (loadCells ad cs.size).run P w = .ok cs w := run_loadCells_list (P := P) w ad cs.toList hc
 have hv : (loadVar ty ad).run P w = .ok (.agg cs) w := by
  cases hq : P.info? ty with
  | none => simp [hq] at hi
  | some i =>
   have hs : i.size = cs.size := by simpa [hq] using hi
   have hagg : (isAgg ty).run P w = .ok true w := by
    unfold isAgg
    rw [Sem.run_bind, run_underlying hu w]
    cases d <;> simp_all [TypeDesc.isRow]
   simp [loadVar, Sem.run_bind, hagg, sizeOf, typeInfo, hq, hs, hl]
 unfold execOp
 simp only [ho, hx, Instr.loadAt, Instr.sureAddr, Sem.run_bind, Sem.run_pure, Result.andThen_ok, hv]
def mcallT3 : Bool × List (List Nat × List Nat) := (true, [([], []), ([0], [0]), ([1], [1]), ([2], [2]), ([], []), ([4], [4]), ([5], [5]), ([6], [6]), ([], []), ([], []), ([8, 3, 0, 1, 2, 3, 8, 9], [3, 8]), ([9, 7, 10, 0, 1, 2, 3, 4, 5, 6, 7, 8, 9, 10], [7, 9])])
def mcallB3 : List Nat := [0, 1, 3, 7, 0, 16, 48, 112, 0, 0, 783, 2047]
theorem mcalltab3 : Go.Proofs.YthiaakjbapgibaaGreatW.PrintLast.rtab .any (Go.Proofs.YthiaakjbapgibaaGreatW.PrintLast.opsOf Tryz.f35 3) = mcallT3 := by kernel_rfl
theorem mcallbits3 : Go.Proofs.YthiaakjbapgibaaGreatW.PrintLast.waitsOk mcallT3.2 mcallB3 = true := by kernel_rfl
theorem mcatch_idle (a b c d e : Addr) (w : World) :
  CallsD Tryz.prog 73 #[.pointer (some a), .pointer (some b), .pointer (some c), .pointer (some d), .pointer (some e)] .returning w fun e u' w' => e = .returned (.tuple #[]) ∧ u' = .returning ∧ w' = w := by
 refine callsD_of_wpS Tryz.func73 rfl fun c₀ cs hu => ?_
 apply wpS_seq
 apply wpS_region
 simp [wpOpsS, go_sem, recoverD, hu, Tryz.ntmps73, Exit.thenS]
 have ht : (#[Value.pointer (some a), Value.pointer (some b), Value.pointer (some c), Value.pointer (some d), Value.pointer (some e)] ++ ((Array.replicate 26 undef).setIfInBounds 3 Value.nilIface).setIfInBounds 0 Value.nilIface) = #[.pointer (some a), .pointer (some b), .pointer (some c), .pointer (some d), .pointer (some e), .nilIface, undef, undef, .nilIface, undef, undef, undef, undef, undef, undef, undef, undef, undef, undef, undef, undef, undef, undef, undef, undef, undef, undef, undef, undef, undef, undef] := by kernel_rfl
 rw [ht]
 refine wpS_of_wp ?_
 go_wp2
 cases c₀
 simp_all [bodyPostS, results, Tryz.results73]
set_option maxHeartbeats 4000000 in
theorem call_ok (w : World) (g : Nat) (cs : Array Value) (k : FuncId) (caps : Array Value) (h : w.heap[g]? = some (.cells cs 90 (0, 0))) (hsz : cs.size = 38) (hb : cs[37]? = some (.bool true)) (d : Int) (hd : cs[35]? = some (.int .u64 d)) (hone : (cs.extract 0 10).all (·.oneCell') = true) (A0 : Option Addr) (n0 c0 : Nat) (hav : cs[36]? = some (.slice A0 n0 c0))
  (hE : ∀ (args : Array Value) (w : World), (callFunc k args).run Tryz.prog w = .ok (.enter k args) w) (cs' : Array Value) (xs : List Act')
  (hf : ∀ W0, Only (· = g) w W0 → MA W0 g cs [] W0 → Calls Tryz.prog k caps W0 fun e w' => e = .returned (.tuple #[]) ∧ MA W0 g cs' xs w') :
  Calls Tryz.prog 35 #[.pointer (some ⟨g, 0, none⟩), .func (.func k) #[] caps] w fun e w' => ∃ v, e = .returned (.tuple #[v, .int .i64 0]) ∧ k73.R 73 w' w.heap.size (fun _ => True) v xs ∧ w'.heap[g]? = some (.cells (cs'.setIfInBounds 36 (.slice none 0 0)) 90 (0, 0)) ∧ Only (· = g) w w' := by
 have hmf : ∀ (fn : Fn) (first cap : Array Value) (w : World), (Instr.makeFunc fn first cap).run Tryz.prog w = .ok (.func fn first cap) w := fun _ _ _ _ => rfl
 have H := Lib.hid (fun (W : World) (hB : Below w.heap.size w W) => is_made W g cs (blk_below h hB) hb)
 have HF := Lib.hid hf
 have HG := Lib.hid (fun (W : World) (hB : Below w.heap.size w W) => blk_below h hB)
 have HGL := Lib.hid (show g < w.heap.size from blk_lt h)
 obtain ⟨KN, hKN⟩ : ∃ KN, cs.extract 0 10 = KN := ⟨_, rfl⟩
 rw [hKN] at hone
 have hks : KN.size = 10 := by rw [← hKN]; simp [hsz]
 have HKC := Lib.hid (fun (W : World) (hB : Below w.heap.size w W) (j : Nat) (v : Value) (hv : KN.toList[j]? = some v) => (show W.cell? ((⟨g, 0, none⟩ : Addr).add j) = some v by
  rw [Addr.add_lit, Nat.zero_add, blk_cell (blk_below h hB) j]
  rw [← hKN] at hv
  simp only [Array.toList_extract, List.extract_eq_take_drop] at hv
  rw [← Array.getElem?_toList]
  have hl := (List.getElem?_eq_some_iff.1 hv).1
  simp at hl hv
  rw [List.getElem?_take_of_lt (by omega)] at hv
  simpa using hv))
 have HKS := Lib.hid (show (Tryz.prog.info? 88).map (·.size) = some KN.size by rw [hks]; kernel_rfl)
 have HKZ := Lib.hid (show (#[.int .i64 0, .int .u32 0, .int .u32 0, .int .u32 0, .int .u32 0, .int .u32 0, .int .u16 0, .int .u16 0, .slice none 0 0, .int .i64 0] : Array Value).size = KN.size from hks.symm)
 have HKO := Lib.hid hone
 have HD := Lib.hid (fun (W : World) (hB : Below w.heap.size w W) => (blk_cell (blk_below h hB) 35).trans hd)
 have HAV := Lib.hid hav
 have HSZ := Lib.hid hsz
 clear h hb hd hone hav hf hKN hks hsz
 go_enter_defers Tryz.func35, Tryz.ntmps35
 go_upto_region 1 with (fail)
 refine wp_gen (fun W => W.heap[w.heap.size]? = some (.cells #[.pointer (some ⟨g, 0, none⟩)] 33 (0, 0)) ∧ W.heap[w.heap.size + 1]? = some (.cells #[.slice none 0 0] 30 (0, 0)) ∧ W.heap[w.heap.size + 2]? = some (.cells #[.int .i64 0] 31 (0, 0)) ∧ Below w.heap.size w W) (boxes3 w _ _ _) ?_
 rintro W ⟨h0, h1, h2, hB⟩
 have k0 : W.cell? ⟨w.heap.size, 0, none⟩ = some (.pointer (some ⟨g, 0, none⟩)) := blk_cell h0 0
 have HP0 := Lib.hid k0
 have HB := Lib.hid hB
 have H0 := Lib.hid h0
 have H1 := Lib.hid h1
 have H2 := Lib.hid h2
 clear h0 h1 h2 hB
 go_wp2_with fail
 refine (H.out W HB.out).mono ?_
 rintro e w1 ⟨rfl, rfl⟩
 have HKN := Lib.hid (HKC.out W HB.out)
 have HD0 := Lib.hid (HD.out W HB.out)
 clear H k0 HKC HD
 go_upto_region 3 with (fail)
 obtain ⟨gb, hb⟩ : ∃ gb, w.heap.size = gb := ⟨_, rfl⟩
 rw [hb] at HP0 ⊢
 have B := True.intro
 have C6 := True.intro
 have D6 := True.intro
 have C7 := True.intro
 have D7 := True.intro
 refine start_ (n := 12) (S := fun w' => True) (ds := []) #[false, false, false, false, false, false, false, false, false, false, false, false] (by kernel_rfl) rfl rfl trivial (fun hHeld => ?_)
 refine with_tabW mcalltab3 mcallbits3 (fun HT_ HW_ => ?_)
 refine inv_at [0, 1, 2, 3, 4, 5, 6, 7, 8, 9, 10, 11] (fun a0_ b a w' => ∃ (g6 : Nat) (g7 : Nat) (m8_ : Value) (m9_ : Value), a = putSel a0_ b [(0, 11, .pointer (some ⟨g, 0, none⟩)), (1, 12, .pointer (some ⟨g, 0, none⟩)), (2, 13, .pointer (some ⟨g, 0, none⟩)), (3, 14, .agg KN), (4, 15, .pointer (some ⟨g, 0, none⟩)), (5, 16, .pointer (some ⟨g, 0, none⟩)), (6, 17, .pointer (some ⟨g, 35, none⟩)), (7, 18, .int .u64 d), (8, 6, m8_), (9, 7, m9_)] ∧ (Below W.heap.size W w') ∧ (b 8 = true → b 10 = false → w'.heap[g6]? = some (.cells #[.int .i64 0, .int .u32 0, .int .u32 0, .int .u32 0, .int .u32 0, .int .u32 0, .int .u16 0, .int .u16 0, .slice none 0 0, .int .i64 0] 88 (0, 0)) ∧ W.heap.size ≤ g6) ∧ (b 10 = true → w'.heap[g6]? = some (.cells KN 88 (0, 0)) ∧ W.heap.size ≤ g6) ∧ (b 9 = true → b 11 = false → w'.heap[g7]? = some (.cells #[.int .u64 0] 22 (0, 0)) ∧ W.heap.size ≤ g7) ∧ (b 11 = true → w'.heap[g7]? = some (.cells #[.int .u64 d] 22 (0, 0)) ∧ W.heap.size ≤ g7) ∧ (b 8 = true → (m8_ : Value) = .pointer (some ⟨g6, 0, none⟩)) ∧ (b 9 = true → (m9_ : Value) = .pointer (some ⟨g7, 0, none⟩))) HT_.out HW_.out (by kernel_rfl) (by kernel_rfl) ?_ ?_ ?_
 ·exact ⟨0, 0, .bool false, .bool false, by simp only [putSel, Bool.false_eq_true, if_false], below_drew (Below.refl _ _), fun h_ => absurd h_ (by decide), fun h_ => absurd h_ (by decide), fun h_ => absurd h_ (by decide), fun h_ => absurd h_ (by decide), fun h_ => absurd h_ (by decide), fun h_ => absurd h_ (by decide)⟩
 ·skip
  clear B
  refine steps_cons ?_ ?_
  ·rintro b a w' ⟨g6, g7, m8_, m9_, ha, Q_B, Q_C6, Q_D6, Q_C7, Q_D7, Q_X8_, Q_X9_⟩ hb_ hon hoff
   refine ⟨_, rfl, fun K hK => ?_⟩
   have e2 : a.tmps[2]? = some (.pointer (some ⟨gb, 0, none⟩)) := by rw [ha]; exact (putSel_off rfl).trans rfl
   replace ha := Aside0.mk ha
   have B := Aside0.mk Q_B
   have hs := pw_cell_below B.out HP0.out
   refine value_ (w1 := w') (v := .pointer (some ⟨g, 0, none⟩)) (by rfl) rfl ?_ ?_
   ·go_simp
    (try simp only [i64_w])
    try rfl
   refine hK.out _ _ ⟨g6, g7, m8_, m9_, (by rw [ha.out]; exact putSel_upk 0 hb_ rfl rfl rfl), Q_B, Q_C6, fun h0_ => absurd ((hoff 10 (by kernel_rfl)).symm.trans h0_) (by decide), Q_C7, fun h0_ => absurd ((hoff 11 (by kernel_rfl)).symm.trans h0_) (by decide), Q_X8_, Q_X9_⟩
  refine steps_cons ?_ ?_
  ·rintro b a w' ⟨g6, g7, m8_, m9_, ha, Q_B, Q_C6, Q_D6, Q_C7, Q_D7, Q_X8_, Q_X9_⟩ hb_ hon hoff
   refine ⟨_, rfl, fun K hK => ?_⟩
   have e11 : a.tmps[11]? = some (.pointer (some ⟨g, 0, none⟩)) := by rw [ha]; exact putSel_on (e := (0, 11, .pointer (some ⟨g, 0, none⟩))) 0 rfl rfl (hon 0 (by kernel_rfl)) rfl
   replace ha := Aside0.mk ha
   have B := Aside0.mk Q_B
   refine value_ (w1 := w') (v := .pointer (some ⟨g, 0, none⟩)) (by rfl) rfl ?_ ?_
   ·go_simp
    (try simp only [i64_w])
    try rfl
   refine hK.out _ _ ⟨g6, g7, m8_, m9_, (by rw [ha.out]; exact putSel_upk 1 hb_ rfl rfl rfl), Q_B, Q_C6, fun h0_ => absurd ((hoff 10 (by kernel_rfl)).symm.trans h0_) (by decide), Q_C7, fun h0_ => absurd ((hoff 11 (by kernel_rfl)).symm.trans h0_) (by decide), Q_X8_, Q_X9_⟩
  refine steps_cons ?_ ?_
  ·rintro b a w' ⟨g6, g7, m8_, m9_, ha, Q_B, Q_C6, Q_D6, Q_C7, Q_D7, Q_X8_, Q_X9_⟩ hb_ hon hoff
   refine ⟨_, rfl, fun K hK => ?_⟩
   have e12 : a.tmps[12]? = some (.pointer (some ⟨g, 0, none⟩)) := by rw [ha]; exact putSel_on (e := (1, 12, .pointer (some ⟨g, 0, none⟩))) 1 rfl rfl (hon 1 (by kernel_rfl)) rfl
   replace ha := Aside0.mk ha
   have B := Aside0.mk Q_B
   refine value_ (w1 := w') (v := .pointer (some ⟨g, 0, none⟩)) (by rfl) rfl ?_ ?_
   ·go_simp
    (try simp only [i64_w])
    try rfl
   refine hK.out _ _ ⟨g6, g7, m8_, m9_, (by rw [ha.out]; exact putSel_upk 2 hb_ rfl rfl rfl), Q_B, Q_C6, fun h0_ => absurd ((hoff 10 (by kernel_rfl)).symm.trans h0_) (by decide), Q_C7, fun h0_ => absurd ((hoff 11 (by kernel_rfl)).symm.trans h0_) (by decide), Q_X8_, Q_X9_⟩
  refine steps_cons ?_ ?_
  ·rintro b a w' ⟨g6, g7, m8_, m9_, ha, Q_B, Q_C6, Q_D6, Q_C7, Q_D7, Q_X8_, Q_X9_⟩ hb_ hon hoff
   refine ⟨_, rfl, fun K hK => ?_⟩
   have e13 : a.tmps[13]? = some (.pointer (some ⟨g, 0, none⟩)) := by rw [ha]; exact putSel_on (e := (2, 13, .pointer (some ⟨g, 0, none⟩))) 2 rfl rfl (hon 2 (by kernel_rfl)) rfl
   replace ha := Aside0.mk ha
   have B := Aside0.mk Q_B
   refine value_ (w1 := w') (v := .agg KN) (by rfl) rfl (exec_load_cells 88 (.tmp 13) rfl (eval_of e13) KN _ (fun j v hv => pw_cell_below B.out (HKN.out j v hv)) Tryz.underlying88 rfl HKS.out) ?_
   refine hK.out _ _ ⟨g6, g7, m8_, m9_, (by rw [ha.out]; exact putSel_upk 3 hb_ rfl rfl rfl), B.out, fun h0_ h1_ => (Q_C6 h0_ h1_), fun h0_ => absurd ((hoff 10 (by kernel_rfl)).symm.trans h0_) (by decide), fun h0_ h1_ => (Q_C7 h0_ h1_), fun h0_ => absurd ((hoff 11 (by kernel_rfl)).symm.trans h0_) (by decide), Q_X8_, Q_X9_⟩
  refine steps_cons ?_ ?_
  ·rintro b a w' ⟨g6, g7, m8_, m9_, ha, Q_B, Q_C6, Q_D6, Q_C7, Q_D7, Q_X8_, Q_X9_⟩ hb_ hon hoff
   refine ⟨_, rfl, fun K hK => ?_⟩
   have e2 : a.tmps[2]? = some (.pointer (some ⟨gb, 0, none⟩)) := by rw [ha]; exact (putSel_off rfl).trans rfl
   replace ha := Aside0.mk ha
   have B := Aside0.mk Q_B
   have hs := pw_cell_below B.out HP0.out
   refine value_ (w1 := w') (v := .pointer (some ⟨g, 0, none⟩)) (by rfl) rfl ?_ ?_
   ·go_simp
    (try simp only [i64_w])
    try rfl
   refine hK.out _ _ ⟨g6, g7, m8_, m9_, (by rw [ha.out]; exact putSel_upk 4 hb_ rfl rfl rfl), Q_B, Q_C6, Q_D6, Q_C7, fun h0_ => absurd ((hoff 11 (by kernel_rfl)).symm.trans h0_) (by decide), Q_X8_, Q_X9_⟩
  refine steps_cons ?_ ?_
  ·rintro b a w' ⟨g6, g7, m8_, m9_, ha, Q_B, Q_C6, Q_D6, Q_C7, Q_D7, Q_X8_, Q_X9_⟩ hb_ hon hoff
   refine ⟨_, rfl, fun K hK => ?_⟩
   have e15 : a.tmps[15]? = some (.pointer (some ⟨g, 0, none⟩)) := by rw [ha]; exact putSel_on (e := (4, 15, .pointer (some ⟨g, 0, none⟩))) 4 rfl rfl (hon 4 (by kernel_rfl)) rfl
   replace ha := Aside0.mk ha
   have B := Aside0.mk Q_B
   refine value_ (w1 := w') (v := .pointer (some ⟨g, 0, none⟩)) (by rfl) rfl ?_ ?_
   ·go_simp
    (try simp only [i64_w])
    try rfl
   refine hK.out _ _ ⟨g6, g7, m8_, m9_, (by rw [ha.out]; exact putSel_upk 5 hb_ rfl rfl rfl), Q_B, Q_C6, Q_D6, Q_C7, fun h0_ => absurd ((hoff 11 (by kernel_rfl)).symm.trans h0_) (by decide), Q_X8_, Q_X9_⟩
  refine steps_cons ?_ ?_
  ·rintro b a w' ⟨g6, g7, m8_, m9_, ha, Q_B, Q_C6, Q_D6, Q_C7, Q_D7, Q_X8_, Q_X9_⟩ hb_ hon hoff
   refine ⟨_, rfl, fun K hK => ?_⟩
   have e16 : a.tmps[16]? = some (.pointer (some ⟨g, 0, none⟩)) := by rw [ha]; exact putSel_on (e := (5, 16, .pointer (some ⟨g, 0, none⟩))) 5 rfl rfl (hon 5 (by kernel_rfl)) rfl
   replace ha := Aside0.mk ha
   have B := Aside0.mk Q_B
   refine value_ (w1 := w') (v := .pointer (some ⟨g, 35, none⟩)) (by rfl) rfl ?_ ?_
   ·go_simp
    (try simp only [i64_w])
    try rfl
   refine hK.out _ _ ⟨g6, g7, m8_, m9_, (by rw [ha.out]; exact putSel_upk 6 hb_ rfl rfl rfl), Q_B, Q_C6, Q_D6, Q_C7, fun h0_ => absurd ((hoff 11 (by kernel_rfl)).symm.trans h0_) (by decide), Q_X8_, Q_X9_⟩
  refine steps_cons ?_ ?_
  ·rintro b a w' ⟨g6, g7, m8_, m9_, ha, Q_B, Q_C6, Q_D6, Q_C7, Q_D7, Q_X8_, Q_X9_⟩ hb_ hon hoff
   refine ⟨_, rfl, fun K hK => ?_⟩
   have e17 : a.tmps[17]? = some (.pointer (some ⟨g, 35, none⟩)) := by rw [ha]; exact putSel_on (e := (6, 17, .pointer (some ⟨g, 35, none⟩))) 6 rfl rfl (hon 6 (by kernel_rfl)) rfl
   replace ha := Aside0.mk ha
   have B := Aside0.mk Q_B
   have hs := pw_cell_below B.out HD0.out
   refine value_ (w1 := w') (v := .int .u64 d) (by rfl) rfl ?_ ?_
   ·go_simp
    (try simp only [i64_w])
    try rfl
   refine hK.out _ _ ⟨g6, g7, m8_, m9_, (by rw [ha.out]; exact putSel_upk 7 hb_ rfl rfl rfl), Q_B, Q_C6, Q_D6, Q_C7, fun h0_ => absurd ((hoff 11 (by kernel_rfl)).symm.trans h0_) (by decide), Q_X8_, Q_X9_⟩
  refine steps_cons ?_ ?_
  ·rintro b a w' ⟨g6, g7, m8_, m9_, ha, Q_B, Q_C6, Q_D6, Q_C7, Q_D7, Q_X8_, Q_X9_⟩ hb_ hon hoff
   refine ⟨_, rfl, fun K hK => ?_⟩
   replace ha := Aside0.mk ha
   have B := Aside0.mk Q_B
   refine value_ (w1 := w'.alloc (.cells #[.int .i64 0, .int .u32 0, .int .u32 0, .int .u32 0, .int .u32 0, .int .u32 0, .int .u16 0, .int .u16 0, .slice none 0 0, .int .i64 0] 88)) (v := .pointer (some ⟨w'.heap.size, 0, none⟩)) (by rfl) rfl (by go_simp; try rfl) ?_
   refine hK.out _ _ ⟨w'.heap.size, g7, (.pointer (some ⟨w'.heap.size, 0, none⟩)), m9_, (by rw [ha.out]; exact putSel_upk 8 hb_ rfl rfl rfl), B.out.alloc B.out.size _, fun _ _ => ⟨blk_new _ _, B.out.size⟩, fun h0_ => absurd ((hoff 10 (by kernel_rfl)).symm.trans h0_) (by decide), fun h0_ h1_ => ⟨blk_alloc (Q_C7 h0_ h1_).1 _, (Q_C7 h0_ h1_).2⟩, fun h0_ => absurd ((hoff 11 (by kernel_rfl)).symm.trans h0_) (by decide), fun _ => rfl, Q_X9_⟩
  refine steps_cons ?_ ?_
  ·rintro b a w' ⟨g6, g7, m8_, m9_, ha, Q_B, Q_C6, Q_D6, Q_C7, Q_D7, Q_X8_, Q_X9_⟩ hb_ hon hoff
   refine ⟨_, rfl, fun K hK => ?_⟩
   replace ha := Aside0.mk ha
   have B := Aside0.mk Q_B
   refine value_ (w1 := w'.alloc (.cells #[.int .u64 0] 22)) (v := .pointer (some ⟨w'.heap.size, 0, none⟩)) (by rfl) rfl (by go_simp; try rfl) ?_
   refine hK.out _ _ ⟨g6, w'.heap.size, m8_, (.pointer (some ⟨w'.heap.size, 0, none⟩)), (by rw [ha.out]; exact putSel_upk 9 hb_ rfl rfl rfl), B.out.alloc B.out.size _, fun h0_ h1_ => ⟨blk_alloc (Q_C6 h0_ h1_).1 _, (Q_C6 h0_ h1_).2⟩, fun h0_ => absurd ((hoff 10 (by kernel_rfl)).symm.trans h0_) (by decide), fun _ _ => ⟨blk_new _ _, B.out.size⟩, fun h0_ => absurd ((hoff 11 (by kernel_rfl)).symm.trans h0_) (by decide), Q_X8_, fun _ => rfl⟩
  refine steps_cons ?_ ?_
  ·rintro b a w' ⟨g6, g7, m8_, m9_, ha, Q_B, Q_C6, Q_D6, Q_C7, Q_D7, Q_X8_, Q_X9_⟩ hb_ hon hoff
   refine ⟨_, rfl, fun K hK => ?_⟩
   have e6 : a.tmps[6]? = some (m8_) := by rw [ha]; exact putSel_on (e := (8, 6, m8_)) 8 rfl rfl (hon 8 (by kernel_rfl)) rfl
   rw [Q_X8_ (hon 8 (by kernel_rfl))] at e6
   have e14 : a.tmps[14]? = some (.agg KN) := by rw [ha]; exact putSel_on (e := (3, 14, .agg KN)) 3 rfl rfl (hon 3 (by kernel_rfl)) rfl
   replace ha := Aside0.mk ha
   have B := Aside0.mk Q_B
   have C6 := Aside0.mk (Q_C6 (hon 8 (by kernel_rfl)) hb_)
   have C7 := Aside0.mk (Q_C7 (hon 9 (by kernel_rfl)) (hoff 11 (by kernel_rfl)))
   refine skip_ (w1 := w'.setRow g6 KN) (by rfl) rfl (exec_store_row 88 (.tmp 6) (.tmp 14) rfl (eval_of e6) (eval_of e14) C6.out.1 HKS.out HKZ.out HKO.out) ?_
   refine hK.out _ _ ⟨g6, g7, m8_, m9_, (by rw [ha.out]; exact putSel_none (v := undef) rfl), below_setRow B.out C6.out.2 _, fun _ h1_ => absurd ((up_self b 10).symm.trans h1_) (by decide), fun _ => ⟨setRow_heap _ _ _ _ _ _ C6.out.1, C6.out.2⟩, fun _ _ => ⟨(setRow_other _ _ _ _ (typ_ne C7.out.1 C6.out.1 (by decide))).trans C7.out.1, C7.out.2⟩, fun h0_ => absurd ((hoff 11 (by kernel_rfl)).symm.trans h0_) (by decide), Q_X8_, Q_X9_⟩
  refine steps_cons ?_ ?_
  ·rintro b a w' ⟨g6, g7, m8_, m9_, ha, Q_B, Q_C6, Q_D6, Q_C7, Q_D7, Q_X8_, Q_X9_⟩ hb_ hon hoff
   refine ⟨_, rfl, fun K hK => ?_⟩
   have e7 : a.tmps[7]? = some (m9_) := by rw [ha]; exact putSel_on (e := (9, 7, m9_)) 9 rfl rfl (hon 9 (by kernel_rfl)) rfl
   rw [Q_X9_ (hon 9 (by kernel_rfl))] at e7
   have e18 : a.tmps[18]? = some (.int .u64 d) := by rw [ha]; exact putSel_on (e := (7, 18, .int .u64 d)) 7 rfl rfl (hon 7 (by kernel_rfl)) rfl
   replace ha := Aside0.mk ha
   have B := Aside0.mk Q_B
   have D6 := Aside0.mk (Q_D6 (hon 10 (by kernel_rfl)))
   have C7 := Aside0.mk (Q_C7 (hon 9 (by kernel_rfl)) hb_)
   have hs := blk_cell C7.out.1 0
   have hf := blk_frozen C7.out.1 0
   refine skip_ (w1 := w'.setCell ⟨g7, 0, none⟩ (.int .u64 d)) (by rfl) rfl (by go_simp; try rfl) ?_
   refine hK.out _ _ ⟨g6, g7, m8_, m9_, (by rw [ha.out]; exact putSel_none (v := undef) rfl), B.out.setCell C7.out.2 _, fun _ h1_ => absurd ((hon 10 (by kernel_rfl)).symm.trans h1_) (by decide), fun _ => ⟨blk_far D6.out.1 (typ_ne D6.out.1 C7.out.1 (by decide)) _, D6.out.2⟩, fun _ h1_ => absurd ((up_self b 11).symm.trans h1_) (by decide), fun _ => ⟨blk_put C7.out.1 0 _ rfl, C7.out.2⟩, Q_X8_, Q_X9_⟩
  exact steps_nil
 rintro b a w' hall ⟨g6, g7, m8_, m9_, ha, Q_B, Q_C6, Q_D6, Q_C7, Q_D7, Q_X8_, Q_X9_⟩
 clear B
 have hb0_ := hall 0 (by kernel_rfl)
 have hb1_ := hall 1 (by kernel_rfl)
 have hb2_ := hall 2 (by kernel_rfl)
 have hb3_ := hall 3 (by kernel_rfl)
 have hb4_ := hall 4 (by kernel_rfl)
 have hb5_ := hall 5 (by kernel_rfl)
 have hb6_ := hall 6 (by kernel_rfl)
 have hb7_ := hall 7 (by kernel_rfl)
 have hb8_ := hall 8 (by kernel_rfl)
 have hb9_ := hall 9 (by kernel_rfl)
 have hb10_ := hall 10 (by kernel_rfl)
 have hb11_ := hall 11 (by kernel_rfl)
 subst ha
 obtain rfl := Q_X8_ hb8_
 obtain rfl := Q_X9_ hb9_
 simp only [putSel, hb0_, hb1_, hb2_, hb3_, hb4_, hb5_, hb6_, hb7_, hb8_, hb9_, hb10_, hb11_, if_true, Act.put, List.setIfInBounds_toArray, List.set_cons_zero, List.set_cons_succ]
 have B := Aside0.mk Q_B
 clear Q_B
 clear Q_C6
 have D6 := Aside0.mk (Q_D6 hb10_)
 clear Q_D6
 clear Q_C7
 have D7 := Aside0.mk (Q_D7 hb11_)
 clear Q_D7
 clear hall hb0_ hb1_ hb2_ hb3_ hb4_ hb5_ hb6_ hb7_ hb8_ hb9_ hb10_ hb11_
 have HB3 := Lib.hid (below_then HB.out HB.out.size B.out)
 have hrow := HG.out w' HB3.out
 have hk0 : w'.cell? ⟨gb, 0, none⟩ = some (.pointer (some ⟨g, 0, none⟩)) := pw_cell_below B.out HP0.out
 have hs : w'.cell? ⟨g, 36, none⟩ = some (.slice A0 n0 c0) := (blk_cell hrow 36).trans HAV.out
 have hff := blk_frozen hrow 36
 have hrow0 := blk_put hrow 36 (.slice none 0 0) rfl
 have HGB := Lib.hid (show g < gb by rw [← hb]; exact HGL.out)
 have HM0 := Lib.hid (show MA (w'.setCell ⟨g, 36, none⟩ (.slice none 0 0)) g cs [] (w'.setCell ⟨g, 36, none⟩ (.slice none 0 0)) from ⟨blk_lt hrow0, HSZ.out, ⟨_, hrow0, Kd.R_nil _ _ _ _ _⟩, Only.refl _ _⟩)
 have HO0 := Lib.hid (show Only (· = g) w (w'.setCell ⟨g, 36, none⟩ (.slice none 0 0)) from Only.setCell (S := (· = g)) (Only.of_below HB3.out) (fun _ => rfl) _)
 have P0 := Lib.hid (show (w'.setCell ⟨g, 36, none⟩ (.slice none 0 0)).heap[gb]? = some (.cells #[.pointer (some ⟨g, 0, none⟩)] 33 (0, 0)) from blk_far (blk_below (by rw [← hb]; exact H0.out) B.out) (by have := HGB.out; dsimp only; omega) _)
 have P1 := Lib.hid (show (w'.setCell ⟨g, 36, none⟩ (.slice none 0 0)).heap[gb + 1]? = some (.cells #[.slice none 0 0] 30 (0, 0)) from blk_far (blk_below (by rw [← hb]; exact H1.out) B.out) (by have := HGB.out; dsimp only; omega) _)
 have P2 := Lib.hid (show (w'.setCell ⟨g, 36, none⟩ (.slice none 0 0)).heap[gb + 2]? = some (.cells #[.int .i64 0] 31 (0, 0)) from blk_far (blk_below (by rw [← hb]; exact H2.out) B.out) (by have := HGB.out; dsimp only; omega) _)
 have HC := Lib.hid (HF.out _ HO0.out HM0.out)
 have HS0 := Lib.hid (show w.heap.size ≤ (w'.setCell ⟨g, 36, none⟩ (.slice none 0 0)).heap.size from HO0.out.size)
 clear B D6 D7 HB3 hrow hrow0 HP0 HKN HD0 HF HG H0 H1 H2 HB HM0
 go_wp2_with fail
 clear hk0 hs hff
 generalize w'.setCell ⟨g, 36, none⟩ (.slice none 0 0) = W0 at *
 refine HC.out.mono ?_
 rintro e w2 ⟨rfl, hM⟩
 obtain ⟨hlt, hsz2, ⟨av, hrow, hR⟩, hO⟩ := hM
 obtain ⟨A2, c2, hav2⟩ := Kd.R_slice hR
 subst hav2
 have q0 := hO.blk P0.out (by have := HGB.out; omega)
 have q1 := hO.blk P1.out (by have := HGB.out; omega)
 have q2 := hO.blk P2.out (by have := HGB.out; omega)
 have k0 : w2.cell? ⟨gb, 0, none⟩ = some (.pointer (some ⟨g, 0, none⟩)) := blk_cell q0 0
 have k1 : w2.cell? ⟨gb + 1, 0, none⟩ = some (.slice none 0 0) := blk_cell q1 0
 have k2 : w2.cell? ⟨gb + 2, 0, none⟩ = some (.int .i64 0) := blk_cell q2 0
 have km : w2.cell? ⟨g, 36, none⟩ = some (.slice A2 xs.length c2) := (blk_cell hrow 36).trans (by simp [hsz2])
 have f1 := blk_frozen q1 0
 have f2 := blk_frozen q2 0
 have fm := blk_frozen hrow 36
 have HROW := Lib.hid hrow
 have HR := Lib.hid hR
 have HO := Lib.hid hO
 have HLT := Lib.hid hlt
 have Q1 := Lib.hid q1
 have Q2 := Lib.hid q2
 have HGB2 := Lib.hid (show gb + 2 < W0.heap.size from blk_lt P2.out)
 have ng1 : ¬ g = gb + 1 := by have := HGB.out; omega
 have ng1' : ¬ gb + 1 = g := by have := HGB.out; omega
 have ng2 : ¬ gb + 2 = g := by have := HGB.out; omega
 have ng0 : ¬ gb = g := by have := HGB.out; omega
 clear hrow hR hO q0 q1 q2 HC P0 P1 P2 hlt
 go_wp2
 refine leaves_cons (f := 73) (args := #[.pointer (some ⟨g6, 0, none⟩), .pointer (some ⟨g7, 0, none⟩), .pointer (some ⟨gb, 0, none⟩), .pointer (some ⟨gb + 1, 0, none⟩), .pointer (some ⟨gb + 1 + 1, 0, none⟩)]) (by simp) (by simp [go_sem]) ?_
 refine (mcatch_idle _ _ _ _ _ _).mono ?_
 rintro e u' w'' ⟨rfl, rfl, rfl⟩
 have z1 := blk_put Q1.out 0 (.slice A2 xs.length c2) rfl
 have z2 := blk_far (p := ⟨g, 36, none⟩) z1 (by dsimp only; omega) (.slice none 0 0)
 have z3 := blk_put z2 0 (.slice A2 xs.length c2) rfl
 have z4 := blk_far (p := ⟨gb + 1 + 1, 0, none⟩) z3 (by dsimp only; omega) (.int .i64 0)
 have y1 := blk_far (p := ⟨gb + 1, 0, none⟩) Q2.out (by dsimp only; omega) (.slice A2 xs.length c2)
 have y2 := blk_far (p := ⟨g, 36, none⟩) y1 (by dsimp only; omega) (.slice none 0 0)
 have y3 := blk_far (p := ⟨gb + 1, 0, none⟩) y2 (by dsimp only; omega) (.slice A2 xs.length c2)
 have y4 := blk_put y3 0 (.int .i64 0) rfl
 have x1 := blk_far (p := ⟨gb + 1, 0, none⟩) HROW.out (by dsimp only; omega) (.slice A2 xs.length c2)
 have x2 := blk_put x1 36 (.slice none 0 0) rfl
 have x3 := blk_far (p := ⟨gb + 1, 0, none⟩) x2 (by dsimp only; omega) (.slice A2 xs.length c2)
 have x4 := blk_far (p := ⟨gb + 1 + 1, 0, none⟩) x3 (by dsimp only; omega) (.int .i64 0)
 have hgs := HGB2.out
 have far : ∀ (p : Addr), p.block < W0.heap.size → ∀ k, W0.heap.size ≤ k → k ≠ p.block := fun p h k hk e => by omega
 have r1 := Kd.R_far (R_base HR.out) (p := ⟨gb + 1, 0, none⟩) (far _ (by dsimp only; omega)) (.slice A2 xs.length c2)
 have r2 := Kd.R_far r1 (p := ⟨g, 36, none⟩) (far _ (by dsimp only; have := HGB.out; omega)) (.slice none 0 0)
 have r3 := Kd.R_far r2 (p := ⟨gb + 1, 0, none⟩) (far _ (by dsimp only; omega)) (.slice A2 xs.length c2)
 have r4 := Kd.R_far r3 (p := ⟨gb + 1 + 1, 0, none⟩) (far _ (by dsimp only; omega)) (.int .i64 0)
 refine ⟨_, call_results _ _ _ _ _ _ rfl rfl z4 y4, _, rfl, Kd.R_mono (Kd.R_lower r4 HS0.out) (fun _ _ => trivial), ?_, ?_⟩
 ·rw [x4]
  simp
 ·have o1 := HO0.out.trans HO.out (fun k _ h => h)
  have hgb : gb = w.heap.size := hb.symm
  exact (((o1.setCell (p := ⟨gb + 1, 0, none⟩) (fun h => absurd h (by dsimp only; omega)) _).setCell (p := ⟨g, 36, none⟩) (fun _ => rfl) _).setCell (p := ⟨gb + 1, 0, none⟩) (fun h => absurd h (by dsimp only; omega)) _).setCell (p := ⟨gb + 1 + 1, 0, none⟩) (fun h => absurd h (by dsimp only; omega)) _
end Go.Proofs.YthiaakjbapgibaaGreat.As
end
section
namespace Go.Proofs.YthiaakjbapgibaaGreat.As
open Go.RowKit Go.Proofs.YthiaakjbapgibaaGreatW.PrintWords Go.Proofs.YthiaakjbapgibaaGreatW.PrintLast Go.Proofs.YthiaakjbapgibaaGreat.Base Go.Proofs.YthiaakjbapgibaaGreat.PCh
set_option maxRecDepth 100000
set_option linter.unusedVariables false
set_option linter.unusedSimpArgs false
theorem MA.drew {W0 : World} {g : Nat} {cs : Array Value} {xs : List Act'} {w : World} (h : MA W0 g cs xs w) : MA W0 g cs xs w.drew := h.below (below_drew (Below.refl _ _))
theorem set_ne {cs : Array Value} {i j : Nat} {u v : Value} (h : cs[j]? = some v) (hn : i ≠ j) : (cs.setIfInBounds i u)[j]? = some v := by rw [Array.getElem?_setIfInBounds_ne hn]; exact h
theorem set_at {cs : Array Value} {i : Nat} {u : Value} (h : i < cs.size) : (cs.setIfInBounds i u)[i]? = some u := by rw [Array.getElem?_setIfInBounds_self_of_lt h]
def mopenT2 : Bool × List (List Nat × List Nat) := (true, [([], []), ([], []), ([], []), ([2], [2]), ([3], [3]), ([4], [4]), ([4], [4]), ([0, 0, 1, 2, 3, 4, 5], [0]), ([7, 0, 1, 2, 3, 4, 5], [7]), ([8, 0, 1, 2, 3, 4, 5], [8]), ([9, 5, 3, 0, 1, 2, 3, 4, 5], [5, 9]), ([1, 0, 1, 2, 3, 4, 5, 6, 7, 8, 9, 10], [1]), ([11, 0, 1, 2, 3, 4, 5, 6, 7, 8, 9, 10], [11]), ([12, 0, 1, 2, 3, 4, 5, 6, 7, 8, 9, 10], [12]), ([13, 6, 10, 0, 1, 2, 3, 4, 5, 6, 7, 8, 9, 10], [6, 13])])
def mopenB2 : List Nat := [0, 0, 0, 4, 12, 28, 28, 63, 191, 447, 959, 2047, 4095, 8191, 16383]
theorem mopentab2 : Go.Proofs.YthiaakjbapgibaaGreatW.PrintLast.rtab .any (Go.Proofs.YthiaakjbapgibaaGreatW.PrintLast.opsOf Tryz.f71 2) = mopenT2 := by kernel_rfl
theorem mopenbits2 : Go.Proofs.YthiaakjbapgibaaGreatW.PrintLast.waitsOk mopenT2.2 mopenB2 = true := by kernel_rfl
def openC (cs : Array Value) (d : Int) : Array Value := (((((cs.setIfInBounds 35 (.int .u64 (nextD d))).setIfInBounds 1 (.int .u32 (tagD d))).setIfInBounds 2 (.int .u32 (tsnD d))).setIfInBounds 0 (.int .i64 1)).setIfInBounds 9 (.int .i64 0))
set_option maxHeartbeats 4000000 in
theorem open1_calls (W0 : World) (g gp : Nat) (cs : Array Value) (hM : MA W0 g cs [] W0) (hp : W0.heap[gp]? = some (.cells #[.pointer (some ⟨g, 0, none⟩)] 33 (0, 0))) (hne : gp ≠ g) (d tag tsn win out inn tr : Int) (h0 : cs[0]? = some (.int .i64 0)) (h1 : cs[1]? = some (.int .u32 tag)) (h2 : cs[2]? = some (.int .u32 tsn)) (h9 : cs[9]? = some (.int .i64 tr)) (h28 : cs[28]? = some (.int .u32 win)) (h29 : cs[29]? = some (.int .u16 out)) (h30 : cs[30]? = some (.int .u16 inn)) (hd : cs[35]? = some (.int .u64 d)) :
  Calls Tryz.prog 71 #[.pointer (some ⟨gp, 0, none⟩)] W0 fun e w' => e = .returned (.tuple #[]) ∧ MA W0 g (openC cs d) [actSend (initC (tagD d) (tsnD d) win out inn) 0, actTimer 2 1] w' := by
 have HM := Lib.hid hM
 have HPX := Lib.hid hp
 have HNE := Lib.hid hne
 have HD := Lib.hid hd
 have k0 : W0.cell? ⟨g, 0, none⟩ = some (.int .i64 0) := hM.cell 0 (by decide) h0
 have kp : W0.cell? ⟨gp, 0, none⟩ = some (.pointer (some ⟨g, 0, none⟩)) := blk_cell hp 0
 have hsz := hM.sz
 have HC1 := Lib.hid (show (cs.setIfInBounds 35 (.int .u64 (nextD d)))[1]? = some (.int .u32 tag) from set_ne h1 (by decide))
 have HC2 := Lib.hid (show ((cs.setIfInBounds 35 (.int .u64 (nextD d))).setIfInBounds 1 (.int .u32 (tagD d)))[2]? = some (.int .u32 tsn) from set_ne (set_ne h2 (by decide)) (by decide))
 have HI := Lib.hid (show (((((cs.setIfInBounds 35 (.int .u64 (nextD d))).setIfInBounds 1 (.int .u32 (tagD d))).setIfInBounds 2 (.int .u32 (tsnD d))).setIfInBounds 0 (.int .i64 1)).setIfInBounds 9 (.int .i64 0))[1]? = some (.int .u32 (tagD d)) ∧ (((((cs.setIfInBounds 35 (.int .u64 (nextD d))).setIfInBounds 1 (.int .u32 (tagD d))).setIfInBounds 2 (.int .u32 (tsnD d))).setIfInBounds 0 (.int .i64 1)).setIfInBounds 9 (.int .i64 0))[2]? = some (.int .u32 (tsnD d)) ∧ (((((cs.setIfInBounds 35 (.int .u64 (nextD d))).setIfInBounds 1 (.int .u32 (tagD d))).setIfInBounds 2 (.int .u32 (tsnD d))).setIfInBounds 0 (.int .i64 1)).setIfInBounds 9 (.int .i64 0))[28]? = some (.int .u32 win) ∧ (((((cs.setIfInBounds 35 (.int .u64 (nextD d))).setIfInBounds 1 (.int .u32 (tagD d))).setIfInBounds 2 (.int .u32 (tsnD d))).setIfInBounds 0 (.int .i64 1)).setIfInBounds 9 (.int .i64 0))[29]? = some (.int .u16 out) ∧ (((((cs.setIfInBounds 35 (.int .u64 (nextD d))).setIfInBounds 1 (.int .u32 (tagD d))).setIfInBounds 2 (.int .u32 (tsnD d))).setIfInBounds 0 (.int .i64 1)).setIfInBounds 9 (.int .i64 0))[30]? = some (.int .u16 inn) from
  ⟨set_ne (set_ne (set_ne (set_at (by simp [hsz])) (by decide)) (by decide)) (by decide), set_ne (set_ne (set_at (by simp [hsz])) (by decide)) (by decide), set_ne (set_ne (set_ne (set_ne (set_ne h28 (by decide)) (by decide)) (by decide)) (by decide)) (by decide), set_ne (set_ne (set_ne (set_ne (set_ne h29 (by decide)) (by decide)) (by decide)) (by decide)) (by decide), set_ne (set_ne (set_ne (set_ne (set_ne h30 (by decide)) (by decide)) (by decide)) (by decide)) (by decide)⟩)
 have HK0 := Lib.hid (show (((cs.setIfInBounds 35 (.int .u64 (nextD d))).setIfInBounds 1 (.int .u32 (tagD d))).setIfInBounds 2 (.int .u32 (tsnD d)))[0]? = some (.int .i64 0) from set_ne (set_ne (set_ne h0 (by decide)) (by decide)) (by decide))
 have HK9 := Lib.hid (show ((((cs.setIfInBounds 35 (.int .u64 (nextD d))).setIfInBounds 1 (.int .u32 (tagD d))).setIfInBounds 2 (.int .u32 (tsnD d))).setIfInBounds 0 (.int .i64 1))[9]? = some (.int .i64 tr) from set_ne (set_ne (set_ne (set_ne h9 (by decide)) (by decide)) (by decide)) (by decide))
 clear hM hp hne h0 h1 h2 h9 h28 h29 h30 hd hsz
 go_enter Tryz.func71, Tryz.ntmps71
 go_upto_region 2 with (fail)
 clear k0 kp
 have O := True.intro
 have M0 := True.intro
 have M1 := True.intro
 have M2 := True.intro
 have M3 := True.intro
 refine start_ (n := 15) (S := fun w' => True) (ds := []) #[false, false, false, false, false, false, false, false, false, false, false, false, false, false, false] (by kernel_rfl) rfl rfl trivial (fun hHeld => ?_)
 refine with_tabW mopentab2 mopenbits2 (fun HT_ HW_ => ?_)
 refine inv_at [0, 1, 2, 3, 4, 5, 6, 7, 8, 9, 10, 11, 12, 13, 14] (fun a0_ b a w' => a = putSel a0_ b [(0, 9, .pointer (some ⟨g, 0, none⟩)), (1, 10, .pointer (some ⟨g, 0, none⟩)), (2, 11, .pointer (some ⟨g, 0, none⟩)), (3, 12, .tuple #[.int .u32 (tagD d), .int .u32 (tsnD d)]), (4, 8, .tuple #[.int .u32 (tagD d), .int .u32 (tsnD d)]), (5, 13, .int .u32 (tagD d)), (6, 14, .int .u32 (tsnD d)), (7, 15, .pointer (some ⟨g, 0, none⟩)), (8, 16, .pointer (some ⟨g, 0, none⟩)), (9, 17, .pointer (some ⟨g, 1, none⟩)), (11, 18, .pointer (some ⟨g, 0, none⟩)), (12, 19, .pointer (some ⟨g, 0, none⟩)), (13, 20, .pointer (some ⟨g, 2, none⟩))] ∧ (Only (· = g) W0 w') ∧ (b 3 = false → MA W0 g cs [] w') ∧ (b 3 = true → b 10 = false → MA W0 g (cs.setIfInBounds 35 (.int .u64 (nextD d))) [] w') ∧ (b 10 = true → b 14 = false → MA W0 g ((cs.setIfInBounds 35 (.int .u64 (nextD d))).setIfInBounds 1 (.int .u32 (tagD d))) [] w') ∧ (b 14 = true → MA W0 g (((cs.setIfInBounds 35 (.int .u64 (nextD d))).setIfInBounds 1 (.int .u32 (tagD d))).setIfInBounds 2 (.int .u32 (tsnD d))) [] w')) HT_.out HW_.out (by kernel_rfl) (by kernel_rfl) ?_ ?_ ?_
 ·exact ⟨by simp only [putSel, Bool.false_eq_true, if_false], (HM.out.drew).only, fun _ => HM.out.drew, fun h_ => absurd h_ (by decide), fun h_ => absurd h_ (by decide), fun h_ => absurd h_ (by decide)⟩
 ·skip
  clear M0 O
  refine steps_cons ?_ ?_
  ·rintro b a w' ⟨ha, Q_O, Q_M0, Q_M1, Q_M2, Q_M3⟩ hb_ hon hoff
   refine ⟨_, rfl, fun K hK => ?_⟩
   have e0 : a.tmps[0]? = some (.pointer (some ⟨gp, 0, none⟩)) := by rw [ha]; exact (putSel_off rfl).trans rfl
   replace ha := Aside0.mk ha
   have O := Aside0.mk Q_O
   have hs : w'.cell? ⟨gp, 0, none⟩ = some (.pointer (some ⟨g, 0, none⟩)) := blk_cell (O.out.blk HPX.out HNE.out) 0
   refine value_ (w1 := w') (v := .pointer (some ⟨g, 0, none⟩)) (by rfl) rfl ?_ ?_
   ·go_simp
    (try simp only [i64_w])
    try rfl
   refine hK.out _ _ ⟨(by rw [ha.out]; exact putSel_upk 0 hb_ rfl rfl rfl), Q_O, Q_M0, Q_M1, fun h0_ _ => absurd ((hoff 10 (by kernel_rfl)).symm.trans h0_) (by decide), fun h0_ => absurd ((hoff 14 (by kernel_rfl)).symm.trans h0_) (by decide)⟩
  refine steps_cons ?_ ?_
  ·rintro b a w' ⟨ha, Q_O, Q_M0, Q_M1, Q_M2, Q_M3⟩ hb_ hon hoff
   refine ⟨_, rfl, fun K hK => ?_⟩
   have e0 : a.tmps[0]? = some (.pointer (some ⟨gp, 0, none⟩)) := by rw [ha]; exact (putSel_off rfl).trans rfl
   replace ha := Aside0.mk ha
   have O := Aside0.mk Q_O
   have hs : w'.cell? ⟨gp, 0, none⟩ = some (.pointer (some ⟨g, 0, none⟩)) := blk_cell (O.out.blk HPX.out HNE.out) 0
   refine value_ (w1 := w') (v := .pointer (some ⟨g, 0, none⟩)) (by rfl) rfl ?_ ?_
   ·go_simp
    (try simp only [i64_w])
    try rfl
   refine hK.out _ _ ⟨(by rw [ha.out]; exact putSel_upk 1 hb_ rfl rfl rfl), Q_O, Q_M0, Q_M1, fun h0_ _ => absurd ((hoff 10 (by kernel_rfl)).symm.trans h0_) (by decide), fun h0_ => absurd ((hoff 14 (by kernel_rfl)).symm.trans h0_) (by decide)⟩
  refine steps_cons ?_ ?_
  ·rintro b a w' ⟨ha, Q_O, Q_M0, Q_M1, Q_M2, Q_M3⟩ hb_ hon hoff
   refine ⟨_, rfl, fun K hK => ?_⟩
   have e0 : a.tmps[0]? = some (.pointer (some ⟨gp, 0, none⟩)) := by rw [ha]; exact (putSel_off rfl).trans rfl
   replace ha := Aside0.mk ha
   have O := Aside0.mk Q_O
   have M0 := Aside0.mk (Q_M0 (hoff 3 (by kernel_rfl)))
   have hs : w'.cell? ⟨gp, 0, none⟩ = some (.pointer (some ⟨g, 0, none⟩)) := blk_cell (O.out.blk HPX.out HNE.out) 0
   refine value_ (w1 := w') (v := .pointer (some ⟨g, 0, none⟩)) (by rfl) rfl ?_ ?_
   ·go_simp
    (try simp only [i64_w])
    try rfl
   refine hK.out _ _ ⟨(by rw [ha.out]; exact putSel_upk 2 hb_ rfl rfl rfl), Q_O, Q_M0, fun h0_ _ => absurd ((hoff 3 (by kernel_rfl)).symm.trans h0_) (by decide), fun h0_ _ => absurd ((hoff 10 (by kernel_rfl)).symm.trans h0_) (by decide), fun h0_ => absurd ((hoff 14 (by kernel_rfl)).symm.trans h0_) (by decide)⟩
  refine steps_cons ?_ ?_
  ·rintro b a w' ⟨ha, Q_O, Q_M0, Q_M1, Q_M2, Q_M3⟩ hb_ hon hoff
   refine ⟨_, rfl, fun K hK => ?_⟩
   have e11 : a.tmps[11]? = some (.pointer (some ⟨g, 0, none⟩)) := by rw [ha]; exact putSel_on (e := (2, 11, .pointer (some ⟨g, 0, none⟩))) 2 rfl rfl (hon 2 (by kernel_rfl)) rfl
   replace ha := Aside0.mk ha
   have O := Aside0.mk Q_O
   have M0 := Aside0.mk (Q_M0 hb_)
   refine goes_ Tryz.func72 (by kernel_rfl) rfl #[.pointer (some ⟨g, 0, none⟩)] (by rfl) rfl rfl (by first | (simp only [List.map_toArray, List.map_cons, List.map_nil, Act.eval, Array.getD_eq_getD_getElem?, Option.getD_some, e11]; done) | (simp only [List.map_toArray, List.map_cons, List.map_nil, Act.eval, Array.getD_eq_getD_getElem?, Option.getD_some, e11]; rfl)) ?_
   refine (pair_calls W0 w' g cs [] M0.out d HD.out).mono ?_
   rintro e w1 ⟨rfl, hM1⟩
   refine ⟨_, rfl, ?_⟩
   refine hK.out _ _ ⟨(by rw [ha.out]; exact putSel_upk 3 hb_ rfl rfl rfl), hM1.only, fun h0_ => absurd ((up_self b 3).symm.trans h0_) (by decide), fun _ _ => hM1, fun h0_ _ => absurd ((hoff 10 (by kernel_rfl)).symm.trans h0_) (by decide), fun h0_ => absurd ((hoff 14 (by kernel_rfl)).symm.trans h0_) (by decide)⟩
  refine steps_cons ?_ ?_
  ·rintro b a w' ⟨ha, Q_O, Q_M0, Q_M1, Q_M2, Q_M3⟩ hb_ hon hoff
   refine ⟨_, rfl, fun K hK => ?_⟩
   have e12 : a.tmps[12]? = some (.tuple #[.int .u32 (tagD d), .int .u32 (tsnD d)]) := by rw [ha]; exact putSel_on (e := (3, 12, .tuple #[.int .u32 (tagD d), .int .u32 (tsnD d)])) 3 rfl rfl (hon 3 (by kernel_rfl)) rfl
   replace ha := Aside0.mk ha
   have O := Aside0.mk Q_O
   have M1 := Aside0.mk (Q_M1 (hon 3 (by kernel_rfl)) (hoff 10 (by kernel_rfl)))
   refine value_ (w1 := w') (v := .tuple #[.int .u32 (tagD d), .int .u32 (tsnD d)]) (by rfl) rfl ?_ ?_
   ·go_simp
    (try simp only [i64_w])
    try rfl
   refine hK.out _ _ ⟨(by rw [ha.out]; exact putSel_upk 4 hb_ rfl rfl rfl), Q_O, fun h0_ => absurd ((hon 3 (by kernel_rfl)).symm.trans h0_) (by decide), Q_M1, fun h0_ _ => absurd ((hoff 10 (by kernel_rfl)).symm.trans h0_) (by decide), fun h0_ => absurd ((hoff 14 (by kernel_rfl)).symm.trans h0_) (by decide)⟩
  refine steps_cons ?_ ?_
  ·rintro b a w' ⟨ha, Q_O, Q_M0, Q_M1, Q_M2, Q_M3⟩ hb_ hon hoff
   refine ⟨_, rfl, fun K hK => ?_⟩
   have e8 : a.tmps[8]? = some (.tuple #[.int .u32 (tagD d), .int .u32 (tsnD d)]) := by rw [ha]; exact putSel_on (e := (4, 8, .tuple #[.int .u32 (tagD d), .int .u32 (tsnD d)])) 4 rfl rfl (hon 4 (by kernel_rfl)) rfl
   replace ha := Aside0.mk ha
   have O := Aside0.mk Q_O
   have M1 := Aside0.mk (Q_M1 (hon 3 (by kernel_rfl)) (hoff 10 (by kernel_rfl)))
   refine value_ (w1 := w') (v := .int .u32 (tagD d)) (by rfl) rfl ?_ ?_
   ·go_simp
    (try simp only [i64_w])
    try rfl
   refine hK.out _ _ ⟨(by rw [ha.out]; exact putSel_upk 5 hb_ rfl rfl rfl), Q_O, fun h0_ => absurd ((hon 3 (by kernel_rfl)).symm.trans h0_) (by decide), Q_M1, fun h0_ _ => absurd ((hoff 10 (by kernel_rfl)).symm.trans h0_) (by decide), fun h0_ => absurd ((hoff 14 (by kernel_rfl)).symm.trans h0_) (by decide)⟩
  refine steps_cons ?_ ?_
  ·rintro b a w' ⟨ha, Q_O, Q_M0, Q_M1, Q_M2, Q_M3⟩ hb_ hon hoff
   refine ⟨_, rfl, fun K hK => ?_⟩
   have e8 : a.tmps[8]? = some (.tuple #[.int .u32 (tagD d), .int .u32 (tsnD d)]) := by rw [ha]; exact putSel_on (e := (4, 8, .tuple #[.int .u32 (tagD d), .int .u32 (tsnD d)])) 4 rfl rfl (hon 4 (by kernel_rfl)) rfl
   replace ha := Aside0.mk ha
   have O := Aside0.mk Q_O
   refine value_ (w1 := w') (v := .int .u32 (tsnD d)) (by rfl) rfl ?_ ?_
   ·go_simp
    (try simp only [i64_w])
    try rfl
   refine hK.out _ _ ⟨(by rw [ha.out]; exact putSel_upk 6 hb_ rfl rfl rfl), Q_O, fun h0_ => absurd ((hon 3 (by kernel_rfl)).symm.trans h0_) (by decide), Q_M1, Q_M2, fun h0_ => absurd ((hoff 14 (by kernel_rfl)).symm.trans h0_) (by decide)⟩
  refine steps_cons ?_ ?_
  ·rintro b a w' ⟨ha, Q_O, Q_M0, Q_M1, Q_M2, Q_M3⟩ hb_ hon hoff
   refine ⟨_, rfl, fun K hK => ?_⟩
   have e9 : a.tmps[9]? = some (.pointer (some ⟨g, 0, none⟩)) := by rw [ha]; exact putSel_on (e := (0, 9, .pointer (some ⟨g, 0, none⟩))) 0 rfl rfl (hon 0 (by kernel_rfl)) rfl
   replace ha := Aside0.mk ha
   have O := Aside0.mk Q_O
   have M1 := Aside0.mk (Q_M1 (hon 3 (by kernel_rfl)) (hoff 10 (by kernel_rfl)))
   refine value_ (w1 := w') (v := .pointer (some ⟨g, 0, none⟩)) (by rfl) rfl ?_ ?_
   ·go_simp
    (try simp only [i64_w])
    try rfl
   refine hK.out _ _ ⟨(by rw [ha.out]; exact putSel_upk 7 hb_ rfl rfl rfl), Q_O, fun h0_ => absurd ((hon 3 (by kernel_rfl)).symm.trans h0_) (by decide), Q_M1, fun h0_ _ => absurd ((hoff 10 (by kernel_rfl)).symm.trans h0_) (by decide), fun h0_ => absurd ((hoff 14 (by kernel_rfl)).symm.trans h0_) (by decide)⟩
  refine steps_cons ?_ ?_
  ·rintro b a w' ⟨ha, Q_O, Q_M0, Q_M1, Q_M2, Q_M3⟩ hb_ hon hoff
   refine ⟨_, rfl, fun K hK => ?_⟩
   have e15 : a.tmps[15]? = some (.pointer (some ⟨g, 0, none⟩)) := by rw [ha]; exact putSel_on (e := (7, 15, .pointer (some ⟨g, 0, none⟩))) 7 rfl rfl (hon 7 (by kernel_rfl)) rfl
   replace ha := Aside0.mk ha
   have O := Aside0.mk Q_O
   have M1 := Aside0.mk (Q_M1 (hon 3 (by kernel_rfl)) (hoff 10 (by kernel_rfl)))
   refine value_ (w1 := w') (v := .pointer (some ⟨g, 0, none⟩)) (by rfl) rfl ?_ ?_
   ·go_simp
    (try simp only [i64_w])
    try rfl
   refine hK.out _ _ ⟨(by rw [ha.out]; exact putSel_upk 8 hb_ rfl rfl rfl), Q_O, fun h0_ => absurd ((hon 3 (by kernel_rfl)).symm.trans h0_) (by decide), Q_M1, fun h0_ _ => absurd ((hoff 10 (by kernel_rfl)).symm.trans h0_) (by decide), fun h0_ => absurd ((hoff 14 (by kernel_rfl)).symm.trans h0_) (by decide)⟩
  refine steps_cons ?_ ?_
  ·rintro b a w' ⟨ha, Q_O, Q_M0, Q_M1, Q_M2, Q_M3⟩ hb_ hon hoff
   refine ⟨_, rfl, fun K hK => ?_⟩
   have e16 : a.tmps[16]? = some (.pointer (some ⟨g, 0, none⟩)) := by rw [ha]; exact putSel_on (e := (8, 16, .pointer (some ⟨g, 0, none⟩))) 8 rfl rfl (hon 8 (by kernel_rfl)) rfl
   replace ha := Aside0.mk ha
   have O := Aside0.mk Q_O
   have M1 := Aside0.mk (Q_M1 (hon 3 (by kernel_rfl)) (hoff 10 (by kernel_rfl)))
   refine value_ (w1 := w') (v := .pointer (some ⟨g, 1, none⟩)) (by rfl) rfl ?_ ?_
   ·go_simp
    (try simp only [i64_w])
    try rfl
   refine hK.out _ _ ⟨(by rw [ha.out]; exact putSel_upk 9 hb_ rfl rfl rfl), Q_O, fun h0_ => absurd ((hon 3 (by kernel_rfl)).symm.trans h0_) (by decide), Q_M1, fun h0_ _ => absurd ((hoff 10 (by kernel_rfl)).symm.trans h0_) (by decide), fun h0_ => absurd ((hoff 14 (by kernel_rfl)).symm.trans h0_) (by decide)⟩
  refine steps_cons ?_ ?_
  ·rintro b a w' ⟨ha, Q_O, Q_M0, Q_M1, Q_M2, Q_M3⟩ hb_ hon hoff
   refine ⟨_, rfl, fun K hK => ?_⟩
   have e17 : a.tmps[17]? = some (.pointer (some ⟨g, 1, none⟩)) := by rw [ha]; exact putSel_on (e := (9, 17, .pointer (some ⟨g, 1, none⟩))) 9 rfl rfl (hon 9 (by kernel_rfl)) rfl
   have e13 : a.tmps[13]? = some (.int .u32 (tagD d)) := by rw [ha]; exact putSel_on (e := (5, 13, .int .u32 (tagD d))) 5 rfl rfl (hon 5 (by kernel_rfl)) rfl
   replace ha := Aside0.mk ha
   have O := Aside0.mk Q_O
   have M1 := Aside0.mk (Q_M1 (hon 3 (by kernel_rfl)) hb_)
   have hs := M1.out.cell 1 (by decide) HC1.out
   have hf := M1.out.frozen 1
   refine skip_ (w1 := w'.setCell ⟨g, 1, none⟩ (.int .u32 (tagD d))) (by rfl) rfl (by go_simp; try rfl) ?_
   refine hK.out _ _ ⟨(by rw [ha.out]; exact putSel_none (v := undef) rfl), Only.setCell (S := (· = g)) O.out (fun _ => rfl) _, fun h0_ => absurd ((hon 3 (by kernel_rfl)).symm.trans h0_) (by decide), fun _ h1_ => absurd ((up_self b 10).symm.trans h1_) (by decide), fun _ _ => M1.out.set 1 (by decide) _, fun h0_ => absurd ((hoff 14 (by kernel_rfl)).symm.trans h0_) (by decide)⟩
  refine steps_cons ?_ ?_
  ·rintro b a w' ⟨ha, Q_O, Q_M0, Q_M1, Q_M2, Q_M3⟩ hb_ hon hoff
   refine ⟨_, rfl, fun K hK => ?_⟩
   have e10 : a.tmps[10]? = some (.pointer (some ⟨g, 0, none⟩)) := by rw [ha]; exact putSel_on (e := (1, 10, .pointer (some ⟨g, 0, none⟩))) 1 rfl rfl (hon 1 (by kernel_rfl)) rfl
   replace ha := Aside0.mk ha
   have O := Aside0.mk Q_O
   have M2 := Aside0.mk (Q_M2 (hon 10 (by kernel_rfl)) (hoff 14 (by kernel_rfl)))
   refine value_ (w1 := w') (v := .pointer (some ⟨g, 0, none⟩)) (by rfl) rfl ?_ ?_
   ·go_simp
    (try simp only [i64_w])
    try rfl
   refine hK.out _ _ ⟨(by rw [ha.out]; exact putSel_upk 10 hb_ rfl rfl rfl), Q_O, fun h0_ => absurd ((hon 3 (by kernel_rfl)).symm.trans h0_) (by decide), fun _ h1_ => absurd ((hon 10 (by kernel_rfl)).symm.trans h1_) (by decide), Q_M2, fun h0_ => absurd ((hoff 14 (by kernel_rfl)).symm.trans h0_) (by decide)⟩
  refine steps_cons ?_ ?_
  ·rintro b a w' ⟨ha, Q_O, Q_M0, Q_M1, Q_M2, Q_M3⟩ hb_ hon hoff
   refine ⟨_, rfl, fun K hK => ?_⟩
   have e18 : a.tmps[18]? = some (.pointer (some ⟨g, 0, none⟩)) := by rw [ha]; exact putSel_on (e := (11, 18, .pointer (some ⟨g, 0, none⟩))) 10 rfl rfl (hon 11 (by kernel_rfl)) rfl
   replace ha := Aside0.mk ha
   have O := Aside0.mk Q_O
   have M2 := Aside0.mk (Q_M2 (hon 10 (by kernel_rfl)) (hoff 14 (by kernel_rfl)))
   refine value_ (w1 := w') (v := .pointer (some ⟨g, 0, none⟩)) (by rfl) rfl ?_ ?_
   ·go_simp
    (try simp only [i64_w])
    try rfl
   refine hK.out _ _ ⟨(by rw [ha.out]; exact putSel_upk 11 hb_ rfl rfl rfl), Q_O, fun h0_ => absurd ((hon 3 (by kernel_rfl)).symm.trans h0_) (by decide), fun _ h1_ => absurd ((hon 10 (by kernel_rfl)).symm.trans h1_) (by decide), Q_M2, fun h0_ => absurd ((hoff 14 (by kernel_rfl)).symm.trans h0_) (by decide)⟩
  refine steps_cons ?_ ?_
  ·rintro b a w' ⟨ha, Q_O, Q_M0, Q_M1, Q_M2, Q_M3⟩ hb_ hon hoff
   refine ⟨_, rfl, fun K hK => ?_⟩
   have e19 : a.tmps[19]? = some (.pointer (some ⟨g, 0, none⟩)) := by rw [ha]; exact putSel_on (e := (12, 19, .pointer (some ⟨g, 0, none⟩))) 11 rfl rfl (hon 12 (by kernel_rfl)) rfl
   replace ha := Aside0.mk ha
   have O := Aside0.mk Q_O
   have M2 := Aside0.mk (Q_M2 (hon 10 (by kernel_rfl)) (hoff 14 (by kernel_rfl)))
   refine value_ (w1 := w') (v := .pointer (some ⟨g, 2, none⟩)) (by rfl) rfl ?_ ?_
   ·go_simp
    (try simp only [i64_w])
    try rfl
   refine hK.out _ _ ⟨(by rw [ha.out]; exact putSel_upk 12 hb_ rfl rfl rfl), Q_O, fun h0_ => absurd ((hon 3 (by kernel_rfl)).symm.trans h0_) (by decide), fun _ h1_ => absurd ((hon 10 (by kernel_rfl)).symm.trans h1_) (by decide), Q_M2, fun h0_ => absurd ((hoff 14 (by kernel_rfl)).symm.trans h0_) (by decide)⟩
  refine steps_cons ?_ ?_
  ·rintro b a w' ⟨ha, Q_O, Q_M0, Q_M1, Q_M2, Q_M3⟩ hb_ hon hoff
   refine ⟨_, rfl, fun K hK => ?_⟩
   have e20 : a.tmps[20]? = some (.pointer (some ⟨g, 2, none⟩)) := by rw [ha]; exact putSel_on (e := (13, 20, .pointer (some ⟨g, 2, none⟩))) 12 rfl rfl (hon 13 (by kernel_rfl)) rfl
   have e14 : a.tmps[14]? = some (.int .u32 (tsnD d)) := by rw [ha]; exact putSel_on (e := (6, 14, .int .u32 (tsnD d))) 6 rfl rfl (hon 6 (by kernel_rfl)) rfl
   replace ha := Aside0.mk ha
   have O := Aside0.mk Q_O
   have M2 := Aside0.mk (Q_M2 (hon 10 (by kernel_rfl)) hb_)
   have hs := M2.out.cell 2 (by decide) HC2.out
   have hf := M2.out.frozen 2
   refine skip_ (w1 := w'.setCell ⟨g, 2, none⟩ (.int .u32 (tsnD d))) (by rfl) rfl (by go_simp; try rfl) ?_
   refine hK.out _ _ ⟨(by rw [ha.out]; exact putSel_none (v := undef) rfl), Only.setCell (S := (· = g)) O.out (fun _ => rfl) _, fun h0_ => absurd ((hon 3 (by kernel_rfl)).symm.trans h0_) (by decide), fun _ h1_ => absurd ((hon 10 (by kernel_rfl)).symm.trans h1_) (by decide), fun _ h1_ => absurd ((up_self b 14).symm.trans h1_) (by decide), fun _ => M2.out.set 2 (by decide) _⟩
  exact steps_nil
 rintro b a w' hall ⟨ha, Q_O, Q_M0, Q_M1, Q_M2, Q_M3⟩
 clear M0 O
 have hb0_ := hall 0 (by kernel_rfl)
 have hb1_ := hall 1 (by kernel_rfl)
 have hb2_ := hall 2 (by kernel_rfl)
 have hb3_ := hall 3 (by kernel_rfl)
 have hb4_ := hall 4 (by kernel_rfl)
 have hb5_ := hall 5 (by kernel_rfl)
 have hb6_ := hall 6 (by kernel_rfl)
 have hb7_ := hall 7 (by kernel_rfl)
 have hb8_ := hall 8 (by kernel_rfl)
 have hb9_ := hall 9 (by kernel_rfl)
 have hb10_ := hall 10 (by kernel_rfl)
 have hb11_ := hall 11 (by kernel_rfl)
 have hb12_ := hall 12 (by kernel_rfl)
 have hb13_ := hall 13 (by kernel_rfl)
 have hb14_ := hall 14 (by kernel_rfl)
 subst ha
 simp only [putSel, hb0_, hb1_, hb2_, hb3_, hb4_, hb5_, hb6_, hb7_, hb8_, hb9_, hb10_, hb11_, hb12_, hb13_, hb14_, if_true, Act.put, List.setIfInBounds_toArray, List.set_cons_zero, List.set_cons_succ]
 have O := Aside0.mk Q_O
 clear Q_O
 clear Q_M0
 clear Q_M1
 clear Q_M2
 have M3 := Aside0.mk (Q_M3 hb14_)
 clear Q_M3
 clear hall hb0_ hb1_ hb2_ hb3_ hb4_ hb5_ hb6_ hb7_ hb8_ hb9_ hb10_ hb11_ hb12_ hb13_ hb14_
 have kp : w'.cell? ⟨gp, 0, none⟩ = some (.pointer (some ⟨g, 0, none⟩)) := blk_cell (O.out.blk HPX.out HNE.out) 0
 have k0 := M3.out.cell 0 (by decide) HK0.out
 have f0 := M3.out.frozen 0
 have m4 := M3.out.set 0 (by decide) (.int .i64 1)
 have k9 := M3.out.cell 9 (by decide) (set_ne (v := .int .i64 tr) (u := .int .i64 1) HK9.out (i := 0) (by decide) |> fun h => by rw [Array.getElem?_setIfInBounds_ne (by decide), Array.getElem?_setIfInBounds_ne (by decide)] at h; exact h)
 have f9 := M3.out.frozen 9
 have HS := Lib.hid (sendInit_calls W0 _ g (((((cs.setIfInBounds 35 (.int .u64 (nextD d))).setIfInBounds 1 (.int .u32 (tagD d))).setIfInBounds 2 (.int .u32 (tsnD d))).setIfInBounds 0 (.int .i64 1)).setIfInBounds 9 (.int .i64 0)) [] (m4.set 9 (by decide) (.int .i64 0)) (by decide) (tagD d) (tsnD d) win out inn HI.out.1 HI.out.2.1 HI.out.2.2.1 HI.out.2.2.2.1 HI.out.2.2.2.2)
 have ng : ¬ gp = g := HNE.out
 clear O M3 m4 HI HK0 HK9 HM HPX HC1 HC2
 go_wp2_with fail
 refine HS.out.mono ?_
 rintro e w2 ⟨rfl, hM2⟩
 go_wp2
 go_end0
 exact ⟨rfl, hM2⟩
theorem open_ok (w : World) (g : Nat) (cs : Array Value) (h : w.heap[g]? = some (.cells cs 90 (0, 0))) (hsz : cs.size = 38) (hb : cs[37]? = some (.bool true)) (hone : (cs.extract 0 10).all (·.oneCell') = true) (A0 : Option Addr) (n0 c0 : Nat) (hav : cs[36]? = some (.slice A0 n0 c0)) (d tag tsn win out inn tr : Int) (h0 : cs[0]? = some (.int .i64 0)) (h1 : cs[1]? = some (.int .u32 tag)) (h2 : cs[2]? = some (.int .u32 tsn)) (h9 : cs[9]? = some (.int .i64 tr)) (h28 : cs[28]? = some (.int .u32 win)) (h29 : cs[29]? = some (.int .u16 out)) (h30 : cs[30]? = some (.int .u16 inn)) (hd : cs[35]? = some (.int .u64 d)) :
  Calls Tryz.prog 33 #[.pointer (some ⟨g, 0, none⟩)] w fun e w' => ∃ v, e = .returned (.tuple #[v, .int .i64 0]) ∧ k73.R 73 w' w.heap.size (fun _ => True) v [actSend (initC (tagD d) (tsnD d) win out inn) 0, actTimer 2 1] ∧ w'.heap[g]? = some (.cells ((openC cs d).setIfInBounds 36 (.slice none 0 0)) 90 (0, 0)) ∧ Only (· = g) w w' := by
 have hmf : ∀ (fn : Fn) (first cap : Array Value) (w : World), (Instr.makeFunc fn first cap).run Tryz.prog w = .ok (.func fn first cap) w := fun _ _ _ _ => rfl
 have hlt := blk_lt h
 have HC := Lib.hid (fun (W : World) (hW : Below w.heap.size w W) (hp : W.heap[w.heap.size]? = some (.cells #[.pointer (some ⟨g, 0, none⟩)] 33 (0, 0))) => call_ok W g cs 71 #[.pointer (some ⟨w.heap.size, 0, none⟩)] (blk_below h hW) hsz hb d hd hone A0 n0 c0 hav (fun args w => enters_ Tryz.func71 (by kernel_rfl) (by kernel_rfl) args w) (openC cs d) [actSend (initC (tagD d) (tsnD d) win out inn) 0, actTimer 2 1]
  (fun W0 hO hM => open1_calls W0 g w.heap.size cs hM (hO.blk hp (by omega)) (by omega) d tag tsn win out inn tr h0 h1 h2 h9 h28 h29 h30 hd))
 clear h hsz hb hone hav h0 h1 h2 h9 h28 h29 h30 hd
 go_enter Tryz.func33, Tryz.ntmps33
 go_upto_region 1 with (fail)
 refine wp_gen (fun W => W.heap[w.heap.size]? = some (.cells #[.pointer (some ⟨g, 0, none⟩)] 33 (0, 0)) ∧ Below w.heap.size w W) ⟨blk_new _ _, below_alloc (Below.refl _ _) _⟩ ?_
 rintro W ⟨hp, hB⟩
 have kp : W.cell? ⟨w.heap.size, 0, none⟩ = some (.pointer (some ⟨g, 0, none⟩)) := blk_cell hp 0
 have HB := Lib.hid hB
 have HW := Lib.hid (HC.out W hB hp)
 clear hp hB HC
 go_wp2_with fail
 refine HW.out.mono ?_
 rintro e w2 ⟨v, rfl, hR, hg, hO⟩
 obtain ⟨A2, c2, rfl⟩ := Kd.R_slice hR
 have HR := Lib.hid hR
 have HG := Lib.hid hg
 have HO := Lib.hid hO
 clear hR hg hO HW kp
 go_wp2
 go_ret2
 exact ⟨_, rfl, Kd.R_lower HR.out HB.out.size, HG.out, (Only.of_below HB.out).trans HO.out (fun _ _ h => h)⟩
end Go.Proofs.YthiaakjbapgibaaGreat.As
end
section
namespace Go.Proofs.YthiaakjbapgibaaGreat.As
open Go.RowKit Go.Proofs.YthiaakjbapgibaaGreatW.PrintWords Go.Proofs.YthiaakjbapgibaaGreatW.PrintLast Go.Proofs.YthiaakjbapgibaaGreat.Base Go.Proofs.YthiaakjbapgibaaGreat.PCh
set_option maxRecDepth 100000
set_option linter.unusedVariables false
set_option linter.unusedSimpArgs false
def confA (sd : Int) : Array Value := #[.int .u8 0, .int .u8 0, .int .u8 0, .int .u8 0, .int .u8 0, .int .u8 0, .int .u8 0, .int .u8 0, .int .u8 0, .int .u8 0, .int .u8 0, .int .u8 0, .int .u8 0, .int .u8 0, .int .u8 0, .int .u8 0, .int .u64 sd, .int .i64 60000, .int .u32 9000, .int .u16 4, .int .u16 3, .int .i64 3, .int .i64 3, .int .u16 1, .int .u16 2]
def machA (sd : Int) : Array Value := #[.int .i64 0, .int .u32 0, .int .u32 0, .int .u32 0, .int .u32 0, .int .u32 0, .int .u16 0, .int .u16 0, .slice none 0 0, .int .i64 0, .int .u8 0, .int .u8 0, .int .u8 0, .int .u8 0, .int .u8 0, .int .u8 0, .int .u8 0, .int .u8 0, .int .u8 0, .int .u8 0, .int .u8 0, .int .u8 0, .int .u8 0, .int .u8 0, .int .u8 0, .int .u8 0, .int .u64 sd, .int .i64 60000, .int .u32 9000, .int .u16 4, .int .u16 3, .int .i64 3, .int .i64 3, .int .u16 1, .int .u16 2, .int .u64 sd, .slice none 0 0, .bool true]
theorem conf_results (tmps : Array Value) (w : World) (a : Nat) (cs : Array Value) (t0 : tmps.getD 4 undef = .pointer (some ⟨a, 0, none⟩)) (h0 : w.heap[a]? = some (.cells cs 52 (0, 0))) (hcs : cs.size = 25) : (results Tryz.f32 tmps).run Tryz.prog w = .ok (.agg cs) w := by
 have hi : (Tryz.prog.info? 52).map (·.size) = some cs.size := by rw [hcs]; kernel_rfl
 have hl := run_loadVar_row w a 52 52 cs (0, 0) _ h0 Tryz.underlying52 rfl hi
 rw [Array.getD_eq_getD_getElem?] at t0
 simp [results, Tryz.results32, asAddr, t0, hl]
theorem alloc_conf {o : Oper} {a : Act} {w : World} (ho : o.op = .alloc 52) : (execOp a.eval o).run Tryz.prog w = .ok (.value (.pointer (some ⟨w.heap.size, 0, none⟩))) (w.alloc (.cells #[.int .u8 0, .int .u8 0, .int .u8 0, .int .u8 0, .int .u8 0, .int .u8 0, .int .u8 0, .int .u8 0, .int .u8 0, .int .u8 0, .int .u8 0, .int .u8 0, .int .u8 0, .int .u8 0, .int .u8 0, .int .u8 0, .int .u64 0, .int .i64 0, .int .u32 0, .int .u16 0, .int .u16 0, .int .i64 0, .int .i64 0, .int .u16 0, .int .u16 0] 52)) := by
 unfold execOp
 simp only [ho]
 go_simp
theorem wpList_boxC {ops : Array Oper} {rest : List Oper} {o1 o2 : Oper} {a : Act} {w : World} {Q : Exit → Act → World → Prop} (h1 : o1.guard = none) (h2 : o2.guard = none) (n : Tmp) (hd : o1.dst = some n) (ho1 : o1.op = .alloc 52)
  (y : Operand) (ho2 : o2.op = .store 52 (.tmp n) y) (cs : Array Value) (hx : (a.put (some n) (.pointer (some ⟨w.heap.size, 0, none⟩))).eval (.tmp n) = .pointer (some ⟨w.heap.size, 0, none⟩))
  (hy : (a.put (some n) (.pointer (some ⟨w.heap.size, 0, none⟩))).eval y = .agg cs) (hsz : (#[.int .u8 0, .int .u8 0, .int .u8 0, .int .u8 0, .int .u8 0, .int .u8 0, .int .u8 0, .int .u8 0, .int .u8 0, .int .u8 0, .int .u8 0, .int .u8 0, .int .u8 0, .int .u8 0, .int .u8 0, .int .u8 0, .int .u64 0, .int .i64 0, .int .u32 0, .int .u16 0, .int .u16 0, .int .i64 0, .int .i64 0, .int .u16 0, .int .u16 0] : Array Value).size = cs.size) (hi : (Tryz.prog.info? 52).map (·.size) = some cs.size) (hone : cs.all (·.oneCell') = true)
  (h : wpList Tryz.prog ops Q rest ((a.put (some n) (.pointer (some ⟨w.heap.size, 0, none⟩))).put o2.dst undef) (w.alloc (.cells cs 52))) : wpList Tryz.prog ops Q (o1 :: o2 :: rest) a w := by
 have h3 : wpList Tryz.prog ops Q (o2 :: rest) (a.put (some n) (.pointer (some ⟨w.heap.size, 0, none⟩))) (w.alloc (.cells #[.int .u8 0, .int .u8 0, .int .u8 0, .int .u8 0, .int .u8 0, .int .u8 0, .int .u8 0, .int .u8 0, .int .u8 0, .int .u8 0, .int .u8 0, .int .u8 0, .int .u8 0, .int .u8 0, .int .u8 0, .int .u8 0, .int .u64 0, .int .i64 0, .int .u32 0, .int .u16 0, .int .u16 0, .int .i64 0, .int .i64 0, .int .u16 0, .int .u16 0] 52)) := by
  refine wpList_store_row h2 52 (.tmp n) y ho2 w.heap.size cs hx hy 52 #[.int .u8 0, .int .u8 0, .int .u8 0, .int .u8 0, .int .u8 0, .int .u8 0, .int .u8 0, .int .u8 0, .int .u8 0, .int .u8 0, .int .u8 0, .int .u8 0, .int .u8 0, .int .u8 0, .int .u8 0, .int .u8 0, .int .u64 0, .int .i64 0, .int .u32 0, .int .u16 0, .int .u16 0, .int .i64 0, .int .i64 0, .int .u16 0, .int .u16 0] (blk_new _ _) hi hsz hone ?_
  rw [World.setRow_alloc_new]
  exact h
 refine wpList_plain h1 fun _ hK => ?_
 have hK' := hK _ _ h3
 rw [← hd] at hK'
 unfold Oper.wp
 rw [alloc_conf ho1]
 exact hK'
theorem conf_one (sd : Int) : (confA sd).all (·.oneCell') = true := by simp [confA, Value.oneCell']
set_option maxHeartbeats 4000000 in
theorem conf_calls (w : World) (sd : Int) : Calls Tryz.prog 32 #[.int .i64 0, .int .u64 sd] w fun e w' => e = .returned (.agg (confA sd)) ∧ Below w.heap.size w w' := by
 have HZ := Lib.hid (show (#[.int .u8 0, .int .u8 0, .int .u8 0, .int .u8 0, .int .u8 0, .int .u8 0, .int .u8 0, .int .u8 0, .int .u8 0, .int .u8 0, .int .u8 0, .int .u8 0, .int .u8 0, .int .u8 0, .int .u8 0, .int .u8 0, .int .u64 0, .int .i64 0, .int .u32 0, .int .u16 0, .int .u16 0, .int .i64 0, .int .i64 0, .int .u16 0, .int .u16 0] : Array Value).size = (confA sd).size from rfl)
 have HI := Lib.hid (show (Tryz.prog.info? 52).map (·.size) = some (confA sd).size by kernel_rfl)
 have HO := Lib.hid (conf_one sd)
 have HL := Lib.hid (show ∀ v : Value, v = .agg #[.int .u8 0, .int .u8 0, .int .u8 0, .int .u8 0, .int .u8 0, .int .u8 0, .int .u8 0, .int .u8 0, .int .u8 0, .int .u8 0, .int .u8 0, .int .u8 0, .int .u8 0, .int .u8 0, .int .u8 0, .int .u8 0, .int .u64 sd, .int .i64 60000, .int .u32 9000, .int .u16 4, .int .u16 3, .int .i64 3, .int .i64 3, .int .u16 1, .int .u16 2] → v = .agg (confA sd) from fun v h => h)
 go_enter Tryz.func32, Tryz.ntmps32
 go_upto_region 2 with (with_reducible refine gate_dst (N := 5) rfl ?_; go_must (refine wpList_boxC rfl rfl 5 rfl rfl (.tmp 7) rfl (confA sd) rfl rfl HZ.out HI.out HO.out ?_))
 refine wp_gen (fun W => W.heap[w.heap.size]? = some (.cells #[.int .u8 0, .int .u8 0, .int .u8 0, .int .u8 0, .int .u8 0, .int .u8 0, .int .u8 0, .int .u8 0, .int .u8 0, .int .u8 0, .int .u8 0, .int .u8 0, .int .u8 0, .int .u8 0, .int .u8 0, .int .u8 0, .int .u64 0, .int .i64 0, .int .u32 0, .int .u16 0, .int .u16 0, .int .i64 0, .int .i64 0, .int .u16 0, .int .u16 0] 52 (0, 0)) ∧ W.heap[w.heap.size + 1]? = some (.cells (confA sd) 52 (0, 0)) ∧ Below w.heap.size w W) ?_ ?_
 ·have h2 := boxes3 w (.cells #[.int .u8 0, .int .u8 0, .int .u8 0, .int .u8 0, .int .u8 0, .int .u8 0, .int .u8 0, .int .u8 0, .int .u8 0, .int .u8 0, .int .u8 0, .int .u8 0, .int .u8 0, .int .u8 0, .int .u8 0, .int .u8 0, .int .u64 0, .int .i64 0, .int .u32 0, .int .u16 0, .int .u16 0, .int .i64 0, .int .i64 0, .int .u16 0, .int .u16 0] 52) (.cells (confA sd) 52) (.cells #[] 0)
  refine ⟨blk_alloc (blk_new _ _) _, ?_, below_alloc (below_alloc (Below.refl _ _) _) _⟩
  have h1 := blk_new (w.alloc (.cells #[.int .u8 0, .int .u8 0, .int .u8 0, .int .u8 0, .int .u8 0, .int .u8 0, .int .u8 0, .int .u8 0, .int .u8 0, .int .u8 0, .int .u8 0, .int .u8 0, .int .u8 0, .int .u8 0, .int .u8 0, .int .u8 0, .int .u64 0, .int .i64 0, .int .u32 0, .int .u16 0, .int .u16 0, .int .i64 0, .int .i64 0, .int .u16 0, .int .u16 0] 52)) (.cells (confA sd) 52)
  rw [World.size_alloc] at h1
  exact h1
 rintro W ⟨h0, h1, hB⟩
 have hs : W.cell? ⟨w.heap.size + 1, 0, none⟩ = some (.int .u8 0) := blk_cell h1 0
 have hf := blk_frozen h1 0
 have H0 := Lib.hid h0
 have H1 := Lib.hid h1
 have HB := Lib.hid hB
 clear h0 h1 hB HZ HL
 go_upto_region 5 with (fail)
 have h1' := blk_put H1.out 0 (.int .u8 0) rfl
 have h1'' : (W.setCell ⟨w.heap.size + 1, 0, none⟩ (.int .u8 0)).heap[w.heap.size + 1]? = some (.cells (confA sd) 52 (0, 0)) := h1'
 have h0' := blk_far (p := ⟨w.heap.size + 1, 0, none⟩) H0.out (by dsimp only; omega) (.int .u8 0)
 have hb' := HB.out.setCell (p := ⟨w.heap.size + 1, 0, none⟩) (by dsimp only; omega) (.int .u8 0)
 clear hs hf h1'
 refine wp_gen (fun W => W.heap[w.heap.size]? = some (.cells #[.int .u8 0, .int .u8 0, .int .u8 0, .int .u8 0, .int .u8 0, .int .u8 0, .int .u8 0, .int .u8 0, .int .u8 0, .int .u8 0, .int .u8 0, .int .u8 0, .int .u8 0, .int .u8 0, .int .u8 0, .int .u8 0, .int .u64 0, .int .i64 0, .int .u32 0, .int .u16 0, .int .u16 0, .int .i64 0, .int .i64 0, .int .u16 0, .int .u16 0] 52 (0, 0)) ∧ W.heap[w.heap.size + 1]? = some (.cells (confA sd) 52 (0, 0)) ∧ Below w.heap.size w W) ⟨h0', h1'', hb'⟩ ?_
 clear h0' h1'' hb' H0 H1 HB
 rintro W' ⟨h0, h1, hB⟩
 have HB := Lib.hid hB
 clear hB
 go_wp2_with (first | (with_reducible refine gate_dst (N := 18) rfl ?_; go_must (refine wpList_load_row rfl 52 (.tmp 5) rfl _ rfl 52 (confA sd) (0, 0) _ h1 Tryz.underlying52 rfl HI.out ?_)) | (with_reducible refine gate_store (p := 4) rfl ?_; go_must (refine wpList_store_row rfl 52 (.tmp 4) (.tmp 18) rfl _ (confA sd) rfl rfl 52 _ h0 HI.out rfl HO.out ?_)))
 exact bodyPost_ret (conf_results _ _ w.heap.size _ rfl (setRow_heap _ _ _ _ _ _ h0) rfl) rfl ⟨rfl, below_setRow HB.out (Nat.le_refl _) _⟩
end Go.Proofs.YthiaakjbapgibaaGreat.As
end
section
namespace Go.Proofs.YthiaakjbapgibaaGreat.As
open Go.RowKit Go.Proofs.YthiaakjbapgibaaGreatW.PrintWords Go.Proofs.YthiaakjbapgibaaGreatW.PrintLast Go.Proofs.YthiaakjbapgibaaGreat.Base Go.Proofs.YthiaakjbapgibaaGreat.PCh
set_option maxRecDepth 100000
set_option linter.unusedVariables false
set_option linter.unusedSimpArgs false
set_option maxHeartbeats 4000000 in
theorem new_calls (w : World) (sd : Int) : Calls Tryz.prog 21 #[.agg (confA sd)] w fun e w' => ∃ g, e = .returned (.tuple #[.pointer (some ⟨g, 0, none⟩), .int .i64 0]) ∧ w.heap.size ≤ g ∧ w'.heap[g]? = some (.cells (machA sd) 90 (0, 0)) ∧ Below w.heap.size w w' := by
 have HI := Lib.hid (show (Tryz.prog.info? 52).map (·.size) = some (#[.int .u8 0, .int .u8 0, .int .u8 0, .int .u8 0, .int .u8 0, .int .u8 0, .int .u8 0, .int .u8 0, .int .u8 0, .int .u8 0, .int .u8 0, .int .u8 0, .int .u8 0, .int .u8 0, .int .u8 0, .int .u8 0, .int .u64 sd, .int .i64 60000, .int .u32 9000, .int .u16 4, .int .u16 3, .int .i64 3, .int .i64 3, .int .u16 1, .int .u16 2] : Array Value).size by kernel_rfl)
 unfold confA
 go_enter Tryz.func21, Tryz.ntmps21
 go_upto_region 1 with (fail)
 refine wp_gen (fun W => W.heap[w.heap.size]? = some (.cells (#[.int .u8 0, .int .u8 0, .int .u8 0, .int .u8 0, .int .u8 0, .int .u8 0, .int .u8 0, .int .u8 0, .int .u8 0, .int .u8 0, .int .u8 0, .int .u8 0, .int .u8 0, .int .u8 0, .int .u8 0, .int .u8 0, .int .u64 sd, .int .i64 60000, .int .u32 9000, .int .u16 4, .int .u16 3, .int .i64 3, .int .i64 3, .int .u16 1, .int .u16 2]) 52 (0, 0)) ∧ Below w.heap.size w W) ⟨blk_new _ _, below_alloc (Below.refl _ _) _⟩ ?_
 rintro W ⟨h1, hB⟩
 have k16 : W.cell? ⟨w.heap.size, 16, none⟩ = some (.int .u64 sd) := blk_cell h1 16
 have k17 : W.cell? ⟨w.heap.size, 17, none⟩ = some (.int .i64 60000) := blk_cell h1 17
 have k18 : W.cell? ⟨w.heap.size, 18, none⟩ = some (.int .u32 9000) := blk_cell h1 18
 have k19 : W.cell? ⟨w.heap.size, 19, none⟩ = some (.int .u16 4) := blk_cell h1 19
 have k20 : W.cell? ⟨w.heap.size, 20, none⟩ = some (.int .u16 3) := blk_cell h1 20
 have k21 : W.cell? ⟨w.heap.size, 21, none⟩ = some (.int .i64 3) := blk_cell h1 21
 have k22 : W.cell? ⟨w.heap.size, 22, none⟩ = some (.int .i64 3) := blk_cell h1 22
 have k23 : W.cell? ⟨w.heap.size, 23, none⟩ = some (.int .u16 1) := blk_cell h1 23
 have k24 : W.cell? ⟨w.heap.size, 24, none⟩ = some (.int .u16 2) := blk_cell h1 24
 have H1 := Lib.hid h1
 have HB := Lib.hid hB
 clear h1 hB
 go_wp2_with (with_reducible refine gate_dst (N := 60) rfl ?_; go_must (refine wpList_load_row rfl 52 (.tmp 1) rfl _ rfl 52 (#[.int .u8 0, .int .u8 0, .int .u8 0, .int .u8 0, .int .u8 0, .int .u8 0, .int .u8 0, .int .u8 0, .int .u8 0, .int .u8 0, .int .u8 0, .int .u8 0, .int .u8 0, .int .u8 0, .int .u8 0, .int .u8 0, .int .u64 sd, .int .i64 60000, .int .u32 9000, .int .u16 4, .int .u16 3, .int .i64 3, .int .i64 3, .int .u16 1, .int .u16 2]) (0, 0) _ H1.out Tryz.underlying52 rfl HI.out ?_))
 go_ret2
 exact ⟨_, rfl, HB.out.size, blk_new _ _, below_alloc HB.out _⟩
theorem mach_facts (sd : Int) : (machA sd).size = 38 ∧ (machA sd)[37]? = some (.bool true) ∧ ((machA sd).extract 0 10).all (·.oneCell') = true ∧ (machA sd)[36]? = some (.slice none 0 0) ∧ (machA sd)[0]? = some (.int .i64 0) ∧ (machA sd)[1]? = some (.int .u32 0) ∧ (machA sd)[2]? = some (.int .u32 0) ∧ (machA sd)[9]? = some (.int .i64 0) ∧ (machA sd)[28]? = some (.int .u32 9000) ∧ (machA sd)[29]? = some (.int .u16 4) ∧ (machA sd)[30]? = some (.int .u16 3) ∧ (machA sd)[35]? = some (.int .u64 sd) :=
 ⟨rfl, rfl, by simp [machA, Value.oneCell'], rfl, rfl, rfl, rfl, rfl, rfl, rfl, rfl, rfl⟩
theorem state_made (w : World) (g : Nat) (cs : Array Value) (h : w.heap[g]? = some (.cells cs 90 (0, 0))) (hb : cs[37]? = some (.bool true)) (s : Int) (h0 : cs[0]? = some (.int .i64 s)) : Calls Tryz.prog 17 #[.pointer (some ⟨g, 0, none⟩)] w fun e w' => e = .returned (.int .i64 s) ∧ w = w' := by
 have H := Lib.hid (is_made w g cs h hb)
 have k0 : w.cell? ⟨g, 0, none⟩ = some (.int .i64 s) := (blk_cell h 0).trans h0
 clear h hb h0
 go_enter Tryz.func17, Tryz.ntmps17
 go_wp2_with fail
 refine H.out.mono ?_
 rintro e w1 ⟨rfl, rfl⟩
 go_wp2
 go_ret
 exact ⟨rfl, rfl⟩
theorem own_made (w : World) (g : Nat) (cs : Array Value) (h : w.heap[g]? = some (.cells cs 90 (0, 0))) (hb : cs[37]? = some (.bool true)) (t n : Int) (h1 : cs[1]? = some (.int .u32 t)) (h2 : cs[2]? = some (.int .u32 n)) : Calls Tryz.prog 22 #[.pointer (some ⟨g, 0, none⟩)] w fun e w' => e = .returned (.tuple #[.int .u32 t, .int .u32 n]) ∧ Below w.heap.size w w' := by
 have H := Lib.hid (is_made w g cs h hb)
 have k1 : w.cell? ⟨g, 1, none⟩ = some (.int .u32 t) := (blk_cell h 1).trans h1
 have k2 : w.cell? ⟨g, 2, none⟩ = some (.int .u32 n) := (blk_cell h 2).trans h2
 clear h hb h1 h2
 go_enter Tryz.func22, Tryz.ntmps22
 go_wp2_with fail
 refine H.out.mono ?_
 rintro e w1 ⟨rfl, rfl⟩
 go_wp2
 go_quiet (fail)
 go_wp2
 go_ret2
 exact ⟨rfl, pw_below_drewN (Below.refl _ _) nq⟩
theorem tag_one : tagD 1 = 0x910A2DEC ∧ tsnD 1 = 0x89025CC1 := by decide +kernel
end Go.Proofs.YthiaakjbapgibaaGreat.As
end
section
namespace Go.Proofs.YthiaakjbapgibaaGreat.As
open Go.RowKit Go.Proofs.YthiaakjbapgibaaGreatW.PrintWords Go.Proofs.YthiaakjbapgibaaGreatW.PrintLast Go.Proofs.YthiaakjbapgibaaGreat.Base Go.Proofs.YthiaakjbapgibaaGreat.PCh
set_option maxRecDepth 100000
set_option linter.unusedVariables false
set_option linter.unusedSimpArgs false
set_option maxHeartbeats 2000000 in
theorem awake_calls (w : World) : Calls Tryz.prog 11 #[] w fun e w' => e = .returned (.bool true) ∧ Below w.heap.size w w' := by
 obtain ⟨f1, f2, f3, f4, f5, f6, f7, f8, f9, f10, f11, f12⟩ := mach_facts 1
 have HF := Lib.hid (show (openC (machA 1) 1).setIfInBounds 36 (.slice none 0 0) = (openC (machA 1) 1).setIfInBounds 36 (.slice none 0 0) from rfl)
 have HO := Lib.hid (fun (W : World) (g : Nat) (h : W.heap[g]? = some (.cells (machA 1) 90 (0, 0))) => open_ok W g (machA 1) h f1 f2 f3 none 0 0 f4 1 0 0 9000 4 3 0 f5 f6 f7 f8 f9 f10 f11 f12)
 rw [tag_one.1, tag_one.2] at HO
 have HS := Lib.hid (show ((openC (machA 1) 1).setIfInBounds 36 (.slice none 0 0))[37]? = some (.bool true) ∧ ((openC (machA 1) 1).setIfInBounds 36 (.slice none 0 0))[0]? = some (.int .i64 1) ∧ ((openC (machA 1) 1).setIfInBounds 36 (.slice none 0 0))[1]? = some (.int .u32 (tagD 1)) ∧ ((openC (machA 1) 1).setIfInBounds 36 (.slice none 0 0))[2]? = some (.int .u32 (tsnD 1)) from ⟨rfl, rfl, rfl, rfl⟩)
 rw [tag_one.1, tag_one.2] at HS
 generalize (openC (machA 1) 1).setIfInBounds 36 (.slice none 0 0) = cs at *
 clear f1 f2 f3 f4 f5 f6 f7 f8 f9 f10 f11 f12 HF
 go_enter Tryz.func11, Tryz.ntmps11
 go_wp2_with fail
 refine (conf_calls w 1).mono ?_
 rintro e w1 ⟨rfl, hB1⟩
 have HB1 := Lib.hid hB1
 clear hB1
 go_wp2_with fail
 refine (new_calls w1 1).mono ?_
 rintro e w2 ⟨g, rfl, hg, hrow, hB2⟩
 have HB2 := Lib.hid (below_then HB1.out HB1.out.size hB2)
 have HG := Lib.hid (show w.heap.size ≤ g from Nat.le_trans HB1.out.size hg)
 have HN := Lib.hid (HO.out w2 g hrow)
 clear hB2 hg hrow HO
 go_wp2_with fail
 refine HN.out.mono ?_
 rintro e w3 ⟨v, rfl, hR, hrow, hOn⟩
 obtain ⟨A3, c3, rfl, hle3, hC3⟩ := Kd.R_reads hR
 have HB3 := Lib.hid (HB2.out.trans (hOn.below HB2.out.size (fun k hk => by have := HG.out; omega)))
 have HROW := Lib.hid hrow
 obtain ⟨ad, A4, c4, rfl, x0, x1, x2, x3, _⟩ := at_T73 hC3 (1 : Int) (by decide) (by decide)
 have hR := True.intro
 have HW := Lib.hid (own_made w3 g cs hrow HS.out.1 _ _ HS.out.2.2.1 HS.out.2.2.2)
 have X3 := Lib.hid (show w3.cell? ⟨ad.block, ad.off + 10 + 3, none⟩ = some (.int .i64 1) from by have h := x3; rw [show (rd_T73 [actSend (initC 2433363436 2298633409 9000 4 3) 0, actTimer 2 1] 1).f3 = 1 from rfl] at h; simpa [Addr.add] using h)
 clear hR hrow hOn hC3 HN x0 x1 x2 x3
 go_wp2_with fail
 refine HW.out.mono ?_
 rintro e w4 ⟨rfl, hB4⟩
 have HB4 := Lib.hid (below_then HB3.out HB3.out.size hB4)
 have x3 := pw_cell_below hB4 X3.out
 have HST := Lib.hid (state_made w4 g cs (blk_below HROW.out hB4) HS.out.1 1 HS.out.2.1)
 clear hB4 HW X3
 go_wp2_with fail
 refine HST.out.mono ?_
 rintro e w5 ⟨rfl, rfl⟩
 go_wp2
 go_ret
 exact ⟨rfl, HB4.out⟩
end Go.Proofs.YthiaakjbapgibaaGreat.As
end
section
namespace Go.Proofs.YthiaakjbapgibaaGreat.As
open Go.RowKit Go.Proofs.YthiaakjbapgibaaGreatW.PrintWords Go.Proofs.YthiaakjbapgibaaGreatW.PrintLast Go.Proofs.YthiaakjbapgibaaGreat.Base Go.Proofs.YthiaakjbapgibaaGreat.PCh
set_option maxRecDepth 100000
set_option linter.unusedVariables false
set_option linter.unusedSimpArgs false
theorem do_nob (w : World) (q : Option Addr) (h : Nob w q) (k : Nat) (hk1 : 1 ≤ k) (hk7 : k ≤ 7) (t n u x0 x1 x2 x3 x4 x5 x6 x7 x8 x9 : Int) (A0 : Option Addr) (n0 c0 : Nat) (A1 : Option Addr) (n1 c1 : Nat) (A2 : Option Addr) (n2 c2 : Nat) (A3 : Option Addr) (n3 c3 : Nat) (A4 : Option Addr) (n4 c4 : Nat) (b : Bool) (y : ByteArray) : Calls Tryz.prog 23 #[.pointer q, .agg (OpV (k : Int) t n u x0 x1 x2 x3 x4 x5 x6 x7 x8 x9 A0 n0 c0 A1 n1 c1 A2 n2 c2 A3 n3 c3 A4 n4 c4 b y)] w fun e w' => e = .returned (.tuple #[.slice none 0 0, .int .i64 4]) ∧ Below w.heap.size w w' := by
 have hk : k = 1 ∨ k = 2 ∨ k = 3 ∨ k = 4 ∨ k = 5 ∨ k = 6 ∨ k = 7 := by omega
 rcases hk with rfl | rfl | rfl | rfl | rfl | rfl | rfl
 ·exact do_nob1 w q h t n u x0 x1 x2 x3 x4 x5 x6 x7 x8 x9 A0 n0 c0 A1 n1 c1 A2 n2 c2 A3 n3 c3 A4 n4 c4 b y
 ·exact do_nob2 w q h t n u x0 x1 x2 x3 x4 x5 x6 x7 x8 x9 A0 n0 c0 A1 n1 c1 A2 n2 c2 A3 n3 c3 A4 n4 c4 b y
 ·exact do_nob3 w q h t n u x0 x1 x2 x3 x4 x5 x6 x7 x8 x9 A0 n0 c0 A1 n1 c1 A2 n2 c2 A3 n3 c3 A4 n4 c4 b y
 ·exact do_nob4 w q h t n u x0 x1 x2 x3 x4 x5 x6 x7 x8 x9 A0 n0 c0 A1 n1 c1 A2 n2 c2 A3 n3 c3 A4 n4 c4 b y
 ·exact do_nob5 w q h t n u x0 x1 x2 x3 x4 x5 x6 x7 x8 x9 A0 n0 c0 A1 n1 c1 A2 n2 c2 A3 n3 c3 A4 n4 c4 b y
 ·exact do_nob6 w q h t n u x0 x1 x2 x3 x4 x5 x6 x7 x8 x9 A0 n0 c0 A1 n1 c1 A2 n2 c2 A3 n3 c3 A4 n4 c4 b y
 ·exact do_nob7 w q h t n u x0 x1 x2 x3 x4 x5 x6 x7 x8 x9 A0 n0 c0 A1 n1 c1 A2 n2 c2 A3 n3 c3 A4 n4 c4 b y
structure NI (w : World) (k0 : Int) (t n u x0 x1 x2 x3 x4 x5 x6 x7 x8 x9 : Int) (A0 : Option Addr) (n0 c0 : Nat) (A1 : Option Addr) (n1 c1 : Nat) (A2 : Option Addr) (n2 c2 : Nat) (A3 : Option Addr) (n3 c3 : Nat) (A4 : Option Addr) (n4 c4 : Nat) (b : Bool) (y : ByteArray) (W : World) : Prop where
 box : W.heap[w.heap.size]? = some (.cells (OpV k0 t n u x0 x1 x2 x3 x4 x5 x6 x7 x8 x9 A0 n0 c0 A1 n1 c1 A2 n2 c2 A3 n3 c3 A4 n4 c4 b y) 67 (0, 0))
 blank : W.heap[w.heap.size + 1]? = some (.cells (#[.int .i64 0, .int .u32 0, .int .u32 0, .int .u32 0, .int .u32 0, .int .u32 0, .int .u16 0, .int .u16 0, .slice none 0 0, .int .i64 0, .int .u8 0, .int .u8 0, .int .u8 0, .int .u8 0, .int .u8 0, .int .u8 0, .int .u8 0, .int .u8 0, .int .u8 0, .int .u8 0, .int .u8 0, .int .u8 0, .int .u8 0, .int .u8 0, .int .u8 0, .int .u8 0, .int .u64 0, .int .i64 0, .int .u32 0, .int .u16 0, .int .u16 0, .int .i64 0, .int .i64 0, .int .u16 0, .int .u16 0, .int .u64 0, .slice none 0 0, .bool false]) 90 (0, 0))
 row : W.heap[w.heap.size + 2]? = some (.cells #[.pointer none, .pointer (some ⟨w.heap.size + 1, 0, none⟩)] 33 (0, 0))
 bl : Below w.heap.size w W
theorem NI.below {w W W' : World} {k0 : Int} {t n u x0 x1 x2 x3 x4 x5 x6 x7 x8 x9 : Int} {A0 : Option Addr} {n0 c0 : Nat} {A1 : Option Addr} {n1 c1 : Nat} {A2 : Option Addr} {n2 c2 : Nat} {A3 : Option Addr} {n3 c3 : Nat} {A4 : Option Addr} {n4 c4 : Nat} {b : Bool} {y : ByteArray} (h : NI w k0 t n u x0 x1 x2 x3 x4 x5 x6 x7 x8 x9 A0 n0 c0 A1 n1 c1 A2 n2 c2 A3 n3 c3 A4 n4 c4 b y W) (hb : Below W.heap.size W W') : NI w k0 t n u x0 x1 x2 x3 x4 x5 x6 x7 x8 x9 A0 n0 c0 A1 n1 c1 A2 n2 c2 A3 n3 c3 A4 n4 c4 b y W' :=
 ⟨blk_below h.box hb, blk_below h.blank hb, blk_below h.row hb, below_then h.bl h.bl.size hb⟩
theorem NI.nob' {w W : World} {k0 : Int} {t n u x0 x1 x2 x3 x4 x5 x6 x7 x8 x9 : Int} {A0 : Option Addr} {n0 c0 : Nat} {A1 : Option Addr} {n1 c1 : Nat} {A2 : Option Addr} {n2 c2 : Nat} {A3 : Option Addr} {n3 c3 : Nat} {A4 : Option Addr} {n4 c4 : Nat} {b : Bool} {y : ByteArray} (h : NI w k0 t n u x0 x1 x2 x3 x4 x5 x6 x7 x8 x9 A0 n0 c0 A1 n1 c1 A2 n2 c2 A3 n3 c3 A4 n4 c4 b y W) (q : Option Addr) (hq : q = none ∨ q = some ⟨w.heap.size + 1, 0, none⟩) : Nob W q := by
 rcases hq with rfl | rfl
 ·exact Or.inl rfl
 ·exact Or.inr ⟨_, _, rfl, h.blank, rfl⟩
theorem NI.set {w W : World} {k0 : Int} {t n u x0 x1 x2 x3 x4 x5 x6 x7 x8 x9 : Int} {A0 : Option Addr} {n0 c0 : Nat} {A1 : Option Addr} {n1 c1 : Nat} {A2 : Option Addr} {n2 c2 : Nat} {A3 : Option Addr} {n3 c3 : Nat} {A4 : Option Addr} {n4 c4 : Nat} {b : Bool} {y : ByteArray} (h : NI w k0 t n u x0 x1 x2 x3 x4 x5 x6 x7 x8 x9 A0 n0 c0 A1 n1 c1 A2 n2 c2 A3 n3 c3 A4 n4 c4 b y W) (k : Int) : NI w k t n u x0 x1 x2 x3 x4 x5 x6 x7 x8 x9 A0 n0 c0 A1 n1 c1 A2 n2 c2 A3 n3 c3 A4 n4 c4 b y (W.setCell ⟨w.heap.size, 0, none⟩ (.int .i64 k)) :=
 ⟨blk_put h.box 0 _ rfl, blk_far h.blank (by dsimp only; omega) _, blk_far h.row (by dsimp only; omega) _, h.bl.setCell (p := ⟨w.heap.size, 0, none⟩) (by dsimp only; omega) _⟩
theorem NI.cell {w W : World} {k0 : Int} {t n u x0 x1 x2 x3 x4 x5 x6 x7 x8 x9 : Int} {A0 : Option Addr} {n0 c0 : Nat} {A1 : Option Addr} {n1 c1 : Nat} {A2 : Option Addr} {n2 c2 : Nat} {A3 : Option Addr} {n3 c3 : Nat} {A4 : Option Addr} {n4 c4 : Nat} {b : Bool} {y : ByteArray} (h : NI w k0 t n u x0 x1 x2 x3 x4 x5 x6 x7 x8 x9 A0 n0 c0 A1 n1 c1 A2 n2 c2 A3 n3 c3 A4 n4 c4 b y W) (i : Nat) (hi : i < 2) : ∃ q, (q = none ∨ q = some ⟨w.heap.size + 1, 0, none⟩) ∧ W.cell? ⟨w.heap.size + 2, i, none⟩ = some (.pointer q) := by
 have hi : i = 0 ∨ i = 1 := by omega
 rcases hi with rfl | rfl
 ·exact ⟨none, Or.inl rfl, blk_cell h.row 0⟩
 ·exact ⟨_, Or.inr rfl, blk_cell h.row 1⟩
set_option maxHeartbeats 4000000 in
theorem nobody_row {w : World} (k0 : Int) (t n u x0 x1 x2 x3 x4 x5 x6 x7 x8 x9 : Int) (A0 : Option Addr) (n0 c0 : Nat) (A1 : Option Addr) (n1 c1 : Nat) (A2 : Option Addr) (n2 c2 : Nat) (A3 : Option Addr) (n3 c3 : Nat) (A4 : Option Addr) (n4 c4 : Nat) (b : Bool) (y : ByteArray) : Calls Tryz.prog 9 #[.agg (OpV k0 t n u x0 x1 x2 x3 x4 x5 x6 x7 x8 x9 A0 n0 c0 A1 n1 c1 A2 n2 c2 A3 n3 c3 A4 n4 c4 b y)] w fun e w' => e = .returned (.bool true) ∧ Below w.heap.size w w' := by
 have HI := Lib.hid (fun k : Int => (show (Tryz.prog.info? 67).map (·.size) = some (OpV k t n u x0 x1 x2 x3 x4 x5 x6 x7 x8 x9 A0 n0 c0 A1 n1 c1 A2 n2 c2 A3 n3 c3 A4 n4 c4 b y).size by kernel_rfl))
 have X : NI w k0 t n u x0 x1 x2 x3 x4 x5 x6 x7 x8 x9 A0 n0 c0 A1 n1 c1 A2 n2 c2 A3 n3 c3 A4 n4 c4 b y (((w.alloc (.cells (OpV k0 t n u x0 x1 x2 x3 x4 x5 x6 x7 x8 x9 A0 n0 c0 A1 n1 c1 A2 n2 c2 A3 n3 c3 A4 n4 c4 b y) 67)).alloc (.cells (#[.int .i64 0, .int .u32 0, .int .u32 0, .int .u32 0, .int .u32 0, .int .u32 0, .int .u16 0, .int .u16 0, .slice none 0 0, .int .i64 0, .int .u8 0, .int .u8 0, .int .u8 0, .int .u8 0, .int .u8 0, .int .u8 0, .int .u8 0, .int .u8 0, .int .u8 0, .int .u8 0, .int .u8 0, .int .u8 0, .int .u8 0, .int .u8 0, .int .u8 0, .int .u8 0, .int .u64 0, .int .i64 0, .int .u32 0, .int .u16 0, .int .u16 0, .int .i64 0, .int .i64 0, .int .u16 0, .int .u16 0, .int .u64 0, .slice none 0 0, .bool false]) 90)).alloc (.cells #[.pointer none, .pointer (some ⟨w.heap.size + 1, 0, none⟩)] 33)) := by
  obtain ⟨h1, h2, h3, h4⟩ := boxes3 w (.cells (OpV k0 t n u x0 x1 x2 x3 x4 x5 x6 x7 x8 x9 A0 n0 c0 A1 n1 c1 A2 n2 c2 A3 n3 c3 A4 n4 c4 b y) 67) (.cells (#[.int .i64 0, .int .u32 0, .int .u32 0, .int .u32 0, .int .u32 0, .int .u32 0, .int .u16 0, .int .u16 0, .slice none 0 0, .int .i64 0, .int .u8 0, .int .u8 0, .int .u8 0, .int .u8 0, .int .u8 0, .int .u8 0, .int .u8 0, .int .u8 0, .int .u8 0, .int .u8 0, .int .u8 0, .int .u8 0, .int .u8 0, .int .u8 0, .int .u8 0, .int .u8 0, .int .u64 0, .int .i64 0, .int .u32 0, .int .u16 0, .int .u16 0, .int .i64 0, .int .i64 0, .int .u16 0, .int .u16 0, .int .u64 0, .slice none 0 0, .bool false]) 90) (.cells #[.pointer none, .pointer (some ⟨w.heap.size + 1, 0, none⟩)] 33)
  exact ⟨h1, h2, h3, h4⟩
 have HX := Lib.hid X
 clear X
 go_enter Tryz.func9, Tryz.ntmps9
 go_wp2_with fail
 refine wp_gen (NI w k0 t n u x0 x1 x2 x3 x4 x5 x6 x7 x8 x9 A0 n0 c0 A1 n1 c1 A2 n2 c2 A3 n3 c3 A4 n4 c4 b y) HX.out ?_
 clear HX
 intro W X
 go_loopw [16] (fun v16 wr => ∃ (i : Nat) (k : Int), i ≤ 2 ∧ v16 = .int .i64 (i : Int) ∧ Hid (NI w k t n u x0 x1 x2 x3 x4 x5 x6 x7 x8 x9 A0 n0 c0 A1 n1 c1 A2 n2 c2 A3 n3 c3 A4 n4 c4 b y wr)) (fun v16 _ => 2 - (intOf v16).toNat)
 case atStart => exact ⟨0, k0, Nat.zero_le _, rfl, X⟩
 case round =>
  clear X
  obtain ⟨i, k, hi, rfl, HX⟩ := hrel
  by_cases hlt : i < 2
  ·obtain ⟨q, hq, kq⟩ := HX.out.cell i hlt
   have hi2 : ((i : Int) < 2) := by omega
   go_wp2
   clear kq
   go_loopw [6] (fun v6 wr => ∃ (j : Nat) (k : Int), 1 ≤ j ∧ j ≤ 8 ∧ v6 = .int .i64 (j : Int) ∧ Hid (NI w k t n u x0 x1 x2 x3 x4 x5 x6 x7 x8 x9 A0 n0 c0 A1 n1 c1 A2 n2 c2 A3 n3 c3 A4 n4 c4 b y wr)) (fun v6 _ => 8 - (intOf v6).toNat)
   case atStart => exact ⟨1, k, by omega, by omega, rfl, HX.out⟩
   case round =>
    clear HX
    obtain ⟨j, k, hj1, hj8, rfl, HX⟩ := hrel
    by_cases hj : j ≤ 7
    ·have hj2 : decide ((j : Int) ≤ 7) = true := by simp; omega
     have hs : wr.cell? ⟨w.heap.size, 0, none⟩ = some (.int .i64 k) := blk_cell HX.out.box 0
     have hf := blk_frozen HX.out.box 0
     have HY := Lib.hid (HX.out.set (j : Int))
     clear HX
     go_upto_region 9 with (fail)
     clear hs hf
     generalize wr.setCell ⟨w.heap.size, 0, none⟩ (.int .i64 (j : Int)) = W1 at *
     have HD := Lib.hid (do_nob W1 q (HY.out.nob' q hq) j hj1 hj t n u x0 x1 x2 x3 x4 x5 x6 x7 x8 x9 A0 n0 c0 A1 n1 c1 A2 n2 c2 A3 n3 c3 A4 n4 c4 b y)
     have HIJ := HI.out (j : Int)
     obtain ⟨CO, hCO⟩ : ∃ CO, OpV (j : Int) t n u x0 x1 x2 x3 x4 x5 x6 x7 x8 x9 A0 n0 c0 A1 n1 c1 A2 n2 c2 A3 n3 c3 A4 n4 c4 b y = CO := ⟨_, rfl⟩
     have hbx := HY.out.box
     rw [hCO] at HD HIJ hbx
     clear hCO
     go_wp2_with (with_reducible refine gate_dst (N := 28) rfl ?_; go_must (refine wpList_load_row rfl 67 (.tmp 1) rfl _ rfl 67 CO (0, 0) _ hbx Tryz.underlying67 rfl HIJ ?_))
     refine HD.out.mono ?_
     rintro e w2 ⟨rfl, hB2⟩
     have HZ := Lib.hid (HY.out.below hB2)
     clear hB2 hbx HD HY HIJ
     go_wp2
     go_roundw
     case rel => exact ⟨j + 1, _, by omega, by omega, by go_num, HZ⟩
     case measure => simp [intOf]; omega
    ·have hj2 : decide ((j : Int) ≤ 7) = false := by simp; omega
     have HO := Lib.hid (own_nob wr q (HX.out.nob' q hq))
     have HS := Lib.hid (state_nob wr q (HX.out.nob' q hq))
     have HP := Lib.hid (peer_nob wr q (HX.out.nob' q hq))
     go_wp2_with fail
     refine HO.out.mono ?_
     rintro e w3 ⟨rfl, rfl⟩
     go_wp2_with fail
     refine HS.out.mono ?_
     rintro e w4 ⟨rfl, rfl⟩
     go_wp2_with fail
     refine HP.out.mono ?_
     rintro e w5 ⟨rfl, hB5⟩
     have HZ := Lib.hid (HX.out.below hB5)
     clear hB5 HX HO HS HP
     go_wp2
     go_roundw
     case rel => exact ⟨i + 1, _, by omega, by go_num, HZ⟩
     case measure => simp [intOf]; omega
  ·obtain rfl : i = 2 := by omega
   go_wp2_with fail
   refine (awake_calls wr).mono ?_
   rintro e w6 ⟨rfl, hB6⟩
   have HZ := Lib.hid (HX.out.below hB6)
   clear hB6 HX
   go_wp2
   go_ret
   exact ⟨rfl, HZ.out.bl⟩
end Go.Proofs.YthiaakjbapgibaaGreat.As
end
section
namespace Go.Proofs.YthiaakjbapgibaaGreat.assocNobody
open Go.ChangeShapes Go.WideShapes Go.ChangeAt Go.RowKit Go.Proofs.YthiaakjbapgibaaGreat.Base
open Go.ChangeMaps (open_string shut_string)
set_option linter.unusedVariables false
set_option maxRecDepth 100000 in
theorem contract (H : Type) (enc : TypeId × Value → H) (W : World) (base : Nat) (args : Array Value) (ds gs : List (DataW H)) (before : List MemPlace)
  (hval : ∀ (j : Nat) t v, Tryz.f9.params[j]? = some t → args[j]? = some v → Value.okWide Tryz.prog W .any base t v)
  (hW : DataW.Whole enc Tryz.prog Tryz.f9.params.toList Rows.assocNobodySpec.vars false W args.toList ds gs before)
  (hsz0 : (DataW.weightsEach Tryz.prog (Tryz.f9.params.toList ++ (OpenSpec.ofChange Rows.assocNobodySpec).bare.plain.varTypes Tryz.prog) (ds ++ gs)).all (· ≤ reachBytes) = true)
  (hL : laidMetH Tryz.prog Rows.assocNobodyRow.laid W) :
  Calls Tryz.prog 9 args W fun e W' => ∃ v, e = .returned v ∧ Rows.assocNobodySpec.post enc Tryz.prog Tryz.f9 false true false false W args v W' := by
 have hW' := hW
 obtain ⟨p, q, hA0, hV, rfl, hfz, hnd⟩ := hW
 have hA : DataW.TrodAll enc Tryz.prog W 0 (fun _ => true) true Tryz.f9.params.toList args.toList ds p := hA0
 rw [Tryz.params9] at hA hval
 obtain ⟨v0, vs0, d0, ds0, p0, q0, hargs, rfl, rfl, h0, r0⟩ := trodAll_cons hA
 obtain ⟨rfl, rfl, rfl⟩ := trodAll_nil r0
 obtain rfl : args = #[v0] := by cases args; simp_all
 obtain ⟨rfl, rfl⟩ := trodVars_none hV
 have hsz := hsz0
 rw [Tryz.params9] at hsz
 have k0 := h0
 have lt0 : ∀ x ∈ p0, x.block < W.heap.size := by obtain ⟨m, hm⟩ := k0; exact DataW.trod_lt m _ _ _ hm
 obtain ⟨k, t, x0, x1, x2, x3, x4, x5, x6, x7, x8, x9, A0, n0, c0, A1, n1, c1, A2, n2, c2, A3, n3, c3, A4, n4, c4, n, u, b, y, rfl⟩ := As.open_op (hval 0 67 v0 rfl rfl)
 clear hA0 hsz hsz0
 refine (As.nobody_row k t n u x0 x1 x2 x3 x4 x5 x6 x7 x8 x9 A0 n0 c0 A1 n1 c1 A2 n2 c2 A3 n3 c3 A4 n4 c4 b y).mono fun e W' ⟨he, bel⟩ => ?_
 subst he
 exact ⟨_, rfl, _, _, _, [], _, [], hW', trodAll_mk1 (shut_bool Tryz.underlying4 _), (trodAll_cons_mk (Below.trod laidOut (by kernel_rfl) (of_decide_eq_true (by kernel_rfl)) k0 bel lt0) trodAll_mk0), rfl, bel.frame _, fun h => by cases h⟩
noncomputable def laidWorld (os : Os) : World := World.holding Tryz.prog os ⟨#[], #[], []⟩
theorem laid_met (os : Os) : laidMet Tryz.prog Rows.assocNobodyRow.laid ((laidWorld os).forCall (fun _ _ => 0) ⟨#[], #[.agg #[.int .i64 0, .int .u32 0, .int .u8 0, .int .u8 0, .int .u32 0, .int .u16 0, .int .u16 0, .int .u32 0, .int .u32 0, .int .u32 0, .int .u16 0, .int .u16 0, .slice none 0 0, .slice none 0 0, .slice none 0 0, .slice none 0 0, .slice none 0 0, .int .i64 0, .int .u32 0, .bool false, .string ByteArray.empty]], []⟩).memory :=
 laidMet_of_run' 8 (by kernel_rfl) (by kernel_rfl)
theorem reads (os : Os) {H : Type} (enc : TypeId × Value → H) : ∃ places, DataW.whole enc Tryz.prog ((laidWorld os).forCall (fun _ _ => 0) ⟨#[], #[.agg #[.int .i64 0, .int .u32 0, .int .u8 0, .int .u8 0, .int .u32 0, .int .u16 0, .int .u16 0, .int .u32 0, .int .u32 0, .int .u32 0, .int .u16 0, .int .u16 0, .slice none 0 0, .slice none 0 0, .slice none 0 0, .slice none 0 0, .slice none 0 0, .int .i64 0, .int .u32 0, .bool false, .string ByteArray.empty]], []⟩).memory Tryz.f9.params.toList Rows.assocNobodySpec.vars false (#[.agg #[.int .i64 0, .int .u32 0, .int .u8 0, .int .u8 0, .int .u32 0, .int .u16 0, .int .u16 0, .int .u32 0, .int .u32 0, .int .u32 0, .int .u16 0, .int .u16 0, .slice none 0 0, .slice none 0 0, .slice none 0 0, .slice none 0 0, .slice none 0 0, .int .i64 0, .int .u32 0, .bool false, .string ByteArray.empty]] : Array Value).toList 8 = some ([.agg [.lit (.int .i64 0), .lit (.int .u32 0), .agg [.lit (.int .u8 0), .lit (.int .u8 0), .lit (.int .u32 0), .lit (.int .u16 0), .lit (.int .u16 0), .lit (.int .u32 0), .lit (.int .u32 0), .lit (.int .u32 0), .lit (.int .u16 0), .lit (.int .u16 0), .nil, .nil, .nil, .nil, .nil], .lit (.int .i64 0), .lit (.int .u32 0), .lit (.bool false), .lit (.string [])]], [], places) :=
 ⟨[], by kernel_rfl⟩
set_option maxRecDepth 100000 in
theorem lifted (os : Os) (started : os.Started) (H : Type) (enc : TypeId × Value → H) (F : Stop.Interp) :
  ReturnsInHanded {} Tryz.checked os 9 .any ((OpenSpec.ofChange Rows.assocNobodySpec).preRow enc Tryz.prog Tryz.f9 Rows.assocNobodyRow.domain false Rows.assocNobodyRow.laid) (((OpenSpec.ofChange Rows.assocNobodySpec).at F).post enc Tryz.prog Tryz.f9 false true false false) := by
 obtain ⟨places, hx⟩ := reads os enc
 refine returnsInHanded_of_row (C := Tryz.checked) (s := (OpenSpec.ofChange Rows.assocNobodySpec)) own started (by kernel_rfl) Tryz.func9
  (witness_row_at (enc := enc) (C := Tryz.checked) false (laidWorld os) #[.agg #[.int .i64 0, .int .u32 0, .int .u8 0, .int .u8 0, .int .u32 0, .int .u16 0, .int .u16 0, .int .u32 0, .int .u32 0, .int .u32 0, .int .u16 0, .int .u16 0, .slice none 0 0, .slice none 0 0, .slice none 0 0, .slice none 0 0, .slice none 0 0, .int .i64 0, .int .u32 0, .bool false, .string ByteArray.empty]] rfl (by kernel_rfl) (by kernel_rfl) (by kernel_rfl)
   (OpenSpec.preRow_of_cond 8 hx (by kernel_rfl) (fun k hk => by cases hk) (by kernel_rfl) (laid_met os))) ?_
 intro W base args ds gs before hval hW _ hcond hsz hL _ _
 exact contract H enc W base args ds gs before hval hW hsz hL
theorem said : Rows.AssocNobodySaid :=
 OpenClaim.holds_of_cond 9 Tryz.f9 rfl rfl rfl rfl rfl rfl rfl ⟨rfl, rfl, rfl, rfl, rfl⟩ rfl rfl rfl rfl rfl (by kernel_rfl) Tryz.func9 (by kernel_rfl)
  (of_decide_eq_true (by kernel_rfl)) (by unfold Func.isWrapper; first | (rw [if_pos (by decide +kernel)]; kernel_rfl) | (rw [if_neg (by decide +kernel)]; exact ⟨rfl, rfl⟩))
  (fun os started H enc _ F => by rw [OpenClaim.pre_eq_preRow]; exact lifted os started H enc F)
theorem assocNobody_holds : Rows.AssocNobodySaid := said
#print axioms assocNobody_holds
end Go.Proofs.YthiaakjbapgibaaGreat.assocNobody
end
