/- The texts of one proof, merged: part 3. -/
import Derived.Test.YthiaakjbapgibaaGreatSa2
import Derived.Test.YthiaakjbapgibaaGreatProg
import Derived.Deep.LoopGhost
import Derived.Deep.QuietTactic
import Derived.BigQuiet
import Derived.Laws.BitsLemmas
import Derived.Lib.Hide
import Derived.Outline
import Derived.Test.YthiaakjbapgibaaGreatRows
import Derived.WalkKit
import Derived.ProofKit
import Derived.OpenShut
import Derived.ShutString
import Derived.ChangeOld
import Derived.SizedLaws
import Derived.Deep.Slices
import Derived.Deep.DeepHandedRow
import Derived.Lib.LaidTab
import Derived.LaidMore
import Derived.Laws.Rows
import Derived.Defers
import Derived.Recover
import Derived.Laws.Pointers
import Derived.Deep.WholeRow
import Derived.WalkSpells
import Derived.Deep.MidRow
import Derived.Laws.CopyRow
import Derived.Laws.Tables
import Derived.WalkLawsBesides
import Derived.StillTailTactics
import Derived.Deep.RegionWith
set_option maxRecDepth 100000
set_option linter.unusedVariables false
set_option linter.unusedSimpArgs false
section
namespace Go.Proofs.YthiaakjbapgibaaGreat.Base
open Go.RowKit YthiaakjbapgibaaGreatW.PrintWords
theorem info_u8 : (Tryz.prog.info? 5).map (fun i => (i.zero, i.size, i.bytes)) = some (some (.int .u8 0), 1, 1) := by kernel_rfl
theorem getD_lt {α : Type} (l : List α) (d : α) (i : Nat) (h : i < l.length) : l.getD i d = l[i] := by simp [List.getD_eq_getElem?_getD, h]
structure Only (S : Nat → Prop) (w w' : World) : Prop where
 os : w'.os = w.os
 tape : w'.tape = w.tape
 output : w'.output = w.output
 size : w.heap.size ≤ w'.heap.size
 block : ∀ k, k < w.heap.size → ¬ S k → w'.heap[k]? = w.heap[k]?
theorem Only.refl (S : Nat → Prop) (w : World) : Only S w w := ⟨rfl, rfl, rfl, Nat.le_refl _, fun _ _ _ => rfl⟩
theorem Only.mono {S S' : Nat → Prop} {w w' : World} (h : Only S w w') (hs : ∀ k, k < w.heap.size → S k → S' k) : Only S' w w' := ⟨h.os, h.tape, h.output, h.size, fun k hk hn => h.block k hk (fun hx => hn (hs k hk hx))⟩
theorem Only.trans {S S' : Nat → Prop} {a b c : World} (h : Only S a b) (k : Only S' b c) (hs : ∀ k, k < a.heap.size → S' k → S k) : Only S a c :=
 ⟨k.os.trans h.os, k.tape.trans h.tape, k.output.trans h.output, Nat.le_trans h.size k.size, fun i hi hn => (k.block i (Nat.lt_of_lt_of_le hi h.size) (fun hx => hn (hs i hi hx))).trans (h.block i hi hn)⟩
theorem Only.of_below {S : Nat → Prop} {w w' : World} (h : Below w.heap.size w w') : Only S w w' := ⟨h.os, h.tape, h.output, h.size, fun k hk _ => h.block k hk⟩
theorem Only.below {S : Nat → Prop} {B : Nat} {w w' : World} (h : Only S w w') (hB : B ≤ w.heap.size) (hs : ∀ k, S k → B ≤ k) : Below B w w' :=
 ⟨h.os, h.tape, h.output, h.size, fun k hk => h.block k (by omega) (fun hx => by have := hs k hx; omega)⟩
theorem Only.drew {S : Nat → Prop} {a w : World} (h : Only S a w) : Only S a w.drew := ⟨h.os, h.tape, h.output, h.size, h.block⟩
theorem Only.drewN {S : Nat → Prop} {a w : World} (h : Only S a w) (n : Nat) : Only S a (w.drewN n) := ⟨h.os, h.tape, h.output, h.size, h.block⟩
theorem Only.alloc {S : Nat → Prop} {a w : World} (h : Only S a w) (o : Obj) : Only S a (w.alloc o) := h.trans (.of_below (below_alloc (Below.refl _ _) o)) (S' := fun _ => False) (fun _ _ hf => hf.elim)
theorem Only.setCell {S : Nat → Prop} {a w : World} (h : Only S a w) {p : Addr} (hp : p.block < a.heap.size → S p.block) (u : Value) : Only S a (w.setCell p u) :=
 ⟨h.os, h.tape, h.output, by simpa [World.setCell] using h.size, fun k hk hn => (Below.heap_setCell w p u k (fun e => hn (by subst e; exact hp hk))).trans (h.block k hk hn)⟩
theorem Only.blk {S : Nat → Prop} {w w' : World} (h : Only S w w') {g : Nat} {o : Obj} (hb : w.heap[g]? = some o) (hg : ¬ S g) : w'.heap[g]? = some o := (h.block g (blk_lt hb) hg).trans hb
theorem Only.cell {S : Nat → Prop} {w w' : World} (h : Only S w w') {a : Addr} {v : Value} (hc : w.cell? a = some v) (hg : ¬ S a.block) : w'.cell? a = some v := by
 have := h.block a.block (World.block_lt_of_cell? w a hc) hg
 simpa [World.cell?, this] using hc
theorem gen_world {G Pd : World → Prop} {W0 : World} (h0 : Pd W0) (h : ∀ W, Pd W → G W) : G W0 := h W0 h0
def byte : Kd UInt8 := Kd.scalar (fun b => .int .u8 (b.toNat : Int)) (fun _ => rfl)
theorem byte_at {w : World} {A : Option Addr} {n : Nat} {xs : List UInt8} (h : byte.C w A n xs) (i : Nat) (hi : i < n) : ∃ ad, A = some ad ∧ w.cell? (ad.add i) = some (.int .u8 ((xs.getD i 0).toNat : Int)) := by
 obtain ⟨ad, c, e, _, hK, hc0⟩ := Kd.C_get h (0 : UInt8) (i : Int) (by omega) (by omega)
 obtain rfl : c = [_] := hK
 have := hc0 0 _ rfl
 exact ⟨ad, e, by simpa [byte, Kd.scalar] using this⟩
def bytesK : Kd (List UInt8) := Kd.slice 5 byte
theorem bytes_at {w : World} {A : Option Addr} {n : Nat} {xs : List (List UInt8)} (h : bytesK.C w A n xs) (i : Nat) (hi : i < n) : ∃ ad A0 c0, A = some ad ∧ w.cell? (ad.add i) = some (.slice A0 (xs.getD i []).length c0) ∧ (xs.getD i []).length ≤ c0 ∧ byte.C w A0 (xs.getD i []).length (xs.getD i []) := by
 obtain ⟨ad, c, e, _, hK, hc0⟩ := Kd.C_get h ([] : List UInt8) (i : Int) (by omega) (by omega)
 obtain ⟨A0, c0, rfl, l0, g0⟩ := hK
 have := hc0 0 _ rfl
 exact ⟨ad, A0, c0, e, by simpa [bytesK, Kd.slice] using this, by simpa using l0, by simpa using g0⟩
theorem take_bytes {w : World} {A : Option Addr} {c : Nat} {l : List UInt8} (hb : byte.C w A l.length l) (hc : l.length ≤ c) (m : Nat) (j : Int) (hj : j = m) (hm : m ≤ l.length) :
  (∀ W : World, (Instr.slice 62 (.slice A l.length c) none (some (.int .i64 j)) none).run Tryz.prog W = .ok (.slice A (l.take m).length c) W) ∧ byte.C w A (l.take m).length (l.take m) ∧ (l.take m).length ≤ c := by
 subst hj
 obtain ⟨i, hi, h1, h2, h3⟩ := info_parts info_u8
 have hl : (l.take m).length = m := by rw [List.length_take]; omega
 refine ⟨fun W => ?_, Kd.C_take hb hm, by omega⟩
 have := cut_to (P := Tryz.prog) 62 5 .i64 Tryz.underlying62 hi A l.length c (m : Int) (by omega) (by omega) hc W
 rw [this, hl]
 rfl
theorem drop_bytes {w : World} {A : Option Addr} {c : Nat} {l : List UInt8} (hb : byte.C w A l.length l) (hc : l.length ≤ c) (m : Nat) (j : Int) (hj : j = m) (hm : m ≤ l.length) :
  ∃ A', (∀ W : World, (Instr.slice 62 (.slice A l.length c) (some (.int .i64 j)) none none).run Tryz.prog W = .ok (.slice A' (l.drop m).length (c - m)) W) ∧ byte.C w A' (l.drop m).length (l.drop m) ∧ (l.drop m).length ≤ c - m := by
 subst hj
 obtain ⟨i, hi, h1, h2, h3⟩ := info_parts info_u8
 have hl : (l.drop m).length = l.length - m := List.length_drop
 refine ⟨_, fun W => ?_, Kd.C_drop hb hm hc, by omega⟩
 have := cut_from (P := Tryz.prog) 62 5 .i64 Tryz.underlying62 hi 1 h2 A l.length c (m : Int) (by omega) (by omega) W
 rw [this, hl]
 rfl
theorem row_lit {α : Type} (d : Kd α) (hd : d.sz = 1) (W : World) (e : TypeId) (vs : List Value) (ps : List α) (hl : vs.length = ps.length) (hm : ps.length ≤ 9223372036854775807)
  (h : ∀ (j : Nat) (v : Value) (p : α), vs[j]? = some v → ps[j]? = some p → d.K W p [v]) (fr : Nat × Nat := (0, 0)) : d.C (W.alloc (.cells vs.toArray e fr)) (some ⟨W.heap.size, 0, none⟩) ps.length ps := by
 refine ⟨rfl, hm, fun _ => ⟨_, rfl, fun j p hj => ?_⟩⟩
 have hjl : j < ps.length := (List.getElem?_eq_some_iff.1 hj).1
 obtain ⟨v, hv⟩ : ∃ v, vs[j]? = some v := ⟨vs[j]'(by omega), List.getElem?_eq_getElem (by omega)⟩
 refine ⟨[v], by rw [hd]; rfl, d.K_below (below_alloc (Below.refl _ _) _) (h j v p hv hj), fun i u hu => ?_⟩
 cases i with
 | zero =>
  obtain rfl : v = u := by simpa using hu
  rw [hd, add_plain, Nat.mul_one, Nat.add_zero]
  rw [cell_of_row _ _ _ _ _ _ (heap_alloc_new W _)]
  simpa using hv
 | succ i => simp at hu
theorem byte_cell {W : World} {base g n cap t : Nat} {ok : Nat → Prop} {xs : List UInt8} (h : byte.R t W base ok (.slice (some ⟨g, 0, none⟩) n cap) xs) (i : Nat) (hi : i < n) :
  W.cell? ⟨g, i, none⟩ = some (.int .u8 ((xs.getD i 0).toNat : Int)) ∧ W.frozen? ⟨g, i, none⟩ = false := by
 have := Kd.R_celln (0 : UInt8) h (i : Int) (by omega) (by omega)
 simpa [rdOf] using this
theorem byte_put {W : World} {base g n cap t : Nat} {ok : Nat → Prop} {xs : List UInt8} (h : byte.R t W base ok (.slice (some ⟨g, 0, none⟩) n cap) xs) (i : Nat) (z : Int) (x : UInt8) (hz : z = (x.toNat : Int)) :
  byte.R t (W.setCell ⟨g, i, none⟩ (.int .u8 z)) base ok (.slice (some ⟨g, 0, none⟩) n cap) (xs.set i x) := by
 have := Kd.R_putn h (i : Int) x
 rw [Int.toNat_natCast] at this
 rw [hz]
 exact this
def bstr (l : List UInt8) : ByteArray := ⟨l.toArray⟩
theorem bstr_toList (l : List UInt8) : (bstr l).toList = l := by
 rw [bstr, ByteArray.toList_mk]
theorem bstr_eq (l l' : List UInt8) : ((bstr l).toList == (bstr l').toList) = decide (l = l') := by
 rw [bstr_toList, bstr_toList]
 by_cases h : l = l' <;> simp [h]
theorem ints_of_bytes {w : World} {A : Option Addr} {n : Nat} {l : List UInt8} (h : byte.C w A n l) : ReadsInt w .u8 A n (l.map fun b => (b.toNat : Int)) := by
 obtain ⟨h1, h2, h3⟩ := Kd.reads_of_C (d := (0 : UInt8)) h
 refine ⟨by simpa using h1, h2, fun hn => ?_⟩
 obtain ⟨ad, e, hc⟩ := h3 hn
 refine ⟨ad, e, fun j hj => ?_⟩
 rw [hc j hj, getD_lt _ _ _ (by omega), getD_lt _ _ _ (by rw [List.length_map]; omega), List.getElem_map]
theorem nums_bstr (l : List UInt8) : strOfNums (l.map fun b => (b.toNat : Int)) = bstr l := by
 unfold strOfNums bstr
 rw [List.map_map]
 have : (List.map ((fun n : Int => UInt8.ofNat n.toNat) ∘ fun b : UInt8 => (b.toNat : Int)) l) = l := by
  conv => rhs; rw [← List.map_id l]
  exact List.map_congr_left fun b _ => by simp
 rw [this]
theorem run_bstr {w : World} {A : Option Addr} {n c : Nat} {l : List UInt8} (h : byte.C w A n l) : (convert 62 9 (.slice A n c)).run Tryz.prog w = .ok (.string (bstr l)) w := by
 rw [← nums_bstr]
 exact string_of_reads Tryz.underlying62 Tryz.underlying5 Tryz.underlying9 (ints_of_bytes h)
attribute [irreducible] bstr
theorem K_bytes {w : World} {A : Option Addr} {c : Nat} {l : List UInt8} (h : byte.C w A l.length l) (hc : l.length ≤ c) : bytesK.K w l [.slice A l.length c] := ⟨A, c, rfl, hc, h⟩
end Go.Proofs.YthiaakjbapgibaaGreat.Base
end
section
namespace Go.Proofs.YthiaakjbapgibaaGreat.Base
open Go.ChangeShapes Go.WideShapes Go.ChangeAt Go.RowKit YthiaakjbapgibaaGreatW.PrintWords
open Go.ChangeMaps (open_string shut_string)
theorem own : ownKnob Tryz.prog.godebug = none := by kernel_rfl
theorem laidOut : laidOutB Tryz.prog = true := by kernel_rfl
theorem cells_u8 : Tryz.prog.cellsOf 5 = 1 := by kernel_rfl
theorem bytes_u8 : Tryz.prog.bytesOf 5 = 1 := by kernel_rfl
theorem u8_of_wf {n : Int} (h : (Lit.int .u8 n).wf = true) : ((UInt8.ofNat n.toNat).toNat : Int) = n := by
 have := bounds_u8 h
 rw [UInt8.toNat_ofNat']
 omega
end Go.Proofs.YthiaakjbapgibaaGreat.Base
end
section
namespace Go.Proofs.YthiaakjbapgibaaGreat.Base
open Go.RowKit YthiaakjbapgibaaGreatW.PrintWords
def RetR {α : Type} (d : Kd α) (t : Nat) (xs : List α) (w : World) (e : Ending) (w' : World) : Prop := ∃ v, e = .returned v ∧ d.R t w' w.heap.size (fun _ => True) v xs ∧ Below w.heap.size w w'
def keyV (k : List UInt8) : Array Value := (k.map fun b => Value.int .u8 (b.toNat : Int)).toArray
theorem keyV_size (k : List UInt8) : (keyV k).size = k.length := by simp [keyV]
end Go.Proofs.YthiaakjbapgibaaGreat.Base
end
section
namespace Go.Proofs.YthiaakjbapgibaaGreat.Base
open Go.RowKit YthiaakjbapgibaaGreatW.PrintWords
theorem exec_load_row {P : Program} {o : Oper} {a : Act} {w : World} (ty : TypeId) (x : Operand) (ho : o.op = .load ty x) {g : Nat} (hx : a.eval x = .pointer (some ⟨g, 0, none⟩)) {t : TypeId} {cs : Array Value} {fr : Nat × Nat} {d : TypeDesc} (hg : w.heap[g]? = some (.cells cs t fr))
  (hu : P.underlying ty = some d) (hd : (match d with | .struct _ | .array _ _ => true | _ => false) = true) (hi : (P.info? ty).map (·.size) = some cs.size) : (execOp a.eval o).run P w = .ok (.value (.agg cs)) w := by
 unfold execOp
 simp only [ho, hx, Instr.loadAt, Instr.sureAddr, Sem.run_bind, Sem.run_pure, Result.andThen_ok, run_loadVar_row w g t ty cs fr d hg hu hd hi]
end Go.Proofs.YthiaakjbapgibaaGreat.Base
end
section
namespace Go.Proofs.YthiaakjbapgibaaGreat.As
open Go.RowKit YthiaakjbapgibaaGreatW.PrintWords YthiaakjbapgibaaGreatW.PrintLast Base
theorem wp_gen {P : Program} {c : Code} {Q : Exit → Act → World → Prop} {a : Act} {W0 : World} (Pd : World → Prop) (h0 : Pd W0) (h : ∀ W, Pd W → c.wp P Q a W) : c.wp P Q a W0 := h W0 h0
def Nob (w : World) (p : Option Addr) : Prop := p = none ∨ ∃ g cs, p = some ⟨g, 0, none⟩ ∧ w.heap[g]? = some (.cells cs 90 (0, 0)) ∧ cs[37]? = some (.bool false)
theorem Nob.below {w W : World} {p : Option Addr} (h : Nob w p) (hb : Below w.heap.size w W) : Nob W p := by
 rcases h with h | ⟨g, cs, h1, h2, h3⟩
 ·exact Or.inl h
 ·exact Or.inr ⟨g, cs, h1, blk_below h2 hb, h3⟩
theorem boxes3 (w : World) (x y z : Obj) : ((((w.alloc x).alloc y).alloc z).heap[w.heap.size]? = some x ∧ (((w.alloc x).alloc y).alloc z).heap[w.heap.size + 1]? = some y ∧ (((w.alloc x).alloc y).alloc z).heap[w.heap.size + 2]? = some z ∧ Below w.heap.size w (((w.alloc x).alloc y).alloc z)) := by
 have s1 : (w.alloc x).heap.size = w.heap.size + 1 := by simp
 have s2 : ((w.alloc x).alloc y).heap.size = w.heap.size + 1 + 1 := by simp
 have h1 := blk_new (w.alloc x) y
 have h2 := blk_new ((w.alloc x).alloc y) z
 rw [s1] at h1
 rw [s2] at h2
 exact ⟨blk_alloc (blk_alloc (blk_new _ _) _) _, blk_alloc h1 _, h2, below_alloc (below_alloc (below_alloc (Below.refl _ _) _) _) _⟩
theorem call_results (tmps : Array Value) (w : World) (a b : Nat) (u v : Value) (t0 : tmps.getD 4 undef = .pointer (some ⟨a, 0, none⟩)) (t1 : tmps.getD 5 undef = .pointer (some ⟨b, 0, none⟩)) (h0 : w.heap[a]? = some (.cells #[u] 30 (0, 0))) (h1 : w.heap[b]? = some (.cells #[v] 31 (0, 0))) : (results Tryz.f35 tmps).run Tryz.prog w = .ok (.tuple #[u, v]) w := by
 have c0 : w.cell? ⟨a, 0, none⟩ = some u := blk_cell h0 0
 have c1 : w.cell? ⟨b, 0, none⟩ = some v := blk_cell h1 0
 rw [Array.getD_eq_getD_getElem?] at t0 t1
 simp [results, Tryz.results35, asAddr, t0, t1]
 go_simp
end Go.Proofs.YthiaakjbapgibaaGreat.As
end
section
namespace Go.Proofs.YthiaakjbapgibaaGreat.As
open Go.RowKit YthiaakjbapgibaaGreatW.PrintWords YthiaakjbapgibaaGreatW.PrintLast Base
theorem wpList_load_cells {P : Program} {ops : Array Oper} {rest : List Oper} {op : Oper} {a : Act} {w : World} {Q : Exit → Act → World → Prop} (hgd : op.guard = none) (ty : TypeId) (x : Operand) (ho : op.op = .load ty x)
  {ad : Addr} (hx : a.eval x = .pointer (some ad)) (cs : Array Value) (d : TypeDesc) (hc : ∀ j v, cs.toList[j]? = some v → w.cell? (ad.add j) = some v)
  (hu : P.underlying ty = some d) (hd : d.isRow = true) (hi : (P.info? ty).map (·.size) = some cs.size)
  (h : wpList P ops Q rest (a.put op.dst (.agg cs)) w) : wpList P ops Q (op :: rest) a w := by
 have hl : (loadCells ad cs.size).run P w = .ok cs w := run_loadCells_list (P := P) w ad cs.toList hc
 have hv : (loadVar ty ad).run P w = .ok (.agg cs) w := by
  cases hq : P.info? ty with
  | none => simp [hq] at hi
  | some i =>
   have hs : i.size = cs.size := by simpa [hq] using hi
   have hagg : (isAgg ty).run P w = .ok true w := by
    unfold isAgg
    rw [Sem.run_bind, run_underlying hu w]
    cases d <;> simp_all [TypeDesc.isRow]
   simp [loadVar, Sem.run_bind, hagg, sizeOf, typeInfo, hq, hs, hl]
 refine wpList_plain hgd fun _ hK => ?_
 have hK' := hK _ _ h
 unfold Oper.wp execOp
 simp only [ho, hx, Instr.loadAt, Instr.sureAddr, Sem.run_bind, Sem.run_pure, Result.andThen_ok, hv]
 exact hK'
end Go.Proofs.YthiaakjbapgibaaGreat.As
end
section
namespace Go.Proofs.YthiaakjbapgibaaGreat.As
open Go.RowKit YthiaakjbapgibaaGreatW.PrintWords YthiaakjbapgibaaGreatW.PrintLast Base PCh
abbrev Act' := S73
abbrev Chk := S65
abbrev Pr := S71
theorem R_base {α : Type} {d : Kd α} {w : World} {e base : Nat} {v : Value} {q : List α} (h : d.R e w base (fun _ => True) v q) : d.R e w base (fun k => base ≤ k) v q := Kd.R_mono (Kd.R_bound h) fun _ hk => hk.2.1
theorem only_then {S : Nat → Prop} {w W W' : World} (h : Only S w W) (hb : Below W.heap.size W W') : Only S w W' :=
 ⟨hb.os.trans h.os, hb.tape.trans h.tape, hb.output.trans h.output, Nat.le_trans h.size hb.size, fun k hk hn => (hb.block k (Nat.lt_of_lt_of_le hk h.size)).trans (h.block k hk hn)⟩
theorem only_grown {S : Nat → Prop} {a b c : World} {own : Option Nat} (h : Only S a b) (hG : b.grownBy c own) (hS : ∀ k, k < a.heap.size → own = some k → S k) : Only S a c :=
 ⟨hG.os.trans h.os, hG.tape.trans h.tape, hG.output.trans h.output, Nat.le_trans h.size hG.size, fun k hk hn => (hG.block k (Nat.lt_of_lt_of_le hk h.size) (fun e => hn (hS k hk e.symm))).trans (h.block k hk hn)⟩
def Mut (t : TypeId) : Bool := t == 90 || t == 73 || t == 39 || t == 103 || t == 98 || t == 30 || t == 31
structure Kq (B : Nat) (W W' : World) : Prop where
 os : W'.os = W.os
 tape : W'.tape = W.tape
 output : W'.output = W.output
 size : W.heap.size ≤ W'.heap.size
 old : ∀ k, k < B → k < W.heap.size → W'.heap[k]? = W.heap[k]?
 typ : ∀ (k : Nat) (cells : Array Value) (t : TypeId) (fr : Nat × Nat), W.heap[k]? = some (Obj.cells cells t fr) → Mut t = false → W'.heap[k]? = some (Obj.cells cells t fr)
theorem Kq.refl (B : Nat) (W : World) : Kq B W W := ⟨rfl, rfl, rfl, Nat.le_refl _, fun _ _ _ => rfl, fun _ _ _ _ h _ => h⟩
theorem Kq.trans {B : Nat} {a b c : World} (h : Kq B a b) (k : Kq B b c) : Kq B a c := ⟨k.os.trans h.os, k.tape.trans h.tape, k.output.trans h.output, Nat.le_trans h.size k.size, fun i hi hl => (k.old i hi (Nat.lt_of_lt_of_le hl h.size)).trans (h.old i hi hl), fun i cs t fr hx ht => k.typ i cs t fr (h.typ i cs t fr hx ht) ht⟩
theorem Kq.of_below {B : Nat} {W W' : World} (h : Below W.heap.size W W') : Kq B W W' := ⟨h.os, h.tape, h.output, h.size, fun k _ hk => h.block k hk, fun k cs t fr hx _ => (h.block k (blk_lt hx)).trans hx⟩
theorem Kq.of_only {B : Nat} {S : Nat → Prop} {W W' : World} (h : Only S W W') (hS : ∀ k, k < W.heap.size → S k → B ≤ k ∧ ∀ (cells : Array Value) (t : TypeId) (fr : Nat × Nat), W.heap[k]? = some (Obj.cells cells t fr) → Mut t = true) : Kq B W W' :=
 ⟨h.os, h.tape, h.output, h.size, fun k hk hl => h.block k hl (fun hx => by have := (hS k hl hx).1; omega), fun k cs t fr hx ht => (h.block k (blk_lt hx) (fun hs => by rw [(hS k (blk_lt hx) hs).2 _ _ _ hx] at ht; cases ht)).trans hx⟩
theorem Kq.of_g {B g : Nat} {W W' : World} (h : Only (· = g) W W') (hg : B ≤ g) {cs : Array Value} {t : TypeId} {fr : Nat × Nat} (hr : W.heap[g]? = some (.cells cs t fr)) (ht : Mut t = true) : Kq B W W' :=
 .of_only h fun k _ e => by
  subst e
  refine ⟨hg, fun cells t2 fr2 hx => ?_⟩
  rw [hr] at hx
  injection hx with hx
  injection hx with _ hx
  rw [← hx]
  exact ht
theorem Kq.below {B : Nat} {W W' : World} (h : Kq B W W') (hB : B ≤ W.heap.size) : Below B W W' := ⟨h.os, h.tape, h.output, h.size, fun k hk => h.old k hk (by omega)⟩
def Stb (B : Nat) (W : World) (P : World → Prop) : Prop := ∀ W', Kq B W W' → P W'
theorem Stb.mono {B : Nat} {W W' : World} {P : World → Prop} (h : Stb B W P) (k : Kq B W W') : Stb B W' P := fun W2 h2 => h W2 (k.trans h2)
theorem Stb.now {B : Nat} {W : World} {P : World → Prop} (h : Stb B W P) : P W := h W (Kq.refl _ _)
theorem R_stable {α : Type} (d : Kd α) {B base e : Nat} {W : World} {ok : Nat → Prop} {v : Value} {xs : List α} (hE : ∀ q ∈ e :: d.E, Mut q = false) (h : d.R e W base ok v xs) : ∃ A c, v = .slice A xs.length c ∧ xs.length ≤ c ∧ Stb B W fun W' => d.C W' A xs.length xs := by
 obtain ⟨A, c, rfl, hl, _⟩ := Kd.R_reads h
 refine ⟨A, c, rfl, hl, fun W' hk => ?_⟩
 have h2 := Kd.R_move (w1 := W') (Kd.R_bound h) (fun k hx => by
  obtain ⟨_, _, _, q, hq, cells, hc⟩ := hx
  exact (hk.typ k cells q (0, 0) hc (hE q hq)).trans hc.symm)
 exact (Kd.R_reads' h2).2.2
def rawA : Kd (List Value) where
 sz := 10
 E := []
 K := fun _ x cs => cs = x ∧ x.length = 10 ∧ ∀ u ∈ x, u.oneCell' = true
 M := fun _ _ _ x cs => cs = x ∧ x.length = 10 ∧ ∀ u ∈ x, u.oneCell' = true
 K_len := by rintro _ x cs ⟨rfl, h, _⟩; exact h
 K_one := by rintro _ x cs ⟨rfl, _, h⟩; exact h
 K_below := fun _ h => h
 K_of_M := fun h => h
 M_mono := fun _ h => h
 M_bound := fun h => h
 M_move := fun _ h => h
 M_lower := fun _ h => h
def ActR (B : Nat) (W : World) (r : List Value) (x : Act') : Prop := ∃ A c, r = [.int .i64 x.f0, .int .u32 x.f1, .slice A x.f2.length c, .int .i64 x.f3, .int .u32 x.f4.f0, .int .u32 x.f4.f1, .int .u32 x.f4.f2, .int .u16 x.f4.f3, .int .u16 x.f4.f4, .int .i64 x.f5] ∧ x.f2.length ≤ c ∧ Stb B W fun W' => Kd.C k65 W' A x.f2.length x.f2
theorem ActR.mono {B : Nat} {W W' : World} {r : List Value} {x : Act'} (h : ActR B W r x) (k : Kq B W W') : ActR B W' r x := by
 obtain ⟨A, c, h1, h2, h3⟩ := h
 exact ⟨A, c, h1, h2, h3.mono k⟩
theorem ActR.raw {B : Nat} {W : World} {r : List Value} {x : Act'} (h : ActR B W r x) : r.length = 10 ∧ ∀ u ∈ r, u.oneCell' = true := by
 obtain ⟨A, c, rfl, _⟩ := h
 exact ⟨rfl, by simp [Value.oneCell']⟩
def ActsR (B : Nat) (W : World) (rs : List (List Value)) (xs : List Act') : Prop := rs.length = xs.length ∧ ∀ (i : Nat) (r : List Value) (x : Act'), rs[i]? = some r → xs[i]? = some x → ActR B W r x
theorem ActsR.nil (B : Nat) (W : World) : ActsR B W [] [] := ⟨rfl, fun i r x h => by simp at h⟩
theorem ActsR.mono {B : Nat} {W W' : World} {rs : List (List Value)} {xs : List Act'} (h : ActsR B W rs xs) (k : Kq B W W') : ActsR B W' rs xs := ⟨h.1, fun i r x h1 h2 => (h.2 i r x h1 h2).mono k⟩
theorem ActsR.snoc {B : Nat} {W : World} {rs : List (List Value)} {xs : List Act'} {r : List Value} {x : Act'} (h : ActsR B W rs xs) (hr : ActR B W r x) : ActsR B W (rs ++ [r]) (xs ++ [x]) := by
 refine ⟨by simp [h.1], fun i r' x' h1 h2 => ?_⟩
 rcases Nat.lt_or_ge i rs.length with hi | hi
 ·rw [List.getElem?_append_left hi] at h1
  rw [List.getElem?_append_left (by rw [← h.1]; exact hi)] at h2
  exact h.2 i r' x' h1 h2
 ·rw [List.getElem?_append_right hi] at h1
  rw [List.getElem?_append_right (by rw [← h.1]; exact hi), ← h.1] at h2
  have hj : i - rs.length = 0 := by
   have := (List.getElem?_eq_some_iff.1 h1).1
   simp at this
   omega
  rw [hj] at h1 h2
  obtain rfl : r = r' := by simpa using h1
  obtain rfl : x = x' := by simpa using h2
  exact hr
structure MA (B : Nat) (W0 : World) (g : Nat) (cs : Array Value) (xs : List Act') (W : World) : Prop where
 lt : g < W0.heap.size
 bg : B ≤ g
 sz : cs.size = 38
 row : ∃ av rs, W.heap[g]? = some (.cells (cs.setIfInBounds 36 av) 90 (0, 0)) ∧ rawA.R 73 W W0.heap.size (fun _ => True) av rs ∧ ActsR B W rs xs
 only : Only (· = g) W0 W
theorem MA.grow {B : Nat} {W0 W : World} {g : Nat} {cs : Array Value} {xs : List Act'} (h : MA B W0 g cs xs W) : ∃ cs', W.heap[g]? = some (.cells cs' 90 (0, 0)) := by
 obtain ⟨av, rs, h3, _⟩ := h.row
 exact ⟨_, h3⟩
theorem MA.below {B : Nat} {W0 : World} {g : Nat} {cs : Array Value} {xs : List Act'} {w w' : World} (h : MA B W0 g cs xs w) (hb : Below w.heap.size w w') : MA B W0 g cs xs w' := by
 obtain ⟨h1, h1b, h2, ⟨av, rs, h3, h4, h4b⟩, h5⟩ := h
 exact ⟨h1, h1b, h2, ⟨av, rs, blk_below h3 hb, Kd.R_below h4 hb, h4b.mono (Kq.of_below hb)⟩, only_then h5 hb⟩
theorem MA.drew {B : Nat} {W0 : World} {g : Nat} {cs : Array Value} {xs : List Act'} {w : World} (h : MA B W0 g cs xs w) : MA B W0 g cs xs w.drew := h.below (below_drew (Below.refl _ _))
theorem MA.cell {B : Nat} {W0 : World} {g : Nat} {cs : Array Value} {xs : List Act'} {w : World} (h : MA B W0 g cs xs w) (i : Nat) (hi : i ≠ 36) {v : Value} (hv : cs[i]? = some v) : w.cell? ⟨g, i, none⟩ = some v := by
 obtain ⟨av, rs, h3, _⟩ := h.row
 rw [blk_cell h3 i, Array.getElem?_setIfInBounds_ne (by omega)]
 exact hv
theorem MA.frozen {B : Nat} {W0 : World} {g : Nat} {cs : Array Value} {xs : List Act'} {w : World} (h : MA B W0 g cs xs w) (i : Nat) : w.frozen? ⟨g, i, none⟩ = false := by
 obtain ⟨av, rs, h3, _⟩ := h.row
 exact blk_frozen h3 i
theorem kq_cell {B : Nat} {W : World} {g : Nat} {cs : Array Value} {t : TypeId} (hr : W.heap[g]? = some (.cells cs t (0, 0))) (ht : Mut t = true) (hg : B ≤ g) (i : Nat) (u : Value) : Kq B W (W.setCell ⟨g, i, none⟩ u) := Kq.of_g ((Only.refl (· = g) W).setCell (fun _ => rfl) u) hg hr ht
theorem kq_set {B : Nat} {W : World} {g : Nat} {cs : Array Value} (hr : W.heap[g]? = some (.cells cs 90 (0, 0))) (hg : B ≤ g) (i : Nat) (u : Value) : Kq B W (W.setCell ⟨g, i, none⟩ u) := kq_cell hr rfl hg i u
theorem MA.set {B : Nat} {W0 : World} {g : Nat} {cs : Array Value} {xs : List Act'} {w : World} (h : MA B W0 g cs xs w) (i : Nat) (hi : i ≠ 36) (u : Value) : MA B W0 g (cs.setIfInBounds i u) xs (w.setCell ⟨g, i, none⟩ u) := by
 obtain ⟨h1, h1b, h2, ⟨av, rs, h3, h4, h4b⟩, h5⟩ := h
 refine ⟨h1, h1b, by simpa using h2, ⟨av, rs, ?_, Kd.R_mono (Kd.R_far (R_base h4) (p := ⟨g, i, none⟩) (fun k hk => by dsimp only; omega) _) (fun _ _ => trivial), h4b.mono (kq_set h3 h1b i u)⟩, h5.setCell (fun _ => rfl) _⟩
 have := blk_set h3 i u
 rwa [Array.setIfInBounds_comm _ _ (by omega)] at this
theorem info_act : (Tryz.prog.info? 73).map (fun i => (i.zero, i.size, i.bytes)) = some (some (.agg #[.int .i64 0, .int .u32 0, .slice none 0 0, .int .i64 0, .int .u32 0, .int .u32 0, .int .u32 0, .int .u16 0, .int .u16 0, .int .i64 0]), rawA.sz, 72) := by kernel_rfl
set_option maxHeartbeats 2000000 in
theorem ask1 (B : Nat) (W0 We W : World) (g : Nat) (cs : Array Value) (xs : List Act') (y : Act') (r : List Value) (h : MA B W0 g cs xs We) (hB : Below We.heap.size We W) (hA : ActR B W r y) (hl : xs.length ≤ 100000) :
  Calls Tryz.prog 74 #[.pointer (some ⟨g, 0, none⟩), .slice (some ⟨W.heap.size, 0, none⟩) 1 1] (W.alloc (.cells r.toArray 73)) fun e w' => e = .returned (.tuple #[]) ∧ MA B W0 g cs (xs ++ [y]) w' ∧ Kq B We w' := by
 obtain ⟨hlt, hbg, hsz, ⟨av, rs, hrow, hR, hAR⟩, ho⟩ := h
 have hrowW := blk_below hrow hB
 have HRow := Lh hrowW
 have k36 : (W.alloc (.cells r.toArray 73)).cell? ⟨g, 36, none⟩ = some av := (blk_cell (blk_alloc hrowW _) 36).trans (by simp [hsz])
 have HB := Lh hB
 have HR := Lh (Kd.R_below hR hB)
 have HA := Lh hA
 have HAR := Lh hAR
 have HBG := Lh hbg
 have HM := Lh (show rawA.M W W0.heap.size (fun k => We.heap.size ≤ k) r r from ⟨rfl, hA.raw.1, hA.raw.2⟩)
 have HOW := Lh (show ∀ k, We.heap.size ≤ k → some k ≠ av.ownBlock from fun k hk e => by have := Kd.R_lt hR k e.symm; omega)
 have HO := Lh ho
 have HLT := Lh hlt
 have HL := Lh (show rs.length ≤ 100000 by rw [hAR.1]; exact hl)
 have HWS := Lh (show W0.heap.size ≤ W.heap.size from Nat.le_trans ho.size hB.size)
 have HTY := Lh (show ∀ k, k < We.heap.size → av.ownBlock = some k → W0.heap.size ≤ k ∧ ∃ (cells : Array Value) (fr : Nat × Nat), We.heap[k]? = some (Obj.cells cells 73 fr) from fun k hk e => by
  obtain ⟨cells, hx⟩ := own_typed hR.2.choose_spec.1 k e
  exact ⟨(Kd.R_bound hR).1 k e |>.2.1, cells, _, hx⟩)
 have HGE := Lh (show ∀ k, av.ownBlock = some k → W0.heap.size ≤ k from fun k e => (Kd.R_bound hR).1 k e |>.2.1)
 clear hrow hrowW hR ho hB hA hAR hlt hl hbg
 go_enter Tryz.func74, Tryz.ntmps74
 go_wp2_with (at_builtin; go_must (refine Kd.R_append rawA (w0 := W) (W := W) W0.heap.size rfl _ _ 30 73 _ 72 rfl Tryz.underlying30 info_act rfl (by decide) (by decide) av rs r r (fun _ => True) (fun k => We.heap.size ≤ k) rfl rfl HM.out (fun k hk => ⟨trivial, HOW.out k hk⟩) (fun _ _ => trivial) HR.out (Below.refl _ _) HWS.out (by have := HL.out; omega) ?_); (intro v1 w1 hR1 hB1 hG1 hat; have HR1 := Lh hR1; have HB1 := Lh hB1; have HG1 := Lh hG1; clear hR1 hB1 hG1 hat; refine RowKit.Hid.out ?_))
 refine Lh ?_
 obtain ⟨A7, c7, e7⟩ := Kd.R_slice HR1.out
 have hg1 := blk_grown HRow.out HG1.out (fun e => by have := HGE.out g e.symm; have := HLT.out; omega)
 have hs := blk_cell hg1 36
 have hf := blk_frozen hg1 36
 have hs2 : w1.cell? ⟨g, 36, none⟩ = some av := hs.trans (by simp [hsz])
 clear hs
 have HG := Lh hg1
 clear hg1
 subst e7
 go_wp2
 go_end0
 have hKe : Kq B We w1 := Kq.of_only (only_grown (Only.of_below (S := fun k => av.ownBlock = some k) HB.out) HG1.out (fun k _ e => e)) (fun k hk e => by
  obtain ⟨h1, cells, fr, h2⟩ := HTY.out k hk e
  refine ⟨by have := HBG.out; have := HLT.out; omega, fun cells t fr hx => ?_⟩
  rw [h2] at hx
  injection hx with hx
  injection hx with _ hx
  rw [← hx]
  rfl)
 have hKw : Kq B W w1 := Kq.of_only (only_grown (Only.of_below (S := fun k => av.ownBlock = some k) (Below.refl _ _)) HG1.out (fun k _ e => e)) (fun k hk e => by
  have hl := Kd.R_lt HR.out k e
  obtain ⟨cells, hx⟩ := own_typed HR.out.2.choose_spec.1 k e
  refine ⟨by have := HGE.out k e; have := HBG.out; have := HLT.out; omega, fun cells2 t fr h2 => ?_⟩
  rw [hx] at h2
  injection h2 with h2
  injection h2 with _ h2
  rw [← h2]
  rfl)
 have hKs := kq_set HG.out HBG.out 36 (.slice A7 (rs ++ [r]).length c7)
 rw [List.length_append, List.length_singleton] at hKs
 refine ⟨rfl, ⟨HLT.out, HBG.out, hsz, ⟨_, _, ?_, Kd.R_mono (Kd.R_far (R_base HR1.out) (p := ⟨g, 36, none⟩) (fun k hk => ?_) _) (fun _ _ => trivial), ?_⟩, ?_⟩, hKe.trans hKs⟩
 ·have := blk_put HG.out 36 (.slice A7 (rs ++ [r]).length c7) rfl
  simpa using this
 ·have := HLT.out
  dsimp only
  omega
 ·exact (ActsR.mono HAR.out (hKe.trans hKs)).snoc (HA.out.mono (hKw.trans hKs))
 ·exact (only_grown (only_then HO.out HB.out) HG1.out (fun k hk e => by have := HGE.out k e; omega)).setCell (fun _ => rfl) _
def actTimer (k n : Int) : Act' := ⟨k, 0, [], n, ⟨0, 0, 0, 0, 0⟩, 0⟩
def actSend (x : Chk) (t : Int) : Act' := ⟨1, t, [x], 0, ⟨0, 0, 0, 0, 0⟩, 0⟩
def actDown (why : Int) : Act' := ⟨6, 0, [], 0, ⟨0, 0, 0, 0, 0⟩, why⟩
def actPeer (k : Int) (p : Pr) : Act' := ⟨k, 0, [], 0, p, 0⟩
def actTold (x : Chk) : Act' := ⟨7, 0, [x], 0, ⟨0, 0, 0, 0, 0⟩, 0⟩
theorem act_bare (B : Nat) (W : World) (k t : Int) (p : Pr) (y : Int) : ActR B W [.int .i64 k, .int .u32 0, .slice none 0 0, .int .i64 t, .int .u32 p.f0, .int .u32 p.f1, .int .u32 p.f2, .int .u16 p.f3, .int .u16 p.f4, .int .i64 y] ⟨k, 0, [], t, p, y⟩ := ⟨none, 0, rfl, Nat.le_refl _, fun _ _ => Kd.C_nil _ _⟩
theorem act_chunk (B : Nat) (W : World) (kd t : Int) (x : Chk) (ccs : List Value) (hx : Stb B W fun W' => Kd.K k65 W' x ccs) : ActR B (W.alloc (.cells ccs.toArray 65)) [.int .i64 kd, .int .u32 t, .slice (some ⟨W.heap.size, 0, none⟩) 1 1, .int .i64 0, .int .u32 0, .int .u32 0, .int .u32 0, .int .u16 0, .int .u16 0, .int .i64 0] ⟨kd, t, [x], 0, ⟨0, 0, 0, 0, 0⟩, 0⟩ := by
 refine ⟨_, 1, rfl, Nat.le_refl _, fun W' hk => ?_⟩
 have hb := hk.typ W.heap.size ccs.toArray 65 (0, 0) (blk_new _ _) rfl
 refine ⟨rfl, by show (1 : Nat) ≤ 9223372036854775807; decide, fun _ => ⟨⟨W.heap.size, 0, none⟩, rfl, fun j p hj => ?_⟩⟩
 have hj0 : j = 0 := by
  have := (List.getElem?_eq_some_iff.1 hj).1
  simpa using this
 subst hj0
 obtain rfl : x = p := by simpa using hj
 have hK := hx W' ((Kq.of_below (below_alloc (Below.refl _ _) _)).trans hk)
 refine ⟨ccs, Kd.K_len _ hK, hK, fun i v hv => ?_⟩
 rw [Addr.add_lit, blk_cell hb]
 simpa using hv
theorem start_calls (B : Nat) (W0 W : World) (g : Nat) (cs : Array Value) (xs : List Act') (h : MA B W0 g cs xs W) (hl : xs.length ≤ 100000) (n : Int) :
  Calls Tryz.prog 38 #[.pointer (some ⟨g, 0, none⟩), .int .i64 n] W fun e w' => e = .returned (.tuple #[]) ∧ MA B W0 g cs (xs ++ [actTimer 2 n]) w' ∧ Kq B W w' := by
 have H := Lh (ask1 B W0 W W g cs xs (actTimer 2 n) _ h (Below.refl _ _) (act_bare B W 2 n ⟨0, 0, 0, 0, 0⟩ 0) hl)
 clear h
 go_enter Tryz.func38, Tryz.ntmps38
 go_wp2_with fail
 refine H.out.mono ?_
 rintro e w1 ⟨rfl, h1⟩
 go_wp2
 go_end0
 exact ⟨rfl, h1⟩
theorem stop_calls (B : Nat) (W0 W : World) (g : Nat) (cs : Array Value) (xs : List Act') (h : MA B W0 g cs xs W) (hl : xs.length ≤ 100000) (n : Int) :
  Calls Tryz.prog 119 #[.pointer (some ⟨g, 0, none⟩), .int .i64 n] W fun e w' => e = .returned (.tuple #[]) ∧ MA B W0 g cs (xs ++ [actTimer 3 n]) w' ∧ Kq B W w' := by
 have H := Lh (ask1 B W0 W W g cs xs (actTimer 3 n) _ h (Below.refl _ _) (act_bare B W 3 n ⟨0, 0, 0, 0, 0⟩ 0) hl)
 clear h
 go_enter Tryz.func119, Tryz.ntmps119
 go_wp2_with fail
 refine H.out.mono ?_
 rintro e w1 ⟨rfl, h1⟩
 go_wp2
 go_end0
 exact ⟨rfl, h1⟩
theorem send_calls (B : Nat) (W0 We W : World) (g : Nat) (cs : Array Value) (xs : List Act') (h : MA B W0 g cs xs We) (hB : Below We.heap.size We W) (hl : xs.length ≤ 100000) (x : Chk) (ccs : Array Value) (hx : Stb B W fun W' => Kd.K k65 W' x ccs.toList) (t : Int) :
  Calls Tryz.prog 81 #[.pointer (some ⟨g, 0, none⟩), .agg ccs, .int .u32 t] W fun e w' => e = .returned (.tuple #[]) ∧ MA B W0 g cs (xs ++ [actSend x t]) w' ∧ Kq B We w' := by
 obtain ⟨A10, c10, A11, c11, A12, c12, A13, c13, A14, c14, hcs, _⟩ := k65_open hx.now
 obtain rfl : ccs = #[.int .u8 x.f0, .int .u8 x.f1, .int .u32 x.f2, .int .u16 x.f3, .int .u16 x.f4, .int .u32 x.f5, .int .u32 x.f6, .int .u32 x.f7, .int .u16 x.f8, .int .u16 x.f9, .slice A10 x.f10.length c10, .slice A11 x.f11.length c11, .slice A12 x.f12.length c12, .slice A13 x.f13.length c13, .slice A14 x.f14.length c14] := Array.toList_inj.1 hcs
 obtain ⟨cc, hcc⟩ : ∃ cc : Array Value, cc = #[.int .u8 x.f0, .int .u8 x.f1, .int .u32 x.f2, .int .u16 x.f3, .int .u16 x.f4, .int .u32 x.f5, .int .u32 x.f6, .int .u32 x.f7, .int .u16 x.f8, .int .u16 x.f9, .slice A10 x.f10.length c10, .slice A11 x.f11.length c11, .slice A12 x.f12.length c12, .slice A13 x.f13.length c13, .slice A14 x.f14.length c14] := ⟨_, rfl⟩
 rw [← hcc] at hx
 have hA := ask1 B W0 We _ g cs xs (actSend x t) _ h (below_alloc (below_alloc hB (.cells cc 65)) (.cells cc 65)) (act_chunk B (W.alloc (.cells cc 65)) 1 t x cc.toList (hx.mono (Kq.of_below (below_alloc (Below.refl _ _) _)))) hl
 rw [show ((W.alloc (.cells cc 65)).alloc (.cells cc 65)).heap.size = W.heap.size + 1 + 1 by simp, show (W.alloc (.cells cc 65)).heap.size = W.heap.size + 1 by simp, hcc] at hA
 have HA := Lh hA
 clear hx h hcs hA hcc cc
 go_enter Tryz.func81, Tryz.ntmps81
 go_wp2_with fail
 refine HA.out.mono ?_
 rintro e w1 ⟨rfl, h1⟩
 go_wp2
 go_end0
 exact ⟨rfl, h1⟩
end Go.Proofs.YthiaakjbapgibaaGreat.As
end
section
namespace Go.Proofs.YthiaakjbapgibaaGreat.Base
open Go
section
variable {P : Program} {ops : Array Oper} {md : Region.Mode} {C : World → Prop}
def wpAnyE (P : Program) (md : Region.Mode) (ops : Array Oper) (C : World → Prop) (E : Array Bool → Act → Prop) : Nat → Array Bool → Act → Prop
 | 0, listed, a => E listed a
 | fuel + 1, listed, a => Region.ready md ops listed ≠ [] ∧ ∀ i ∈ Region.ready md ops listed, qOp P ops C i (wpAnyE P md ops C E fuel (listed.setIfInBounds i true)) a
def Cl (md : Region.Mode) (ops : Array Oper) (listed : Array Bool) : Prop := ∀ j o, ops[j]? = some o → listed.getD j false = true → ∀ e ∈ o.after, Region.binds md e = true → listed.getD e.on false = true
theorem Cl.set {listed : Array Bool} (h : Cl md ops listed) {i : Nat} (hi : i ∈ Region.ready md ops listed) : Cl md ops (listed.setIfInBounds i true) := by
 intro j o hj hl e he hb
 by_cases hij : i = j
 ·subst hij
  obtain ⟨_, o2, h2, h3⟩ := mem_ready.1 hi
  rw [hj] at h2
  obtain rfl := Option.some.inj h2
  exact getD_set_true (h3 e he hb)
 ·rw [getD_set_ne false hij] at hl
  exact getD_set_true (h j o hj hl e he hb)
def bitsOf (md : Region.Mode) (ops : Array Oper) (j : Nat) : Nat := match ops[j]? with | none => 0 | some o => o.after.toList.foldl (fun m e => if Region.binds md e then m ||| (1 <<< e.on) else m) 0
def downTo (md : Region.Mode) (ops : Array Oper) : Nat → Nat → Nat
 | 0, m => m
 | j + 1, m => downTo md ops j (if m.testBit j then m ||| bitsOf md ops j else m)
theorem fold_bits (p : List Edge) (l : Nat → Prop) (h : ∀ e ∈ p, Region.binds md e = true → l e.on) (m : Nat) (hm : ∀ i, m.testBit i = true → l i) : ∀ i, (p.foldl (fun m e => if Region.binds md e then m ||| (1 <<< e.on) else m) m).testBit i = true → l i := by
 induction p generalizing m with
 | nil => exact hm
 | cons e p ih =>
  refine ih (fun e he => h e (List.mem_cons_of_mem _ he)) _ (fun i hi => ?_)
  dsimp only at hi
  by_cases hb : Region.binds md e = true
  ·rw [if_pos hb, Nat.testBit_or, Bool.or_eq_true] at hi
   rcases hi with hi | hi
   ·exact hm i hi
   ·rw [Nat.one_shiftLeft, Nat.testBit_two_pow] at hi
    have := of_decide_eq_true hi
    subst this
    exact h e (List.mem_cons_self ..) hb
  ·rw [if_neg hb] at hi
   exact hm i hi
theorem bits_of {l : Nat → Prop} {j : Nat} (h : ∀ o, ops[j]? = some o → ∀ e ∈ o.after, Region.binds md e = true → l e.on) : ∀ i, (bitsOf md ops j).testBit i = true → l i := by
 intro i hi
 unfold bitsOf at hi
 cases ho : ops[j]? with
 | none => rw [ho] at hi; simp at hi
 | some o =>
  rw [ho] at hi
  exact fold_bits o.after.toList l (fun e he hb => h o ho e (by simpa using he) hb) 0 (fun i hi => by simp at hi) i hi
theorem down_to {listed : Array Bool} (h : Cl md ops listed) (n m : Nat) (hm : ∀ i, m.testBit i = true → listed.getD i false = true) : ∀ i, (downTo md ops n m).testBit i = true → listed.getD i false = true := by
 induction n generalizing m with
 | zero => exact hm
 | succ j ih =>
  refine ih _ (fun i hi => ?_)
  by_cases hb : m.testBit j = true
  ·rw [if_pos hb, Nat.testBit_or, Bool.or_eq_true] at hi
   rcases hi with hi | hi
   ·exact hm i hi
   ·exact bits_of (l := fun i => listed.getD i false = true) (fun o ho e he hb2 => h j o ho (hm j hb) e he hb2) i hi
  ·rw [if_neg hb] at hi
   exact hm i hi
def lastB (md : Region.Mode) (ops : Array Oper) (k : Nat) : Bool := (List.range k).all fun i => (downTo md ops k (bitsOf md ops k)).testBit i
theorem last_of {listed : Array Bool} (h : Cl md ops listed) {k : Nat} (hB : lastB md ops k = true) (hk : k ∈ Region.ready md ops listed) (i : Nat) (hi : i < k) : listed.getD i false = true := by
 obtain ⟨_, o, ho, ha⟩ := mem_ready.1 hk
 exact down_to h k _ (bits_of (l := fun i => listed.getD i false = true) (fun o2 h2 e he hb => by rw [ho] at h2; obtain rfl := Option.some.inj h2; exact ha e he hb)) i (List.all_eq_true.1 hB i (List.mem_range.2 hi))
theorem wpAnyE_first {L0 : Array Bool} {k : Nat} {Q : Act → Prop} (hr0 : ∀ j ∈ Region.ready md ops L0, j = k ∧ lastB md ops k = true) {i : Nat} {oi : Oper} {v : Value} (hik : i < k) (hi : ops[i]? = some oi) (hsel : ∀ (j : Nat) (o : Oper) cs b, ops[j]? = some o → o.op ≠ .select cs b) :
  ∀ (fuel : Nat) (listed : Array Bool) (a : Act), Cl md ops listed →
   (∀ j oj, ops[j]? = some oj → j ≠ i → listed.getD j true = false → (∀ e ∈ oj.after, Region.binds md e = true → e.on ≠ i) → oi.apart ops oj = true) →
   i ∈ Region.ready md ops listed → YieldsIn P ops C oi v a →
   wpAnyE P md ops C (fun l a => l = L0 ∧ Q a) fuel (listed.setIfInBounds i true) (a.put oi.dst v) → wpAnyE P md ops C (fun l a => l = L0 ∧ Q a) (fuel + 1) listed a := by
 intro fuel
 induction fuel with
 | zero =>
  intro listed a hcl _ hr hy H
  refine ⟨fun h => (by rw [h] at hr; cases hr), fun j hj => ?_⟩
  by_cases hji : j = i
  ·subst hji; exact hy.qOp hi H
  ·have h1 := ready_mono hj hji
   have h2 : listed.setIfInBounds i true = L0 := H.1
   rw [h2] at h1
   obtain ⟨rfl, hB⟩ := hr0 j h1
   have h3 := last_of hcl hB hj i hik
   have h4 := (mem_ready.1 hr).1
   rcases Nat.lt_or_ge i listed.size with h' | h'
   ·simp [h'] at h3 h4; rw [h3] at h4; cases h4
   ·simp [Array.getElem?_eq_none h'] at h4
 | succ fuel ih =>
  intro listed a hcl hfree hr hy H
  refine ⟨fun h => (by rw [h] at hr; cases hr), fun j hj => ?_⟩
  by_cases hji : j = i
  ·subst hji; exact hy.qOp hi H
  ·have h1 := H.2 j (ready_mono hj hji)
   obtain ⟨hjun, oj, hoj, hall⟩ := mem_ready.1 hj
   have hnot : ∀ e ∈ oj.after, Region.binds md e = true → e.on ≠ i := fun e he hb heq => by
    have h1 := hall e he hb
    have h0 := (mem_ready.1 hr).1
    rw [heq] at h1
    rcases Nat.lt_or_ge i listed.size with h' | h'
    ·simp [h'] at h0 h1; rw [h0] at h1; cases h1
    ·simp [Array.getElem?_eq_none h'] at h1
   have h2 := qOp_put hoj (hfree j oj hoj hji hjun hnot) (fun cs b => hsel i oi cs b hi) (fun cs b => hsel j oj cs b hoj) hy h1
   have hfree' : ∀ k ok, ops[k]? = some ok → k ≠ i → (listed.setIfInBounds j true).getD k true = false →
     (∀ e ∈ ok.after, Region.binds md e = true → e.on ≠ i) → oi.apart ops ok = true := fun k ok hk hki hun hno => by
    refine hfree k ok hk hki ?_ hno
    by_cases hjk : j = k
    ·subst hjk; exact hjun
    ·rw [getD_set_ne true hjk] at hun; exact hun
   refine qOp_mono (fun a' h3 => ih (listed.setIfInBounds j true) a' (hcl.set hj) hfree' (ready_mono hr (Ne.symm hji)) h3.1 ?_) h2
   rw [Array.setIfInBounds_comm _ _ hji]
   exact h3.2
def thenFrom (md : Region.Mode) (ops : Array Oper) (L0 : Array Bool) (k : Nat) : Nat → Nat → Array Bool → Bool
 | 0, _, listed => listed == L0
 | fuel + 1, j, listed => (Region.ready md ops listed).contains j && Region.free md ops listed j && decide (j < k) && thenFrom md ops L0 k fuel (j + 1) (listed.setIfInBounds j true)
def chainB (md : Region.Mode) (ops : Array Oper) : Nat → Nat → Array Bool → Bool
 | 0, _, listed => (Region.ready md ops listed).isEmpty
 | fuel + 1, k, listed => (Region.ready md ops listed == [k]) && chainB md ops fuel (k + 1) (listed.setIfInBounds k true)
theorem wpAnyE_lex' {L0 : Array Bool} {k : Nat} {Q : Act → Prop} (hr0 : ∀ j ∈ Region.ready md ops L0, j = k ∧ lastB md ops k = true) (hs : Region.noSelect ops = true) : ∀ (l : List Oper) (j : Nat) (listed : Array Bool) (a : Act), Cl md ops listed → (∀ i, i < l.length → l[i]? = ops[j + i]?) →
  thenFrom md ops L0 k l.length j listed = true → wpQuiet P ops C Q l a → wpAnyE P md ops C (fun l a => l = L0 ∧ Q a) l.length listed a
 | [], _, _, _, _, _, hB, h => ⟨by simpa [thenFrom] using hB, h⟩
 | o :: l, j, listed, a, hcl, hl, hB, h => by
  have h0 : ops[j]? = some o := by simpa using (hl 0 (by simp)).symm
  simp only [List.length_cons, thenFrom, Bool.and_eq_true] at hB
  obtain ⟨⟨⟨hr, hf⟩, hlt⟩, hB'⟩ := hB
  have hst : qOp P ops C j (wpQuiet P ops C Q l) a := by unfold qOp; simp only [h0]; exact h
  obtain ⟨v, hy, hK⟩ := yieldsIn_of_qOp h0 hst
  exact wpAnyE_first hr0 (of_decide_eq_true hlt) h0 (Region.noSelect_spec hs) l.length listed a hcl (Region.free_spec h0 hf) (by simpa using hr) hy
   (wpAnyE_lex' hr0 hs l (j + 1) _ _ (hcl.set (by simpa using hr)) (fun i hi => by have := hl (i + 1) (by simpa using hi); simpa [Nat.add_assoc, Nat.add_comm 1 i] using this) hB' hK)
theorem wpAnyE_lex {L0 : Array Bool} {k : Nat} {Q : Act → Prop} (hr0 : Region.ready md ops L0 = [k]) (hL : lastB md ops k = true) (hs : Region.noSelect ops = true) (l : List Oper) (j : Nat) (listed : Array Bool) (a : Act) (h1 : Cl md ops listed) (h2 : ∀ i, i < l.length → l[i]? = ops[j + i]?) (h3 : thenFrom md ops L0 k l.length j listed = true) (h4 : wpQuiet P ops C Q l a) : wpAnyE P md ops C (fun l a => l = L0 ∧ Q a) l.length listed a :=
 wpAnyE_lex' (fun j hj => by rw [hr0] at hj; exact ⟨List.mem_singleton.1 hj, hL⟩) hs l j listed a h1 h2 h3 h4
theorem wpAny_chain {Q : Exit → Act → World → Prop} : ∀ (l : List Oper) (k : Nat) (listed : Array Bool) (a : Act) (w : World), (∀ i, i < l.length → l[i]? = ops[k + i]?) → chainB md ops l.length k listed = true → wpList P ops Q l a w → wpAny P md ops Q l.length listed a w
 | [], _, _, _, _, _, hB, h => ⟨by simpa [chainB] using hB, h⟩
 | o :: l, k, listed, a, w, hl, hB, h => by
  have h0 : ops[k]? = some o := by simpa using (hl 0 (by simp)).symm
  simp only [List.length_cons, chainB, Bool.and_eq_true] at hB
  have hr : Region.ready md ops listed = [k] := by simpa using hB.1
  have ih := fun a w => wpAny_chain (Q := Q) l (k + 1) (listed.setIfInBounds k true) a w (fun i hi => by have := hl (i + 1) (by simpa using hi); simpa [Nat.add_assoc, Nat.add_comm 1 i] using this) hB.2
  refine ⟨fun h1 => (by rw [hr] at h1; cases h1), fun i hi => ?_⟩
  rw [hr] at hi
  obtain rfl := List.mem_singleton.1 hi
  unfold wpOp
  simp only [h0]
  unfold wpList at h
  split
  ·rename_i hw
   rw [if_pos hw] at h
   exact h.imp (Oper.wp_mono ih) id
  ·rename_i hw
   rw [if_neg hw] at h
   exact ih _ _ h
theorem wpAny_of_E {E : Array Bool → Act → Prop} {Q' : Exit → Act → World → Prop} {m : Nat} (hE : ∀ listed a w, C w → E listed a → wpAny P md ops Q' m listed a w) : ∀ (fuel : Nat) (listed : Array Bool) (a : Act) (w : World), C w →
  wpAnyE P md ops C E fuel listed a → wpAny P md ops Q' (fuel + m) listed a w
 | 0, _, _, _, hw, h => by rw [Nat.zero_add]; exact hE _ _ _ hw h
 | fuel + 1, _, _, _, hw, h => by
  rw [show fuel + 1 + m = (fuel + m) + 1 by omega]
  exact ⟨fun h0 => absurd h0 h.1, fun i hi => wpOp_of_qOp hw (fun a' w' hw' => wpAny_of_E hE fuel _ a' w' hw') (h.2 i hi)⟩
def L0 (ops : Array Oper) (k : Nat) : Array Bool := (List.range ops.size).toArray.map fun i => decide (i < k)
def thenB (ops : Array Oper) (k : Nat) : Bool := Region.noSelect ops && lastB .any ops k && Nat.ble k ops.size && (Region.ready .any ops (L0 ops k) == [k]) && thenFrom .any ops (L0 ops k) k k 0 (Array.replicate ops.size false) && chainB .any ops (ops.size - k) k (L0 ops k)
theorem wp_then {id : Nat} {Q : Exit → Act → World → Prop} {a : Act} {w : World} {l : List Oper} (k : Nat) (hm : P.follows .mixedOrders = true) (hB : thenB l.toArray k = true)
  (h : wpQuiet P l.toArray (fun w' => ∃ n, w' = w.drewN n) (fun a' => ∀ w', (∃ n, w' = w.drewN n) → wpList P l.toArray Q (l.drop k) a' w') (l.take k) a) : (Code.region id l.toArray true).wp P Q a w := by
 unfold thenB at hB
 simp only [Bool.and_eq_true] at hB
 obtain ⟨⟨⟨⟨⟨h1, h2⟩, h3⟩, h4⟩, h5⟩, h6⟩ := hB
 have hk : k ≤ l.length := by simpa using Nat.le_of_ble_eq_true h3
 have h4' : Region.ready .any l.toArray (L0 l.toArray k) = [k] := by simpa using h4
 refine wp_region_any hm ?_
 have e : l.toArray.size = k + (l.length - k) := by simp; omega
 have hlk : (l.take k).length = k := by simp; omega
 rw [show wpAny P .any l.toArray Q l.toArray.size = wpAny P .any l.toArray Q (k + (l.length - k)) by rw [e]]
 refine wpAny_of_E (C := fun w' => ∃ n, w' = w.drewN n) (E := fun li a' => li = L0 l.toArray k ∧ ∀ w', (∃ n, w' = w.drewN n) → wpList P l.toArray Q (l.drop k) a' w') (fun li a' w' hw' hE => ?_) k _ a _ ⟨1, rfl⟩ ?_
 ·obtain ⟨rfl, hq⟩ := hE
  have := wpAny_chain (md := .any) (l.drop k) k (L0 l.toArray k) a' w' (fun i hi => by rw [List.getElem?_drop]; simp) (by rw [List.length_drop]; simpa using h6) (hq w' hw')
  rwa [List.length_drop] at this
 ·have := wpAnyE_lex (P := P) (C := fun w' => ∃ n, w' = w.drewN n) (Q := fun a' => ∀ w', (∃ n, w' = w.drewN n) → wpList P l.toArray Q (l.drop k) a' w') h4' h2 h1 (l.take k) 0 (Array.replicate l.toArray.size false) a
   (fun j o hj hl => by simp [Array.getElem?_replicate] at hl; split at hl <;> simp at hl)
   (fun i hi => by rw [List.getElem?_take_of_lt (by rw [hlk] at hi; exact hi)]; simp) (by rw [hlk]; exact h5) h
  rwa [hlk] at this
end
theorem tk0 {α : Type} (l : List α) : l.take 0 = [] := rfl
theorem tks {α : Type} (n : Nat) (x : α) (l : List α) : (x :: l).take (n + 1) = x :: l.take n := rfl
theorem dk0 {α : Type} (l : List α) : l.drop 0 = l := rfl
theorem dks {α : Type} (n : Nat) (x : α) (l : List α) : (x :: l).drop (n + 1) = l.drop n := rfl
end Go.Proofs.YthiaakjbapgibaaGreat.Base
end
section
namespace Go.Proofs.YthiaakjbapgibaaGreat.As
open Go.RowKit YthiaakjbapgibaaGreatW.PrintWords YthiaakjbapgibaaGreatW.PrintLast Base PCh
theorem set_ne {cs : Array Value} {i j : Nat} {u v : Value} (h : cs[j]? = some v) (hn : i ≠ j) : (cs.setIfInBounds i u)[j]? = some v := by rw [Array.getElem?_setIfInBounds_ne hn]; exact h
theorem set_at {cs : Array Value} {i : Nat} {u : Value} (h : i < cs.size) : (cs.setIfInBounds i u)[i]? = some u := by rw [Array.getElem?_setIfInBounds_self_of_lt h]
structure Cfg where
 key : List UInt8
 seed : Int
 life : Int
 win : Int
 out : Int
 inn : Int
 tries : Int
 lasts : Int
 port : Int
 peer : Int
structure Mst where
 s : Int
 tag : Int
 tsn : Int
 pr : Pr
 cb : List UInt8
 tr : Int
 d : Int
structure Cs (K : Cfg) (m : Mst) (ck : Value) (cs : Array Value) : Prop where
 sz : cs.size = 38
 c0 : cs[0]? = some (.int .i64 m.s)
 c1 : cs[1]? = some (.int .u32 m.tag)
 c2 : cs[2]? = some (.int .u32 m.tsn)
 c3 : cs[3]? = some (.int .u32 m.pr.f0)
 c4 : cs[4]? = some (.int .u32 m.pr.f1)
 c5 : cs[5]? = some (.int .u32 m.pr.f2)
 c6 : cs[6]? = some (.int .u16 m.pr.f3)
 c7 : cs[7]? = some (.int .u16 m.pr.f4)
 c8 : cs[8]? = some ck
 c9 : cs[9]? = some (.int .i64 m.tr)
 hk : K.key.length = 16
 key : ∀ i v, (keyV K.key).toList[i]? = some v → cs[10 + i]? = some v
 c26 : cs[26]? = some (.int .u64 K.seed)
 c27 : cs[27]? = some (.int .i64 K.life)
 c28 : cs[28]? = some (.int .u32 K.win)
 c29 : cs[29]? = some (.int .u16 K.out)
 c30 : cs[30]? = some (.int .u16 K.inn)
 c31 : cs[31]? = some (.int .i64 K.tries)
 c32 : cs[32]? = some (.int .i64 K.lasts)
 c33 : cs[33]? = some (.int .u16 K.port)
 c34 : cs[34]? = some (.int .u16 K.peer)
 c35 : cs[35]? = some (.int .u64 m.d)
 c37 : cs[37]? = some (.bool true)
theorem key_lt {K : Cfg} (hk : K.key.length = 16) {i : Nat} {v : Value} (h : (keyV K.key).toList[i]? = some v) : i < 16 := by
 have := (List.getElem?_eq_some_iff.1 h).1
 simpa [keyV, hk] using this
section
variable {K : Cfg} {m : Mst} {ck : Value} {cs : Array Value}
theorem Cs.set0 (h : Cs K m ck cs) (v : Int) : Cs K { m with s := v } ck (cs.setIfInBounds 0 (.int .i64 v)) := by
 refine ⟨by simpa using h.sz, set_at (by have := h.sz; omega), ?_, ?_, ?_, ?_, ?_, ?_, ?_, ?_, ?_, h.hk, fun i v hv => ?_, ?_, ?_, ?_, ?_, ?_, ?_, ?_, ?_, ?_, ?_, ?_⟩
 all_goals first | exact set_ne (h.key i v hv) (by omega) | (refine set_ne ?_ (by decide); first | exact h.c0 | exact h.c1 | exact h.c2 | exact h.c3 | exact h.c4 | exact h.c5 | exact h.c6 | exact h.c7 | exact h.c8 | exact h.c9 | exact h.c26 | exact h.c27 | exact h.c28 | exact h.c29 | exact h.c30 | exact h.c31 | exact h.c32 | exact h.c33 | exact h.c34 | exact h.c35 | exact h.c37)
theorem Cs.set1 (h : Cs K m ck cs) (v : Int) : Cs K { m with tag := v } ck (cs.setIfInBounds 1 (.int .u32 v)) := by
 refine ⟨by simpa using h.sz, ?_, set_at (by have := h.sz; omega), ?_, ?_, ?_, ?_, ?_, ?_, ?_, ?_, h.hk, fun i v hv => ?_, ?_, ?_, ?_, ?_, ?_, ?_, ?_, ?_, ?_, ?_, ?_⟩
 all_goals first | exact set_ne (h.key i v hv) (by omega) | (refine set_ne ?_ (by decide); first | exact h.c0 | exact h.c1 | exact h.c2 | exact h.c3 | exact h.c4 | exact h.c5 | exact h.c6 | exact h.c7 | exact h.c8 | exact h.c9 | exact h.c26 | exact h.c27 | exact h.c28 | exact h.c29 | exact h.c30 | exact h.c31 | exact h.c32 | exact h.c33 | exact h.c34 | exact h.c35 | exact h.c37)
theorem Cs.set2 (h : Cs K m ck cs) (v : Int) : Cs K { m with tsn := v } ck (cs.setIfInBounds 2 (.int .u32 v)) := by
 refine ⟨by simpa using h.sz, ?_, ?_, set_at (by have := h.sz; omega), ?_, ?_, ?_, ?_, ?_, ?_, ?_, h.hk, fun i v hv => ?_, ?_, ?_, ?_, ?_, ?_, ?_, ?_, ?_, ?_, ?_, ?_⟩
 all_goals first | exact set_ne (h.key i v hv) (by omega) | (refine set_ne ?_ (by decide); first | exact h.c0 | exact h.c1 | exact h.c2 | exact h.c3 | exact h.c4 | exact h.c5 | exact h.c6 | exact h.c7 | exact h.c8 | exact h.c9 | exact h.c26 | exact h.c27 | exact h.c28 | exact h.c29 | exact h.c30 | exact h.c31 | exact h.c32 | exact h.c33 | exact h.c34 | exact h.c35 | exact h.c37)
theorem Cs.set9 (h : Cs K m ck cs) (v : Int) : Cs K { m with tr := v } ck (cs.setIfInBounds 9 (.int .i64 v)) := by
 refine ⟨by simpa using h.sz, ?_, ?_, ?_, ?_, ?_, ?_, ?_, ?_, ?_, set_at (by have := h.sz; omega), h.hk, fun i v hv => ?_, ?_, ?_, ?_, ?_, ?_, ?_, ?_, ?_, ?_, ?_, ?_⟩
 all_goals first | exact set_ne (h.key i v hv) (by omega) | (refine set_ne ?_ (by decide); first | exact h.c0 | exact h.c1 | exact h.c2 | exact h.c3 | exact h.c4 | exact h.c5 | exact h.c6 | exact h.c7 | exact h.c8 | exact h.c9 | exact h.c26 | exact h.c27 | exact h.c28 | exact h.c29 | exact h.c30 | exact h.c31 | exact h.c32 | exact h.c33 | exact h.c34 | exact h.c35 | exact h.c37)
theorem Cs.set35 (h : Cs K m ck cs) (v : Int) : Cs K { m with d := v } ck (cs.setIfInBounds 35 (.int .u64 v)) := by
 refine ⟨by simpa using h.sz, ?_, ?_, ?_, ?_, ?_, ?_, ?_, ?_, ?_, ?_, h.hk, fun i v hv => ?_, ?_, ?_, ?_, ?_, ?_, ?_, ?_, ?_, ?_, set_at (by have := h.sz; omega), ?_⟩
 all_goals first | exact set_ne (h.key i v hv) (by have := key_lt h.hk hv; omega) | (refine set_ne ?_ (by decide); first | exact h.c0 | exact h.c1 | exact h.c2 | exact h.c3 | exact h.c4 | exact h.c5 | exact h.c6 | exact h.c7 | exact h.c8 | exact h.c9 | exact h.c26 | exact h.c27 | exact h.c28 | exact h.c29 | exact h.c30 | exact h.c31 | exact h.c32 | exact h.c33 | exact h.c34 | exact h.c35 | exact h.c37)
theorem Cs.set8 (h : Cs K m ck cs) (u : Value) (l : List UInt8) : Cs K { m with cb := l } u (cs.setIfInBounds 8 u) := by
 refine ⟨by simpa using h.sz, ?_, ?_, ?_, ?_, ?_, ?_, ?_, ?_, set_at (by have := h.sz; omega), ?_, h.hk, fun i v hv => ?_, ?_, ?_, ?_, ?_, ?_, ?_, ?_, ?_, ?_, ?_, ?_⟩
 all_goals first | exact set_ne (h.key i v hv) (by omega) | (refine set_ne ?_ (by decide); first | exact h.c0 | exact h.c1 | exact h.c2 | exact h.c3 | exact h.c4 | exact h.c5 | exact h.c6 | exact h.c7 | exact h.c8 | exact h.c9 | exact h.c26 | exact h.c27 | exact h.c28 | exact h.c29 | exact h.c30 | exact h.c31 | exact h.c32 | exact h.c33 | exact h.c34 | exact h.c35 | exact h.c37)
theorem Cs.setp (h : Cs K m ck cs) (p : Pr) : Cs K { m with pr := p } ck (((((cs.setIfInBounds 3 (.int .u32 p.f0)).setIfInBounds 4 (.int .u32 p.f1)).setIfInBounds 5 (.int .u32 p.f2)).setIfInBounds 6 (.int .u16 p.f3)).setIfInBounds 7 (.int .u16 p.f4)) := by
 have hz := h.sz
 refine ⟨by simpa using h.sz, ?_, ?_, ?_, set_ne (set_ne (set_ne (set_ne (set_at (by omega)) (by decide)) (by decide)) (by decide)) (by decide), set_ne (set_ne (set_ne (set_at (by simp; omega)) (by decide)) (by decide)) (by decide), set_ne (set_ne (set_at (by simp; omega)) (by decide)) (by decide), set_ne (set_at (by simp; omega)) (by decide), set_at (by simp; omega), ?_, ?_, h.hk, fun i v hv => ?_, ?_, ?_, ?_, ?_, ?_, ?_, ?_, ?_, ?_, ?_, ?_⟩
 all_goals first | exact set_ne (set_ne (set_ne (set_ne (set_ne (h.key i v hv) (by omega)) (by omega)) (by omega)) (by omega)) (by omega) | (refine set_ne (set_ne (set_ne (set_ne (set_ne ?_ (by decide)) (by decide)) (by decide)) (by decide)) (by decide); first | exact h.c0 | exact h.c1 | exact h.c2 | exact h.c3 | exact h.c4 | exact h.c5 | exact h.c6 | exact h.c7 | exact h.c8 | exact h.c9 | exact h.c26 | exact h.c27 | exact h.c28 | exact h.c29 | exact h.c30 | exact h.c31 | exact h.c32 | exact h.c33 | exact h.c34 | exact h.c35 | exact h.c37)
end
def CkB (B : Nat) (W : World) (A : Option Addr) (l : List UInt8) : Prop := l.length ≤ 140737488355328 ∧ Stb B W fun W' => byte.C W' A l.length l
theorem CkB.mono {B : Nat} {W W' : World} {A : Option Addr} {l : List UInt8} (h : CkB B W A l) (k : Kq B W W') : CkB B W' A l := ⟨h.1, h.2.mono k⟩
def MS (B : Nat) (W0 : World) (g : Nat) (K : Cfg) (m : Mst) (xs : List Act') (W : World) : Prop :=
 ∃ cs A c, MA B W0 g cs xs W ∧ Cs K m (.slice A m.cb.length c) cs ∧ m.cb.length ≤ c ∧ CkB B W A m.cb
section
variable {B : Nat} {W0 W W' : World} {g : Nat} {K : Cfg} {m : Mst} {xs : List Act'}
theorem MS.row (h : MS B W0 g K m xs W) : ∃ cs', W.heap[g]? = some (.cells cs' 90 (0, 0)) := by
 obtain ⟨cs, A, c, h1, _⟩ := h
 exact h1.grow
theorem MS.bg (h : MS B W0 g K m xs W) : B ≤ g := by
 obtain ⟨cs, A, c, h1, _⟩ := h
 exact h1.bg
theorem MS.kset (h : MS B W0 g K m xs W) (i : Nat) (u : Value) : Kq B W (W.setCell ⟨g, i, none⟩ u) := by
 obtain ⟨cs, hr⟩ := h.row
 exact kq_set hr h.bg i u
theorem MS.only (h : MS B W0 g K m xs W) : Only (· = g) W0 W := by
 obtain ⟨cs, A, c, h1, _⟩ := h
 exact h1.only
theorem MS.lt (h : MS B W0 g K m xs W) : g < W0.heap.size := by
 obtain ⟨cs, A, c, h1, _⟩ := h
 exact h1.lt
theorem MS.below (h : MS B W0 g K m xs W) (hb : Below W.heap.size W W') : MS B W0 g K m xs W' := by
 obtain ⟨cs, A, c, h1, h2, h3, h4⟩ := h
 obtain ⟨cs', hr⟩ := h1.grow
 exact ⟨cs, A, c, h1.below hb, h2, h3, h4.mono (Kq.of_below hb)⟩
theorem MS.drewN (h : MS B W0 g K m xs W) (n : Nat) : MS B W0 g K m xs (W.drewN n) := h.below (pw_below_drewN (Below.refl _ _) n)
theorem MS.cell (h : MS B W0 g K m xs W) (i : Nat) (hi : i ≠ 36) {v : Value} (hv : ∀ ck cs, Cs K m ck cs → cs[i]? = some v) : W.cell? ⟨g, i, none⟩ = some v := by
 obtain ⟨cs, A, c, h1, h2, _⟩ := h
 exact h1.cell i hi (hv _ _ h2)
theorem MS.k0 (h : MS B W0 g K m xs W) : W.cell? ⟨g, 0, none⟩ = some (.int .i64 m.s) := h.cell 0 (by decide) fun _ _ h => h.c0
theorem MS.k1 (h : MS B W0 g K m xs W) : W.cell? ⟨g, 1, none⟩ = some (.int .u32 m.tag) := h.cell 1 (by decide) fun _ _ h => h.c1
theorem MS.k2 (h : MS B W0 g K m xs W) : W.cell? ⟨g, 2, none⟩ = some (.int .u32 m.tsn) := h.cell 2 (by decide) fun _ _ h => h.c2
theorem MS.k3 (h : MS B W0 g K m xs W) : W.cell? ⟨g, 3, none⟩ = some (.int .u32 m.pr.f0) := h.cell 3 (by decide) fun _ _ h => h.c3
theorem MS.k9 (h : MS B W0 g K m xs W) : W.cell? ⟨g, 9, none⟩ = some (.int .i64 m.tr) := h.cell 9 (by decide) fun _ _ h => h.c9
theorem MS.k27 (h : MS B W0 g K m xs W) : W.cell? ⟨g, 27, none⟩ = some (.int .i64 K.life) := h.cell 27 (by decide) fun _ _ h => h.c27
theorem MS.k28 (h : MS B W0 g K m xs W) : W.cell? ⟨g, 28, none⟩ = some (.int .u32 K.win) := h.cell 28 (by decide) fun _ _ h => h.c28
theorem MS.k29 (h : MS B W0 g K m xs W) : W.cell? ⟨g, 29, none⟩ = some (.int .u16 K.out) := h.cell 29 (by decide) fun _ _ h => h.c29
theorem MS.k30 (h : MS B W0 g K m xs W) : W.cell? ⟨g, 30, none⟩ = some (.int .u16 K.inn) := h.cell 30 (by decide) fun _ _ h => h.c30
theorem MS.k31 (h : MS B W0 g K m xs W) : W.cell? ⟨g, 31, none⟩ = some (.int .i64 K.tries) := h.cell 31 (by decide) fun _ _ h => h.c31
theorem MS.k32 (h : MS B W0 g K m xs W) : W.cell? ⟨g, 32, none⟩ = some (.int .i64 K.lasts) := h.cell 32 (by decide) fun _ _ h => h.c32
theorem MS.k33 (h : MS B W0 g K m xs W) : W.cell? ⟨g, 33, none⟩ = some (.int .u16 K.port) := h.cell 33 (by decide) fun _ _ h => h.c33
theorem MS.k34 (h : MS B W0 g K m xs W) : W.cell? ⟨g, 34, none⟩ = some (.int .u16 K.peer) := h.cell 34 (by decide) fun _ _ h => h.c34
theorem MS.k35 (h : MS B W0 g K m xs W) : W.cell? ⟨g, 35, none⟩ = some (.int .u64 m.d) := h.cell 35 (by decide) fun _ _ h => h.c35
theorem MS.ck (h : MS B W0 g K m xs W) : ∃ A c, W.cell? ⟨g, 8, none⟩ = some (.slice A m.cb.length c) ∧ m.cb.length ≤ c ∧ CkB B W A m.cb := by
 obtain ⟨cs, A, c, h1, h2, h3, h4⟩ := h
 exact ⟨A, c, h1.cell 8 (by decide) h2.c8, h3, h4⟩
theorem MS.pr (h : MS B W0 g K m xs W) : W.rangeAt g 3 [.int .u32 m.pr.f0, .int .u32 m.pr.f1, .int .u32 m.pr.f2, .int .u16 m.pr.f3, .int .u16 m.pr.f4] := by
 intro j v hv
 match j, hv with
 | 0, hv => obtain rfl := Option.some.inj hv; exact h.k3
 | 1, hv => obtain rfl := Option.some.inj hv; exact h.cell 4 (by decide) fun _ _ h => h.c4
 | 2, hv => obtain rfl := Option.some.inj hv; exact h.cell 5 (by decide) fun _ _ h => h.c5
 | 3, hv => obtain rfl := Option.some.inj hv; exact h.cell 6 (by decide) fun _ _ h => h.c6
 | 4, hv => obtain rfl := Option.some.inj hv; exact h.cell 7 (by decide) fun _ _ h => h.c7
theorem MS.fz (h : MS B W0 g K m xs W) (i : Nat) : W.frozen? ⟨g, i, none⟩ = false := by
 obtain ⟨cs, h1⟩ := h.row
 exact blk_frozen h1 i
theorem MS.keyAt (h : MS B W0 g K m xs W) : W.rangeAt g 10 (keyV K.key).toList := by
 obtain ⟨cs, A, c, h1, h2, _⟩ := h
 exact fun j v hv => h1.cell (10 + j) (by have := key_lt h2.hk hv; omega) (h2.key j v hv)
theorem MS.hk (h : MS B W0 g K m xs W) : K.key.length = 16 := by
 obtain ⟨cs, A, c, h1, h2, _⟩ := h
 exact h2.hk
theorem MS.there (h : MS B W0 g K m xs W) (o n : Nat) (hn : o + n ≤ 38) : W.there g o n := by
 obtain ⟨cs, A, c, ⟨_, _, hz, ⟨av, _, hr, _⟩, _⟩, _⟩ := h
 refine fun j hj => ⟨?_, blk_frozen hr _⟩
 rw [blk_cell hr]
 rw [Array.getElem?_eq_getElem (by simp [hz]; omega)]
 rfl
theorem MS.set (h : MS B W0 g K m xs W) (i : Nat) (hi : i ≠ 36) (u : Value) (m' : Mst) (hc : m'.cb = m.cb) (hs : ∀ ck cs, Cs K m ck cs → Cs K m' ck (cs.setIfInBounds i u)) : MS B W0 g K m' xs (W.setCell ⟨g, i, none⟩ u) := by
 obtain ⟨cs, A, c, h1, h2, h3, h4⟩ := h
 obtain ⟨cs', hr⟩ := h1.grow
 exact ⟨_, A, c, h1.set i hi u, by rw [hc]; exact hs _ _ h2, by rw [hc]; exact h3, by rw [hc]; exact h4.mono (kq_set hr h1.bg i u)⟩
theorem MS.set0 (h : MS B W0 g K m xs W) (v : Int) : MS B W0 g K { m with s := v } xs (W.setCell ⟨g, 0, none⟩ (.int .i64 v)) := h.set 0 (by decide) _ _ rfl fun _ _ h => h.set0 v
theorem MS.set1 (h : MS B W0 g K m xs W) (v : Int) : MS B W0 g K { m with tag := v } xs (W.setCell ⟨g, 1, none⟩ (.int .u32 v)) := h.set 1 (by decide) _ _ rfl fun _ _ h => h.set1 v
theorem MS.set2 (h : MS B W0 g K m xs W) (v : Int) : MS B W0 g K { m with tsn := v } xs (W.setCell ⟨g, 2, none⟩ (.int .u32 v)) := h.set 2 (by decide) _ _ rfl fun _ _ h => h.set2 v
theorem MS.set9 (h : MS B W0 g K m xs W) (v : Int) : MS B W0 g K { m with tr := v } xs (W.setCell ⟨g, 9, none⟩ (.int .i64 v)) := h.set 9 (by decide) _ _ rfl fun _ _ h => h.set9 v
theorem MS.set35 (h : MS B W0 g K m xs W) (v : Int) : MS B W0 g K { m with d := v } xs (W.setCell ⟨g, 35, none⟩ (.int .u64 v)) := h.set 35 (by decide) _ _ rfl fun _ _ h => h.set35 v
theorem MS.set8 (h : MS B W0 g K m xs W) (A : Option Addr) (c : Nat) (l : List UInt8) (hl : l.length ≤ c) (hC : CkB B W A l) : MS B W0 g K { m with cb := l } xs (W.setCell ⟨g, 8, none⟩ (.slice A l.length c)) := by
 obtain ⟨cs, A', c', h1, h2, h3, h4⟩ := h
 obtain ⟨cs', hr⟩ := h1.grow
 exact ⟨_, A, c, h1.set 8 (by decide) _, h2.set8 _ l, hl, hC.mono (kq_set hr h1.bg 8 _)⟩
theorem MS.setp' (h : MS B W0 g K m xs W) (p : Pr) : MS B W0 g K { m with pr := p } xs (W.setCells g 3 [.int .u32 p.f0, .int .u32 p.f1, .int .u32 p.f2, .int .u16 p.f3, .int .u16 p.f4]) ∧ Kq B W (W.setCells g 3 [.int .u32 p.f0, .int .u32 p.f1, .int .u32 p.f2, .int .u16 p.f3, .int .u16 p.f4]) := by
 obtain ⟨cs, A, c, h1, h2, h3, h4⟩ := h
 obtain ⟨cs', hr⟩ := h1.grow
 have a1 := h1.set 3 (by decide) (.int .u32 p.f0)
 have a2 := a1.set 4 (by decide) (.int .u32 p.f1)
 have a3 := a2.set 5 (by decide) (.int .u32 p.f2)
 have a4 := a3.set 6 (by decide) (.int .u16 p.f3)
 have a5 := a4.set 7 (by decide) (.int .u16 p.f4)
 obtain ⟨_, r1⟩ := a1.grow
 obtain ⟨_, r2⟩ := a2.grow
 obtain ⟨_, r3⟩ := a3.grow
 obtain ⟨_, r4⟩ := a4.grow
 have q := ((((kq_set hr h1.bg 3 (.int .u32 p.f0)).trans (kq_set r1 h1.bg 4 (.int .u32 p.f1))).trans (kq_set r2 h1.bg 5 (.int .u32 p.f2))).trans (kq_set r3 h1.bg 6 (.int .u16 p.f3))).trans (kq_set r4 h1.bg 7 (.int .u16 p.f4))
 exact ⟨⟨_, A, c, a5, h2.setp p, h3, h4.mono q⟩, q⟩
theorem MS.setp (h : MS B W0 g K m xs W) (p : Pr) : MS B W0 g K { m with pr := p } xs (W.setCells g 3 [.int .u32 p.f0, .int .u32 p.f1, .int .u32 p.f2, .int .u16 p.f3, .int .u16 p.f4]) := (h.setp' p).1
theorem MS.ksetp (h : MS B W0 g K m xs W) (p : Pr) : Kq B W (W.setCells g 3 [.int .u32 p.f0, .int .u32 p.f1, .int .u32 p.f2, .int .u16 p.f3, .int .u16 p.f4]) := (h.setp' p).2
end
end Go.Proofs.YthiaakjbapgibaaGreat.As
end
section
namespace Go.Proofs.YthiaakjbapgibaaGreat.As
open Go.RowKit YthiaakjbapgibaaGreatW.PrintWords YthiaakjbapgibaaGreatW.PrintLast Base PCh
def nextD (d : Int) : Int := IntKind.u64.wrap (d + 11400714819323198485)
def mixA (z : Int) : Int := IntKind.u64.wrap (bits .xor .u64 z (z / 1073741824) * 13787848793156543929)
def mixB (z : Int) : Int := IntKind.u64.wrap (bits .xor .u64 z (z / 134217728) * 10723151780598845931)
def mixC (z : Int) : Int := bits .xor .u64 z (z / 2147483648)
def zD (d : Int) : Int := mixC (mixB (mixA (nextD d)))
def tagD (d : Int) : Int := if zD d / 4294967296 % 4294967296 ≤ 1 then 1 else zD d / 4294967296 % 4294967296
def tsnD (d : Int) : Int := zD d % 4294967296
section
variable {B : Nat} {W0 W : World} {g : Nat} {K : Cfg} {m : Mst} {xs : List Act'}
theorem MS.lift {We : World} (h : MS B W0 g K m xs We) : ∃ cs, MA B W0 g cs xs We ∧ ∀ xs' w', MA B W0 g cs xs' w' → Kq B We w' → MS B W0 g K m xs' w' := by
 obtain ⟨cs, A, c, h1, h2, h3, h4⟩ := h
 exact ⟨cs, h1, fun xs' w' h5 h6 => ⟨cs, A, c, h5, h2, h3, h4.mono h6⟩⟩
def Rt (B : Nat) (W0 : World) (g : Nat) (K : Cfg) (m : Mst) (xs : List Act') (W : World) (e : Ending) (w' : World) : Prop := e = .returned (.tuple #[]) ∧ MS B W0 g K m xs w' ∧ Kq B W w'
theorem pair_ms (h : MS B W0 g K m xs W) : Calls Tryz.prog 72 #[.pointer (some ⟨g, 0, none⟩)] W fun e w' => e = .returned (.tuple #[.int .u32 (tagD m.d), .int .u32 (tsnD m.d)]) ∧ MS B W0 g K { m with d := nextD m.d } xs w' ∧ Kq B W w' := by
 have hs := h.k35
 have hf := h.fz 35
 have H := Lh (h.set35 (nextD m.d))
 have HQ := Lh (h.kset 35 (.int .u64 (nextD m.d)))
 clear h
 obtain ⟨d, hd⟩ : ∃ d, m.d = d := ⟨_, rfl⟩
 rw [hd] at hs H HQ ⊢
 clear hd
 go_enter Tryz.func72, Tryz.ntmps72
 go_wp2
 ·have h2 : 1 < zD d / 4294967296 % 4294967296 := h
  have e1 : zD d / 4294967296 % 4294967296 = tagD d := by rw [tagD, if_neg (by omega)]
  go_ret2
  exact ⟨congrArg (fun z => Ending.returned (.tuple #[.int .u32 z, .int .u32 (tsnD d)])) e1, H.out, HQ.out⟩
 ·have h2 : zD d / 4294967296 % 4294967296 ≤ 1 := h
  have e1 : 1 = tagD d := by rw [tagD, if_pos h2]
  go_ret2
  exact ⟨congrArg (fun z => Ending.returned (.tuple #[.int .u32 z, .int .u32 (tsnD d)])) e1, H.out, HQ.out⟩
theorem start_ms (h : MS B W0 g K m xs W) (hl : xs.length ≤ 100000) (n : Int) : Calls Tryz.prog 38 #[.pointer (some ⟨g, 0, none⟩), .int .i64 n] W (Rt B W0 g K m (xs ++ [actTimer 2 n]) W) := by
 obtain ⟨cs, h1, h2⟩ := h.lift
 exact (start_calls B W0 W g cs xs h1 hl n).mono fun e w' ⟨a, b, c⟩ => ⟨a, h2 _ _ b c, c⟩
theorem stop_ms (h : MS B W0 g K m xs W) (hl : xs.length ≤ 100000) (n : Int) : Calls Tryz.prog 119 #[.pointer (some ⟨g, 0, none⟩), .int .i64 n] W (Rt B W0 g K m (xs ++ [actTimer 3 n]) W) := by
 obtain ⟨cs, h1, h2⟩ := h.lift
 exact (stop_calls B W0 W g cs xs h1 hl n).mono fun e w' ⟨a, b, c⟩ => ⟨a, h2 _ _ b c, c⟩
theorem ask_ms (h : MS B W0 g K m xs W) (hl : xs.length ≤ 100000) (y : Act') (r : List Value) (hA : ActR B W r y) : Calls Tryz.prog 74 #[.pointer (some ⟨g, 0, none⟩), .slice (some ⟨W.heap.size, 0, none⟩) 1 1] (W.alloc (.cells r.toArray 73)) (Rt B W0 g K m (xs ++ [y]) W) := by
 obtain ⟨cs, h1, h2⟩ := h.lift
 exact (ask1 B W0 W W g cs xs y r h1 (Below.refl _ _) hA hl).mono fun e w' ⟨a, b, c⟩ => ⟨a, h2 _ _ b c, c⟩
theorem send_ms {We : World} (h : MS B W0 g K m xs We) (hB : Below We.heap.size We W) (hl : xs.length ≤ 100000) (x : Chk) (ccs : Array Value) (hx : Stb B W fun W' => Kd.K k65 W' x ccs.toList) (t : Int) :
  Calls Tryz.prog 81 #[.pointer (some ⟨g, 0, none⟩), .agg ccs, .int .u32 t] W (Rt B W0 g K m (xs ++ [actSend x t]) We) := by
 obtain ⟨cs, h1, h2⟩ := h.lift
 exact (send_calls B W0 We W g cs xs h1 hB hl x ccs hx t).mono fun e w' ⟨a, b, c⟩ => ⟨a, h2 _ _ b c, c⟩
def mkC (kd fl tsn tag win out inn : Int) : Chk := ⟨kd, fl, tsn, 0, 0, 0, tag, win, out, inn, [], [], [], [], []⟩
theorem mkC_K (kd fl tsn tag win out inn : Int) : Stb B W fun W' => Kd.K k65 W' (mkC kd fl tsn tag win out inn) (#[.int .u8 kd, .int .u8 fl, .int .u32 tsn, .int .u16 0, .int .u16 0, .int .u32 0, .int .u32 tag, .int .u32 win, .int .u16 out, .int .u16 inn, .slice none 0 0, .slice none 0 0, .slice none 0 0, .slice none 0 0, .slice none 0 0] : Array Value).toList := fun W' _ =>
 k65_mk W' (mkC kd fl tsn tag win out inn) (Nat.le_refl _) (Kd.C_nil _ _) (Nat.le_refl _) (Kd.C_nil _ _) (Nat.le_refl _) (Kd.C_nil _ _) (Nat.le_refl _) (Kd.C_nil _ _) (Nat.le_refl _) (Kd.C_nil _ _)
theorem sendInit_ms (h : MS B W0 g K m xs W) (hl : xs.length ≤ 10000) : Calls Tryz.prog 48 #[.pointer (some ⟨g, 0, none⟩)] W (Rt B W0 g K m (xs ++ [actSend (mkC 1 0 m.tsn m.tag K.win K.out K.inn) 0] ++ [actTimer 2 1]) W) := by
 have k1 := h.k1
 have k2 := h.k2
 have k3 := h.k28
 have k4 := h.k29
 have k5 := h.k30
 have HM := Lh h
 have HL := Lh hl
 clear h
 go_enter Tryz.func48, Tryz.ntmps48
 go_upto_region 0 with (fail)
 refine wp_then 27 (by kernel_rfl) (by kernel_rfl) ?_
 simp only [tks, tk0, dks, dk0]
 repeat (go_big_quiet_step (fail))
 refine wpQuiet_nil ?_
 rintro _ ⟨nq, rfl⟩
 clear k1 k2 k3 k4 k5
 go_wp2_with fail
 refine (send_ms HM.out (pw_below_drewN (Below.refl _ _) nq) (by have := HL.out; omega) (mkC 1 0 m.tsn m.tag K.win K.out K.inn) _ (mkC_K _ _ _ _ _ _ _) 0).mono ?_
 rintro e w1 ⟨rfl, hM1, hQ1⟩
 go_wp2_with fail
 refine (start_ms hM1 (by have := HL.out; simp; omega) 1).mono ?_
 rintro e w2 ⟨rfl, hM2, hQ2⟩
 go_wp2
 go_end0
 exact ⟨rfl, hM2, hQ1.trans hQ2⟩
end
end Go.Proofs.YthiaakjbapgibaaGreat.As
end
section
namespace Go.Proofs.YthiaakjbapgibaaGreat.As
open Go.RowKit YthiaakjbapgibaaGreatW.PrintWords YthiaakjbapgibaaGreatW.PrintLast Base PCh
section
variable {B : Nat} {W0 W : World} {g : Nat} {K : Cfg} {m : Mst} {xs : List Act'}
theorem sendPeer_ms {We : World} (h : MS B W0 g K m xs We) (hB : Below We.heap.size We W) (hl : xs.length ≤ 10000) (x : Chk) (ccs : Array Value) (hx : Stb B W fun W' => Kd.K k65 W' x ccs.toList) :
  Calls Tryz.prog 50 #[.pointer (some ⟨g, 0, none⟩), .agg ccs] W (Rt B W0 g K m (xs ++ [actSend x m.pr.f0]) We) := by
 obtain ⟨A10, c10, A11, c11, A12, c12, A13, c13, A14, c14, hcs, _⟩ := k65_open hx.now
 obtain rfl : ccs = #[.int .u8 x.f0, .int .u8 x.f1, .int .u32 x.f2, .int .u16 x.f3, .int .u16 x.f4, .int .u32 x.f5, .int .u32 x.f6, .int .u32 x.f7, .int .u16 x.f8, .int .u16 x.f9, .slice A10 x.f10.length c10, .slice A11 x.f11.length c11, .slice A12 x.f12.length c12, .slice A13 x.f13.length c13, .slice A14 x.f14.length c14] := Array.toList_inj.1 hcs
 clear hcs
 have k3 := (h.below (below_alloc hB (.cells #[.int .u8 x.f0, .int .u8 x.f1, .int .u32 x.f2, .int .u16 x.f3, .int .u16 x.f4, .int .u32 x.f5, .int .u32 x.f6, .int .u32 x.f7, .int .u16 x.f8, .int .u16 x.f9, .slice A10 x.f10.length c10, .slice A11 x.f11.length c11, .slice A12 x.f12.length c12, .slice A13 x.f13.length c13, .slice A14 x.f14.length c14] 65))).k3
 have HX := Lh hx
 have HM := Lh h
 have HB := Lh hB
 have HL := Lh hl
 clear hx h hB hl
 go_enter Tryz.func50, Tryz.ntmps50
 go_upto_region 1 with (fail)
 refine wp_then 8 (by kernel_rfl) (by kernel_rfl) ?_
 simp only [tks, tk0, dks, dk0]
 repeat (go_big_quiet_step (fail))
 refine wpQuiet_nil ?_
 rintro _ ⟨nq, rfl⟩
 clear k3
 go_wp2_with fail
 refine (send_ms HM.out (pw_below_drewN (below_alloc HB.out _) nq) (by have := HL.out; omega) x _ (HX.out.mono (Kq.of_below (pw_below_drewN (below_alloc (Below.refl _ _) _) nq))) m.pr.f0).mono ?_
 rintro e w1 ⟨rfl, hM1, hQ1⟩
 go_wp2
 go_end0
 exact ⟨rfl, hM1, hQ1⟩
theorem sendShut_ms (h : MS B W0 g K m xs W) (hl : xs.length ≤ 1000) (cum : Int) : Calls Tryz.prog 37 #[.pointer (some ⟨g, 0, none⟩), .int .u32 cum] W (Rt B W0 g K m (xs ++ [actSend (mkC 7 0 cum 0 0 0 0) m.pr.f0] ++ [actTimer 2 2]) W) := by
 have HM := Lh h
 clear h
 go_enter Tryz.func37, Tryz.ntmps37
 go_wp2_with fail
 refine (sendPeer_ms HM.out (Below.refl _ _) (by omega) (mkC 7 0 cum 0 0 0 0) _ (mkC_K _ _ _ _ _ _ _)).mono ?_
 rintro e w1 ⟨rfl, hM1, hQ1⟩
 go_wp2_with fail
 refine (start_ms hM1 (by simp; omega) 2).mono ?_
 rintro e w2 ⟨rfl, hM2, hQ2⟩
 go_wp2
 go_end0
 exact ⟨rfl, hM2, hQ1.trans hQ2⟩
theorem sendShutAck_ms (h : MS B W0 g K m xs W) (hl : xs.length ≤ 1000) : Calls Tryz.prog 41 #[.pointer (some ⟨g, 0, none⟩)] W (Rt B W0 g K m (xs ++ [actSend (mkC 8 0 0 0 0 0 0) m.pr.f0] ++ [actTimer 2 2]) W) := by
 have HM := Lh h
 clear h
 go_enter Tryz.func41, Tryz.ntmps41
 go_wp2_with fail
 refine (sendPeer_ms HM.out (Below.refl _ _) (by omega) (mkC 8 0 0 0 0 0 0) _ (mkC_K _ _ _ _ _ _ _)).mono ?_
 rintro e w1 ⟨rfl, hM1, hQ1⟩
 go_wp2_with fail
 refine (start_ms hM1 (by simp; omega) 2).mono ?_
 rintro e w2 ⟨rfl, hM2, hQ2⟩
 go_wp2
 go_end0
 exact ⟨rfl, hM2, hQ1.trans hQ2⟩
def zeroM (m : Mst) : Mst := ⟨0, 0, 0, ⟨0, 0, 0, 0, 0⟩, [], 0, m.d⟩
theorem MS.zero (h : MS B W0 g K m xs W) : MS B W0 g K (zeroM m) xs (W.setCells g 0 [.int .i64 0, .int .u32 0, .int .u32 0, .int .u32 0, .int .u32 0, .int .u32 0, .int .u16 0, .int .u16 0, .slice none 0 0, .int .i64 0]) ∧ Kq B W (W.setCells g 0 [.int .i64 0, .int .u32 0, .int .u32 0, .int .u32 0, .int .u32 0, .int .u32 0, .int .u16 0, .int .u16 0, .slice none 0 0, .int .i64 0]) := by
 have h0 := h.set0 0
 have h1 := h0.set1 0
 have h2 := h1.set2 0
 have h3 := h2.setp ⟨0, 0, 0, 0, 0⟩
 have h8 := h3.set8 none 0 [] (Nat.le_refl _) ⟨by simp, fun _ _ => Kd.C_nil _ _⟩
 have h9 := h8.set9 0
 have q1 := h.kset 0 (.int .i64 0)
 have q2 := h0.kset 1 (.int .u32 0)
 have q3 := h1.kset 2 (.int .u32 0)
 have q4 := h2.ksetp ⟨0, 0, 0, 0, 0⟩
 have q5 := h3.kset 8 (.slice none 0 0)
 have q6 := h8.kset 9 (.int .i64 0)
 exact ⟨h9, q1.trans (q2.trans (q3.trans (q4.trans (q5.trans q6))))⟩
theorem down_ms (h : MS B W0 g K m xs W) (hl : xs.length ≤ 1000) (y : Int) : Calls Tryz.prog 47 #[.pointer (some ⟨g, 0, none⟩), .int .i64 y] W (Rt B W0 g K (zeroM m) (xs ++ [actDown y]) W) := by
 have H := Lh (ask_ms h (by omega) (actDown y) _ (act_bare B W 6 0 ⟨0, 0, 0, 0, 0⟩ y))
 clear h
 go_enter Tryz.func47, Tryz.ntmps47
 go_wp2_with fail
 refine H.out.mono ?_
 rintro e w1 ⟨rfl, hM1, hQ1⟩
 have HT := Lh (hM1.there 0 10 (by decide))
 have HZ := Lh hM1.zero
 have HQ1 := Lh hQ1
 clear hM1 hQ1 H
 go_wp2_with (refine wpList_store_mid rfl 88 _ _ rfl g 0 #[.int .i64 0, .int .u32 0, .int .u32 0, .int .u32 0, .int .u32 0, .int .u32 0, .int .u16 0, .int .u16 0, .slice none 0 0, .int .i64 0] rfl rfl HT.out (by kernel_rfl) (by simp [Value.oneCell']) ?_)
 go_end0
 exact ⟨rfl, HZ.out.1, HQ1.out.trans HZ.out.2⟩
end
end Go.Proofs.YthiaakjbapgibaaGreat.As
end
section
namespace Go.Proofs.YthiaakjbapgibaaGreat.As
open Go.RowKit YthiaakjbapgibaaGreatW.PrintWords YthiaakjbapgibaaGreatW.PrintLast Base PCh
theorem is_made (w : World) (g : Nat) (cs : Array Value) (h : w.heap[g]? = some (.cells cs 90 (0, 0))) (hb : cs[37]? = some (.bool true)) : Calls Tryz.prog 39 #[.pointer (some ⟨g, 0, none⟩)] w fun e w' => e = .returned (.bool true) ∧ w = w' := by
 have k : w.cell? ⟨g, 37, none⟩ = some (.bool true) := (blk_cell h 37).trans hb
 clear h hb
 go_enter Tryz.func39, Tryz.ntmps39
 go_wp2
 go_ret
 exact ⟨rfl, rfl⟩
theorem typ_ne {w : World} {a b : Nat} {x y : Array Value} {s t : TypeId} {u v : Nat × Nat} (h1 : w.heap[a]? = some (.cells x s u)) (h2 : w.heap[b]? = some (.cells y t v)) (h : s ≠ t) : a ≠ b := fun e => by
 subst e
 rw [h1] at h2
 injection h2 with h2
 injection h2 with _ h2
 exact h h2
theorem below_setRow {B g : Nat} {a w : World} (h : Below B a w) (hg : B ≤ g) (cs : Array Value) : Below B a (w.setRow g cs) :=
 ⟨h.os, h.tape, h.output, by rw [setRow_size]; exact h.size, fun k hk => (setRow_other _ _ _ _ (by omega)).trans (h.block k hk)⟩
theorem exec_store_row {P : Program} {o : Oper} {a : Act} {w : World} (ty : TypeId) (x y : Operand) (ho : o.op = .store ty x y) {g : Nat} {cells : Array Value} (hx : a.eval x = .pointer (some ⟨g, 0, none⟩)) (hy : a.eval y = .agg cells) {t : TypeId} {old : Array Value} (hg : w.heap[g]? = some (.cells old t (0, 0))) (hi : (P.info? ty).map (·.size) = some cells.size)
  (hold : old.size = cells.size) (h1 : cells.all (·.oneCell') = true) : (execOp a.eval o).run P w = .ok .skip (w.setRow g cells) := by
 unfold execOp
 simp only [ho, hx, hy, Instr.storeAt, Instr.sureAddr, Sem.run_bind, Sem.run_pure, Result.andThen_ok, run_storeVar_row w g t ty old cells hg hi hold h1]
theorem exec_load_cells {P : Program} {o : Oper} {a : Act} {w : World} (ty : TypeId) (x : Operand) (ho : o.op = .load ty x) {ad : Addr} (hx : a.eval x = .pointer (some ad)) (cs : Array Value) (d : TypeDesc) (hc : ∀ j v, cs.toList[j]? = some v → w.cell? (ad.add j) = some v)
  (hu : P.underlying ty = some d) (hd : d.isRow = true) (hi : (P.info? ty).map (·.size) = some cs.size) : (execOp a.eval o).run P w = .ok (.value (.agg cs)) w := by
 have hl : (loadCells ad cs.size).run P w = .ok cs w := run_loadCells_list (P := P) w ad cs.toList hc
 have hv : (loadVar ty ad).run P w = .ok (.agg cs) w := by
  cases hq : P.info? ty with
  | none => simp [hq] at hi
  | some i =>
   have hs : i.size = cs.size := by simpa [hq] using hi
   have hagg : (isAgg ty).run P w = .ok true w := by
    unfold isAgg
    rw [Sem.run_bind, run_underlying hu w]
    cases d <;> simp_all [TypeDesc.isRow]
   simp [loadVar, Sem.run_bind, hagg, sizeOf, typeInfo, hq, hs, hl]
 unfold execOp
 simp only [ho, hx, Instr.loadAt, Instr.sureAddr, Sem.run_bind, Sem.run_pure, Result.andThen_ok, hv]
def mcallT3 : Bool × List (List Nat × List Nat) := (true, [([], []), ([0], [0]), ([1], [1]), ([2], [2]), ([], []), ([4], [4]), ([5], [5]), ([6], [6]), ([], []), ([], []), ([8, 3, 0, 1, 2, 3, 8, 9], [3, 8]), ([9, 7, 10, 0, 1, 2, 3, 4, 5, 6, 7, 8, 9, 10], [7, 9])])
def mcallB3 : List Nat := [0, 1, 3, 7, 0, 16, 48, 112, 0, 0, 783, 2047]
theorem mcalltab3 : Go.Proofs.YthiaakjbapgibaaGreatW.PrintLast.rtab .any (Go.Proofs.YthiaakjbapgibaaGreatW.PrintLast.opsOf Tryz.f35 3) = mcallT3 := by kernel_rfl
theorem mcallbits3 : Go.Proofs.YthiaakjbapgibaaGreatW.PrintLast.waitsOk mcallT3.2 mcallB3 = true := by kernel_rfl
theorem mcatch_idle (a b c d e : Addr) (w : World) :
  CallsD Tryz.prog 73 #[.pointer (some a), .pointer (some b), .pointer (some c), .pointer (some d), .pointer (some e)] .returning w fun e u' w' => e = .returned (.tuple #[]) ∧ u' = .returning ∧ w' = w := by
 refine callsD_of_wpS Tryz.func73 rfl fun c₀ cs hu => ?_
 apply wpS_seq
 apply wpS_region
 simp [wpOpsS, go_sem, recoverD, hu, Tryz.ntmps73, Exit.thenS]
 have ht : (#[Value.pointer (some a), Value.pointer (some b), Value.pointer (some c), Value.pointer (some d), Value.pointer (some e)] ++ ((Array.replicate 26 undef).setIfInBounds 3 Value.nilIface).setIfInBounds 0 Value.nilIface) = #[.pointer (some a), .pointer (some b), .pointer (some c), .pointer (some d), .pointer (some e), .nilIface, undef, undef, .nilIface, undef, undef, undef, undef, undef, undef, undef, undef, undef, undef, undef, undef, undef, undef, undef, undef, undef, undef, undef, undef, undef, undef] := by kernel_rfl
 rw [ht]
 refine wpS_of_wp ?_
 go_wp2
 cases c₀
 simp_all [bodyPostS, results, Tryz.results73]
def errA (code : Int) : Ending := .panicked [{ v := .iface 31 (.int .i64 code), recovered := false }]
def KV (m : Mst) (A : Option Addr) (c : Nat) : Array Value := #[.int .i64 m.s, .int .u32 m.tag, .int .u32 m.tsn, .int .u32 m.pr.f0, .int .u32 m.pr.f1, .int .u32 m.pr.f2, .int .u16 m.pr.f3, .int .u16 m.pr.f4, .slice A m.cb.length c, .int .i64 m.tr]
def backW (w : World) (g gl ge : Nat) (KN : Array Value) (d code : Int) : World := ((((w.setCells g 0 KN.toList).setCell ⟨g, 35, none⟩ (.int .u64 d)).setCell ⟨g, 36, none⟩ (.slice none 0 0)).setCell ⟨gl, 0, none⟩ (.slice none 0 0)).setCell ⟨ge, 0, none⟩ (.int .i64 code)
theorem setCells_blk (w : World) (g : Nat) (k : Nat) (hk : k ≠ g) : ∀ (l : List Value) (o : Nat), (w.setCells g o l).heap[k]? = w.heap[k]? := by
 intro l
 induction l generalizing w with
 | nil => intro o; rfl
 | cons v l ih => intro o; exact (ih (w.setCell ⟨g, o, none⟩ v) (o + 1)).trans (Below.heap_setCell w ⟨g, o, none⟩ v k hk)
theorem setCells_row (w : World) (g : Nat) (t : TypeId) : ∀ (l : List Value) (o : Nat) (cs : Array Value), w.heap[g]? = some (.cells cs t (0, 0)) → ∃ cs', (w.setCells g o l).heap[g]? = some (.cells cs' t (0, 0)) ∧ cs'.size = cs.size := by
 intro l
 induction l generalizing w with
 | nil => intro o cs h; exact ⟨cs, h, rfl⟩
 | cons v l ih =>
  intro o cs h
  obtain ⟨cs', h1, h2⟩ := ih (w.setCell ⟨g, o, none⟩ v) (o + 1) (cs.setIfInBounds o v) (blk_set h o v)
  exact ⟨cs', h1, h2.trans (by simp)⟩
set_option maxHeartbeats 4000000 in
theorem mcatch_err (g6 g7 gb gl ge g : Nat) (KN : Array Value) (d code : Int) (older : List PanicEntry) (w : World) (x1 x2 : Value) (t1 t2 : TypeId) (cs : Array Value) (hks : KN.size = 10) (hone : KN.all (·.oneCell') = true)
  (h6 : w.heap[g6]? = some (.cells KN 88 (0, 0))) (h7 : w.heap[g7]? = some (.cells #[.int .u64 d] 22 (0, 0))) (hb : w.heap[gb]? = some (.cells #[.pointer (some ⟨g, 0, none⟩)] 33 (0, 0)))
  (h1 : w.heap[gl]? = some (.cells #[x1] t1 (0, 0))) (h2 : w.heap[ge]? = some (.cells #[x2] t2 (0, 0))) (hg : w.heap[g]? = some (.cells cs 90 (0, 0))) (hcs : cs.size = 38) (n6 : g6 ≠ g) (n7 : g7 ≠ g) (nb : gb ≠ g) (nl : gl ≠ g) (ne : ge ≠ g) (nle : gl ≠ ge) :
  CallsD Tryz.prog 73 #[.pointer (some ⟨g6, 0, none⟩), .pointer (some ⟨g7, 0, none⟩), .pointer (some ⟨gb, 0, none⟩), .pointer (some ⟨gl, 0, none⟩), .pointer (some ⟨ge, 0, none⟩)] (.panicking ({ v := .iface 31 (.int .i64 code), recovered := false } :: older)) w fun e u' w' => e = .returned (.tuple #[]) ∧ u' = .panicking ({ v := .iface 31 (.int .i64 code), recovered := true } :: older) ∧ w' = backW w g gl ge KN d code := by
 refine callsD_of_wpS Tryz.func73 rfl fun c₀ cs₀ hu => ?_
 apply wpS_seq
 apply wpS_region
 simp [wpOpsS, go_sem, recoverD, hu, Tryz.ntmps73, Exit.thenS]
 generalize hfv : (Value.iface 31 (.int .i64 code)) = fv at *
 have ht : ∀ fv : Value, (#[Value.pointer (some ⟨g6, 0, none⟩), Value.pointer (some ⟨g7, 0, none⟩), Value.pointer (some ⟨gb, 0, none⟩), Value.pointer (some ⟨gl, 0, none⟩), Value.pointer (some ⟨ge, 0, none⟩)] ++ ((Array.replicate 26 undef).setIfInBounds 3 fv).setIfInBounds 0 fv) = #[.pointer (some ⟨g6, 0, none⟩), .pointer (some ⟨g7, 0, none⟩), .pointer (some ⟨gb, 0, none⟩), .pointer (some ⟨gl, 0, none⟩), .pointer (some ⟨ge, 0, none⟩), fv, undef, undef, fv, undef, undef, undef, undef, undef, undef, undef, undef, undef, undef, undef, undef, undef, undef, undef, undef, undef, undef, undef, undef, undef, undef] := fun fv => by kernel_rfl
 rw [ht]
 subst hfv
 have hta : ∀ W : World, (Instr.typeAssert (Value.iface 31 (.int .i64 code)) 20 31 true).run Tryz.prog W = .ok (.tuple #[.int .i64 code, .bool true]) W := fun W => by rfl
 refine wpS_of_wp ?_
 have kb : w.cell? ⟨gb, 0, none⟩ = some (.pointer (some ⟨g, 0, none⟩)) := blk_cell hb 0
 have k7 : w.cell? ⟨g7, 0, none⟩ = some (.int .u64 d) := blk_cell h7 0
 have HX := Lh (show (Tryz.prog.info? 88).map (·.size) = some KN.size by rw [hks]; kernel_rfl)
 have H6 := Lh h6
 have HT := Lh (show w.there g 0 KN.size from fun j hj => ⟨by rw [blk_cell hg, Array.getElem?_eq_getElem (by omega)]; rfl, blk_frozen hg _⟩)
 have HO := Lh hone
 obtain ⟨cs', hg', hz'⟩ := setCells_row w g _ KN.toList 0 cs hg
 have HS := Lh hg'
 have hs7 : (w.setCells g 0 KN.toList).cell? ⟨g, 35, none⟩ = cs'[35]? := blk_cell hg' 35
 obtain ⟨v7, hv7⟩ : ∃ v, cs'[35]? = some v := ⟨_, Array.getElem?_eq_getElem (by omega)⟩
 rw [hv7] at hs7
 have hf7 : (w.setCells g 0 KN.toList).frozen? ⟨g, 35, none⟩ = false := blk_frozen hg' 35
 have hg2 := blk_set hg' 35 (.int .u64 d)
 have hs8 : ((w.setCells g 0 KN.toList).setCell ⟨g, 35, none⟩ (.int .u64 d)).cell? ⟨g, 36, none⟩ = (cs'.setIfInBounds 35 (.int .u64 d))[36]? := blk_cell hg2 36
 obtain ⟨v8, hv8⟩ : ∃ v, (cs'.setIfInBounds 35 (.int .u64 d))[36]? = some v := ⟨_, Array.getElem?_eq_getElem (by simp; omega)⟩
 rw [hv8] at hs8
 have hf8 : ((w.setCells g 0 KN.toList).setCell ⟨g, 35, none⟩ (.int .u64 d)).frozen? ⟨g, 36, none⟩ = false := blk_frozen hg2 36
 have e1 : (((w.setCells g 0 KN.toList).setCell ⟨g, 35, none⟩ (.int .u64 d)).setCell ⟨g, 36, none⟩ (.slice none 0 0)).heap[gl]? = some (.cells #[x1] t1 (0, 0)) := blk_far (p := ⟨g, 36, none⟩) (blk_far (p := ⟨g, 35, none⟩) ((setCells_blk w g gl nl KN.toList 0).trans h1) nl _) nl _
 have e2 : (((w.setCells g 0 KN.toList).setCell ⟨g, 35, none⟩ (.int .u64 d)).setCell ⟨g, 36, none⟩ (.slice none 0 0)).heap[ge]? = some (.cells #[x2] t2 (0, 0)) := blk_far (p := ⟨g, 36, none⟩) (blk_far (p := ⟨g, 35, none⟩) ((setCells_blk w g ge ne KN.toList 0).trans h2) ne _) ne _
 have e3 := blk_far (p := ⟨gl, 0, none⟩) e2 (Ne.symm nle) (.slice none 0 0)
 have q1 := blk_cell e1 0
 have p1 := blk_frozen e1 0
 have q2 := blk_cell e3 0
 have p2 := blk_frozen e3 0
 have q1' : (((w.setCells g 0 KN.toList).setCell ⟨g, 35, none⟩ (.int .u64 d)).setCell ⟨g, 36, none⟩ (.slice none 0 0)).cell? ⟨gl, 0, none⟩ = some x1 := q1
 have q2' : ((((w.setCells g 0 KN.toList).setCell ⟨g, 35, none⟩ (.int .u64 d)).setCell ⟨g, 36, none⟩ (.slice none 0 0)).setCell ⟨gl, 0, none⟩ (.slice none 0 0)).cell? ⟨ge, 0, none⟩ = some x2 := q2
 have HW := Lh (show ((((w.setCells g 0 KN.toList).setCell ⟨g, 35, none⟩ (.int .u64 d)).setCell ⟨g, 36, none⟩ (.slice none 0 0)).setCell ⟨gl, 0, none⟩ (.slice none 0 0)).setCell ⟨ge, 0, none⟩ (.int .i64 code) = backW w g gl ge KN d code from rfl)
 obtain ⟨W1, hW1⟩ : ∃ W1, w.setCells g 0 KN.toList = W1 := ⟨_, rfl⟩
 have HE := Lh hW1
 rw [hW1] at HW hs7 hf7 hs8 hf8 p1 p2 q1' q2'
 clear hg hg' hg2 hz' hv7 hv8 e1 e2 e3 q1 q2 h1 h2 h6 h7 hb HS hW1 hone hks hcs
 go_wp2_with (first | (refine wpList_load_row rfl 88 (.tmp 0) rfl _ rfl 88 KN (0, 0) _ H6.out Tryz.underlying88 rfl HX.out ?_) | (refine wpList_store_mid rfl 88 (.tmp 25) (.tmp 22) rfl g 0 KN rfl rfl HT.out HX.out HO.out ?_; rw [HE.out]))
 rw [HW.out]
 cases c₀
 simp_all [bodyPostS, results, Tryz.results73]
def MR (B : Nat) (g : Nat) (K : Cfg) (m : Mst) (w : World) : Prop := B ≤ g ∧ ∃ cs A c, w.heap[g]? = some (.cells cs 90 (0, 0)) ∧ cs[36]? = some (.slice none 0 0) ∧ Cs K m (.slice A m.cb.length c) cs ∧ m.cb.length ≤ c ∧ CkB B w A m.cb
def Res (B : Nat) (base : Nat) (w : World) (v : Value) (xs : List Act') : Prop := ∃ rs, rawA.R 73 w base (fun _ => True) v rs ∧ ActsR B w rs xs
abbrev Out := Except Int (Mst × List Act')
def ClP (B : Nat) (W0 : World) (g : Nat) (K : Cfg) (r : Out) (e : Ending) (w' : World) : Prop :=
 match r with
 | .ok (m, xs) => e = .returned (.tuple #[]) ∧ MS B W0 g K m xs w'
 | .error c => e = errA c ∧ ∃ m xs, MS B W0 g K m xs w'
def CallP (B : Nat) (g : Nat) (K : Cfg) (m : Mst) (r : Out) (w : World) (e : Ending) (w' : World) : Prop :=
 Only (· = g) w w' ∧ match r with
 | .ok (m', xs) => (∃ v, e = .returned (.tuple #[v, .int .i64 0]) ∧ Res B w.heap.size w' v xs) ∧ MR B g K m' w'
 | .error c => e = .returned (.tuple #[.slice none 0 0, .int .i64 c]) ∧ MR B g K m w'
theorem Cs.set36 {K : Cfg} {m : Mst} {ck : Value} {cs : Array Value} (h : Cs K m ck cs) (u : Value) : Cs K m ck (cs.setIfInBounds 36 u) := by
 refine ⟨by simpa using h.sz, ?_, ?_, ?_, ?_, ?_, ?_, ?_, ?_, ?_, ?_, h.hk, fun i v hv => ?_, ?_, ?_, ?_, ?_, ?_, ?_, ?_, ?_, ?_, ?_, ?_⟩
 all_goals first | exact set_ne (h.key i v hv) (by have := key_lt h.hk hv; omega) | (refine set_ne ?_ (by decide); first | exact h.c0 | exact h.c1 | exact h.c2 | exact h.c3 | exact h.c4 | exact h.c5 | exact h.c6 | exact h.c7 | exact h.c8 | exact h.c9 | exact h.c26 | exact h.c27 | exact h.c28 | exact h.c29 | exact h.c30 | exact h.c31 | exact h.c32 | exact h.c33 | exact h.c34 | exact h.c35 | exact h.c37)
theorem MS.toMR {B : Nat} {W0 W : World} {g : Nat} {K : Cfg} {m : Mst} {xs : List Act'} (h : MS B W0 g K m xs W) : MR B g K m (W.setCell ⟨g, 36, none⟩ (.slice none 0 0)) := by
 obtain ⟨cs, A, c, ⟨h1, h1b, h2, ⟨av, rs, h3, _⟩, _⟩, h5, h6, h7⟩ := h
 refine ⟨h1b, _, A, c, blk_set h3 36 (.slice none 0 0), set_at (by simp [h2]), (h5.set36 av).set36 _, h6, h7.mono (kq_set h3 h1b 36 _)⟩
theorem MR.below {B : Nat} {g : Nat} {K : Cfg} {m : Mst} {w w' : World} (h : MR B g K m w) (hb : Below w.heap.size w w') : MR B g K m w' := by
 obtain ⟨h1, cs, A, c, h2, h3, h4, h5, h6⟩ := h
 exact ⟨h1, cs, A, c, blk_below h2 hb, h3, h4, h5, h6.mono (Kq.of_below hb)⟩
theorem MR.moved {B : Nat} {g : Nat} {K : Cfg} {m : Mst} {w w' : World} (h : MR B g K m w) (hk : Kq B w w') (hg : w'.heap[g]? = w.heap[g]?) : MR B g K m w' := by
 obtain ⟨h1, cs, A, c, h2, h3, h4, h5, h6⟩ := h
 exact ⟨h1, cs, A, c, hg.trans h2, h3, h4, h5, h6.mono hk⟩
theorem MR.row {B : Nat} {g : Nat} {K : Cfg} {m : Mst} {w : World} (h : MR B g K m w) : ∃ cs, w.heap[g]? = some (.cells cs 90 (0, 0)) := by
 obtain ⟨h1, cs, A, c, h2, _⟩ := h
 exact ⟨cs, h2⟩
theorem MS.back {B : Nat} {W0 W : World} {g : Nat} {K : Cfg} {m m' : Mst} {xs : List Act'} (h : MS B W0 g K m' xs W) (A : Option Addr) (c : Nat) (hl : m.cb.length ≤ c) (hC : CkB B W A m.cb) : MS B W0 g K m xs ((W.setCells g 0 (KV m A c).toList).setCell ⟨g, 35, none⟩ (.int .u64 m.d)) := by
 have h0 := h.set0 m.s
 have h1 := h0.set1 m.tag
 have h2 := h1.set2 m.tsn
 have h3 := h2.setp m.pr
 have q1 := h.kset 0 (.int .i64 m.s)
 have q2 := h0.kset 1 (.int .u32 m.tag)
 have q3 := h1.kset 2 (.int .u32 m.tsn)
 have q4 := h2.ksetp m.pr
 have h8 := h3.set8 A c m.cb hl (((hC.mono q1).mono q2).mono q3 |>.mono q4)
 have h9 := h8.set9 m.tr
 exact h9.set35 m.d
theorem only_setCells {S : Nat → Prop} {a : World} {g : Nat} (hg : S g) (l : List Value) : ∀ (o : Nat) {b : World}, Only S a b → Only S a (b.setCells g o l) := by
 induction l with
 | nil => exact fun _ _ h => h
 | cons v l ih => exact fun o b h => ih (o + 1) (h.setCell (p := ⟨g, o, none⟩) (fun _ => hg) v)
set_option maxHeartbeats 4000000 in
theorem call_ms (B : Nat) (w : World) (g : Nat) (K : Cfg) (m : Mst) (k : FuncId) (caps : Array Value) (h : MR B g K m w) (hE : ∀ (args : Array Value) (w : World), (callFunc k args).run Tryz.prog w = .ok (.enter k args) w) (r : Out)
  (hf : ∀ W0, Only (· = g) w W0 → MS B W0 g K m [] W0 → Calls Tryz.prog k caps W0 (ClP B W0 g K r)) :
  Calls Tryz.prog 35 #[.pointer (some ⟨g, 0, none⟩), .func (.func k) #[] caps] w (CallP B g K m r w) := by
 obtain ⟨hbg, cs, A, c, h, hav, hcs, hcl, hck⟩ := h
 have hsz := hcs.sz
 have hb := hcs.c37
 obtain ⟨d, hdd⟩ : ∃ d, m.d = d := ⟨_, rfl⟩
 have hd : cs[35]? = some (.int .u64 d) := by rw [← hdd]; exact hcs.c35
 have hmf : ∀ (fn : Fn) (first cap : Array Value) (w : World), (Instr.makeFunc fn first cap).run Tryz.prog w = .ok (.func fn first cap) w := fun _ _ _ _ => rfl
 have H := Lh (fun (W : World) (hB : Below w.heap.size w W) => is_made W g cs (blk_below h hB) hb)
 have HF := Lh hf
 have HG := Lh (fun (W : World) (hB : Below w.heap.size w W) => blk_below h hB)
 have HGL := Lh (show g < w.heap.size from blk_lt h)
 obtain ⟨KN, hKN⟩ : ∃ KN, KV m A c = KN := ⟨_, rfl⟩
 have hone : KN.all (·.oneCell') = true := by rw [← hKN]; simp [KV, Value.oneCell']
 have hks : KN.size = 10 := by rw [← hKN]; rfl
 have HKC := Lh (fun (W : World) (hB : Below w.heap.size w W) (j : Nat) (v : Value) (hv : KN.toList[j]? = some v) => (show W.cell? ((⟨g, 0, none⟩ : Addr).add j) = some v by
  rw [Addr.add_lit, Nat.zero_add, blk_cell (blk_below h hB) j]
  rw [← hKN] at hv
  match j, hv with
  | 0, hv => exact hcs.c0.trans hv
  | 1, hv => exact hcs.c1.trans hv
  | 2, hv => exact hcs.c2.trans hv
  | 3, hv => exact hcs.c3.trans hv
  | 4, hv => exact hcs.c4.trans hv
  | 5, hv => exact hcs.c5.trans hv
  | 6, hv => exact hcs.c6.trans hv
  | 7, hv => exact hcs.c7.trans hv
  | 8, hv => exact hcs.c8.trans hv
  | 9, hv => exact hcs.c9.trans hv))
 have HKS := Lh (show (Tryz.prog.info? 88).map (·.size) = some KN.size by rw [hks]; kernel_rfl)
 have HKZ := Lh (show (#[.int .i64 0, .int .u32 0, .int .u32 0, .int .u32 0, .int .u32 0, .int .u32 0, .int .u16 0, .int .u16 0, .slice none 0 0, .int .i64 0] : Array Value).size = KN.size from hks.symm)
 have HKO := Lh hone
 have HD := Lh (fun (W : World) (hB : Below w.heap.size w W) => (blk_cell (blk_below h hB) 35).trans hd)
 have HAV := Lh hav
 have HSZ := Lh hsz
 have HKK := Lh hks
 have HKN0 := Lh hKN
 have HDD := Lh hdd
 have HCK := Lh hck
 have HCL := Lh hcl
 have HMS0 := Lh (fun (W : World) (hM : MA B W g cs [] W) (hk : Kq B w W) => (show MS B W g K m [] W from ⟨cs, A, c, hM, hcs, hcl, hck.mono hk⟩))
 have HBG := Lh hbg
 have HRW := Lh h
 clear h hb hd hone hav hf hKN hks hsz hdd hck hcl hbg hcs
 go_enter_defers Tryz.func35, Tryz.ntmps35
 go_upto_region 1 with (fail)
 refine wp_gen (fun W => W.heap[w.heap.size]? = some (.cells #[.pointer (some ⟨g, 0, none⟩)] 33 (0, 0)) ∧ W.heap[w.heap.size + 1]? = some (.cells #[.slice none 0 0] 30 (0, 0)) ∧ W.heap[w.heap.size + 2]? = some (.cells #[.int .i64 0] 31 (0, 0)) ∧ Below w.heap.size w W) (boxes3 w _ _ _) ?_
 rintro W ⟨h0, h1, h2, hB⟩
 have k0 : W.cell? ⟨w.heap.size, 0, none⟩ = some (.pointer (some ⟨g, 0, none⟩)) := blk_cell h0 0
 have HP0 := Lh k0
 have HB := Lh hB
 have H0 := Lh h0
 have H1 := Lh h1
 have H2 := Lh h2
 clear h0 h1 h2 hB
 go_wp2_with fail
 refine (H.out W HB.out).mono ?_
 rintro e w1 ⟨rfl, rfl⟩
 have HKN := Lh (HKC.out W HB.out)
 have HD0 := Lh (HD.out W HB.out)
 clear H k0 HKC HD
 go_upto_region 3 with (fail)
 obtain ⟨gb, hb⟩ : ∃ gb, w.heap.size = gb := ⟨_, rfl⟩
 rw [hb] at HP0 ⊢
 have Q := True.intro
 have C6 := True.intro
 have D6 := True.intro
 have C7 := True.intro
 have D7 := True.intro
 refine start_ (n := 12) (S := fun w' => True) (ds := []) #[false, false, false, false, false, false, false, false, false, false, false, false] (by kernel_rfl) rfl rfl trivial (fun hHeld => ?_)
 refine with_tabW mcalltab3 mcallbits3 (fun HT_ HW_ => ?_)
 refine inv_at [0, 1, 2, 3, 4, 5, 6, 7, 8, 9, 10, 11] (fun a0_ b a w' => ∃ (g6 : Nat) (g7 : Nat) (m8_ : Value) (m9_ : Value), a = putSel a0_ b [(0, 11, .pointer (some ⟨g, 0, none⟩)), (1, 12, .pointer (some ⟨g, 0, none⟩)), (2, 13, .pointer (some ⟨g, 0, none⟩)), (3, 14, .agg KN), (4, 15, .pointer (some ⟨g, 0, none⟩)), (5, 16, .pointer (some ⟨g, 0, none⟩)), (6, 17, .pointer (some ⟨g, 35, none⟩)), (7, 18, .int .u64 d), (8, 6, m8_), (9, 7, m9_)] ∧ (Below W.heap.size W w') ∧ (b 8 = true → b 10 = false → w'.heap[g6]? = some (.cells #[.int .i64 0, .int .u32 0, .int .u32 0, .int .u32 0, .int .u32 0, .int .u32 0, .int .u16 0, .int .u16 0, .slice none 0 0, .int .i64 0] 88 (0, 0)) ∧ W.heap.size ≤ g6) ∧ (b 10 = true → w'.heap[g6]? = some (.cells KN 88 (0, 0)) ∧ W.heap.size ≤ g6) ∧ (b 9 = true → b 11 = false → w'.heap[g7]? = some (.cells #[.int .u64 0] 22 (0, 0)) ∧ W.heap.size ≤ g7) ∧ (b 11 = true → w'.heap[g7]? = some (.cells #[.int .u64 d] 22 (0, 0)) ∧ W.heap.size ≤ g7) ∧ (b 8 = true → (m8_ : Value) = .pointer (some ⟨g6, 0, none⟩)) ∧ (b 9 = true → (m9_ : Value) = .pointer (some ⟨g7, 0, none⟩))) HT_.out HW_.out (by kernel_rfl) (by kernel_rfl) ?_ ?_ ?_
 ·exact ⟨0, 0, .bool false, .bool false, by simp only [putSel, Bool.false_eq_true, if_false], below_drew (Below.refl _ _), fun h_ => absurd h_ (by decide), fun h_ => absurd h_ (by decide), fun h_ => absurd h_ (by decide), fun h_ => absurd h_ (by decide), fun h_ => absurd h_ (by decide), fun h_ => absurd h_ (by decide)⟩
 ·skip
  clear Q
  refine sc rfl ?_ ?_
  ·rintro b a w' ⟨g6, g7, m8_, m9_, ha, Q_Q, Q_C6, Q_D6, Q_C7, Q_D7, Q_X8_, Q_X9_⟩ hb_ hon hoff K hK
   have e2 : a.tmps[2]? = some (.pointer (some ⟨gb, 0, none⟩)) := by rw [ha]; exact (putSel_off rfl).trans rfl
   replace ha := Am ha
   have Q := Am Q_Q
   have hs := pw_cell_below Q.out HP0.out
   refine value_ (w1 := w') (v := .pointer (some ⟨g, 0, none⟩)) (by rfl) rfl ?_ ?_
   ·go_simp
    (try simp only [i64_w])
    try rfl
   refine hK.out _ _ ⟨g6, g7, m8_, m9_, (puk ha 0 hb_ rfl rfl rfl), Q_Q, Q_C6, fun h0_ => hof (hoff 10 (by kernel_rfl)) h0_, Q_C7, fun h0_ => hof (hoff 11 (by kernel_rfl)) h0_, Q_X8_, Q_X9_⟩
  refine sc rfl ?_ ?_
  ·rintro b a w' ⟨g6, g7, m8_, m9_, ha, Q_Q, Q_C6, Q_D6, Q_C7, Q_D7, Q_X8_, Q_X9_⟩ hb_ hon hoff K hK
   have e11 := psn ha 0 rfl rfl (hon 0 (by kernel_rfl)) rfl
   replace ha := Am ha
   refine value_ (w1 := w') (v := .pointer (some ⟨g, 0, none⟩)) (by rfl) rfl ?_ ?_
   ·go_simp
    (try simp only [i64_w])
    try rfl
   refine hK.out _ _ ⟨g6, g7, m8_, m9_, (puk ha 1 hb_ rfl rfl rfl), Q_Q, Q_C6, fun h0_ => hof (hoff 10 (by kernel_rfl)) h0_, Q_C7, fun h0_ => hof (hoff 11 (by kernel_rfl)) h0_, Q_X8_, Q_X9_⟩
  refine sc rfl ?_ ?_
  ·rintro b a w' ⟨g6, g7, m8_, m9_, ha, Q_Q, Q_C6, Q_D6, Q_C7, Q_D7, Q_X8_, Q_X9_⟩ hb_ hon hoff K hK
   have e12 := psn ha 1 rfl rfl (hon 1 (by kernel_rfl)) rfl
   replace ha := Am ha
   refine value_ (w1 := w') (v := .pointer (some ⟨g, 0, none⟩)) (by rfl) rfl ?_ ?_
   ·go_simp
    (try simp only [i64_w])
    try rfl
   refine hK.out _ _ ⟨g6, g7, m8_, m9_, (puk ha 2 hb_ rfl rfl rfl), Q_Q, Q_C6, fun h0_ => hof (hoff 10 (by kernel_rfl)) h0_, Q_C7, fun h0_ => hof (hoff 11 (by kernel_rfl)) h0_, Q_X8_, Q_X9_⟩
  refine sc rfl ?_ ?_
  ·rintro b a w' ⟨g6, g7, m8_, m9_, ha, Q_Q, Q_C6, Q_D6, Q_C7, Q_D7, Q_X8_, Q_X9_⟩ hb_ hon hoff K hK
   have e13 := psn ha 2 rfl rfl (hon 2 (by kernel_rfl)) rfl
   replace ha := Am ha
   have Q := Am Q_Q
   refine value_ (w1 := w') (v := .agg KN) (by rfl) rfl (exec_load_cells 88 (.tmp 13) rfl (eval_of e13) KN _ (fun j v hv => pw_cell_below Q.out (HKN.out j v hv)) Tryz.underlying88 rfl HKS.out) ?_
   refine hK.out _ _ ⟨g6, g7, m8_, m9_, (puk ha 3 hb_ rfl rfl rfl), Q.out, fun h0_ h1_ => (Q_C6 h0_ h1_), fun h0_ => hof (hoff 10 (by kernel_rfl)) h0_, fun h0_ h1_ => (Q_C7 h0_ h1_), fun h0_ => hof (hoff 11 (by kernel_rfl)) h0_, Q_X8_, Q_X9_⟩
  refine sc rfl ?_ ?_
  ·rintro b a w' ⟨g6, g7, m8_, m9_, ha, Q_Q, Q_C6, Q_D6, Q_C7, Q_D7, Q_X8_, Q_X9_⟩ hb_ hon hoff K hK
   have e2 : a.tmps[2]? = some (.pointer (some ⟨gb, 0, none⟩)) := by rw [ha]; exact (putSel_off rfl).trans rfl
   replace ha := Am ha
   have Q := Am Q_Q
   have hs := pw_cell_below Q.out HP0.out
   refine value_ (w1 := w') (v := .pointer (some ⟨g, 0, none⟩)) (by rfl) rfl ?_ ?_
   ·go_simp
    (try simp only [i64_w])
    try rfl
   refine hK.out _ _ ⟨g6, g7, m8_, m9_, (puk ha 4 hb_ rfl rfl rfl), Q_Q, Q_C6, Q_D6, Q_C7, fun h0_ => hof (hoff 11 (by kernel_rfl)) h0_, Q_X8_, Q_X9_⟩
  refine sc rfl ?_ ?_
  ·rintro b a w' ⟨g6, g7, m8_, m9_, ha, Q_Q, Q_C6, Q_D6, Q_C7, Q_D7, Q_X8_, Q_X9_⟩ hb_ hon hoff K hK
   have e15 := psn ha 4 rfl rfl (hon 4 (by kernel_rfl)) rfl
   replace ha := Am ha
   refine value_ (w1 := w') (v := .pointer (some ⟨g, 0, none⟩)) (by rfl) rfl ?_ ?_
   ·go_simp
    (try simp only [i64_w])
    try rfl
   refine hK.out _ _ ⟨g6, g7, m8_, m9_, (puk ha 5 hb_ rfl rfl rfl), Q_Q, Q_C6, Q_D6, Q_C7, fun h0_ => hof (hoff 11 (by kernel_rfl)) h0_, Q_X8_, Q_X9_⟩
  refine sc rfl ?_ ?_
  ·rintro b a w' ⟨g6, g7, m8_, m9_, ha, Q_Q, Q_C6, Q_D6, Q_C7, Q_D7, Q_X8_, Q_X9_⟩ hb_ hon hoff K hK
   have e16 := psn ha 5 rfl rfl (hon 5 (by kernel_rfl)) rfl
   replace ha := Am ha
   refine value_ (w1 := w') (v := .pointer (some ⟨g, 35, none⟩)) (by rfl) rfl ?_ ?_
   ·go_simp
    (try simp only [i64_w])
    try rfl
   refine hK.out _ _ ⟨g6, g7, m8_, m9_, (puk ha 6 hb_ rfl rfl rfl), Q_Q, Q_C6, Q_D6, Q_C7, fun h0_ => hof (hoff 11 (by kernel_rfl)) h0_, Q_X8_, Q_X9_⟩
  refine sc rfl ?_ ?_
  ·rintro b a w' ⟨g6, g7, m8_, m9_, ha, Q_Q, Q_C6, Q_D6, Q_C7, Q_D7, Q_X8_, Q_X9_⟩ hb_ hon hoff K hK
   have e17 := psn ha 6 rfl rfl (hon 6 (by kernel_rfl)) rfl
   replace ha := Am ha
   have Q := Am Q_Q
   have hs := pw_cell_below Q.out HD0.out
   refine value_ (w1 := w') (v := .int .u64 d) (by rfl) rfl ?_ ?_
   ·go_simp
    (try simp only [i64_w])
    try rfl
   refine hK.out _ _ ⟨g6, g7, m8_, m9_, (puk ha 7 hb_ rfl rfl rfl), Q_Q, Q_C6, Q_D6, Q_C7, fun h0_ => hof (hoff 11 (by kernel_rfl)) h0_, Q_X8_, Q_X9_⟩
  refine sc rfl ?_ ?_
  ·rintro b a w' ⟨g6, g7, m8_, m9_, ha, Q_Q, Q_C6, Q_D6, Q_C7, Q_D7, Q_X8_, Q_X9_⟩ hb_ hon hoff K hK
   replace ha := Am ha
   have Q := Am Q_Q
   refine value_ (w1 := w'.alloc (.cells #[.int .i64 0, .int .u32 0, .int .u32 0, .int .u32 0, .int .u32 0, .int .u32 0, .int .u16 0, .int .u16 0, .slice none 0 0, .int .i64 0] 88)) (v := .pointer (some ⟨w'.heap.size, 0, none⟩)) (by rfl) rfl (by go_simp; try rfl) ?_
   refine hK.out _ _ ⟨w'.heap.size, g7, (.pointer (some ⟨w'.heap.size, 0, none⟩)), m9_, (puk ha 8 hb_ rfl rfl rfl), Q.out.alloc Q.out.size _, fun _ _ => ⟨blk_new _ _, Q.out.size⟩, fun h0_ => hof (hoff 10 (by kernel_rfl)) h0_, fun h0_ h1_ => ⟨blk_alloc (Q_C7 h0_ h1_).1 _, (Q_C7 h0_ h1_).2⟩, fun h0_ => hof (hoff 11 (by kernel_rfl)) h0_, fun _ => rfl, Q_X9_⟩
  refine sc rfl ?_ ?_
  ·rintro b a w' ⟨g6, g7, m8_, m9_, ha, Q_Q, Q_C6, Q_D6, Q_C7, Q_D7, Q_X8_, Q_X9_⟩ hb_ hon hoff K hK
   replace ha := Am ha
   have Q := Am Q_Q
   refine value_ (w1 := w'.alloc (.cells #[.int .u64 0] 22)) (v := .pointer (some ⟨w'.heap.size, 0, none⟩)) (by rfl) rfl (by go_simp; try rfl) ?_
   refine hK.out _ _ ⟨g6, w'.heap.size, m8_, (.pointer (some ⟨w'.heap.size, 0, none⟩)), (puk ha 9 hb_ rfl rfl rfl), Q.out.alloc Q.out.size _, fun h0_ h1_ => ⟨blk_alloc (Q_C6 h0_ h1_).1 _, (Q_C6 h0_ h1_).2⟩, fun h0_ => hof (hoff 10 (by kernel_rfl)) h0_, fun _ _ => ⟨blk_new _ _, Q.out.size⟩, fun h0_ => hof (hoff 11 (by kernel_rfl)) h0_, Q_X8_, fun _ => rfl⟩
  refine sc rfl ?_ ?_
  ·rintro b a w' ⟨g6, g7, m8_, m9_, ha, Q_Q, Q_C6, Q_D6, Q_C7, Q_D7, Q_X8_, Q_X9_⟩ hb_ hon hoff K hK
   have e6 := psn ha 8 rfl rfl (hon 8 (by kernel_rfl)) rfl
   rw [Q_X8_ (hon 8 (by kernel_rfl))] at e6
   have e14 := psn ha 3 rfl rfl (hon 3 (by kernel_rfl)) rfl
   replace ha := Am ha
   have Q := Am Q_Q
   have C6 := Am (Q_C6 (hon 8 (by kernel_rfl)) hb_)
   have C7 := Am (Q_C7 (hon 9 (by kernel_rfl)) (hoff 11 (by kernel_rfl)))
   refine skip_ (w1 := w'.setRow g6 KN) (by rfl) rfl (exec_store_row 88 (.tmp 6) (.tmp 14) rfl (eval_of e6) (eval_of e14) C6.out.1 HKS.out HKZ.out HKO.out) ?_
   refine hK.out _ _ ⟨g6, g7, m8_, m9_, (by rw [ha.out]; exact putSel_none (v := undef) rfl), below_setRow Q.out C6.out.2 _, fun _ h1_ => absurd ((up_self b 10).symm.trans h1_) (by decide), fun _ => ⟨setRow_heap _ _ _ _ _ _ C6.out.1, C6.out.2⟩, fun _ _ => ⟨(setRow_other _ _ _ _ (typ_ne C7.out.1 C6.out.1 (by decide))).trans C7.out.1, C7.out.2⟩, fun h0_ => hof (hoff 11 (by kernel_rfl)) h0_, Q_X8_, Q_X9_⟩
  refine sc rfl ?_ ?_
  ·rintro b a w' ⟨g6, g7, m8_, m9_, ha, Q_Q, Q_C6, Q_D6, Q_C7, Q_D7, Q_X8_, Q_X9_⟩ hb_ hon hoff K hK
   have e7 := psn ha 9 rfl rfl (hon 9 (by kernel_rfl)) rfl
   rw [Q_X9_ (hon 9 (by kernel_rfl))] at e7
   have e18 := psn ha 7 rfl rfl (hon 7 (by kernel_rfl)) rfl
   replace ha := Am ha
   have Q := Am Q_Q
   have D6 := Am (Q_D6 (hon 10 (by kernel_rfl)))
   have C7 := Am (Q_C7 (hon 9 (by kernel_rfl)) hb_)
   have hs := blk_cell C7.out.1 0
   have hf := blk_frozen C7.out.1 0
   refine skip_ (w1 := w'.setCell ⟨g7, 0, none⟩ (.int .u64 d)) (by rfl) rfl (by go_simp; try rfl) ?_
   refine hK.out _ _ ⟨g6, g7, m8_, m9_, (by rw [ha.out]; exact putSel_none (v := undef) rfl), Q.out.setCell C7.out.2 _, fun _ h1_ => absurd ((hon 10 (by kernel_rfl)).symm.trans h1_) (by decide), fun _ => ⟨blk_far D6.out.1 (typ_ne D6.out.1 C7.out.1 (by decide)) _, D6.out.2⟩, fun _ h1_ => absurd ((up_self b 11).symm.trans h1_) (by decide), fun _ => ⟨blk_put C7.out.1 0 _ rfl, C7.out.2⟩, Q_X8_, Q_X9_⟩
  exact steps_nil
 rintro b a w' hall ⟨g6, g7, m8_, m9_, ha, Q_Q, Q_C6, Q_D6, Q_C7, Q_D7, Q_X8_, Q_X9_⟩
 clear Q
 have hb0_ := hall 0 (by kernel_rfl)
 have hb1_ := hall 1 (by kernel_rfl)
 have hb2_ := hall 2 (by kernel_rfl)
 have hb3_ := hall 3 (by kernel_rfl)
 have hb4_ := hall 4 (by kernel_rfl)
 have hb5_ := hall 5 (by kernel_rfl)
 have hb6_ := hall 6 (by kernel_rfl)
 have hb7_ := hall 7 (by kernel_rfl)
 have hb8_ := hall 8 (by kernel_rfl)
 have hb9_ := hall 9 (by kernel_rfl)
 have hb10_ := hall 10 (by kernel_rfl)
 have hb11_ := hall 11 (by kernel_rfl)
 subst ha
 obtain rfl := Q_X8_ hb8_
 obtain rfl := Q_X9_ hb9_
 simp only [putSel, hb0_, hb1_, hb2_, hb3_, hb4_, hb5_, hb6_, hb7_, hb8_, hb9_, hb10_, hb11_, if_true, Act.put, List.setIfInBounds_toArray, List.set_cons_zero, List.set_cons_succ]
 have Q := Am Q_Q
 clear Q_Q
 clear Q_C6
 have D6 := Am (Q_D6 hb10_)
 clear Q_D6
 clear Q_C7
 have D7 := Am (Q_D7 hb11_)
 clear Q_D7
 clear hall hb0_ hb1_ hb2_ hb3_ hb4_ hb5_ hb6_ hb7_ hb8_ hb9_ hb10_ hb11_
 have HB3 := Lh (below_then HB.out HB.out.size Q.out)
 have hrow := HG.out w' HB3.out
 have hk0 : w'.cell? ⟨gb, 0, none⟩ = some (.pointer (some ⟨g, 0, none⟩)) := pw_cell_below Q.out HP0.out
 have hs : w'.cell? ⟨g, 36, none⟩ = some (.slice none 0 0) := (blk_cell hrow 36).trans HAV.out
 have hff := blk_frozen hrow 36
 have hrow0 := blk_put hrow 36 (.slice none 0 0) rfl
 have HGB := Lh (show g < gb by rw [← hb]; exact HGL.out)
 have HGS := Lh (show gb ≤ W.heap.size by rw [← hb]; exact HB.out.size)
 have HM0 := Lh (show MA B (w'.setCell ⟨g, 36, none⟩ (.slice none 0 0)) g cs [] (w'.setCell ⟨g, 36, none⟩ (.slice none 0 0)) from ⟨blk_lt hrow0, HBG.out, HSZ.out, ⟨_, [], hrow0, Kd.R_nil _ _ _ _ _, ActsR.nil _ _⟩, Only.refl _ _⟩)
 have HO0 := Lh (show Only (· = g) w (w'.setCell ⟨g, 36, none⟩ (.slice none 0 0)) from Only.setCell (S := (· = g)) (Only.of_below HB3.out) (fun _ => rfl) _)
 have P0 := Lh (show (w'.setCell ⟨g, 36, none⟩ (.slice none 0 0)).heap[gb]? = some (.cells #[.pointer (some ⟨g, 0, none⟩)] 33 (0, 0)) from blk_far (blk_below (by rw [← hb]; exact H0.out) Q.out) (by have := HGB.out; dsimp only; omega) _)
 have P1 := Lh (show (w'.setCell ⟨g, 36, none⟩ (.slice none 0 0)).heap[gb + 1]? = some (.cells #[.slice none 0 0] 30 (0, 0)) from blk_far (blk_below (by rw [← hb]; exact H1.out) Q.out) (by have := HGB.out; dsimp only; omega) _)
 have P2 := Lh (show (w'.setCell ⟨g, 36, none⟩ (.slice none 0 0)).heap[gb + 2]? = some (.cells #[.int .i64 0] 31 (0, 0)) from blk_far (blk_below (by rw [← hb]; exact H2.out) Q.out) (by have := HGB.out; dsimp only; omega) _)
 have HC := Lh (HF.out _ HO0.out (HMS0.out _ HM0.out (Kq.of_g HO0.out HBG.out HRW.out rfl)))
 have HQ0 := Lh (Kq.of_g HO0.out HBG.out HRW.out rfl)
 have HRW0 := Lh hrow0
 have HS0 := Lh (show w.heap.size ≤ (w'.setCell ⟨g, 36, none⟩ (.slice none 0 0)).heap.size from HO0.out.size)
 have D6S := Lh (show (w'.setCell ⟨g, 36, none⟩ (.slice none 0 0)).heap[g6]? = some (.cells KN 88 (0, 0)) ∧ W.heap.size ≤ g6 from ⟨blk_far D6.out.1 (by have := HGB.out; have := HGS.out; have := D6.out.2; dsimp only; omega) _, D6.out.2⟩)
 have D7S := Lh (show (w'.setCell ⟨g, 36, none⟩ (.slice none 0 0)).heap[g7]? = some (.cells #[.int .u64 d] 22 (0, 0)) ∧ W.heap.size ≤ g7 from ⟨blk_far D7.out.1 (by have := HGB.out; have := HGS.out; have := D7.out.2; dsimp only; omega) _, D7.out.2⟩)
 clear Q D6 D7 HB3 hrow hrow0 HP0 HKN HD0 HF HG H0 H1 H2 HB HM0 HMS0
 go_wp2_with fail
 clear hk0 hs hff
 generalize w'.setCell ⟨g, 36, none⟩ (.slice none 0 0) = W0 at *
 refine HC.out.mono ?_
 intro e w2 hP
 cases r with
 | error code =>
  obtain ⟨rfl, m2, xs2, hM⟩ := hP
  have HM := Lh hM
  obtain ⟨cs2, hrow⟩ := hM.row
  have hcs2 : cs2.size = 38 := by
   obtain ⟨c3, _, _, ⟨_, _, hz, ⟨av, _, hr, _⟩, _⟩, _⟩ := hM
   rw [hrow] at hr
   injection hr with hr
   injection hr with hr
   rw [hr]
   simp [hz]
  have hO := hM.only
  have hgW := HGS.out
  have hg := HGB.out
  have q0 := hO.blk P0.out (by omega)
  have q1 := hO.blk P1.out (by omega)
  have q2 := hO.blk P2.out (by omega)
  have q6 := hO.blk D6S.out.1 (by have := D6S.out.2; omega)
  have q7 := hO.blk D7S.out.1 (by have := D7S.out.2; omega)
  have HCE := Lh (mcatch_err g6 g7 gb (gb + 1) (gb + 1 + 1) g KN d code [] w2 _ _ _ _ cs2 HKK.out HKO.out q6 q7 q0 q1 q2 hrow hcs2 (by have := D6S.out.2; omega) (by have := D7S.out.2; omega) (by omega) (by omega) (by omega) (by omega))
  have hkq : Kq B W0 w2 := Kq.of_g hO HBG.out HRW0.out rfl
  have hm1 := HM.out.back (m := m) A c HCL.out (HCK.out.mono (HQ0.out.trans hkq))
  have hm2 := hm1.toMR
  have ho2 : Only (· = g) w ((((w2.setCells g 0 (KV m A c).toList).setCell ⟨g, 35, none⟩ (.int .u64 m.d)).setCell ⟨g, 36, none⟩ (.slice none 0 0))) := ((only_setCells (S := (· = g)) (g := g) rfl _ 0 (HO0.out.trans hO (fun k _ h => h))).setCell (p := ⟨g, 35, none⟩) (fun _ => rfl) _).setCell (p := ⟨g, 36, none⟩) (fun _ => rfl) _
  have HQ1 := Lh (show (((w2.setCells g 0 (KV m A c).toList).setCell ⟨g, 35, none⟩ (.int .u64 m.d)).setCell ⟨g, 36, none⟩ (.slice none 0 0)).heap[gb + 1]? = some (.cells #[.slice none 0 0] 30 (0, 0)) from blk_far (p := ⟨g, 36, none⟩) (blk_far (p := ⟨g, 35, none⟩) ((setCells_blk w2 g (gb + 1) (by omega) _ 0).trans q1) (by dsimp only; omega) _) (by dsimp only; omega) _)
  have HQ2 := Lh (show (((w2.setCells g 0 (KV m A c).toList).setCell ⟨g, 35, none⟩ (.int .u64 m.d)).setCell ⟨g, 36, none⟩ (.slice none 0 0)).heap[gb + 1 + 1]? = some (.cells #[.int .i64 0] 31 (0, 0)) from blk_far (p := ⟨g, 36, none⟩) (blk_far (p := ⟨g, 35, none⟩) ((setCells_blk w2 g (gb + 1 + 1) (by omega) _ 0).trans q2) (by dsimp only; omega) _) (by dsimp only; omega) _)
  have HM2 := Lh hm2
  have HO2 := Lh ho2
  clear hM hrow hcs2 hO q0 q1 q2 q6 q7 hkq hm1 hm2 ho2 HM
  unfold errA
  go_wp2
  refine leaves_cons (f := 73) (args := #[.pointer (some ⟨g6, 0, none⟩), .pointer (some ⟨g7, 0, none⟩), .pointer (some ⟨gb, 0, none⟩), .pointer (some ⟨gb + 1, 0, none⟩), .pointer (some ⟨gb + 1 + 1, 0, none⟩)]) (by simp) (by simp [go_sem]) ?_
  refine HCE.out.mono ?_
  rintro e u' w'' ⟨rfl, rfl, rfl⟩
  unfold backW
  rw [← HKN0.out, ← HDD.out]
  generalize (((w2.setCells g 0 (KV m A c).toList).setCell ⟨g, 35, none⟩ (.int .u64 m.d)).setCell ⟨g, 36, none⟩ (.slice none 0 0)) = W3 at *
  have z1 := blk_put HQ1.out 0 (.slice none 0 0) rfl
  have z2 := blk_far (p := ⟨gb + 1 + 1, 0, none⟩) z1 (by dsimp only; omega) (.int .i64 code)
  have z3 := blk_put (blk_far (p := ⟨gb + 1, 0, none⟩) HQ2.out (by dsimp only; omega) (.slice none 0 0)) 0 (.int .i64 code) rfl
  obtain ⟨csr, hr3⟩ := HM2.out.row
  have hgb2 := blk_lt HQ2.out
  have hb2 : Below gb W3 ((W3.setCell ⟨gb + 1, 0, none⟩ (.slice none 0 0)).setCell ⟨gb + 1 + 1, 0, none⟩ (.int .i64 code)) := ((Below.refl gb W3).setCell (p := ⟨gb + 1, 0, none⟩) (by dsimp only; omega) _).setCell (p := ⟨gb + 1 + 1, 0, none⟩) (by dsimp only; omega) _
  have kq2 : Kq B W3 ((W3.setCell ⟨gb + 1, 0, none⟩ (.slice none 0 0)).setCell ⟨gb + 1 + 1, 0, none⟩ (.int .i64 code)) := (kq_cell HQ1.out rfl (by have := HBG.out; omega) 0 _).trans (kq_cell (blk_far (p := ⟨gb + 1, 0, none⟩) HQ2.out (by dsimp only; omega) (.slice none 0 0)) rfl (by have := HBG.out; omega) 0 _)
  refine ⟨_, call_results _ _ _ _ _ _ rfl rfl z2 z3, ?_, rfl, HM2.out.moved kq2 (hb2.block g (by omega))⟩
  have hgb : gb = w.heap.size := hb.symm
  exact (HO2.out.setCell (p := ⟨gb + 1, 0, none⟩) (fun h => absurd h (by dsimp only; omega)) _).setCell (p := ⟨gb + 1 + 1, 0, none⟩) (fun h => absurd h (by dsimp only; omega)) _
 | ok mx =>
 obtain ⟨m', xs⟩ := mx
 obtain ⟨rfl, hMS⟩ := hP
 have HMS := Lh hMS
 obtain ⟨cs', A', c', hM, hcs', hcl', hck'⟩ := hMS
 obtain ⟨hlt, hbg2, hsz2, ⟨av, rs, hrow, hR, hAR⟩, hO⟩ := hM
 obtain ⟨A2, c2, hav2⟩ := Kd.R_slice hR
 subst hav2
 have q0 := hO.blk P0.out (by have := HGB.out; omega)
 have q1 := hO.blk P1.out (by have := HGB.out; omega)
 have q2 := hO.blk P2.out (by have := HGB.out; omega)
 have k0 : w2.cell? ⟨gb, 0, none⟩ = some (.pointer (some ⟨g, 0, none⟩)) := blk_cell q0 0
 have k1 : w2.cell? ⟨gb + 1, 0, none⟩ = some (.slice none 0 0) := blk_cell q1 0
 have k2 : w2.cell? ⟨gb + 2, 0, none⟩ = some (.int .i64 0) := blk_cell q2 0
 have km : w2.cell? ⟨g, 36, none⟩ = some (.slice A2 rs.length c2) := (blk_cell hrow 36).trans (by simp [hsz2])
 have f1 := blk_frozen q1 0
 have f2 := blk_frozen q2 0
 have fm := blk_frozen hrow 36
 have HROW := Lh hrow
 have HR := Lh hR
 have HO := Lh hO
 have HLT := Lh hlt
 have Q1 := Lh q1
 have Q2 := Lh q2
 have HGB2 := Lh (show gb + 2 < W0.heap.size from blk_lt P2.out)
 have ng1 : ¬ g = gb + 1 := by have := HGB.out; omega
 have ng1' : ¬ gb + 1 = g := by have := HGB.out; omega
 have ng2 : ¬ gb + 2 = g := by have := HGB.out; omega
 have ng0 : ¬ gb = g := by have := HGB.out; omega
 clear hrow hR hO q0 q1 q2 HC P0 P1 P2 hlt
 go_wp2
 refine leaves_cons (f := 73) (args := #[.pointer (some ⟨g6, 0, none⟩), .pointer (some ⟨g7, 0, none⟩), .pointer (some ⟨gb, 0, none⟩), .pointer (some ⟨gb + 1, 0, none⟩), .pointer (some ⟨gb + 1 + 1, 0, none⟩)]) (by simp) (by simp [go_sem]) ?_
 refine (mcatch_idle _ _ _ _ _ _).mono ?_
 rintro e u' w'' ⟨rfl, rfl, rfl⟩
 have z1 := blk_put Q1.out 0 (.slice A2 rs.length c2) rfl
 have z2 := blk_far (p := ⟨g, 36, none⟩) z1 (by dsimp only; omega) (.slice none 0 0)
 have z3 := blk_put z2 0 (.slice A2 rs.length c2) rfl
 have z4 := blk_far (p := ⟨gb + 1 + 1, 0, none⟩) z3 (by dsimp only; omega) (.int .i64 0)
 have y1 := blk_far (p := ⟨gb + 1, 0, none⟩) Q2.out (by dsimp only; omega) (.slice A2 rs.length c2)
 have y2 := blk_far (p := ⟨g, 36, none⟩) y1 (by dsimp only; omega) (.slice none 0 0)
 have y3 := blk_far (p := ⟨gb + 1, 0, none⟩) y2 (by dsimp only; omega) (.slice A2 rs.length c2)
 have y4 := blk_put y3 0 (.int .i64 0) rfl
 have x1 := blk_far (p := ⟨gb + 1, 0, none⟩) HROW.out (by dsimp only; omega) (.slice A2 rs.length c2)
 have x2 := blk_put x1 36 (.slice none 0 0) rfl
 have x3 := blk_far (p := ⟨gb + 1, 0, none⟩) x2 (by dsimp only; omega) (.slice A2 rs.length c2)
 have x4 := blk_far (p := ⟨gb + 1 + 1, 0, none⟩) x3 (by dsimp only; omega) (.int .i64 0)
 have hgs := HGB2.out
 have far : ∀ (p : Addr), p.block < W0.heap.size → ∀ k, W0.heap.size ≤ k → k ≠ p.block := fun p h k hk e => by omega
 have r1 := Kd.R_far (R_base HR.out) (p := ⟨gb + 1, 0, none⟩) (far _ (by dsimp only; omega)) (.slice A2 rs.length c2)
 have r2 := Kd.R_far r1 (p := ⟨g, 36, none⟩) (far _ (by dsimp only; have := HGB.out; omega)) (.slice none 0 0)
 have r3 := Kd.R_far r2 (p := ⟨gb + 1, 0, none⟩) (far _ (by dsimp only; omega)) (.slice A2 rs.length c2)
 have r4 := Kd.R_far r3 (p := ⟨gb + 1 + 1, 0, none⟩) (far _ (by dsimp only; omega)) (.int .i64 0)
 have kq1 := kq_cell Q1.out rfl (by have := HBG.out; have := HGB.out; omega : B ≤ gb + 1) 0 (.slice A2 rs.length c2)
 have kq2 := kq_cell x1 rfl HBG.out 36 (.slice none 0 0)
 have kq3 := kq_cell z2 rfl (by have := HBG.out; have := HGB.out; omega : B ≤ gb + 1) 0 (.slice A2 rs.length c2)
 have kq4 := kq_cell y3 rfl (by have := HBG.out; have := HGB.out; omega : B ≤ gb + 2) 0 (.int .i64 0)
 have kqa := ((kq1.trans kq2).trans kq3).trans kq4
 have o1 := HO0.out.trans HO.out (fun k _ h => h)
 have hgb : gb = w.heap.size := hb.symm
 refine ⟨_, call_results _ _ _ _ _ _ rfl rfl z4 y4, (((o1.setCell (p := ⟨gb + 1, 0, none⟩) (fun h => absurd h (by dsimp only; omega)) _).setCell (p := ⟨g, 36, none⟩) (fun _ => rfl) _).setCell (p := ⟨gb + 1, 0, none⟩) (fun h => absurd h (by dsimp only; omega)) _).setCell (p := ⟨gb + 1 + 1, 0, none⟩) (fun h => absurd h (by dsimp only; omega)) _, ⟨_, rfl, rs, Kd.R_mono (Kd.R_lower r4 HS0.out) (fun _ _ => trivial), hAR.mono kqa⟩, HBG.out, _, A', c', x4, set_at (by simp [hsz2]), (hcs'.set36 _).set36 _, hcl', hck'.mono kqa⟩
end Go.Proofs.YthiaakjbapgibaaGreat.As
end
section
namespace Go.Proofs.YthiaakjbapgibaaGreat.Base
open Go
section
variable {P : Program} {l : List Oper} {Q : Exit → Act → World → Prop}
theorem wpQuiet_val {ops : Array Oper} {C : World → Prop} {Q : Act → Prop} {o : Oper} {rest : List Oper} {a : Act} {v : Value} (hg : o.guard = none) (h : ∀ w, C w → (execOp a.eval o).run P w = .ok (.value v) w) (hk : wpQuiet P ops C Q rest (a.put o.dst v)) : wpQuiet P ops C Q (o :: rest) a := by
 unfold wpQuiet
 rw [if_pos (by simp [Region.wanted, hg])]
 refine ⟨v, fun w hw => ?_, hk⟩
 unfold Oper.quietAt
 rw [h w hw]
 exact ⟨rfl, rfl⟩
def ClB (ops : Array Oper) (L : Array Bool) : Bool := (List.range ops.size).all fun j => !L.getD j false || ((ops[j]?).map (·.after.toList.all fun e => !Region.binds .any e || L.getD e.on false)).getD true
theorem cl_of {ops : Array Oper} {L : Array Bool} (h : ClB ops L = true) : Cl .any ops L := by
 intro j o hj hl e he hb
 have h1 := List.all_eq_true.1 h j (List.mem_range.2 (Array.getElem?_eq_some_iff.1 hj).1)
 rw [hl, hj] at h1
 simp only [Bool.not_true, Bool.false_or, Option.map_some, Option.getD_some] at h1
 have h2 := List.all_eq_true.1 h1 e (by simpa using he)
 rw [hb] at h2
 simpa using h2
def AnyAt (P : Program) (l : List Oper) (Q : Exit → Act → World → Prop) (k : Nat) (a : Act) (w : World) : Prop := wpAny P .any l.toArray Q (l.length - k) (L0 l.toArray k) a w
theorem L0_zero (ops : Array Oper) : L0 ops 0 = Array.replicate ops.size false := by
 unfold L0
 apply Array.ext
 ·simp
 ·intro i h1 h2
  simp
theorem any_start {id : Nat} {a : Act} {w : World} (hm : P.follows .mixedOrders = true) (h : AnyAt P l Q 0 a (w.drewN 1)) : (Code.region id l.toArray true).wp P Q a w := by
 refine wp_region_any hm ?_
 unfold AnyAt at h
 rw [L0_zero] at h
 exact h
def quietB (l : List Oper) (k n : Nat) : Bool := Region.noSelect l.toArray && Nat.ble (k + n) l.length && ClB l.toArray (L0 l.toArray k) && (Region.ready .any l.toArray (L0 l.toArray (k + n))).all (fun j => j == k + n && lastB .any l.toArray (k + n)) && thenFrom .any l.toArray (L0 l.toArray (k + n)) (k + n) n k (L0 l.toArray k)
theorem any_quiet' (k n : Nat) {a : Act} {w w1 : World} (hw : ∃ n, w1 = w.drewN n) (hB : quietB l k n = true)
  (h : wpQuiet P l.toArray (fun w' => ∃ n, w' = w.drewN n) (fun a' => ∀ w', (∃ n, w' = w.drewN n) → AnyAt P l Q (k + n) a' w') ((l.drop k).take n) a) : AnyAt P l Q k a w1 := by
 unfold quietB at hB
 simp only [Bool.and_eq_true] at hB
 obtain ⟨⟨⟨⟨h1, h2⟩, h3⟩, h4⟩, h5⟩ := hB
 have hk : k + n ≤ l.length := Nat.le_of_ble_eq_true h2
 unfold AnyAt
 rw [show l.length - k = n + (l.length - (k + n)) by omega]
 refine wpAny_of_E (C := fun w' => ∃ n, w' = w.drewN n) (E := fun li a' => li = L0 l.toArray (k + n) ∧ ∀ w', (∃ n, w' = w.drewN n) → AnyAt P l Q (k + n) a' w') (fun li a' w' hw' hE => ?_) n _ a _ hw ?_
 ·obtain ⟨rfl, hq⟩ := hE
  exact hq w' hw'
 ·have hl : ((l.drop k).take n).length = n := by simp; omega
  have := wpAnyE_lex' (P := P) (C := fun w' => ∃ n, w' = w.drewN n) (Q := fun a' => ∀ w', (∃ n, w' = w.drewN n) → AnyAt P l Q (k + n) a' w') (k := k + n) (fun j hj => by
    have := List.all_eq_true.1 h4 j hj
    simp only [Bool.and_eq_true] at this
    exact ⟨by simpa using this.1, this.2⟩) h1 ((l.drop k).take n) k (L0 l.toArray k) a (cl_of h3)
   (fun i hi => by rw [List.getElem?_take_of_lt (by rw [hl] at hi; exact hi), List.getElem?_drop]; simp) (by rw [hl]; exact h5) h
  rwa [hl] at this
theorem any_quiet (k n : Nat) {a : Act} {w : World} (hB : quietB l k n = true)
  (h : wpQuiet P l.toArray (fun w' => ∃ n, w' = w.drewN n) (fun a' => ∀ w', (∃ n, w' = w.drewN n) → AnyAt P l Q (k + n) a' w') ((l.drop k).take n) a) : AnyAt P l Q k a w := any_quiet' k n ⟨0, rfl⟩ hB h
theorem any_begin {id : Nat} (n : Nat) {a : Act} {w : World} (hm : P.follows .mixedOrders = true) (hB : quietB l 0 n = true)
  (h : wpQuiet P l.toArray (fun w' => ∃ n, w' = w.drewN n) (fun a' => ∀ w', (∃ n, w' = w.drewN n) → AnyAt P l Q n a' w') (l.take n) a) : (Code.region id l.toArray true).wp P Q a w :=
 any_start hm (any_quiet' 0 n ⟨1, rfl⟩ hB (by rw [Nat.zero_add]; exact h))
def oneB (l : List Oper) (k : Nat) : Bool := (Region.ready .any l.toArray (L0 l.toArray k) == [k]) && ((L0 l.toArray k).setIfInBounds k true == L0 l.toArray (k + 1)) && Nat.blt k l.length
theorem any_one (k : Nat) {a : Act} {w : World} {o : Oper} (hB : oneB l k = true) (ho : l[k]? = some o) (h : ∀ K : Act → World → Prop, (∀ a w, AnyAt P l Q (k + 1) a w → K a w) → if Region.wanted o (yielded l.toArray a.tmps) = true then o.wp P a w K Q else K (a.put o.dst undef) w) : AnyAt P l Q k a w := by
 unfold oneB at hB
 simp only [Bool.and_eq_true] at hB
 obtain ⟨⟨h1, h2⟩, h3⟩ := hB
 have hr : Region.ready .any l.toArray (L0 l.toArray k) = [k] := by simpa using h1
 have hs : (L0 l.toArray k).setIfInBounds k true = L0 l.toArray (k + 1) := by simpa using h2
 have hk : k < l.length := Nat.le_of_ble_eq_true h3
 have H := h (AnyAt P l Q (k + 1)) (fun _ _ h => h)
 unfold AnyAt
 rw [show l.length - k = (l.length - (k + 1)) + 1 by omega]
 refine ⟨fun h1 => (by rw [hr] at h1; cases h1), fun i hi => ?_⟩
 rw [hr] at hi
 obtain rfl := List.mem_singleton.1 hi
 have h0 : l.toArray[i]? = some o := by simpa using ho
 rw [hs]
 unfold wpOp
 simp only [h0]
 split
 ·rename_i hw
  rw [if_pos hw] at H
  exact Or.inl H
 ·rename_i hw
  rw [if_neg hw] at H
  exact H
def takeB (l : List Oper) (k : Nat) : Bool := Region.noSelect l.toArray && Region.free .any l.toArray (L0 l.toArray k) k && (Region.ready .any l.toArray (L0 l.toArray k)).contains k && ((L0 l.toArray k).setIfInBounds k true == L0 l.toArray (k + 1)) && Nat.blt k l.length
theorem any_end (k : Nat) {a : Act} {w : World} (hk : k = l.length) (hB : (Region.ready .any l.toArray (L0 l.toArray k)).isEmpty = true) (h : Q .normal a w) : AnyAt P l Q k a w := by
 unfold AnyAt
 rw [show l.length - k = 0 by omega]
 exact ⟨by simpa using hB, h⟩
end
end Go.Proofs.YthiaakjbapgibaaGreat.Base
end
section
namespace Go.Proofs.YthiaakjbapgibaaGreat.Base
open Go.RowKit YthiaakjbapgibaaGreatW.PrintWords YthiaakjbapgibaaGreatW.PrintLast
theorem wanted_none0 {ops : Array Oper} {a : Act} {o : Oper} (h : o.guard = none) : Region.wanted o (yielded ops a.tmps) = true := by unfold Region.wanted; rw [h]
theorem set_same {α : Type} {l : List α} {k : Nat} {x : α} (h : l[k]? = some x) : l.set k x = l := by
 obtain ⟨h1, h2⟩ := List.getElem?_eq_some_iff.1 h
 rw [← h2, List.set_getElem_self]
def celSel (CD : Array Value) (b : Nat → Bool) (LS : List (Nat × Tmp × Value)) : Array Value := (putSel ⟨CD, []⟩ b LS).tmps
theorem celSel_size (CD : Array Value) (b : Nat → Bool) (LS : List (Nat × Tmp × Value)) : (celSel CD b LS).size = CD.size := (putSel_size b LS ⟨CD, []⟩).1
theorem putSel_congr {b b' : Nat → Bool} : ∀ {L : List (Nat × Tmp × Value)} {a : Act}, (∀ e ∈ L, b e.1 = b' e.1) → putSel a b L = putSel a b' L
 | [], _, _ => rfl
 | e :: r, a, h => by
  unfold putSel
  rw [h e List.mem_cons_self]
  exact putSel_congr (fun x hx => h x (List.mem_cons_of_mem _ hx))
def CpI (W : World) (gd : Nat) (T : TypeId) (CD : Array Value) (L LS : List (Nat × Tmp × Value)) (a0 : Act) (b : Nat → Bool) (a : Act) (w : World) : Prop :=
 a = putSel a0 b L ∧ Only (· = gd) W w ∧ w.heap[gd]? = some (.cells (celSel CD b LS) T (0, 0))
section
variable {P : Program} {ops : Array Oper} {Q : Exit → Act → World → Prop} {B O : List Nat} {W : World} {gd : Nat} {T : TypeId} {CD : Array Value} {L LS : List (Nat × Tmp × Value)} {a0 : Act}
theorem cp_addr (i k : Nat) (p : Tmp) {t : Tmp} {gq j : Nat} {oi : Oper} (ho : ops[i]? = some oi) (hg : oi.guard = none) (hd : oi.dst = some t) (hL : L[k]? = some (i, t, .pointer (some ⟨gq, j, none⟩)))
  (hdist : ((L.take k ++ L.drop (k + 1)).all fun e => !(e.1 == i) && !(e.2.1 == t)) = true) (hLS : (LS.all fun e => !(e.1 == i)) = true) (hpl : (L.all fun e => !(e.2.1 == p)) = true) (hp : a0.tmps[p]? = some (.pointer (some ⟨gq, 0, none⟩)))
  (hrun : ∀ (a : Act) (w : World), a.tmps[p]? = some (.pointer (some ⟨gq, 0, none⟩)) → (execOp a.eval oi).run P w = .ok (.value (.pointer (some ⟨gq, j, none⟩))) w) : StepAt P ops Q B O (CpI W gd T CD L LS a0) i := by
 rintro b a w ⟨ha, hO, hC⟩ hb hon hoff
 refine ⟨oi, ho, fun K hK => ?_⟩
 rw [hd]
 refine value_ (w1 := w) (v := .pointer (some ⟨gq, j, none⟩)) (wanted_none0 hg) hd (hrun a w (by rw [ha]; exact (putSel_off hpl).trans hp)) (hK.out _ _ ⟨?_, hO, ?_⟩)
 ·rw [ha]
  exact putSel_upk k hb hL (set_same hL) hdist
 ·rw [hC]
  unfold celSel
  rw [putSel_same hLS]
theorem cp_op (i k kp qp : Nat) {t : Tmp} {v : Value} {ep : Nat × Tmp × Value} {oi : Oper} (ho : ops[i]? = some oi) (hg : oi.guard = none) (hd : oi.dst = some t) (hL : L[k]? = some (i, t, v))
  (hdist : ((L.take k ++ L.drop (k + 1)).all fun e => !(e.1 == i) && !(e.2.1 == t)) = true) (hLS : (LS.all fun e => !(e.1 == i)) = true)
  (hP : L[kp]? = some ep) (hPd : ((L.drop (kp + 1)).all fun x => !(x.2.1 == ep.2.1)) = true) (hq : ep.1 = qp) (hon : (O.contains qp && (B.getD i 0).testBit qp) = true) (hsz : Nat.ble (ep.2.1 + 1) a0.tmps.size = true)
  (hrun : ∀ (a : Act) (w : World), Only (· = gd) W w → a.tmps[ep.2.1]? = some ep.2.2 → (execOp a.eval oi).run P w = .ok (.value v) w) : StepAt P ops Q B O (CpI W gd T CD L LS a0) i := by
 rintro b a w ⟨ha, hO, hC⟩ hb hon' hoff
 refine ⟨oi, ho, fun K hK => ?_⟩
 rw [hd]
 refine value_ (w1 := w) (v := v) (wanted_none0 hg) hd (hrun a w hO (by rw [ha]; exact putSel_on kp hP hPd (hon' _ (hq ▸ hon)) hsz)) (hK.out _ _ ⟨?_, hO, ?_⟩)
 ·rw [ha]
  exact putSel_upk k hb hL (set_same hL) hdist
 ·rw [hC]
  unfold celSel
  rw [putSel_same hLS]
theorem cp_store (i k kp kv qp qv : Nat) {j : Nat} {v : Value} {ep ev : Nat × Tmp × Value} {oi : Oper} (ho : ops[i]? = some oi) (hg : oi.guard = none) (hd : oi.dst = none) (hLk : LS[k]? = some (i, j, v))
  (hdist : ((LS.take k ++ LS.drop (k + 1)).all fun e => !(e.1 == i) && !(e.2.1 == j)) = true) (hLi : (L.all fun e => !(e.1 == i)) = true) (hj : j < CD.size)
  (hP : L[kp]? = some ep) (hPd : ((L.drop (kp + 1)).all fun x => !(x.2.1 == ep.2.1)) = true) (hqp : ep.1 = qp) (hPo : (O.contains qp && (B.getD i 0).testBit qp) = true) (hsz : Nat.ble (ep.2.1 + 1) a0.tmps.size = true)
  (hV : L[kv]? = some ev) (hVd : ((L.drop (kv + 1)).all fun x => !(x.2.1 == ev.2.1)) = true) (hqv : ev.1 = qv) (hVo : (O.contains qv && (B.getD i 0).testBit qv) = true) (hvz : Nat.ble (ev.2.1 + 1) a0.tmps.size = true)
  (hrun : ∀ (a : Act) (w : World) (old : Value), a.tmps[ep.2.1]? = some ep.2.2 → a.tmps[ev.2.1]? = some ev.2.2 → w.cell? ⟨gd, j, none⟩ = some old → w.frozen? ⟨gd, j, none⟩ = false → (execOp a.eval oi).run P w = .ok .skip (w.setCell ⟨gd, j, none⟩ v)) : StepAt P ops Q B O (CpI W gd T CD L LS a0) i := by
 rintro b a w ⟨ha, hO, hC⟩ hb hon' hoff
 refine ⟨oi, ho, fun K hK => ?_⟩
 obtain ⟨old, hold⟩ : ∃ old, (celSel CD b LS)[j]? = some old := ⟨_, Array.getElem?_eq_getElem (by rw [celSel_size]; exact hj)⟩
 rw [hd]
 refine skip_ (w1 := w.setCell ⟨gd, j, none⟩ v) (wanted_none0 hg) hd (hrun a w old (by rw [ha]; exact putSel_on kp hP hPd (hon' _ (hqp ▸ hPo)) hsz) (by rw [ha]; exact putSel_on kv hV hVd (hon' _ (hqv ▸ hVo)) hvz) ((blk_cell hC j).trans hold) (blk_frozen hC j)) (hK.out _ _ ⟨?_, hO.setCell (fun _ => rfl) v, ?_⟩)
 ·rw [ha]
  exact (putSel_same hLi).symm
 ·refine blk_put hC j v ?_
  have := congrArg Act.tmps (putSel_upk (a := ⟨CD, []⟩) k hb hLk (set_same hLk) hdist)
  exact this
theorem copy_region {id : Nat} (O L LS : List _) {n : Nat} {l : Array Bool} {Tb : Bool × List (List Nat × List Nat)} (hm : P.follows .mixedOrders = true) (hn : ops.size = n) (hl : Array.replicate n false = l) (hT : rtab .any ops = Tb) (hw : waitsOk Tb.2 B = true) (hk : baseOk Tb.2 O = true) (hl2 : (lof Tb.2.length O (fun _ => false) == l.toList && O.length == n) = true)
  (hLO : (L.all fun e => O.contains e.1) = true) (hSO : (LS.all fun e => O.contains e.1) = true) (hC : W.heap[gd]? = some (.cells CD T (0, 0))) (hs : ∀ i ∈ O, StepAt P ops Q B O (CpI W.drew gd T CD L LS a0) i)
  (hend : ∀ w, Only (· = gd) W w → w.heap[gd]? = some (.cells (celSel CD (fun _ => true) LS) T (0, 0)) → Q .normal (putSel a0 (fun _ => true) L) w) : Code.wp P (Code.region id ops true) Q a0 W := by
 refine start_ (S := fun _ => True) (ds := []) l hm hn hl trivial (fun _ => ?_)
 refine inv_at O (fun a0 => CpI W.drew gd T CD L LS a0) hT hw hk hl2 ⟨?_, Only.refl _ _, ?_⟩ hs ?_
 ·clear hLO hSO hs hC hend
  induction L with
  | nil => rfl
  | cons e r ih => unfold putSel; exact ih
 ·have h0 : celSel CD (fun _ => false) LS = CD := by
   clear hLO hSO hs hend
   unfold celSel
   induction LS with
   | nil => rfl
   | cons e r ih => unfold putSel; exact ih
  rw [h0]
  exact hC
 ·rintro b a w hall ⟨ha, hO, hC'⟩
  have e1 : putSel a0 b L = putSel a0 (fun _ => true) L := putSel_congr (fun e he => hall _ (List.all_eq_true.1 hLO e he))
  have e2 : celSel CD b LS = celSel CD (fun _ => true) LS := congrArg Act.tmps (putSel_congr (fun e he => hall _ (List.all_eq_true.1 hSO e he)))
  rw [ha, e1]
  exact hend w ⟨hO.os, hO.tape, hO.output, hO.size, hO.block⟩ (by rw [hC', e2])
end
end Go.Proofs.YthiaakjbapgibaaGreat.Base
end
section
namespace Go.Proofs.YthiaakjbapgibaaGreat.Base
open Go.RowKit YthiaakjbapgibaaGreatW.PrintWords YthiaakjbapgibaaGreatW.PrintLast
abbrev Sel := List (Nat × Tmp × Value)
def Rd (O B : List Nat) (i : Nat) (L : (Nat → Value) → Sel) (a0 : Act) (p : Tmp) (f : (Nat → Value) → Value) : Prop :=
 ∀ (b : Nat → Bool) (vs : Nat → Value), (∀ j, (O.contains j && (B.getD i 0).testBit j) = true → b j = true) → (∀ d, (O.contains d && (B.getD d 0).testBit i) = true → b d = false) → (putSel a0 b (L vs)).tmps[p]? = some (f vs)
def Ar (O B : List Nat) (i : Nat) (L : (Nat → Value) → Sel) (a0 : Act) (os : List Operand) (vals : List Value) : Prop :=
 ∀ (b : Nat → Bool) (vs : Nat → Value), (∀ j, (O.contains j && (B.getD i 0).testBit j) = true → b j = true) → (∀ d, (O.contains d && (B.getD d 0).testBit i) = true → b d = false) → os.map (putSel a0 b (L vs)).eval = vals
section
variable {P : Program} {ops : Array Oper} {Q : Exit → Act → World → Prop} {B O C : List Nat} {W : World} {I : Nat → Value → World → Prop} {u0 : Value} {L : (Nat → Value) → Sel} {a0 : Act} {i : Nat} {p : Tmp}
theorem rd_on {f : (Nat → Value) → Value} (kp qp : Nat) (hP : ∀ vs, (L vs)[kp]? = some (qp, p, f vs)) (hPd : ∀ vs, ((L vs).drop (kp + 1)).all (fun x => !(x.2.1 == p)) = true) (hon : (O.contains qp && (B.getD i 0).testBit qp) = true) (hsz : Nat.ble (p + 1) a0.tmps.size = true) : Rd O B i L a0 p f :=
 fun b vs h1 h2 => putSel_on kp (hP vs) (hPd vs) (h1 qp hon) hsz
theorem rd_off {v : Value} (h : ∀ vs, (L vs).all (fun e => !(e.2.1 == p)) = true) (hp : a0.tmps[p]? = some v) : Rd O B i L a0 p (fun _ => v) := fun b vs _ _ => (putSel_off (h vs)).trans hp
theorem ar_n : Ar O B i L a0 [] [] := fun _ _ _ _ => rfl
theorem ar_t {v : Value} {os : List Operand} {vals : List Value} (h0 : Rd O B i L a0 p (fun _ => v)) (h : Ar O B i L a0 os vals) : Ar O B i L a0 (.tmp p :: os) (v :: vals) := fun b vs h1 h2 => by rw [List.map_cons, h b vs h1 h2, eval_of (h0 b vs h1 h2)]
end
end Go.Proofs.YthiaakjbapgibaaGreat.Base
end
section
namespace Go.Proofs.YthiaakjbapgibaaGreat.Base
open Go.RowKit YthiaakjbapgibaaGreatW.PrintWords YthiaakjbapgibaaGreatW.PrintLast
def GrK (C : List Nat) (I : Nat → World → Prop) (L : Sel) (a0 : Act) (b : Nat → Bool) (a : Act) (w : World) : Prop :=
 ∃ s, s ≤ C.length ∧ (∀ j c, C[j]? = some c → (j < s → b c = true) ∧ (s ≤ j → b c = false)) ∧ a = putSel a0 b L ∧ I s w
theorem putSel_skip {b : Nat → Bool} {i : Nat} {L : Sel} {a : Act} (h : L.all (fun e => !(e.1 == i)) = true) : putSel a (up b i) L = putSel a b L :=
 putSel_congr (fun e he => up_ne (by have := List.all_eq_true.1 h e he; simpa using this))
section
variable {P : Program} {ops : Array Oper} {Q : Exit → Act → World → Prop} {B O C : List Nat} {W : World} {I : Nat → World → Prop} {L : Sel} {a0 : Act} {i : Nat} {p : Tmp}
theorem gk_op (J : World → Prop) (i k : Nat) {t : Tmp} {u v : Value} {oi : Oper} (ho : ops[i]? = some oi) (hg : oi.guard = none) (hd : oi.dst = some t) (hL : L[k]? = some (i, t, v))
  (hdist : (L.take k ++ L.drop (k + 1)).all (fun e => !(e.1 == i) && !(e.2.1 == t)) = true) (hC : C.contains i = false) (hr : Rd O B i (fun _ => L) a0 p (fun _ => u)) (hJ : ∀ s w, I s w → J w)
  (hrun : ∀ (a : Act) (w : World), J w → a.tmps[p]? = some u → (execOp a.eval oi).run P w = .ok (.value v) w) : StepAt P ops Q B O (GrK C I L a0) i := by
 rintro b a w ⟨s, h0, h1, ha, hI⟩ hb hon hoff
 refine ⟨oi, ho, fun K hK => ?_⟩
 rw [hd]
 refine value_ (w1 := w) (v := v) (wanted_none0 hg) hd (hrun a w (hJ _ _ hI) (by rw [ha]; exact hr b (fun _ => undef) hon hoff)) (hK.out _ _ ⟨s, h0, fun j c hc => ?_, ?_, hI⟩)
 ·have hne : c ≠ i := fun e => by
   rw [e] at hc
   have := List.mem_of_getElem? hc
   rw [List.contains_iff_mem.2 this] at hC
   cases hC
  rw [up_ne hne]
  exact h1 j c hc
 ·rw [ha]
  exact putSel_upk k hb hL (set_same hL) hdist
theorem gk_step (i m : Nat) (hm : C[m]? = some i) (hnd : (C.take m ++ C.drop (m + 1)).contains i = false) (hprev : (C.take m).all (fun q => O.contains q && (B.getD i 0).testBit q) = true)
  {b : Nat → Bool} {a : Act} {w : World} (hI : GrK C I L a0 b a w) (hb : b i = false) (hon : ∀ j, (O.contains j && (B.getD i 0).testBit j) = true → b j = true) :
  a = putSel a0 b L ∧ I m w ∧ ∀ a' w', a' = putSel a0 (up b i) L → I (m + 1) w' → GrK C I L a0 (up b i) a' w' := by
 obtain ⟨s, h0, h1, ha, hI⟩ := hI
 have hs : s = m := by
  have e1 := h1 m i hm
  rcases Nat.lt_trichotomy s m with h | h | h
  ·have hlt : s < C.length := by
    have := (List.getElem?_eq_some_iff.1 hm).1
    omega
   have hc := List.getElem?_eq_getElem hlt
   have e2 := (h1 s _ hc).2 (Nat.le_refl _)
   have e3 := List.all_eq_true.1 hprev C[s] (List.mem_take_iff_getElem.2 ⟨s, by omega, rfl⟩)
   rw [hon _ e3] at e2
   cases e2
  ·exact h
  ·rw [e1.1 h] at hb
   cases hb
 subst hs
 refine ⟨ha, hI, fun a' w' ha' hI' => ⟨s + 1, ?_, fun j c hc => ?_, ha', hI'⟩⟩
 ·have := (List.getElem?_eq_some_iff.1 hm).1
  omega
 ·by_cases hj : j = s
  ·subst hj
   rw [hm] at hc
   injection hc with hc
   subst hc
   exact ⟨fun _ => up_self _ _, fun h => absurd h (by omega)⟩
  ·have hne : c ≠ i := fun e => by
    subst e
    have hmem : c ∈ C.take s ++ C.drop (s + 1) := by
     rw [List.mem_append]
     have hl := (List.getElem?_eq_some_iff.1 hc)
     obtain ⟨hl1, hl2⟩ := hl
     by_cases h : j < s
     ·exact Or.inl (List.mem_take_iff_getElem.2 ⟨j, by omega, hl2⟩)
     ·refine Or.inr (List.mem_drop_iff_getElem.2 ⟨j - (s + 1), by omega, ?_⟩)
      rw [← hl2]
      congr 1
      omega
    rw [List.contains_iff_mem.2 hmem] at hnd
    cases hnd
   rw [up_ne hne]
   have := h1 j c hc
   exact ⟨fun h => this.1 (by omega), fun h => this.2 (by omega)⟩
theorem gk_call (i k m : Nat) {t : Tmp} {v : Value} {vals : List Value} {oi : Oper} {f : FuncId} {fn : Func} {ax : Array Operand} {ts : Array TypeId} (ho : ops[i]? = some oi) (hg : oi.guard = none) (hd : oi.dst = some t) (hm : C[m]? = some i) (hL : L[k]? = some (i, t, v))
  (hdist : (L.take k ++ L.drop (k + 1)).all (fun e => !(e.1 == i) && !(e.2.1 == t)) = true) (hnd : (C.take m ++ C.drop (m + 1)).contains i = false) (hprev : (C.take m).all (fun q => O.contains q && (B.getD i 0).testBit q) = true)
  (hf : P.funcs[f]? = some fn) (hname : (fn.name == "runtime.NumGoroutine") = false) (hbd : fn.body.isSome = true) (hop : oi.op = .call { callee := .value (.func f), args := ax, argTypes := ts })
  (har : Ar O B i (fun _ => L) a0 ax.toList vals) (hcall : ∀ w, I m w → Calls P f vals.toArray w fun e w' => e = .returned v ∧ I (m + 1) w') : StepAt P ops Q B O (GrK C I L a0) i := by
 rintro b a w hG hb hon hoff
 obtain ⟨ha, hI, hK2⟩ := gk_step i m hm hnd hprev hG hb hon
 refine ⟨oi, ho, fun K hK => ?_⟩
 rw [hd]
 have e2 := har b (fun _ => undef) hon hoff
 refine goes_ hf hname hbd vals.toArray (wanted_none0 hg) hd hop ?_ ?_
 ·apply Array.toList_inj.1
  rw [Array.toList_map, ha, e2]
 ·refine (hcall w hI).mono ?_
  rintro e w' ⟨rfl, hI'⟩
  exact ⟨v, rfl, hK.out _ _ (hK2 _ w' (by rw [ha]; exact putSel_upk k hb hL (set_same hL) hdist) hI')⟩
theorem gk_store (i m : Nat) {s : Tmp} {u v : Value} {f : World → World} {oi : Oper} (ho : ops[i]? = some oi) (hg : oi.guard = none) (hd : oi.dst = none) (hm : C[m]? = some i) (hL : L.all (fun e => !(e.1 == i)) = true)
  (hnd : (C.take m ++ C.drop (m + 1)).contains i = false) (hprev : (C.take m).all (fun q => O.contains q && (B.getD i 0).testBit q) = true) (hp : Rd O B i (fun _ => L) a0 p (fun _ => u)) (hs : Rd O B i (fun _ => L) a0 s (fun _ => v))
  (hrun : ∀ (a : Act) (w : World), I m w → a.tmps[p]? = some u → a.tmps[s]? = some v → (execOp a.eval oi).run P w = .ok .skip (f w)) (hI : ∀ w, I m w → I (m + 1) (f w)) : StepAt P ops Q B O (GrK C I L a0) i := by
 rintro b a w hG hb hon hoff
 obtain ⟨ha, hIm, hK2⟩ := gk_step i m hm hnd hprev hG hb hon
 refine ⟨oi, ho, fun K hK => ?_⟩
 rw [hd]
 refine skip_ (w1 := f w) (wanted_none0 hg) hd (hrun a w hIm (by rw [ha]; exact hp b (fun _ => undef) hon hoff) (by rw [ha]; exact hs b (fun _ => undef) hon hoff)) (hK.out _ _ (hK2 _ _ ?_ (hI w hIm)))
 show a = _
 rw [ha]
 exact (putSel_skip hL).symm
theorem grow_known {id : Nat} (O C : List Nat) (I : Nat → World → Prop) (L : Sel) {n : Nat} {l : Array Bool} {Tb : Bool × List (List Nat × List Nat)} (hm : P.follows .mixedOrders = true) (hn : ops.size = n) (hl : Array.replicate n false = l) (hT : rtab .any ops = Tb) (hw : waitsOk Tb.2 B = true) (hk : baseOk Tb.2 O = true) (hl2 : (lof Tb.2.length O (fun _ => false) == l.toList && O.length == n) = true)
  (hLO : L.all (fun e => O.contains e.1) = true) (hCO : (C.all fun e => O.contains e) = true) (h0 : I 0 W.drew) (hs : ∀ i ∈ O, StepAt P ops Q B O (GrK C I L a0) i)
  (hend : ∀ (w : World), I C.length w → Q .normal (putSel a0 (fun _ => true) L) w) : Code.wp P (Code.region id ops true) Q a0 W := by
 refine start_ (S := fun _ => True) (ds := []) l hm hn hl trivial (fun _ => ?_)
 refine inv_at O (fun a0 => GrK C I L a0) hT hw hk hl2 ⟨0, Nat.zero_le _, fun j c _ => ⟨fun h => absurd h (Nat.not_lt_zero _), fun _ => rfl⟩, ?_, h0⟩ hs ?_
 ·clear hLO hs hend
  induction L with
  | nil => rfl
  | cons e r ih => unfold putSel; exact ih
 ·rintro b a w hall ⟨s, hs1, h1, ha, hI⟩
  have e1 : putSel a0 b L = putSel a0 (fun _ => true) L := putSel_congr (fun e he => hall _ (List.all_eq_true.1 (hLO) e he))
  have e2 : s = C.length := by
   rcases Nat.lt_or_ge s C.length with h | h
   ·have hc := List.getElem?_eq_getElem h
    have e2 := (h1 s _ hc).2 (Nat.le_refl _)
    rw [hall _ (List.all_eq_true.1 hCO _ (List.getElem_mem h))] at e2
    cases e2
   ·omega
  rw [ha, e1]
  rw [e2] at hI
  exact hend w hI
end
end Go.Proofs.YthiaakjbapgibaaGreat.Base
end
section
namespace Go.Proofs.YthiaakjbapgibaaGreat.As
open Go.RowKit YthiaakjbapgibaaGreatW.PrintWords YthiaakjbapgibaaGreatW.PrintLast Base PCh
def mopT2 : Bool × List (List Nat × List Nat) := (true, [([], []), ([], []), ([], []), ([2], [2]), ([3], [3]), ([4], [4]), ([4], [4]), ([0, 0, 1, 2, 3, 4, 5], [0]), ([7, 0, 1, 2, 3, 4, 5], [7]), ([8, 0, 1, 2, 3, 4, 5], [8]), ([9, 5, 3, 0, 1, 2, 3, 4, 5], [5, 9]), ([1, 0, 1, 2, 3, 4, 5, 6, 7, 8, 9, 10], [1]), ([11, 0, 1, 2, 3, 4, 5, 6, 7, 8, 9, 10], [11]), ([12, 0, 1, 2, 3, 4, 5, 6, 7, 8, 9, 10], [12]), ([13, 6, 10, 0, 1, 2, 3, 4, 5, 6, 7, 8, 9, 10], [6, 13])])
def mopB2 : List Nat := [0, 0, 0, 4, 12, 28, 28, 63, 191, 447, 959, 2047, 4095, 8191, 16383]
theorem moptab2 : Go.Proofs.YthiaakjbapgibaaGreatW.PrintLast.rtab .any (Go.Proofs.YthiaakjbapgibaaGreatW.PrintLast.opsOf Tryz.f71 2) = mopT2 := by kernel_rfl
theorem mopbits2 : Go.Proofs.YthiaakjbapgibaaGreatW.PrintLast.waitsOk mopT2.2 mopB2 = true := by kernel_rfl
section
variable {B : Nat} {W0 W : World} {g gp : Nat} {K : Cfg} {m : Mst} {xs : List Act'}
def openP (K : Cfg) (m : Mst) : Out := if m.s = 0 then .ok ({ m with d := nextD m.d, tag := tagD m.d, tsn := tsnD m.d, s := 1, tr := 0 }, [actSend (mkC 1 0 (tsnD m.d) (tagD m.d) K.win K.out K.inn) 0, actTimer 2 1]) else .error 220
set_option maxHeartbeats 1000000 in
theorem open1_ms (hM : MS B W0 g K m [] W0) (hp : W0.heap[gp]? = some (.cells #[.pointer (some ⟨g, 0, none⟩)] 33 (0, 0))) (hne : gp ≠ g) : Calls Tryz.prog 71 #[.pointer (some ⟨gp, 0, none⟩)] W0 (ClP B W0 g K (openP K m)) := by
 have k0 := hM.k0
 have kp : W0.cell? ⟨gp, 0, none⟩ = some (.pointer (some ⟨g, 0, none⟩)) := blk_cell hp 0
 have HM := Lh hM
 have HP := Lh hp
 have HNE := Lh hne
 clear hM hp hne
 unfold openP
 by_cases h0 : m.s = 0
 ·rw [if_pos h0]
  rw [h0] at k0
  unfold ClP
  go_enter Tryz.func71, Tryz.ntmps71
  go_upto_region 2 with (fail)
  clear k0 kp
  refine grow_known (B := mopB2) [0, 1, 2, 3, 4, 5, 6, 7, 8, 9, 10, 11, 12, 13, 14] [3, 10, 14] (fun s W => match s with | 0 => MS B W0 g K m [] W | 1 => MS B W0 g K { m with d := nextD m.d } [] W | 2 => MS B W0 g K { { m with d := nextD m.d } with tag := tagD m.d } [] W | 3 => MS B W0 g K { { { m with d := nextD m.d } with tag := tagD m.d } with tsn := tsnD m.d } [] W | _ => False) [(0, 9, .pointer (some ⟨g, 0, none⟩)), (1, 10, .pointer (some ⟨g, 0, none⟩)), (2, 11, .pointer (some ⟨g, 0, none⟩)), (3, 12, .tuple #[.int .u32 (tagD m.d), .int .u32 (tsnD m.d)]), (4, 8, .tuple #[.int .u32 (tagD m.d), .int .u32 (tsnD m.d)]), (5, 13, .int .u32 (tagD m.d)), (6, 14, .int .u32 (tsnD m.d)), (7, 15, .pointer (some ⟨g, 0, none⟩)), (8, 16, .pointer (some ⟨g, 0, none⟩)), (9, 17, .pointer (some ⟨g, 1, none⟩)), (11, 18, .pointer (some ⟨g, 0, none⟩)), (12, 19, .pointer (some ⟨g, 0, none⟩)), (13, 20, .pointer (some ⟨g, 2, none⟩))] (by kernel_rfl) rfl (l := #[false, false, false, false, false, false, false, false, false, false, false, false, false, false, false]) rfl moptab2 mopbits2 (by kernel_rfl) (by kernel_rfl) rfl rfl ?_ ?_ ?_
  ·exact HM.out.drewN 1
  ·exact steps_cons (gk_op (p := 0) (fun W => W.heap[gp]? = some (.cells #[.pointer (some ⟨g, 0, none⟩)] 33 (0, 0))) 0 0 rfl rfl rfl rfl rfl rfl (u := .pointer (some ⟨gp, 0, none⟩)) (rd_off (p := 0) (fun _ => rfl) rfl) (fun s W h => by match s, h with | 0, h => exact h.only.blk HP.out HNE.out | 1, h => exact h.only.blk HP.out HNE.out | 2, h => exact h.only.blk HP.out HNE.out | 3, h => exact h.only.blk HP.out HNE.out) (fun a w hJ e => by have hs := blk_cell hJ 0; go_simp)) (steps_cons (gk_op (p := 0) (fun W => W.heap[gp]? = some (.cells #[.pointer (some ⟨g, 0, none⟩)] 33 (0, 0))) 1 1 rfl rfl rfl rfl rfl rfl (u := .pointer (some ⟨gp, 0, none⟩)) (rd_off (p := 0) (fun _ => rfl) rfl) (fun s W h => by match s, h with | 0, h => exact h.only.blk HP.out HNE.out | 1, h => exact h.only.blk HP.out HNE.out | 2, h => exact h.only.blk HP.out HNE.out | 3, h => exact h.only.blk HP.out HNE.out) (fun a w hJ e => by have hs := blk_cell hJ 0; go_simp)) (steps_cons (gk_op (p := 0) (fun W => W.heap[gp]? = some (.cells #[.pointer (some ⟨g, 0, none⟩)] 33 (0, 0))) 2 2 rfl rfl rfl rfl rfl rfl (u := .pointer (some ⟨gp, 0, none⟩)) (rd_off (p := 0) (fun _ => rfl) rfl) (fun s W h => by match s, h with | 0, h => exact h.only.blk HP.out HNE.out | 1, h => exact h.only.blk HP.out HNE.out | 2, h => exact h.only.blk HP.out HNE.out | 3, h => exact h.only.blk HP.out HNE.out) (fun a w hJ e => by have hs := blk_cell hJ 0; go_simp)) (steps_cons (gk_call (v := .tuple #[.int .u32 (tagD m.d), .int .u32 (tsnD m.d)]) (vals := [.pointer (some ⟨g, 0, none⟩)]) 3 3 0 rfl rfl rfl rfl rfl rfl rfl (by kernel_rfl) Tryz.func72 (by kernel_rfl) rfl rfl (ar_t (rd_on (p := 11) 2 2 (fun _ => rfl) (fun _ => rfl) (by kernel_rfl) rfl) (ar_n)) (fun w h => (pair_ms h).mono (fun e w1 ⟨h1, h2, _⟩ => ⟨h1, h2⟩))) (steps_cons (gk_op (p := 12) (fun W => W.heap[gp]? = some (.cells #[.pointer (some ⟨g, 0, none⟩)] 33 (0, 0))) 4 4 rfl rfl rfl rfl rfl rfl (u := .tuple #[.int .u32 (tagD m.d), .int .u32 (tsnD m.d)]) (rd_on (p := 12) 3 3 (fun _ => rfl) (fun _ => rfl) (by kernel_rfl) rfl) (fun s W h => by match s, h with | 0, h => exact h.only.blk HP.out HNE.out | 1, h => exact h.only.blk HP.out HNE.out | 2, h => exact h.only.blk HP.out HNE.out | 3, h => exact h.only.blk HP.out HNE.out) (fun a w hJ e => by go_simp)) (steps_cons (gk_op (p := 8) (fun W => W.heap[gp]? = some (.cells #[.pointer (some ⟨g, 0, none⟩)] 33 (0, 0))) 5 5 rfl rfl rfl rfl rfl rfl (u := .tuple #[.int .u32 (tagD m.d), .int .u32 (tsnD m.d)]) (rd_on (p := 8) 4 4 (fun _ => rfl) (fun _ => rfl) (by kernel_rfl) rfl) (fun s W h => by match s, h with | 0, h => exact h.only.blk HP.out HNE.out | 1, h => exact h.only.blk HP.out HNE.out | 2, h => exact h.only.blk HP.out HNE.out | 3, h => exact h.only.blk HP.out HNE.out) (fun a w hJ e => by go_simp)) (steps_cons (gk_op (p := 8) (fun W => W.heap[gp]? = some (.cells #[.pointer (some ⟨g, 0, none⟩)] 33 (0, 0))) 6 6 rfl rfl rfl rfl rfl rfl (u := .tuple #[.int .u32 (tagD m.d), .int .u32 (tsnD m.d)]) (rd_on (p := 8) 4 4 (fun _ => rfl) (fun _ => rfl) (by kernel_rfl) rfl) (fun s W h => by match s, h with | 0, h => exact h.only.blk HP.out HNE.out | 1, h => exact h.only.blk HP.out HNE.out | 2, h => exact h.only.blk HP.out HNE.out | 3, h => exact h.only.blk HP.out HNE.out) (fun a w hJ e => by go_simp)) (steps_cons (gk_op (p := 9) (fun W => W.heap[gp]? = some (.cells #[.pointer (some ⟨g, 0, none⟩)] 33 (0, 0))) 7 7 rfl rfl rfl rfl rfl rfl (u := .pointer (some ⟨g, 0, none⟩)) (rd_on (p := 9) 0 0 (fun _ => rfl) (fun _ => rfl) (by kernel_rfl) rfl) (fun s W h => by match s, h with | 0, h => exact h.only.blk HP.out HNE.out | 1, h => exact h.only.blk HP.out HNE.out | 2, h => exact h.only.blk HP.out HNE.out | 3, h => exact h.only.blk HP.out HNE.out) (fun a w hJ e => by go_simp)) (steps_cons (gk_op (p := 15) (fun W => W.heap[gp]? = some (.cells #[.pointer (some ⟨g, 0, none⟩)] 33 (0, 0))) 8 8 rfl rfl rfl rfl rfl rfl (u := .pointer (some ⟨g, 0, none⟩)) (rd_on (p := 15) 7 7 (fun _ => rfl) (fun _ => rfl) (by kernel_rfl) rfl) (fun s W h => by match s, h with | 0, h => exact h.only.blk HP.out HNE.out | 1, h => exact h.only.blk HP.out HNE.out | 2, h => exact h.only.blk HP.out HNE.out | 3, h => exact h.only.blk HP.out HNE.out) (fun a w hJ e => by go_simp)) (steps_cons (gk_op (p := 16) (fun W => W.heap[gp]? = some (.cells #[.pointer (some ⟨g, 0, none⟩)] 33 (0, 0))) 9 9 rfl rfl rfl rfl rfl rfl (u := .pointer (some ⟨g, 0, none⟩)) (rd_on (p := 16) 8 8 (fun _ => rfl) (fun _ => rfl) (by kernel_rfl) rfl) (fun s W h => by match s, h with | 0, h => exact h.only.blk HP.out HNE.out | 1, h => exact h.only.blk HP.out HNE.out | 2, h => exact h.only.blk HP.out HNE.out | 3, h => exact h.only.blk HP.out HNE.out) (fun a w hJ e => by go_simp)) (steps_cons (gk_store (p := 17) (s := 13) (u := .pointer (some ⟨g, 1, none⟩)) (v := .int .u32 (tagD m.d)) (f := fun W => W.setCell ⟨g, 1, none⟩ (.int .u32 (tagD m.d))) 10 1 rfl rfl rfl rfl rfl rfl (by kernel_rfl) (rd_on (p := 17) 9 9 (fun _ => rfl) (fun _ => rfl) (by kernel_rfl) rfl) (rd_on (p := 13) 5 5 (fun _ => rfl) (fun _ => rfl) (by kernel_rfl) rfl) (fun a w h e1 e2 => by have hs := h.k1; have hf := h.fz 1; go_simp) (fun w h => h.set1 _)) (steps_cons (gk_op (p := 10) (fun W => W.heap[gp]? = some (.cells #[.pointer (some ⟨g, 0, none⟩)] 33 (0, 0))) 11 10 rfl rfl rfl rfl rfl rfl (u := .pointer (some ⟨g, 0, none⟩)) (rd_on (p := 10) 1 1 (fun _ => rfl) (fun _ => rfl) (by kernel_rfl) rfl) (fun s W h => by match s, h with | 0, h => exact h.only.blk HP.out HNE.out | 1, h => exact h.only.blk HP.out HNE.out | 2, h => exact h.only.blk HP.out HNE.out | 3, h => exact h.only.blk HP.out HNE.out) (fun a w hJ e => by go_simp)) (steps_cons (gk_op (p := 18) (fun W => W.heap[gp]? = some (.cells #[.pointer (some ⟨g, 0, none⟩)] 33 (0, 0))) 12 11 rfl rfl rfl rfl rfl rfl (u := .pointer (some ⟨g, 0, none⟩)) (rd_on (p := 18) 10 11 (fun _ => rfl) (fun _ => rfl) (by kernel_rfl) rfl) (fun s W h => by match s, h with | 0, h => exact h.only.blk HP.out HNE.out | 1, h => exact h.only.blk HP.out HNE.out | 2, h => exact h.only.blk HP.out HNE.out | 3, h => exact h.only.blk HP.out HNE.out) (fun a w hJ e => by go_simp)) (steps_cons (gk_op (p := 19) (fun W => W.heap[gp]? = some (.cells #[.pointer (some ⟨g, 0, none⟩)] 33 (0, 0))) 13 12 rfl rfl rfl rfl rfl rfl (u := .pointer (some ⟨g, 0, none⟩)) (rd_on (p := 19) 11 12 (fun _ => rfl) (fun _ => rfl) (by kernel_rfl) rfl) (fun s W h => by match s, h with | 0, h => exact h.only.blk HP.out HNE.out | 1, h => exact h.only.blk HP.out HNE.out | 2, h => exact h.only.blk HP.out HNE.out | 3, h => exact h.only.blk HP.out HNE.out) (fun a w hJ e => by go_simp)) (steps_cons (gk_store (p := 20) (s := 14) (u := .pointer (some ⟨g, 2, none⟩)) (v := .int .u32 (tsnD m.d)) (f := fun W => W.setCell ⟨g, 2, none⟩ (.int .u32 (tsnD m.d))) 14 2 rfl rfl rfl rfl rfl rfl (by kernel_rfl) (rd_on (p := 20) 12 13 (fun _ => rfl) (fun _ => rfl) (by kernel_rfl) rfl) (rd_on (p := 14) 6 6 (fun _ => rfl) (fun _ => rfl) (by kernel_rfl) rfl) (fun a w h e1 e2 => by have hs := h.k2; have hf := h.fz 2; go_simp) (fun w h => h.set2 _)) steps_nil))))))))))))))
  ·intro W4 hI
   have HI := Lh hI
   clear hI HM
   simp only [putSel, if_true, Act.put, List.setIfInBounds_toArray, List.set_cons_zero, List.set_cons_succ]
   have kp := blk_cell (HI.out.only.blk HP.out HNE.out) 0
   have hs0 := HI.out.k0
   have hf0 := HI.out.fz 0
   have hs9 := HI.out.k9
   have hf9 := HI.out.fz 9
   have hne := HNE.out
   have hne' := Ne.symm HNE.out
   have HI9 := Lh ((HI.out.set0 1).set9 0)
   clear HI
   go_upto_region 4 with (fail)
   clear kp hs0 hf0 hs9 hf9
   generalize (W4.setCell ⟨g, 0, none⟩ (.int .i64 1)).setCell ⟨g, 9, none⟩ (.int .i64 0) = W5 at *
   have kp := blk_cell (HI9.out.only.blk HP.out HNE.out) 0
   go_wp2_with fail
   refine (sendInit_ms HI9.out (by simp)).mono ?_
   rintro e w2 ⟨rfl, hM2, hQ2⟩
   go_wp2
   go_end0
   exact ⟨rfl, hM2⟩
 ·rw [if_neg h0]
  unfold ClP errA
  have h0' : decide (m.s = 0) = false := decide_eq_false h0
  go_enter Tryz.func71, Tryz.ntmps71
  go_wp2
  exact ⟨rfl, rfl, m, [], HM.out⟩
theorem CallP.mono {w W : World} {r : Out} {e : Ending} {w' : World} (hb : Below w.heap.size w W) (h : CallP B g K m r W e w') (hg : g < w.heap.size) : CallP B g K m r w e w' := by
 obtain ⟨h1, h2⟩ := h
 refine ⟨(Only.of_below (S := (· = g)) hb).trans h1 (fun k _ h => h), ?_⟩
 cases r with
 | error c => exact h2
 | ok r =>
  obtain ⟨m', xs⟩ := r
  obtain ⟨⟨v, h3, rs, h4, h5⟩, h6⟩ := h2
  exact ⟨⟨v, h3, rs, Kd.R_lower h4 hb.size, h5⟩, h6⟩
theorem CallP.ret {w : World} {r : Out} {e : Ending} {w' : World} (h : CallP B g K m r w e w') : ∃ u c, e = .returned (.tuple #[u, .int .i64 c]) := by
 cases r with
 | error c => exact ⟨_, _, h.2.1⟩
 | ok r =>
  obtain ⟨_, ⟨v, e1, _⟩, _⟩ := h
  exact ⟨_, _, e1⟩
theorem MR.lt {w : World} (h : MR B g K m w) : g < w.heap.size := by
 obtain ⟨cs, hr⟩ := h.row
 exact blk_lt hr
theorem open_ms {w : World} (h : MR B g K m w) : Calls Tryz.prog 33 #[.pointer (some ⟨g, 0, none⟩)] w (CallP B g K m (openP K m) w) := by
 have hmf : ∀ (fn : Fn) (first cap : Array Value) (w : World), (Instr.makeFunc fn first cap).run Tryz.prog w = .ok (.func fn first cap) w := fun _ _ _ _ => rfl
 have H := Lh (call_ms B (w.alloc (.cells #[.pointer (some ⟨g, 0, none⟩)] 33)) g K m 71 #[.pointer (some ⟨w.heap.size, 0, none⟩)] (h.below (below_alloc (Below.refl _ _) _)) (enters_ Tryz.func71 (by kernel_rfl) (by kernel_rfl)) (openP K m) (fun W0 hO hM => open1_ms hM (hO.blk (blk_new _ _) (by have := h.lt; omega)) (by have := h.lt; omega)))
 have HL := Lh h.lt
 clear h
 go_enter Tryz.func33, Tryz.ntmps33
 go_wp2_with fail
 refine H.out.mono ?_
 intro e w1 hP
 have hP' := CallP.mono (below_alloc (Below.refl _ _) _) hP HL.out
 obtain ⟨u, c, rfl⟩ := hP.ret
 clear hP H
 go_wp2
 go_ret2
 exact hP'
def shutP (K : Cfg) (m : Mst) (em : Bool) (cum : Int) : Out := if m.s = 3 then .ok (if em then ({ m with s := 5, tr := 0 }, [actSend (mkC 7 0 cum 0 0 0 0) m.pr.f0, actTimer 2 2, actTimer 2 3]) else ({ m with s := 4 }, [actTimer 2 3])) else .error 220
def emptyP (K : Cfg) (m : Mst) (cum : Int) : Out := .ok (if m.s = 4 then ({ m with s := 5, tr := 0 }, [actSend (mkC 7 0 cum 0 0 0 0) m.pr.f0, actTimer 2 2]) else if m.s = 6 then ({ m with s := 7, tr := 0 }, [actSend (mkC 8 0 0 0 0 0 0) m.pr.f0, actTimer 2 2]) else (m, []))
def againP (K : Cfg) (m : Mst) (cum : Int) : Out := .ok (if m.s = 5 then (m, [actSend (mkC 7 0 cum 0 0 0 0) m.pr.f0, actTimer 2 2]) else (m, []))
theorem again1_ms {gc : Nat} {cum : Int} (hM : MS B W0 g K m [] W0) (hp : W0.heap[gp]? = some (.cells #[.pointer (some ⟨g, 0, none⟩)] 33 (0, 0))) (hc : W0.heap[gc]? = some (.cells #[.int .u32 cum] 41 (0, 0))) : Calls Tryz.prog 75 #[.pointer (some ⟨gp, 0, none⟩), .pointer (some ⟨gc, 0, none⟩)] W0 (ClP B W0 g K (againP K m cum)) := by
 have k0 := hM.k0
 have kp : W0.cell? ⟨gp, 0, none⟩ = some (.pointer (some ⟨g, 0, none⟩)) := blk_cell hp 0
 have kc : W0.cell? ⟨gc, 0, none⟩ = some (.int .u32 cum) := blk_cell hc 0
 have HM := Lh hM
 clear hM hp hc
 unfold againP ClP
 by_cases h5 : m.s = 5
 ·rw [if_pos h5]
  rw [h5] at k0
  go_enter Tryz.func75, Tryz.ntmps75
  go_wp2_with fail
  refine (sendShut_ms HM.out (by simp) cum).mono ?_
  rintro e w2 ⟨rfl, hM2, hQ2⟩
  go_wp2
  go_end0
  exact ⟨rfl, hM2⟩
 ·rw [if_neg h5]
  have h5' : decide (m.s = 5) = false := decide_eq_false h5
  go_enter Tryz.func75, Tryz.ntmps75
  go_wp2
  go_end0
  exact ⟨rfl, HM.out⟩
set_option maxHeartbeats 1000000 in
theorem shut1_ms {ge gc : Nat} {em : Bool} {cum : Int} (hM : MS B W0 g K m [] W0) (hp : W0.heap[gp]? = some (.cells #[.pointer (some ⟨g, 0, none⟩)] 33 (0, 0))) (he : W0.heap[ge]? = some (.cells #[.bool em] 4 (0, 0))) (hc : W0.heap[gc]? = some (.cells #[.int .u32 cum] 41 (0, 0))) (np : gp ≠ g) (ne : ge ≠ g) (nc : gc ≠ g) :
  Calls Tryz.prog 36 #[.pointer (some ⟨gp, 0, none⟩), .pointer (some ⟨ge, 0, none⟩), .pointer (some ⟨gc, 0, none⟩)] W0 (ClP B W0 g K (shutP K m em cum)) := by
 have k0 := hM.k0
 have f0 := hM.fz 0
 have kp : W0.cell? ⟨gp, 0, none⟩ = some (.pointer (some ⟨g, 0, none⟩)) := blk_cell hp 0
 have ke : W0.cell? ⟨ge, 0, none⟩ = some (.bool em) := blk_cell he 0
 have kc : W0.cell? ⟨gc, 0, none⟩ = some (.int .u32 cum) := blk_cell hc 0
 have HM := Lh hM
 have HP := Lh hp
 have HC := Lh hc
 clear hM hp hc he
 unfold shutP
 by_cases h3 : m.s = 3
 ·rw [if_pos h3]
  rw [h3] at k0
  have H4 := Lh (HM.out.set0 4)
  have H5 := Lh ((H4.out.set0 5).set9 0)
  have k0' := H4.out.k0
  have f0' := H4.out.fz 0
  have k9' := (H4.out.set0 5).k9
  have f9' := (H4.out.set0 5).fz 9
  cases em with
  | true =>
   unfold ClP
   go_enter Tryz.func36, Tryz.ntmps36
   go_upto_region 5 with (fail)
   clear k0 f0 kp ke kc k0' f0' k9' f9'
   have kp := blk_cell (H5.out.only.blk HP.out np) 0
   have kc := blk_cell (H5.out.only.blk HC.out nc) 0
   generalize ((W0.setCell ⟨g, 0, none⟩ (.int .i64 4)).setCell ⟨g, 0, none⟩ (.int .i64 5)).setCell ⟨g, 9, none⟩ (.int .i64 0) = W5 at *
   go_wp2_with fail
   refine (sendShut_ms H5.out (by simp) cum).mono ?_
   rintro e w2 ⟨rfl, hM2, hQ2⟩
   clear kp kc
   have kp := blk_cell (hM2.only.blk HP.out np) 0
   have HM2 := Lh hM2
   clear hM2 hQ2
   go_wp2_with fail
   refine (start_ms HM2.out (by simp) 3).mono ?_
   rintro e w3 ⟨rfl, hM3, hQ3⟩
   go_wp2
   go_end0
   exact ⟨rfl, hM3⟩
  | false =>
   unfold ClP
   clear k0' f0' k9' f9' H5
   go_enter Tryz.func36, Tryz.ntmps36
   go_wp2_with fail
   refine (start_ms H4.out (by simp) 3).mono ?_
   rintro e w3 ⟨rfl, hM3, hQ3⟩
   go_wp2
   go_end0
   exact ⟨rfl, hM3⟩
 ·rw [if_neg h3]
  unfold ClP errA
  have h3' : decide (m.s = 3) = false := decide_eq_false h3
  go_enter Tryz.func36, Tryz.ntmps36
  go_wp2
  exact ⟨rfl, rfl, m, [], HM.out⟩
set_option maxHeartbeats 1000000 in
theorem empty1_ms {gc : Nat} {cum : Int} (hM : MS B W0 g K m [] W0) (hp : W0.heap[gp]? = some (.cells #[.pointer (some ⟨g, 0, none⟩)] 33 (0, 0))) (hc : W0.heap[gc]? = some (.cells #[.int .u32 cum] 41 (0, 0))) (np : gp ≠ g) (nc : gc ≠ g) : Calls Tryz.prog 40 #[.pointer (some ⟨gp, 0, none⟩), .pointer (some ⟨gc, 0, none⟩)] W0 (ClP B W0 g K (emptyP K m cum)) := by
 have k0 := hM.k0
 have f0 := hM.fz 0
 have kp : W0.cell? ⟨gp, 0, none⟩ = some (.pointer (some ⟨g, 0, none⟩)) := blk_cell hp 0
 have HM := Lh hM
 have HP := Lh hp
 have HC := Lh hc
 clear hM hp hc
 unfold emptyP ClP
 by_cases h4 : m.s = 4
 ·rw [if_pos h4]
  rw [h4] at k0
  have H5 := Lh ((HM.out.set0 5).set9 0)
  have k9' := (HM.out.set0 5).k9
  have f9' := (HM.out.set0 5).fz 9
  go_enter Tryz.func40, Tryz.ntmps40
  go_upto_region 3 with (fail)
  clear k0 f0 kp k9' f9'
  have kp := blk_cell (H5.out.only.blk HP.out np) 0
  have kc := blk_cell (H5.out.only.blk HC.out nc) 0
  generalize (W0.setCell ⟨g, 0, none⟩ (.int .i64 5)).setCell ⟨g, 9, none⟩ (.int .i64 0) = W5 at *
  go_wp2_with fail
  refine (sendShut_ms H5.out (by simp) cum).mono ?_
  rintro e w2 ⟨rfl, hM2, hQ2⟩
  clear kp kc
  go_wp2
  go_end0
  exact ⟨rfl, hM2⟩
 ·rw [if_neg h4]
  have h4' : decide (m.s = 4) = false := decide_eq_false h4
  by_cases h6 : m.s = 6
  ·rw [if_pos h6]
   rw [h6] at k0
   have H5 := Lh ((HM.out.set0 7).set9 0)
   have k9' := (HM.out.set0 7).k9
   have f9' := (HM.out.set0 7).fz 9
   go_enter Tryz.func40, Tryz.ntmps40
   go_upto_region 6 with (fail)
   clear k0 f0 kp k9' f9'
   have kp := blk_cell (H5.out.only.blk HP.out np) 0
   generalize (W0.setCell ⟨g, 0, none⟩ (.int .i64 7)).setCell ⟨g, 9, none⟩ (.int .i64 0) = W5 at *
   go_wp2_with fail
   refine (sendShutAck_ms H5.out (by simp)).mono ?_
   rintro e w2 ⟨rfl, hM2, hQ2⟩
   clear kp
   go_wp2
   go_end0
   exact ⟨rfl, hM2⟩
  ·rw [if_neg h6]
   have h6' : decide (m.s = 6) = false := decide_eq_false h6
   go_enter Tryz.func40, Tryz.ntmps40
   go_wp2
   go_end0
   exact ⟨rfl, HM.out⟩
end
end Go.Proofs.YthiaakjbapgibaaGreat.As
end
section
namespace Go.Proofs.YthiaakjbapgibaaGreat.As
open Go.RowKit YthiaakjbapgibaaGreatW.PrintWords YthiaakjbapgibaaGreatW.PrintLast Base PCh
section
variable {B : Nat} {W0 W : World} {g gp : Nat} {K : Cfg} {m : Mst} {xs : List Act'}
theorem shutdown_ms {w : World} (h : MR B g K m w) (em : Bool) (cum : Int) : Calls Tryz.prog 15 #[.pointer (some ⟨g, 0, none⟩), .bool em, .int .u32 cum] w (CallP B g K m (shutP K m em cum) w) := by
 have hmf : ∀ (fn : Fn) (first cap : Array Value) (w : World), (Instr.makeFunc fn first cap).run Tryz.prog w = .ok (.func fn first cap) w := fun _ _ _ _ => rfl
 have hl := h.lt
 have hb : Below w.heap.size w (((w.alloc (.cells #[.pointer (some ⟨g, 0, none⟩)] 33)).alloc (.cells #[.bool em] 4)).alloc (.cells #[.int .u32 cum] 41)) := below_alloc (below_alloc (below_alloc (Below.refl _ _) _) _) _
 have s0 : w.heap.size = w.heap.size := rfl
 have b0 : (((w.alloc (.cells #[.pointer (some ⟨g, 0, none⟩)] 33)).alloc (.cells #[.bool em] 4)).alloc (.cells #[.int .u32 cum] 41)).heap[w.heap.size]? = some (.cells #[.pointer (some ⟨g, 0, none⟩)] 33 (0, 0)) := blk_alloc (blk_alloc (by have h := blk_new w (.cells #[.pointer (some ⟨g, 0, none⟩)] 33); rw [s0] at h; exact h) _) _
 have s1 : (w.alloc (.cells #[.pointer (some ⟨g, 0, none⟩)] 33)).heap.size = w.heap.size + 1 := by simp
 have b1 : (((w.alloc (.cells #[.pointer (some ⟨g, 0, none⟩)] 33)).alloc (.cells #[.bool em] 4)).alloc (.cells #[.int .u32 cum] 41)).heap[w.heap.size + 1]? = some (.cells #[.bool em] 4 (0, 0)) := blk_alloc (by have h := blk_new (w.alloc (.cells #[.pointer (some ⟨g, 0, none⟩)] 33)) (.cells #[.bool em] 4); rw [s1] at h; exact h) _
 have s2 : ((w.alloc (.cells #[.pointer (some ⟨g, 0, none⟩)] 33)).alloc (.cells #[.bool em] 4)).heap.size = w.heap.size + 1 + 1 := by simp
 have b2 : (((w.alloc (.cells #[.pointer (some ⟨g, 0, none⟩)] 33)).alloc (.cells #[.bool em] 4)).alloc (.cells #[.int .u32 cum] 41)).heap[w.heap.size + 1 + 1]? = some (.cells #[.int .u32 cum] 41 (0, 0)) := by have h := blk_new ((w.alloc (.cells #[.pointer (some ⟨g, 0, none⟩)] 33)).alloc (.cells #[.bool em] 4)) (.cells #[.int .u32 cum] 41); rw [s2] at h; exact h
 have H := Lh (call_ms B (((w.alloc (.cells #[.pointer (some ⟨g, 0, none⟩)] 33)).alloc (.cells #[.bool em] 4)).alloc (.cells #[.int .u32 cum] 41)) g K m 36 #[.pointer (some ⟨w.heap.size, 0, none⟩), .pointer (some ⟨w.heap.size + 1, 0, none⟩), .pointer (some ⟨w.heap.size + 1 + 1, 0, none⟩)] (h.below hb) (enters_ Tryz.func36 (by kernel_rfl) (by kernel_rfl)) (shutP K m em cum) (fun W0 hO hM => shut1_ms hM (hO.blk b0 (by omega)) (hO.blk b1 (by omega)) (hO.blk b2 (by omega)) (by omega) (by omega) (by omega)))
 have HL := Lh hl
 have HB := Lh hb
 clear h hl hb b0 s0 b1 s1 b2 s2
 go_enter Tryz.func15, Tryz.ntmps15
 go_wp2_with fail
 refine H.out.mono ?_
 intro e w1 hP
 have hP' := CallP.mono HB.out hP HL.out
 obtain ⟨u, c, rfl⟩ := hP.ret
 clear hP H HB
 go_wp2
 go_ret2
 exact hP'
theorem empty_ms {w : World} (h : MR B g K m w) (cum : Int) : Calls Tryz.prog 18 #[.pointer (some ⟨g, 0, none⟩), .int .u32 cum] w (CallP B g K m (emptyP K m cum) w) := by
 have hmf : ∀ (fn : Fn) (first cap : Array Value) (w : World), (Instr.makeFunc fn first cap).run Tryz.prog w = .ok (.func fn first cap) w := fun _ _ _ _ => rfl
 have hl := h.lt
 have hb : Below w.heap.size w ((w.alloc (.cells #[.pointer (some ⟨g, 0, none⟩)] 33)).alloc (.cells #[.int .u32 cum] 41)) := below_alloc (below_alloc (Below.refl _ _) _) _
 have s0 : w.heap.size = w.heap.size := rfl
 have b0 : ((w.alloc (.cells #[.pointer (some ⟨g, 0, none⟩)] 33)).alloc (.cells #[.int .u32 cum] 41)).heap[w.heap.size]? = some (.cells #[.pointer (some ⟨g, 0, none⟩)] 33 (0, 0)) := blk_alloc (by have h := blk_new w (.cells #[.pointer (some ⟨g, 0, none⟩)] 33); rw [s0] at h; exact h) _
 have s1 : (w.alloc (.cells #[.pointer (some ⟨g, 0, none⟩)] 33)).heap.size = w.heap.size + 1 := by simp
 have b1 : ((w.alloc (.cells #[.pointer (some ⟨g, 0, none⟩)] 33)).alloc (.cells #[.int .u32 cum] 41)).heap[w.heap.size + 1]? = some (.cells #[.int .u32 cum] 41 (0, 0)) := by have h := blk_new (w.alloc (.cells #[.pointer (some ⟨g, 0, none⟩)] 33)) (.cells #[.int .u32 cum] 41); rw [s1] at h; exact h
 have H := Lh (call_ms B ((w.alloc (.cells #[.pointer (some ⟨g, 0, none⟩)] 33)).alloc (.cells #[.int .u32 cum] 41)) g K m 40 #[.pointer (some ⟨w.heap.size, 0, none⟩), .pointer (some ⟨w.heap.size + 1, 0, none⟩)] (h.below hb) (enters_ Tryz.func40 (by kernel_rfl) (by kernel_rfl)) (emptyP K m cum) (fun W0 hO hM => empty1_ms hM (hO.blk b0 (by omega)) (hO.blk b1 (by omega)) (by omega) (by omega)))
 have HL := Lh hl
 have HB := Lh hb
 clear h hl hb b0 s0 b1 s1
 go_enter Tryz.func18, Tryz.ntmps18
 go_wp2_with fail
 refine H.out.mono ?_
 intro e w1 hP
 have hP' := CallP.mono HB.out hP HL.out
 obtain ⟨u, c, rfl⟩ := hP.ret
 clear hP H HB
 go_wp2
 go_ret2
 exact hP'
theorem again_ms {w : World} (h : MR B g K m w) (cum : Int) : Calls Tryz.prog 42 #[.pointer (some ⟨g, 0, none⟩), .int .u32 cum] w (CallP B g K m (againP K m cum) w) := by
 have hmf : ∀ (fn : Fn) (first cap : Array Value) (w : World), (Instr.makeFunc fn first cap).run Tryz.prog w = .ok (.func fn first cap) w := fun _ _ _ _ => rfl
 have hl := h.lt
 have hb : Below w.heap.size w ((w.alloc (.cells #[.pointer (some ⟨g, 0, none⟩)] 33)).alloc (.cells #[.int .u32 cum] 41)) := below_alloc (below_alloc (Below.refl _ _) _) _
 have s0 : w.heap.size = w.heap.size := rfl
 have b0 : ((w.alloc (.cells #[.pointer (some ⟨g, 0, none⟩)] 33)).alloc (.cells #[.int .u32 cum] 41)).heap[w.heap.size]? = some (.cells #[.pointer (some ⟨g, 0, none⟩)] 33 (0, 0)) := blk_alloc (by have h := blk_new w (.cells #[.pointer (some ⟨g, 0, none⟩)] 33); rw [s0] at h; exact h) _
 have s1 : (w.alloc (.cells #[.pointer (some ⟨g, 0, none⟩)] 33)).heap.size = w.heap.size + 1 := by simp
 have b1 : ((w.alloc (.cells #[.pointer (some ⟨g, 0, none⟩)] 33)).alloc (.cells #[.int .u32 cum] 41)).heap[w.heap.size + 1]? = some (.cells #[.int .u32 cum] 41 (0, 0)) := by have h := blk_new (w.alloc (.cells #[.pointer (some ⟨g, 0, none⟩)] 33)) (.cells #[.int .u32 cum] 41); rw [s1] at h; exact h
 have H := Lh (call_ms B ((w.alloc (.cells #[.pointer (some ⟨g, 0, none⟩)] 33)).alloc (.cells #[.int .u32 cum] 41)) g K m 75 #[.pointer (some ⟨w.heap.size, 0, none⟩), .pointer (some ⟨w.heap.size + 1, 0, none⟩)] (h.below hb) (enters_ Tryz.func75 (by kernel_rfl) (by kernel_rfl)) (againP K m cum) (fun W0 hO hM => again1_ms hM (hO.blk b0 (by omega)) (hO.blk b1 (by omega))))
 have HL := Lh hl
 have HB := Lh hb
 clear h hl hb b0 s0 b1 s1
 go_enter Tryz.func42, Tryz.ntmps42
 go_wp2_with fail
 refine H.out.mono ?_
 intro e w1 hP
 have hP' := CallP.mono HB.out hP HL.out
 obtain ⟨u, c, rfl⟩ := hP.ret
 clear hP H HB
 go_wp2
 go_ret2
 exact hP'
end
end Go.Proofs.YthiaakjbapgibaaGreat.As
end
section
namespace Go.Proofs.YthiaakjbapgibaaGreat.Ch
open Go.RowKit YthiaakjbapgibaaGreatW.PrintWords Base PCh
abbrev Chk := S65
abbrev GapS := S195
abbrev PrmS := S123
noncomputable instance : DecidableEq GapS := fun _ _ => Classical.propDecidable _
noncomputable instance : DecidableEq PrmS := fun _ _ => Classical.propDecidable _
noncomputable instance : DecidableEq Chk := fun _ _ => Classical.propDecidable _
structure Lay where
 A10 : Option Addr
 c10 : Nat
 A11 : Option Addr
 c11 : Nat
 A12 : Option Addr
 c12 : Nat
 A13 : Option Addr
 c13 : Nat
 A14 : Option Addr
 c14 : Nat
def CV (x : Chk) (L : Lay) : Array Value := #[.int .u8 x.f0, .int .u8 x.f1, .int .u32 x.f2, .int .u16 x.f3, .int .u16 x.f4, .int .u32 x.f5, .int .u32 x.f6, .int .u32 x.f7, .int .u16 x.f8, .int .u16 x.f9, .slice L.A10 x.f10.length L.c10, .slice L.A11 x.f11.length L.c11, .slice L.A12 x.f12.length L.c12, .slice L.A13 x.f13.length L.c13, .slice L.A14 x.f14.length L.c14]
structure CR (w : World) (x : Chk) (L : Lay) : Prop where
 l10 : x.f10.length ≤ L.c10
 h10 : Kd.C k195 w L.A10 x.f10.length x.f10
 l11 : x.f11.length ≤ L.c11
 h11 : Kd.C k195 w L.A11 x.f11.length x.f11
 l12 : x.f12.length ≤ L.c12
 h12 : Kd.C (Kd.int .u32) w L.A12 x.f12.length x.f12
 l13 : x.f13.length ≤ L.c13
 h13 : Kd.C (Kd.int .u8) w L.A13 x.f13.length x.f13
 l14 : x.f14.length ≤ L.c14
 h14 : Kd.C k123 w L.A14 x.f14.length x.f14
theorem CR.below {w w' : World} {x : Chk} {L : Lay} (h : CR w x L) (hb : Below w.heap.size w w') : CR w' x L := ⟨h.l10, Kd.C_below h.h10 hb, h.l11, Kd.C_below h.h11 hb, h.l12, Kd.C_below h.h12 hb, h.l13, Kd.C_below h.h13 hb, h.l14, Kd.C_below h.h14 hb⟩
theorem CR.drewN {w : World} {x : Chk} {L : Lay} (h : CR w x L) (n : Nat) : CR (w.drewN n) x L := ⟨h.l10, Kd.C_drewN h.h10 n, h.l11, Kd.C_drewN h.h11 n, h.l12, Kd.C_drewN h.h12 n, h.l13, Kd.C_drewN h.h13 n, h.l14, Kd.C_drewN h.h14 n⟩
theorem CR.K {w : World} {x : Chk} {L : Lay} (h : CR w x L) : k65.K w x (CV x L).toList := k65_mk w x h.l10 h.h10 h.l11 h.h11 h.l12 h.h12 h.l13 h.h13 h.l14 h.h14
theorem chk_ext {x y : Chk} (h0 : x.f0 = y.f0) (h1 : x.f1 = y.f1) (h2 : x.f2 = y.f2) (h3 : x.f3 = y.f3) (h4 : x.f4 = y.f4) (h5 : x.f5 = y.f5) (h6 : x.f6 = y.f6) (h7 : x.f7 = y.f7) (h8 : x.f8 = y.f8) (h9 : x.f9 = y.f9) (h10 : x.f10 = y.f10) (h11 : x.f11 = y.f11) (h12 : x.f12 = y.f12) (h13 : x.f13 = y.f13) (h14 : x.f14 = y.f14) : x = y := by
 cases x; cases y; simp_all
theorem gap_ext {a b : GapS} (h0 : a.f0 = b.f0) (h1 : a.f1 = b.f1) : a = b := by
 cases a; cases b; simp_all
theorem max_len {α : Type} {d : Kd α} {w : World} {A : Option Addr} {xs : List α} (h : d.C w A xs.length xs) : xs.length ≤ 9223372036854775807 := by
 have := h.2.1
 omega
theorem gap_drop (l : List S195) (i : Nat) (h : i < l.length) : l.drop i = rd_T195 l (i : Int) :: l.drop (i + 1) := by
 rw [List.drop_eq_getElem_cons h]
 have e : rd_T195 l (i : Int) = l[i] := by
  simp [rd_T195, List.getD_eq_getElem?_getD, h]
 rw [e]
theorem gap_run (l0 l1 : List S195) (hl : l0.length = l1.length) (hm : l0.length ≤ 9223372036854775807) (m i : Nat) (hi : i + m = l0.length) : ∃ k, api_Gap.l0 k l0 l1 (l0.length : Int) (i : Int) = some (decide (l0.drop i = l1.drop i)) := by
 induction m generalizing i with
 | zero =>
  refine ⟨1, ?_⟩
  unfold api_Gap.l0
  rw [if_neg (by omega), show i = l0.length by omega, List.drop_length, hl, List.drop_length]
  rfl
 | succ m ih =>
  obtain ⟨k, hk⟩ := ih (i + 1) (by omega)
  refine ⟨k + 1, ?_⟩
  unfold api_Gap.l0
  rw [if_pos (by omega), if_pos (by omega), if_pos (by omega), if_pos (by omega), gap_drop l0 i (by omega), gap_drop l1 i (by omega), show wrap64 ((i : Int) + 1) = ((i + 1 : Nat) : Int) by unfold wrap64; omega, hk]
  by_cases h : rd_T195 l0 (i : Int) = rd_T195 l1 (i : Int)
  ·rw [h]
   simp
  ·have hc : (!((rd_T195 l0 (i : Int)).f0 == (rd_T195 l1 (i : Int)).f0) || (!((rd_T195 l0 (i : Int)).f1 == (rd_T195 l1 (i : Int)).f1))) = true := by
    by_cases h0 : (rd_T195 l0 (i : Int)).f0 = (rd_T195 l1 (i : Int)).f0
    ·by_cases h1 : (rd_T195 l0 (i : Int)).f1 = (rd_T195 l1 (i : Int)).f1
     ·exact absurd (gap_ext h0 h1) h
     ·simp [h1]
    ·simp [h0]
   rw [if_pos hc, decide_eq_false (fun e => h (List.cons.inj e).1)]
theorem gap_f (l0 l1 : List S195) (hm : l0.length ≤ 9223372036854775807) : ∃ k, api_Gap.f k l0 l1 = some (decide (l0 = l1)) := by
 by_cases hl : l0.length = l1.length
 ·obtain ⟨k, hk⟩ := gap_run l0 l1 hl hm l0.length 0 (by omega)
  refine ⟨k, ?_⟩
  unfold api_Gap.f
  rw [if_pos (by omega)]
  exact hk
 ·refine ⟨0, ?_⟩
  unfold api_Gap.f
  rw [if_neg (by omega), decide_eq_false (fun e => hl (congrArg List.length e))]
theorem u32_drop (l : List Int) (i : Nat) (h : i < l.length) : l.drop i = rd l (i : Int) :: l.drop (i + 1) := by
 rw [List.drop_eq_getElem_cons h]
 have e : rd l (i : Int) = l[i] := by
  simp [rd, List.getD_eq_getElem?_getD, h]
 rw [e]
theorem u32_run (l0 l1 : List Int) (hl : l0.length = l1.length) (hm : l0.length ≤ 9223372036854775807) (m i : Nat) (hi : i + m = l0.length) : ∃ k, slices_Equal_uint32_uint32.l0 k l0 l1 (l0.length : Int) (i : Int) = some (decide (l0.drop i = l1.drop i)) := by
 induction m generalizing i with
 | zero =>
  refine ⟨1, ?_⟩
  unfold slices_Equal_uint32_uint32.l0
  rw [if_neg (by omega), show i = l0.length by omega, List.drop_length, hl, List.drop_length]
  rfl
 | succ m ih =>
  obtain ⟨k, hk⟩ := ih (i + 1) (by omega)
  refine ⟨k + 1, ?_⟩
  unfold slices_Equal_uint32_uint32.l0
  rw [if_pos (by omega), if_pos (by omega), if_pos (by omega), if_pos (by omega), u32_drop l0 i (by omega), u32_drop l1 i (by omega), show wrap64 ((i : Int) + 1) = ((i + 1 : Nat) : Int) by unfold wrap64; omega, hk]
  by_cases h : rd l0 (i : Int) = rd l1 (i : Int)
  ·rw [if_pos h, h]
   simp
  ·rw [if_neg h, decide_eq_false (fun e => h (List.cons.inj e).1)]
theorem u32_f (l0 l1 : List Int) (hm : l0.length ≤ 9223372036854775807) : ∃ k, slices_Equal_uint32_uint32.f k l0 l1 = some (decide (l0 = l1)) := by
 by_cases hl : l0.length = l1.length
 ·obtain ⟨k, hk⟩ := u32_run l0 l1 hl hm l0.length 0 (by omega)
  refine ⟨k, ?_⟩
  unfold slices_Equal_uint32_uint32.f
  rw [if_pos (by omega)]
  exact hk
 ·refine ⟨0, ?_⟩
  unfold slices_Equal_uint32_uint32.f
  rw [if_neg (by omega), decide_eq_false (fun e => hl (congrArg List.length e))]
theorem byt_drop (l : List Int) (i : Nat) (h : i < l.length) : l.drop i = rd l (i : Int) :: l.drop (i + 1) := by
 rw [List.drop_eq_getElem_cons h]
 have e : rd l (i : Int) = l[i] := by
  simp [rd, List.getD_eq_getElem?_getD, h]
 rw [e]
theorem byt_run (l0 l1 : List Int) (hl : l0.length = l1.length) (hm : l0.length ≤ 9223372036854775807) (m i : Nat) (hi : i + m = l0.length) : ∃ k, slices_Equal_byte_byte.l0 k l0 l1 (l0.length : Int) (i : Int) = some (decide (l0.drop i = l1.drop i)) := by
 induction m generalizing i with
 | zero =>
  refine ⟨1, ?_⟩
  unfold slices_Equal_byte_byte.l0
  rw [if_neg (by omega), show i = l0.length by omega, List.drop_length, hl, List.drop_length]
  rfl
 | succ m ih =>
  obtain ⟨k, hk⟩ := ih (i + 1) (by omega)
  refine ⟨k + 1, ?_⟩
  unfold slices_Equal_byte_byte.l0
  rw [if_pos (by omega), if_pos (by omega), if_pos (by omega), if_pos (by omega), byt_drop l0 i (by omega), byt_drop l1 i (by omega), show wrap64 ((i : Int) + 1) = ((i + 1 : Nat) : Int) by unfold wrap64; omega, hk]
  by_cases h : rd l0 (i : Int) = rd l1 (i : Int)
  ·rw [if_pos h, h]
   simp
  ·rw [if_neg h, decide_eq_false (fun e => h (List.cons.inj e).1)]
theorem byt_f (l0 l1 : List Int) (hm : l0.length ≤ 9223372036854775807) : ∃ k, slices_Equal_byte_byte.f k l0 l1 = some (decide (l0 = l1)) := by
 by_cases hl : l0.length = l1.length
 ·obtain ⟨k, hk⟩ := byt_run l0 l1 hl hm l0.length 0 (by omega)
  refine ⟨k, ?_⟩
  unfold slices_Equal_byte_byte.f
  rw [if_pos (by omega)]
  exact hk
 ·refine ⟨0, ?_⟩
  unfold slices_Equal_byte_byte.f
  rw [if_neg (by omega), decide_eq_false (fun e => hl (congrArg List.length e))]
theorem dups_calls (w : World) (A0 A1 : Option Addr) (c0 c1 : Nat) (l0 l1 : List Int) (h0 : Kd.C (Kd.int .u32) w A0 l0.length l0) (g0 : l0.length ≤ c0) (h1 : Kd.C (Kd.int .u32) w A1 l1.length l1) (g1 : l1.length ≤ c1) :
  Calls Tryz.prog 135 #[.slice A0 l0.length c0, .slice A1 l1.length c1] w fun e w' => e = .returned (.bool (decide (l0 = l1))) ∧ Drawn0 w w' := by
 obtain ⟨k, hk⟩ := u32_f l0 l1 (max_len h0)
 exact slices_Equal_uint32_uint32.calls k A0 c0 l0 A1 c1 l1 _ w h0 g0 h1 g1 hk
theorem bodies_calls (w : World) (A0 A1 : Option Addr) (c0 c1 : Nat) (l0 l1 : List Int) (h0 : Kd.C (Kd.int .u8) w A0 l0.length l0) (g0 : l0.length ≤ c0) (h1 : Kd.C (Kd.int .u8) w A1 l1.length l1) (g1 : l1.length ≤ c1) :
  Calls Tryz.prog 136 #[.slice A0 l0.length c0, .slice A1 l1.length c1] w fun e w' => e = .returned (.bool (decide (l0 = l1))) ∧ Drawn0 w w' := by
 obtain ⟨k, hk⟩ := byt_f l0 l1 (max_len h0)
 exact slices_Equal_byte_byte.calls k A0 c0 l0 A1 c1 l1 _ w h0 g0 h1 g1 hk
theorem gaps_calls (w : World) (A0 A1 : Option Addr) (c0 c1 : Nat) (l0 l1 : List GapS) (h0 : Kd.C k195 w A0 l0.length l0) (g0 : l0.length ≤ c0) (h1 : Kd.C k195 w A1 l1.length l1) (g1 : l1.length ≤ c1) :
  Calls Tryz.prog 134 #[.slice A0 l0.length c0, .slice A1 l1.length c1] w fun e w' => e = .returned (.bool (decide (l0 = l1))) ∧ Drawn0 w w' := by
 obtain ⟨k, hk⟩ := gap_f l0 l1 (max_len h0)
 exact chunk_sameGaps.calls k A0 c0 l0 A1 c1 l1 _ w h0 g0 h1 g1 (by unfold chunk_sameGaps.f; rw [hk]; rfl)
def prmV (q : PrmS) (B : Option Addr) (d : Nat) : Value := .agg #[.int .u16 q.f0, .slice B q.f1.length d]
theorem prm_ext {p q : PrmS} (h0 : p.f0 = q.f0) (h1 : p.f1 = q.f1) : p = q := by
 cases p; cases q; simp_all
theorem same1_calls (p q : PrmS) (B B' : Option Addr) (d d' : Nat) (w : World) (hb : (Kd.int .u8).C w B p.f1.length p.f1) (gb : p.f1.length ≤ d) (hb' : (Kd.int .u8).C w B' q.f1.length q.f1) (gb' : q.f1.length ≤ d') :
  Calls Tryz.prog 163 #[prmV p B d, prmV q B' d'] w fun e w' => e = .returned (.bool (decide (p = q))) ∧ Below w.heap.size w w' := by
 have HB := Lh hb
 have HB' := Lh hb'
 clear hb hb'
 unfold prmV
 by_cases h : p.f0 = q.f0
 ·have hq : decide (p = q) = decide (p.f1 = q.f1) := by
   by_cases h2 : p.f1 = q.f1
   ·rw [decide_eq_true (prm_ext h h2), decide_eq_true h2]
   ·rw [decide_eq_false (fun e => h2 (congrArg S123.f1 e)), decide_eq_false h2]
  rw [hq, h]
  have HE := Lh (fun (W : World) (g : (Kd.int .u8).C W B p.f1.length p.f1) (g' : (Kd.int .u8).C W B' q.f1.length q.f1) => bodies_calls W B B' d d' p.f1 q.f1 g gb g' gb')
  clear h hq
  generalize q.f0 = t at *
  generalize decide (p.f1 = q.f1) = r at *
  generalize p.f1.length = n at *
  generalize q.f1.length = n' at *
  go_enter Tryz.func163, Tryz.ntmps163
  go_wp2_with fail
  refine (HE.out _ (Kd.C_alloc (Kd.C_alloc HB.out _) _) (Kd.C_alloc (Kd.C_alloc HB'.out _) _)).mono ?_
  rintro e w1 ⟨rfl, ⟨m, rfl⟩⟩
  go_wp2
  go_ret
  exact ⟨rfl, pw_below_drewN (below_alloc (below_alloc (Below.refl _ _) _) _) m⟩
 ·have hq : decide (p = q) = false := decide_eq_false (fun e => h (congrArg S123.f0 e))
  have ht : (p.f0 == q.f0) = false := by simpa using h
  rw [hq]
  clear h hq
  generalize p.f0 = t at *
  generalize q.f0 = t' at *
  generalize p.f1.length = n at *
  generalize q.f1.length = n' at *
  go_enter Tryz.func163, Tryz.ntmps163
  go_wp2
  go_ret
  exact ⟨rfl, below_alloc (below_alloc (Below.refl _ _) _) _⟩
theorem prm_drop (qs : List PrmS) (i : Nat) (h : i < qs.length) : qs.drop i = rd_T123 qs (i : Int) :: qs.drop (i + 1) := by
 rw [List.drop_eq_getElem_cons h]
 congr 1
 simp [rd_T123, List.getD_eq_getElem?_getD, h]
theorem equalF_calls (w : World) (A A' : Option Addr) (c c' : Nat) (qs rs : List PrmS) (h : Kd.C k123 w A qs.length qs) (h' : Kd.C k123 w A' rs.length rs) :
  Calls Tryz.prog 162 #[.slice A qs.length c, .slice A' rs.length c', .func (.func 163) #[] #[]] w fun e w' => e = .returned (.bool (decide (qs = rs))) ∧ Below w.heap.size w w' := by
 have hm := h.2.1
 have hm' := h'.2.1
 have H := Lh h
 have H' := Lh h'
 clear h h'
 by_cases hL : qs.length = rs.length
 ·have hne : (((qs.length : Nat) : Int) != ((rs.length : Nat) : Int)) = false := by simp [hL]
  have HL := Lh hL
  clear hL
  go_enter Tryz.func162, Tryz.ntmps162
  go_wp2
  go_loopw [17] (fun v17 w' => ∃ i : Nat, i ≤ qs.length ∧ v17 = .int .i64 i ∧ Hid (decide (qs = rs) = decide (qs.drop i = rs.drop i)) ∧ Hid (Below w.heap.size w w')) (fun v17 _ => qs.length - (intOf v17).toNat)
  case atStart => exact ⟨0, by omega, rfl, rfl, Below.refl _ _⟩
  case round =>
   obtain ⟨i, hi, rfl, HS, HB⟩ := hrel
   by_cases hlt : i < qs.length
   ·have hlt' : i < rs.length := by rw [← HL.out]; exact hlt
    obtain ⟨ad, B, d, rfl, x0, y0, z0, b0⟩ := at_T123 (Kd.C_below H.out HB.out) (i : Int) (by omega) (by omega)
    obtain ⟨ad', B', d', rfl, x1, y1, z1, b1⟩ := at_T123 (Kd.C_below H'.out HB.out) (i : Int) (by omega) (by omega)
    rw [Int.toNat_natCast] at x0 y0 x1 y1
    have hd := HS.out
    rw [prm_drop qs i hlt, prm_drop rs i hlt'] at hd
    generalize rd_T123 qs (i : Int) = p at *
    generalize rd_T123 rs (i : Int) = q at *
    have HF := Lh (fun (W : World) (hb : Below wr.heap.size wr W) => same1_calls p q B B' d d' W (Kd.C_below b0 hb) z0 (Kd.C_below b1 hb) z1)
    have s0 : ∀ o, (wr.alloc o).cell? (ad'.add (i * 2)) = _ := fun o => pw_cell_below (below_alloc (Below.refl _ _) o) x1
    have s1 : ∀ o, (wr.alloc o).cell? ⟨(ad'.add (i * 2)).block, (ad'.add (i * 2)).off + 1, none⟩ = _ := fun o => pw_cell_below (below_alloc (Below.refl _ _) o) y1
    have s2 : (p :: qs.drop (i + 1) = q :: rs.drop (i + 1)) = (p = q ∧ qs.drop (i + 1) = rs.drop (i + 1)) := by simp
    clear b0 b1 x1 y1
    unfold prmV at HF
    by_cases hk : p = q
    ·have HD := Lh (show decide (qs = rs) = decide (qs.drop (i + 1) = rs.drop (i + 1)) by rw [hd]; exact decide_eq_decide.2 (by rw [s2]; simp [hk]))
     rw [decide_eq_true hk] at HF
     clear hd hk s2
     generalize p.f1.length = n at *
     generalize p.f0 = t at *
     generalize q.f1.length = n' at *
     generalize q.f0 = t' at *
     go_wp2_with fail
     refine (HF.out _ (below_alloc (below_alloc (Below.refl _ _) _) _)).mono ?_
     rintro e w1 ⟨rfl, hB1⟩
     have HB1 := Lh (below_then HB.out HB.out.size (below_then (below_alloc (below_alloc (Below.refl wr.heap.size wr) _) _) (by simp; omega) hB1))
     clear hB1
     go_wp2
     go_roundw
     case rel => exact ⟨i + 1, by omega, by go_num, HD, HB1⟩
     case measure => simp [intOf]; omega
    ·have HD := Lh (show decide (qs = rs) = false by rw [hd]; exact decide_eq_false (fun e => hk (s2.mp e).1))
     rw [decide_eq_false hk] at HF
     clear hd hk s2
     generalize p.f1.length = n at *
     generalize p.f0 = t at *
     generalize q.f1.length = n' at *
     generalize q.f0 = t' at *
     go_wp2_with fail
     refine (HF.out _ (below_alloc (below_alloc (Below.refl _ _) _) _)).mono ?_
     rintro e w1 ⟨rfl, hB1⟩
     have HB1 := Lh (below_then HB.out HB.out.size (below_then (below_alloc (below_alloc (Below.refl wr.heap.size wr) _) _) (by simp; omega) hB1))
     clear hB1
     go_wp2
     go_ret
     exact ⟨by rw [HD.out]; rfl, HB1.out⟩
   ·obtain rfl : i = qs.length := by omega
    have HD := Lh (show decide (qs = rs) = true by rw [HS.out, List.drop_length, HL.out, List.drop_length]; rfl)
    go_wp2
    go_ret
    exact ⟨by rw [HD.out]; rfl, HB.out⟩
 ·have HD := Lh (show decide (qs = rs) = false from decide_eq_false (fun e => hL (congrArg List.length e)))
  have hl2 : ¬ (qs.length : Int) = (rs.length : Int) := by omega
  go_enter Tryz.func162, Tryz.ntmps162
  go_wp2
  go_ret
  exact ⟨by rw [HD.out]; rfl, Below.refl _ _⟩
theorem sameF_calls (w : World) (A A' : Option Addr) (c c' : Nat) (qs rs : List PrmS) (h : Kd.C k123 w A qs.length qs) (h' : Kd.C k123 w A' rs.length rs) :
  Calls Tryz.prog 137 #[.slice A qs.length c, .slice A' rs.length c'] w fun e w' => e = .returned (.bool (decide (qs = rs))) ∧ Below w.heap.size w w' := by
 have HE := Lh (equalF_calls w A A' c c' qs rs h h')
 clear h h'
 generalize decide (qs = rs) = r at *
 go_enter Tryz.func137, Tryz.ntmps137
 go_wp2_with fail
 refine HE.out.mono ?_
 rintro e w1 ⟨rfl, hB1⟩
 go_wp2
 go_ret
 exact ⟨rfl, hB1⟩
end Go.Proofs.YthiaakjbapgibaaGreat.Ch
end
section
namespace Go.Proofs.YthiaakjbapgibaaGreat.Base
open Go.RowKit YthiaakjbapgibaaGreatW.PrintWords
section
variable {P : Program} {ops : Array Oper} {Q : Exit → Act → World → Prop} {rest : List Oper} {a : Act} {W : World}
theorem step_off {o : Oper} (h : Region.wanted o (yielded ops a.tmps) = false) (k : wpList P ops Q rest (a.put o.dst undef) W) : wpList P ops Q (o :: rest) a W := by
 unfold wpList
 rw [if_neg (by rw [h]; decide)]
 exact k
theorem step_on {o : Oper} {v : Value} {w1 : World} (h : Region.wanted o (yielded ops a.tmps) = true) (hr : (execOp a.eval o).run P W = .ok (.value v) w1) (k : wpList P ops Q rest (a.put o.dst v) w1) : wpList P ops Q (o :: rest) a W := by
 unfold wpList
 rw [if_pos h]
 refine Or.inl ?_
 unfold Oper.wp
 rw [hr]
 exact k
theorem step_in {o : Oper} {f : FuncId} {args : Array Value} {R : World → Prop} {v : Value} (h : Region.wanted o (yielded ops a.tmps) = true) (hr : (execOp a.eval o).run P W = .ok (.enter f args) W) (hc : Calls P f args W fun e w' => e = .returned v ∧ R w') (k : ∀ w', R w' → wpList P ops Q rest (a.put o.dst v) w') : wpList P ops Q (o :: rest) a W := by
 unfold wpList
 rw [if_pos h]
 refine Or.inl ?_
 unfold Oper.wp
 rw [hr, Oper.upon_enter]
 refine hc.mono ?_
 rintro e w' ⟨rfl, hw⟩
 exact k w' hw
theorem wanted_none {o : Oper} (h : o.guard = none) : Region.wanted o (yielded ops a.tmps) = true := by unfold Region.wanted; rw [h]
theorem wanted_on_ {o : Oper} {j p : Nat} {b : Bool} (h : o.guard = some (j, b)) (hj : (ops[j]?).bind (·.dst) = some p) (hp : a.tmps[p]? = some (.bool b)) : Region.wanted o (yielded ops a.tmps) = true := by
 unfold Region.wanted yielded
 rw [h]
 simp [hj, hp]
theorem wanted_off_ {o : Oper} {j p : Nat} {b r : Bool} (h : o.guard = some (j, b)) (hj : (ops[j]?).bind (·.dst) = some p) (hp : a.tmps[p]? = some (.bool r)) (hr : r ≠ b) : Region.wanted o (yielded ops a.tmps) = false := by
 unfold Region.wanted yielded
 rw [h]
 simp [hj, hp, hr]
structure St (a : Act) (N : Nat) (X Y : Value) (p : Nat) (r : Bool) : Prop where
 size : a.tmps.size = N
 defers : a.defers = []
 x : a.tmps[2]? = some X
 y : a.tmps[3]? = some Y
 r : a.tmps[p]? = some (.bool r)
theorem put_get {a : Act} {d k : Nat} {v : Value} (hd : d < a.tmps.size) : (a.put (some d) v).tmps[k]? = if d = k then some v else a.tmps[k]? := by
 simp only [Act.put, Array.getElem?_setIfInBounds]
 split
 ·rfl
 ·rfl
theorem put_size {a : Act} {d : Nat} {v : Value} : (a.put (some d) v).tmps.size = a.tmps.size := by simp [Act.put]
theorem St.put {N : Nat} {X Y : Value} {p d : Nat} {r : Bool} {v : Value} (h : St a N X Y p r) (h3 : 3 < d) (hp : d ≠ p) (hN : d < N) : St (a.put (some d) v) N X Y p r :=
 ⟨put_size.trans h.size, h.defers, by rw [put_get (by rw [h.size]; exact hN), if_neg (by omega)]; exact h.x, by rw [put_get (by rw [h.size]; exact hN), if_neg (by omega)]; exact h.y, by rw [put_get (by rw [h.size]; exact hN), if_neg hp]; exact h.r⟩
theorem St.put_r {N : Nat} {X Y : Value} {p d : Nat} {r b : Bool} (h : St a N X Y p r) (h3 : 3 < d) (hN : d < N) : St (a.put (some d) (.bool b)) N X Y d b :=
 ⟨put_size.trans h.size, h.defers, by rw [put_get (by rw [h.size]; exact hN), if_neg (by omega)]; exact h.x, by rw [put_get (by rw [h.size]; exact hN), if_neg (by omega)]; exact h.y, by rw [put_get (by rw [h.size]; exact hN), if_pos rfl]⟩
theorem St.at {N : Nat} {X Y : Value} {p d : Nat} {r : Bool} {v : Value} (h : St a N X Y p r) (hN : d < N) : (a.put (some d) v).tmps[d]? = some v := by
 rw [put_get (by rw [h.size]; exact hN), if_pos rfl]
theorem St.keep {N : Nat} {X Y : Value} {p d k : Nat} {r : Bool} {v u : Value} (h : St a N X Y p r) (hN : d < N) (hk : d ≠ k) (hu : a.tmps[k]? = some u) : (a.put (some d) v).tmps[k]? = some u := by
 rw [put_get (by rw [h.size]; exact hN), if_neg hk]
 exact hu
def cmb (want r q : Bool) : Bool := if r = want then q else r
theorem link {N s m p j : Nat} {X Y v0 v1 v2 v3 : Value} {want r q : Bool} {o0 o1 o2 o3 o4 o5 o6 : Oper} (h : St a N X Y p r) (h3 : 3 < s) (hps : p < s) (hm3 : 3 < m) (hms : m ≠ s + 5) (hN : s + 5 < N) (hm : m < N)
  (d0 : o0.dst = some s) (d1 : o1.dst = some (s + 1)) (d2 : o2.dst = some (s + 2)) (d3 : o3.dst = some (s + 3)) (d4 : o4.dst = some (s + 4)) (d5 : o5.dst = some (s + 5)) (d6 : o6.dst = some m)
  (g0 : o0.guard = some (j, want)) (g1 : o1.guard = some (j, want)) (g2 : o2.guard = some (j, want)) (g3 : o3.guard = some (j, want)) (g4 : o4.guard = some (j, want)) (g5 : o5.guard = none) (g6 : o6.guard = none)
  (hj : (ops[j]?).bind (·.dst) = some p)
  (r0 : ∀ a : Act, a.tmps[2]? = some X → (execOp a.eval o0).run P W = .ok (.value v0) W)
  (r1 : ∀ a : Act, a.tmps[s]? = some v0 → (execOp a.eval o1).run P W = .ok (.value v1) W)
  (r2 : ∀ a : Act, a.tmps[3]? = some Y → (execOp a.eval o2).run P W = .ok (.value v2) W)
  (r3 : ∀ a : Act, a.tmps[s + 2]? = some v2 → (execOp a.eval o3).run P W = .ok (.value v3) W)
  (r4 : ∀ a : Act, a.tmps[s + 1]? = some v1 → a.tmps[s + 3]? = some v3 → (execOp a.eval o4).run P W = .ok (.value (.bool q)) W)
  (r5 : ∀ a : Act, a.tmps[p]? = some (.bool want) → a.tmps[s + 4]? = some (.bool q) → (execOp a.eval o5).run P W = .ok (.value (.bool q)) W)
  (r5' : ∀ a : Act, a.tmps[p]? = some (.bool (!want)) → (execOp a.eval o5).run P W = .ok (.value (.bool (!want))) W)
  (r6 : ∀ (a : Act) (b : Bool), a.tmps[s + 5]? = some (.bool b) → (execOp a.eval o6).run P W = .ok (.value (.bool b)) W)
  (k : ∀ a', St a' N X Y m (cmb want r q) → wpList P ops Q rest a' W) : wpList P ops Q (o0 :: o1 :: o2 :: o3 :: o4 :: o5 :: o6 :: rest) a W := by
 by_cases hr : r = want
 ·subst hr
  have e : cmb r r q = q := if_pos rfl
  rw [e] at k
  refine step_on (wanted_on_ g0 hj h.r) (r0 _ h.x) ?_
  rw [d0]
  have h0 := h.put (v := v0) h3 (by omega) (by omega : s < N)
  have t0 := h.at (v := v0) (by omega : s < N)
  refine step_on (wanted_on_ g1 hj h0.r) (r1 _ t0) ?_
  rw [d1]
  have h1 := h0.put (d := s + 1) (v := v1) (by omega) (by omega) (by omega)
  have t1 := h0.at (d := s + 1) (v := v1) (by omega)
  refine step_on (wanted_on_ g2 hj h1.r) (r2 _ h1.y) ?_
  rw [d2]
  have h2 := h1.put (d := s + 2) (v := v2) (by omega) (by omega) (by omega)
  have t2 := h1.at (d := s + 2) (v := v2) (by omega)
  have t1 := h1.keep (d := s + 2) (v := v2) (by omega) (by omega) t1
  refine step_on (wanted_on_ g3 hj h2.r) (r3 _ t2) ?_
  rw [d3]
  have h4 := h2.put (d := s + 3) (v := v3) (by omega) (by omega) (by omega)
  have t3 := h2.at (d := s + 3) (v := v3) (by omega)
  have t1 := h2.keep (d := s + 3) (v := v3) (by omega) (by omega) t1
  refine step_on (wanted_on_ g4 hj h4.r) (r4 _ t1 t3) ?_
  rw [d4]
  have h5 := h4.put (d := s + 4) (v := .bool q) (by omega) (by omega) (by omega)
  have t4 := h4.at (d := s + 4) (v := .bool q) (by omega)
  refine step_on (wanted_none g5) (r5 _ h5.r t4) ?_
  rw [d5]
  have h6 := h5.put_r (d := s + 5) (b := q) (by omega) (by omega)
  refine step_on (wanted_none g6) (r6 _ _ h6.r) ?_
  rw [d6]
  exact k _ (h6.put_r hm3 hm)
 ·have e : cmb want r q = r := if_neg hr
  have hn : r = !want := by cases r <;> cases want <;> simp_all
  rw [e] at k
  refine step_off (wanted_off_ g0 hj h.r hr) ?_
  rw [d0]
  have h0 := h.put (v := undef) h3 (by omega) (by omega : s < N)
  refine step_off (wanted_off_ g1 hj h0.r hr) ?_
  rw [d1]
  have h1 := h0.put (d := s + 1) (v := undef) (by omega) (by omega) (by omega)
  refine step_off (wanted_off_ g2 hj h1.r hr) ?_
  rw [d2]
  have h2 := h1.put (d := s + 2) (v := undef) (by omega) (by omega) (by omega)
  refine step_off (wanted_off_ g3 hj h2.r hr) ?_
  rw [d3]
  have h4 := h2.put (d := s + 3) (v := undef) (by omega) (by omega) (by omega)
  refine step_off (wanted_off_ g4 hj h4.r hr) ?_
  rw [d4]
  have h5 := h4.put (d := s + 4) (v := undef) (by omega) (by omega) (by omega)
  subst hn
  refine step_on (wanted_none g5) (r5' _ h5.r) ?_
  rw [d5]
  have h6 := h5.put_r (d := s + 5) (b := !want) (by omega) (by omega)
  refine step_on (wanted_none g6) (r6 _ _ h6.r) ?_
  rw [d6]
  exact k _ (h6.put_r hm3 hm)
theorem link_call {N s m p j : Nat} {X Y v0 v1 v2 v3 : Value} {want r q : Bool} {f : FuncId} {args : Array Value} {R : World → Prop} {o0 o1 o2 o3 o4 o5 o6 : Oper} (h : St a N X Y p r) (h3 : 3 < s) (hps : p < s) (hm3 : 3 < m) (hms : m ≠ s + 5) (hN : s + 5 < N) (hm : m < N)
  (d0 : o0.dst = some s) (d1 : o1.dst = some (s + 1)) (d2 : o2.dst = some (s + 2)) (d3 : o3.dst = some (s + 3)) (d4 : o4.dst = some (s + 4)) (d5 : o5.dst = some (s + 5)) (d6 : o6.dst = some m)
  (g0 : o0.guard = some (j, want)) (g1 : o1.guard = some (j, want)) (g2 : o2.guard = some (j, want)) (g3 : o3.guard = some (j, want)) (g4 : o4.guard = some (j, want)) (g5 : o5.guard = none) (g6 : o6.guard = none)
  (hj : (ops[j]?).bind (·.dst) = some p)
  (r0 : ∀ a : Act, a.tmps[2]? = some X → (execOp a.eval o0).run P W = .ok (.value v0) W)
  (r1 : ∀ a : Act, a.tmps[s]? = some v0 → (execOp a.eval o1).run P W = .ok (.value v1) W)
  (r2 : ∀ a : Act, a.tmps[3]? = some Y → (execOp a.eval o2).run P W = .ok (.value v2) W)
  (r3 : ∀ a : Act, a.tmps[s + 2]? = some v2 → (execOp a.eval o3).run P W = .ok (.value v3) W)
  (r4 : ∀ a : Act, a.tmps[s + 1]? = some v1 → a.tmps[s + 3]? = some v3 → (execOp a.eval o4).run P W = .ok (.enter f args) W)
  (hc : Calls P f args W fun e w' => e = .returned (.bool q) ∧ R w') (hR : R W)
  (r5 : ∀ (a : Act) (W : World), a.tmps[p]? = some (.bool want) → a.tmps[s + 4]? = some (.bool q) → (execOp a.eval o5).run P W = .ok (.value (.bool q)) W)
  (r5' : ∀ a : Act, a.tmps[p]? = some (.bool (!want)) → (execOp a.eval o5).run P W = .ok (.value (.bool (!want))) W)
  (r6 : ∀ (a : Act) (W : World) (b : Bool), a.tmps[s + 5]? = some (.bool b) → (execOp a.eval o6).run P W = .ok (.value (.bool b)) W)
  (k : ∀ a' w', R w' → St a' N X Y m (cmb want r q) → wpList P ops Q rest a' w') : wpList P ops Q (o0 :: o1 :: o2 :: o3 :: o4 :: o5 :: o6 :: rest) a W := by
 by_cases hr : r = want
 ·subst hr
  have e : cmb r r q = q := if_pos rfl
  rw [e] at k
  refine step_on (wanted_on_ g0 hj h.r) (r0 _ h.x) ?_
  rw [d0]
  have h0 := h.put (v := v0) h3 (by omega) (by omega : s < N)
  have t0 := h.at (v := v0) (by omega : s < N)
  refine step_on (wanted_on_ g1 hj h0.r) (r1 _ t0) ?_
  rw [d1]
  have h1 := h0.put (d := s + 1) (v := v1) (by omega) (by omega) (by omega)
  have t1 := h0.at (d := s + 1) (v := v1) (by omega)
  refine step_on (wanted_on_ g2 hj h1.r) (r2 _ h1.y) ?_
  rw [d2]
  have h2 := h1.put (d := s + 2) (v := v2) (by omega) (by omega) (by omega)
  have t2 := h1.at (d := s + 2) (v := v2) (by omega)
  have t1 := h1.keep (d := s + 2) (v := v2) (by omega) (by omega) t1
  refine step_on (wanted_on_ g3 hj h2.r) (r3 _ t2) ?_
  rw [d3]
  have h4 := h2.put (d := s + 3) (v := v3) (by omega) (by omega) (by omega)
  have t3 := h2.at (d := s + 3) (v := v3) (by omega)
  have t1 := h2.keep (d := s + 3) (v := v3) (by omega) (by omega) t1
  refine step_in (wanted_on_ g4 hj h4.r) (r4 _ t1 t3) hc fun w' hw => ?_
  rw [d4]
  have h5 := h4.put (d := s + 4) (v := .bool q) (by omega) (by omega) (by omega)
  have t4 := h4.at (d := s + 4) (v := .bool q) (by omega)
  refine step_on (wanted_none g5) (r5 _ _ h5.r t4) ?_
  rw [d5]
  have h6 := h5.put_r (d := s + 5) (b := q) (by omega) (by omega)
  refine step_on (wanted_none g6) (r6 _ _ _ h6.r) ?_
  rw [d6]
  exact k _ _ hw (h6.put_r hm3 hm)
 ·have e : cmb want r q = r := if_neg hr
  have hn : r = !want := by cases r <;> cases want <;> simp_all
  rw [e] at k
  refine step_off (wanted_off_ g0 hj h.r hr) ?_
  rw [d0]
  have h0 := h.put (v := undef) h3 (by omega) (by omega : s < N)
  refine step_off (wanted_off_ g1 hj h0.r hr) ?_
  rw [d1]
  have h1 := h0.put (d := s + 1) (v := undef) (by omega) (by omega) (by omega)
  refine step_off (wanted_off_ g2 hj h1.r hr) ?_
  rw [d2]
  have h2 := h1.put (d := s + 2) (v := undef) (by omega) (by omega) (by omega)
  refine step_off (wanted_off_ g3 hj h2.r hr) ?_
  rw [d3]
  have h4 := h2.put (d := s + 3) (v := undef) (by omega) (by omega) (by omega)
  refine step_off (wanted_off_ g4 hj h4.r hr) ?_
  rw [d4]
  have h5 := h4.put (d := s + 4) (v := undef) (by omega) (by omega) (by omega)
  subst hn
  refine step_on (wanted_none g5) (r5' _ h5.r) ?_
  rw [d5]
  have h6 := h5.put_r (d := s + 5) (b := !want) (by omega) (by omega)
  refine step_on (wanted_none g6) (r6 _ _ _ h6.r) ?_
  rw [d6]
  exact k _ _ hR (h6.put_r hm3 hm)
theorem link_first {N s : Nat} {X Y v0 v1 v2 v3 : Value} {q : Bool} {o0 o1 o2 o3 o4 o5 : Oper} (hsz : a.tmps.size = N) (hdf : a.defers = []) (hx : a.tmps[2]? = some X) (hy : a.tmps[3]? = some Y) (h3 : 3 < s) (hN : s + 5 < N)
  (d0 : o0.dst = some s) (d1 : o1.dst = some (s + 1)) (d2 : o2.dst = some (s + 2)) (d3 : o3.dst = some (s + 3)) (d4 : o4.dst = some (s + 4)) (d5 : o5.dst = some (s + 5))
  (g0 : o0.guard = none) (g1 : o1.guard = none) (g2 : o2.guard = none) (g3 : o3.guard = none) (g4 : o4.guard = none) (g5 : o5.guard = none)
  (r0 : ∀ a : Act, a.tmps[2]? = some X → (execOp a.eval o0).run P W = .ok (.value v0) W)
  (r1 : ∀ a : Act, a.tmps[s]? = some v0 → (execOp a.eval o1).run P W = .ok (.value v1) W)
  (r2 : ∀ a : Act, a.tmps[3]? = some Y → (execOp a.eval o2).run P W = .ok (.value v2) W)
  (r3 : ∀ a : Act, a.tmps[s + 2]? = some v2 → (execOp a.eval o3).run P W = .ok (.value v3) W)
  (r4 : ∀ a : Act, a.tmps[s + 1]? = some v1 → a.tmps[s + 3]? = some v3 → (execOp a.eval o4).run P W = .ok (.value (.bool q)) W)
  (r5 : ∀ (a : Act) (b : Bool), a.tmps[s + 4]? = some (.bool b) → (execOp a.eval o5).run P W = .ok (.value (.bool b)) W)
  (k : ∀ a', St a' N X Y (s + 5) q → wpList P ops Q rest a' W) : wpList P ops Q (o0 :: o1 :: o2 :: o3 :: o4 :: o5 :: rest) a W := by
 refine step_on (wanted_none g0) (r0 _ hx) ?_
 rw [d0]
 have z0 : (a.put (some s) v0).tmps.size = N := put_size.trans hsz
 have x0 : (a.put (some s) v0).tmps[2]? = some X := by rw [put_get (by omega), if_neg (by omega)]; exact hx
 have y0 : (a.put (some s) v0).tmps[3]? = some Y := by rw [put_get (by omega), if_neg (by omega)]; exact hy
 have t0 : (a.put (some s) v0).tmps[s]? = some v0 := by rw [put_get (by omega), if_pos rfl]
 have f0 : (a.put (some s) v0).defers = [] := hdf
 generalize a.put (some s) v0 = a at *
 refine step_on (wanted_none g1) (r1 _ t0) ?_
 rw [d1]
 have z1 : (a.put (some (s + 1)) v1).tmps.size = N := put_size.trans z0
 have x1 : (a.put (some (s + 1)) v1).tmps[2]? = some X := by rw [put_get (by omega), if_neg (by omega)]; exact x0
 have y1 : (a.put (some (s + 1)) v1).tmps[3]? = some Y := by rw [put_get (by omega), if_neg (by omega)]; exact y0
 have t1 : (a.put (some (s + 1)) v1).tmps[s + 1]? = some v1 := by rw [put_get (by omega), if_pos rfl]
 have f1 : (a.put (some (s + 1)) v1).defers = [] := f0
 clear z0 x0 y0 t0 f0
 generalize a.put (some (s + 1)) v1 = a at *
 refine step_on (wanted_none g2) (r2 _ y1) ?_
 rw [d2]
 have z2 : (a.put (some (s + 2)) v2).tmps.size = N := put_size.trans z1
 have x2 : (a.put (some (s + 2)) v2).tmps[2]? = some X := by rw [put_get (by omega), if_neg (by omega)]; exact x1
 have y2 : (a.put (some (s + 2)) v2).tmps[3]? = some Y := by rw [put_get (by omega), if_neg (by omega)]; exact y1
 have t2 : (a.put (some (s + 2)) v2).tmps[s + 2]? = some v2 := by rw [put_get (by omega), if_pos rfl]
 have u2 : (a.put (some (s + 2)) v2).tmps[s + 1]? = some v1 := by rw [put_get (by omega), if_neg (by omega)]; exact t1
 have f2 : (a.put (some (s + 2)) v2).defers = [] := f1
 clear z1 x1 y1 t1 f1
 generalize a.put (some (s + 2)) v2 = a at *
 refine step_on (wanted_none g3) (r3 _ t2) ?_
 rw [d3]
 have z3 : (a.put (some (s + 3)) v3).tmps.size = N := put_size.trans z2
 have x3 : (a.put (some (s + 3)) v3).tmps[2]? = some X := by rw [put_get (by omega), if_neg (by omega)]; exact x2
 have y3 : (a.put (some (s + 3)) v3).tmps[3]? = some Y := by rw [put_get (by omega), if_neg (by omega)]; exact y2
 have t3 : (a.put (some (s + 3)) v3).tmps[s + 3]? = some v3 := by rw [put_get (by omega), if_pos rfl]
 have u3 : (a.put (some (s + 3)) v3).tmps[s + 1]? = some v1 := by rw [put_get (by omega), if_neg (by omega)]; exact u2
 have f3 : (a.put (some (s + 3)) v3).defers = [] := f2
 clear z2 x2 y2 t2 f2 u2
 generalize a.put (some (s + 3)) v3 = a at *
 refine step_on (wanted_none g4) (r4 _ u3 t3) ?_
 rw [d4]
 have h4 : St (a.put (some (s + 4)) (.bool q)) N X Y (s + 4) q := ⟨put_size.trans z3, f3, by rw [put_get (by omega), if_neg (by omega)]; exact x3, by rw [put_get (by omega), if_neg (by omega)]; exact y3, by rw [put_get (by omega), if_pos rfl]⟩
 refine step_on (wanted_none g5) (r5 _ _ h4.r) ?_
 rw [d5]
 exact k _ (h4.put_r (by omega) (by omega))
end
end Go.Proofs.YthiaakjbapgibaaGreat.Base
end
section
namespace Go.Proofs.YthiaakjbapgibaaGreat.Ch
open Go.RowKit YthiaakjbapgibaaGreatW.PrintWords Base PCh
theorem chk_decide (x y : Chk) : decide (x = y) = ((((((((((((((((x.f0 == y.f0) && (x.f1 == y.f1)) && (x.f2 == y.f2)) && (x.f3 == y.f3)) && (x.f4 == y.f4)) && (x.f5 == y.f5)) && (x.f6 == y.f6)) && (x.f7 == y.f7)) && (x.f8 == y.f8)) && (x.f9 == y.f9)) && decide (x.f10 = y.f10)) && decide (x.f11 = y.f11)) && decide (x.f12 = y.f12)) && decide (x.f13 = y.f13)) && decide (x.f14 = y.f14))) := by
 by_cases h : x = y
 ·subst h
  simp
 ·rw [decide_eq_false h]
  symm
  rw [Bool.eq_false_iff]
  intro hb
  simp only [Bool.and_eq_true, beq_iff_eq, decide_eq_true_eq] at hb
  exact h (chk_ext hb.1.1.1.1.1.1.1.1.1.1.1.1.1.1 hb.1.1.1.1.1.1.1.1.1.1.1.1.1.2 hb.1.1.1.1.1.1.1.1.1.1.1.1.2 hb.1.1.1.1.1.1.1.1.1.1.1.2 hb.1.1.1.1.1.1.1.1.1.1.2 hb.1.1.1.1.1.1.1.1.1.2 hb.1.1.1.1.1.1.1.1.2 hb.1.1.1.1.1.1.1.2 hb.1.1.1.1.1.1.2 hb.1.1.1.1.1.2 hb.1.1.1.1.2 hb.1.1.1.2 hb.1.1.2 hb.1.2 hb.2)
theorem cmb_true (r q : Bool) : cmb true r q = (r && q) := by cases r <;> cases q <;> rfl
set_option maxHeartbeats 4000000 in
theorem same_calls (w : World) (x y : Chk) (L M : Lay) (hx : CR w x L) (hy : CR w y M) :
  Calls Tryz.prog 102 #[.agg (CV x L), .agg (CV y M)] w fun e w' => e = .returned (.bool (decide (x = y))) ∧ Below w.heap.size w w' := by
 rw [chk_decide]
 have H10 := Lh (fun (W : World) (hb : Below w.heap.size w W) => gaps_calls W L.A10 M.A10 L.c10 M.c10 x.f10 y.f10 (Kd.C_below hx.h10 hb) hx.l10 (Kd.C_below hy.h10 hb) hy.l10)
 have H11 := Lh (fun (W : World) (hb : Below w.heap.size w W) => gaps_calls W L.A11 M.A11 L.c11 M.c11 x.f11 y.f11 (Kd.C_below hx.h11 hb) hx.l11 (Kd.C_below hy.h11 hb) hy.l11)
 have H12 := Lh (fun (W : World) (hb : Below w.heap.size w W) => dups_calls W L.A12 M.A12 L.c12 M.c12 x.f12 y.f12 (Kd.C_below hx.h12 hb) hx.l12 (Kd.C_below hy.h12 hb) hy.l12)
 have H13 := Lh (fun (W : World) (hb : Below w.heap.size w W) => bodies_calls W L.A13 M.A13 L.c13 M.c13 x.f13 y.f13 (Kd.C_below hx.h13 hb) hx.l13 (Kd.C_below hy.h13 hb) hy.l13)
 have H14 := Lh (fun (W : World) (hb : Below w.heap.size w W) => sameF_calls W L.A14 M.A14 L.c14 M.c14 x.f14 y.f14 (Kd.C_below hx.h14 hb) (Kd.C_below hy.h14 hb))
 clear hx hy
 have HB := Lh (below_alloc (below_alloc (Below.refl w.heap.size w) (.cells (CV x L) 65)) (.cells (CV y M) 65))
 have O0 := Lh (show ((w.alloc (.cells (CV x L) 65)).alloc (.cells (CV y M) 65)).heap[w.heap.size]? = some (.cells (CV x L) 65 (0, 0)) from blk_alloc (blk_new _ _) _)
 have O1 := Lh (show ((w.alloc (.cells (CV x L) 65)).alloc (.cells (CV y M) 65)).heap[w.heap.size + 1]? = some (.cells (CV y M) 65 (0, 0)) by have h := blk_new (w.alloc (.cells (CV x L) 65)) (.cells (CV y M) 65); rw [World.size_alloc] at h; exact h)
 have u0 := (blk_cell O0.out 0).trans (show (CV x L)[0]? = some (.int .u8 x.f0) from rfl)
 have v0 := (blk_cell O1.out 0).trans (show (CV y M)[0]? = some (.int .u8 y.f0) from rfl)
 have U0 := Lh u0
 have V0 := Lh v0
 clear u0 v0
 have u1 := (blk_cell O0.out 1).trans (show (CV x L)[1]? = some (.int .u8 x.f1) from rfl)
 have v1 := (blk_cell O1.out 1).trans (show (CV y M)[1]? = some (.int .u8 y.f1) from rfl)
 have U1 := Lh u1
 have V1 := Lh v1
 clear u1 v1
 have u2 := (blk_cell O0.out 2).trans (show (CV x L)[2]? = some (.int .u32 x.f2) from rfl)
 have v2 := (blk_cell O1.out 2).trans (show (CV y M)[2]? = some (.int .u32 y.f2) from rfl)
 have U2 := Lh u2
 have V2 := Lh v2
 clear u2 v2
 have u3 := (blk_cell O0.out 3).trans (show (CV x L)[3]? = some (.int .u16 x.f3) from rfl)
 have v3 := (blk_cell O1.out 3).trans (show (CV y M)[3]? = some (.int .u16 y.f3) from rfl)
 have U3 := Lh u3
 have V3 := Lh v3
 clear u3 v3
 have u4 := (blk_cell O0.out 4).trans (show (CV x L)[4]? = some (.int .u16 x.f4) from rfl)
 have v4 := (blk_cell O1.out 4).trans (show (CV y M)[4]? = some (.int .u16 y.f4) from rfl)
 have U4 := Lh u4
 have V4 := Lh v4
 clear u4 v4
 have u5 := (blk_cell O0.out 5).trans (show (CV x L)[5]? = some (.int .u32 x.f5) from rfl)
 have v5 := (blk_cell O1.out 5).trans (show (CV y M)[5]? = some (.int .u32 y.f5) from rfl)
 have U5 := Lh u5
 have V5 := Lh v5
 clear u5 v5
 have u6 := (blk_cell O0.out 6).trans (show (CV x L)[6]? = some (.int .u32 x.f6) from rfl)
 have v6 := (blk_cell O1.out 6).trans (show (CV y M)[6]? = some (.int .u32 y.f6) from rfl)
 have U6 := Lh u6
 have V6 := Lh v6
 clear u6 v6
 have u7 := (blk_cell O0.out 7).trans (show (CV x L)[7]? = some (.int .u32 x.f7) from rfl)
 have v7 := (blk_cell O1.out 7).trans (show (CV y M)[7]? = some (.int .u32 y.f7) from rfl)
 have U7 := Lh u7
 have V7 := Lh v7
 clear u7 v7
 have u8 := (blk_cell O0.out 8).trans (show (CV x L)[8]? = some (.int .u16 x.f8) from rfl)
 have v8 := (blk_cell O1.out 8).trans (show (CV y M)[8]? = some (.int .u16 y.f8) from rfl)
 have U8 := Lh u8
 have V8 := Lh v8
 clear u8 v8
 have u9 := (blk_cell O0.out 9).trans (show (CV x L)[9]? = some (.int .u16 x.f9) from rfl)
 have v9 := (blk_cell O1.out 9).trans (show (CV y M)[9]? = some (.int .u16 y.f9) from rfl)
 have U9 := Lh u9
 have V9 := Lh v9
 clear u9 v9
 have u10 := (blk_cell O0.out 10).trans (show (CV x L)[10]? = some (.slice L.A10 x.f10.length L.c10) from rfl)
 have v10 := (blk_cell O1.out 10).trans (show (CV y M)[10]? = some (.slice M.A10 y.f10.length M.c10) from rfl)
 have U10 := Lh u10
 have V10 := Lh v10
 clear u10 v10
 have u11 := (blk_cell O0.out 11).trans (show (CV x L)[11]? = some (.slice L.A11 x.f11.length L.c11) from rfl)
 have v11 := (blk_cell O1.out 11).trans (show (CV y M)[11]? = some (.slice M.A11 y.f11.length M.c11) from rfl)
 have U11 := Lh u11
 have V11 := Lh v11
 clear u11 v11
 have u12 := (blk_cell O0.out 12).trans (show (CV x L)[12]? = some (.slice L.A12 x.f12.length L.c12) from rfl)
 have v12 := (blk_cell O1.out 12).trans (show (CV y M)[12]? = some (.slice M.A12 y.f12.length M.c12) from rfl)
 have U12 := Lh u12
 have V12 := Lh v12
 clear u12 v12
 have u13 := (blk_cell O0.out 13).trans (show (CV x L)[13]? = some (.slice L.A13 x.f13.length L.c13) from rfl)
 have v13 := (blk_cell O1.out 13).trans (show (CV y M)[13]? = some (.slice M.A13 y.f13.length M.c13) from rfl)
 have U13 := Lh u13
 have V13 := Lh v13
 clear u13 v13
 have u14 := (blk_cell O0.out 14).trans (show (CV x L)[14]? = some (.slice L.A14 x.f14.length L.c14) from rfl)
 have v14 := (blk_cell O1.out 14).trans (show (CV y M)[14]? = some (.slice M.A14 y.f14.length M.c14) from rfl)
 have U14 := Lh u14
 have V14 := Lh v14
 clear u14 v14
 clear O0 O1
 generalize decide (x.f10 = y.f10) = r10 at *
 generalize decide (x.f11 = y.f11) = r11 at *
 generalize decide (x.f12 = y.f12) = r12 at *
 generalize decide (x.f13 = y.f13) = r13 at *
 generalize decide (x.f14 = y.f14) = r14 at *
 generalize x.f10.length = n10 at *
 generalize y.f10.length = m10 at *
 generalize x.f11.length = n11 at *
 generalize y.f11.length = m11 at *
 generalize x.f12.length = n12 at *
 generalize y.f12.length = m12 at *
 generalize x.f13.length = n13 at *
 generalize y.f13.length = m13 at *
 generalize x.f14.length = n14 at *
 generalize y.f14.length = m14 at *
 generalize x.f0 = a0 at *
 generalize y.f0 = b0 at *
 generalize x.f1 = a1 at *
 generalize y.f1 = b1 at *
 generalize x.f2 = a2 at *
 generalize y.f2 = b2 at *
 generalize x.f3 = a3 at *
 generalize y.f3 = b3 at *
 generalize x.f4 = a4 at *
 generalize y.f4 = b4 at *
 generalize x.f5 = a5 at *
 generalize y.f5 = b5 at *
 generalize x.f6 = a6 at *
 generalize y.f6 = b6 at *
 generalize x.f7 = a7 at *
 generalize y.f7 = b7 at *
 generalize x.f8 = a8 at *
 generalize y.f8 = b8 at *
 generalize x.f9 = a9 at *
 generalize y.f9 = b9 at *
 generalize q0 : (a0 == b0) = r0 at *
 generalize q1 : (a1 == b1) = r1 at *
 generalize q2 : (a2 == b2) = r2 at *
 generalize q3 : (a3 == b3) = r3 at *
 generalize q4 : (a4 == b4) = r4 at *
 generalize q5 : (a5 == b5) = r5 at *
 generalize q6 : (a6 == b6) = r6 at *
 generalize q7 : (a7 == b7) = r7 at *
 generalize q8 : (a8 == b8) = r8 at *
 generalize q9 : (a9 == b9) = r9 at *
 have Q0 := Lh q0
 clear q0
 have Q1 := Lh q1
 clear q1
 have Q2 := Lh q2
 clear q2
 have Q3 := Lh q3
 clear q3
 have Q4 := Lh q4
 clear q4
 have Q5 := Lh q5
 clear q5
 have Q6 := Lh q6
 clear q6
 have Q7 := Lh q7
 clear q7
 have Q8 := Lh q8
 clear q8
 have Q9 := Lh q9
 clear q9
 generalize CV x L = CX at *
 generalize CV y M = CY at *
 go_enter Tryz.func102, Tryz.ntmps102
 go_upto_region 1 with (fail)
 generalize (w.alloc (.cells CX 65)).alloc (.cells CY 65) = W at *
 refine wp_region_lit ?_
 (try simp only [List.cons_append, List.nil_append])
 refine link_first (N := 108) (s := 5) (X := .pointer (some ⟨w.heap.size, 0, none⟩)) (Y := .pointer (some ⟨w.heap.size + 1, 0, none⟩)) (v0 := .pointer (some ⟨w.heap.size, 0, none⟩)) (v1 := .int .u8 a0) (v2 := .pointer (some ⟨w.heap.size + 1, 0, none⟩)) (v3 := .int .u8 b0) (q := r0) (by rfl) rfl (by rfl) (by rfl) (by omega) (by omega) rfl rfl rfl rfl rfl rfl rfl rfl rfl rfl rfl rfl (fun a h => by go_simp) (fun a h => by have u := U0.out; go_simp) (fun a h => by go_simp) (fun a h => by have u := V0.out; go_simp) (fun a h h' => by have q := Q0.out; go_simp) (fun a b h => by go_simp) (fun a0_ h0 => ?_)
 refine link (N := 108) (s := 11) (m := 17) (p := 10) (j := 5) (X := .pointer (some ⟨w.heap.size, 0, none⟩)) (Y := .pointer (some ⟨w.heap.size + 1, 0, none⟩)) (v0 := .pointer (some ⟨w.heap.size, 1, none⟩)) (v1 := .int .u8 a1) (v2 := .pointer (some ⟨w.heap.size + 1, 1, none⟩)) (v3 := .int .u8 b1) (want := true) (r := r0) (q := r1) h0 (by omega) (by omega) (by omega) (by omega) (by omega) (by omega) rfl rfl rfl rfl rfl rfl rfl rfl rfl rfl rfl rfl rfl rfl rfl (fun a h => by go_simp) (fun a h => by have u := U1.out; go_simp) (fun a h => by go_simp) (fun a h => by have u := V1.out; go_simp) (fun a h h' => by have q := Q1.out; go_simp) (fun a h h' => by go_simp) (fun a h => by go_simp) (fun a b h => by go_simp) (fun a1_ h1 => ?_)
 rw [cmb_true] at h1
 refine link (N := 108) (s := 18) (m := 24) (p := 17) (j := 12) (X := .pointer (some ⟨w.heap.size, 0, none⟩)) (Y := .pointer (some ⟨w.heap.size + 1, 0, none⟩)) (v0 := .pointer (some ⟨w.heap.size, 2, none⟩)) (v1 := .int .u32 a2) (v2 := .pointer (some ⟨w.heap.size + 1, 2, none⟩)) (v3 := .int .u32 b2) (want := true) (r := (r0 && r1)) (q := r2) h1 (by omega) (by omega) (by omega) (by omega) (by omega) (by omega) rfl rfl rfl rfl rfl rfl rfl rfl rfl rfl rfl rfl rfl rfl rfl (fun a h => by go_simp) (fun a h => by have u := U2.out; go_simp) (fun a h => by go_simp) (fun a h => by have u := V2.out; go_simp) (fun a h h' => by have q := Q2.out; go_simp) (fun a h h' => by go_simp) (fun a h => by go_simp) (fun a b h => by go_simp) (fun a2_ h2 => ?_)
 rw [cmb_true] at h2
 refine link (N := 108) (s := 25) (m := 31) (p := 24) (j := 19) (X := .pointer (some ⟨w.heap.size, 0, none⟩)) (Y := .pointer (some ⟨w.heap.size + 1, 0, none⟩)) (v0 := .pointer (some ⟨w.heap.size, 3, none⟩)) (v1 := .int .u16 a3) (v2 := .pointer (some ⟨w.heap.size + 1, 3, none⟩)) (v3 := .int .u16 b3) (want := true) (r := ((r0 && r1) && r2)) (q := r3) h2 (by omega) (by omega) (by omega) (by omega) (by omega) (by omega) rfl rfl rfl rfl rfl rfl rfl rfl rfl rfl rfl rfl rfl rfl rfl (fun a h => by go_simp) (fun a h => by have u := U3.out; go_simp) (fun a h => by go_simp) (fun a h => by have u := V3.out; go_simp) (fun a h h' => by have q := Q3.out; go_simp) (fun a h h' => by go_simp) (fun a h => by go_simp) (fun a b h => by go_simp) (fun a3_ h3 => ?_)
 rw [cmb_true] at h3
 refine link (N := 108) (s := 32) (m := 38) (p := 31) (j := 26) (X := .pointer (some ⟨w.heap.size, 0, none⟩)) (Y := .pointer (some ⟨w.heap.size + 1, 0, none⟩)) (v0 := .pointer (some ⟨w.heap.size, 4, none⟩)) (v1 := .int .u16 a4) (v2 := .pointer (some ⟨w.heap.size + 1, 4, none⟩)) (v3 := .int .u16 b4) (want := true) (r := (((r0 && r1) && r2) && r3)) (q := r4) h3 (by omega) (by omega) (by omega) (by omega) (by omega) (by omega) rfl rfl rfl rfl rfl rfl rfl rfl rfl rfl rfl rfl rfl rfl rfl (fun a h => by go_simp) (fun a h => by have u := U4.out; go_simp) (fun a h => by go_simp) (fun a h => by have u := V4.out; go_simp) (fun a h h' => by have q := Q4.out; go_simp) (fun a h h' => by go_simp) (fun a h => by go_simp) (fun a b h => by go_simp) (fun a4_ h4 => ?_)
 rw [cmb_true] at h4
 refine link (N := 108) (s := 39) (m := 45) (p := 38) (j := 33) (X := .pointer (some ⟨w.heap.size, 0, none⟩)) (Y := .pointer (some ⟨w.heap.size + 1, 0, none⟩)) (v0 := .pointer (some ⟨w.heap.size, 5, none⟩)) (v1 := .int .u32 a5) (v2 := .pointer (some ⟨w.heap.size + 1, 5, none⟩)) (v3 := .int .u32 b5) (want := true) (r := ((((r0 && r1) && r2) && r3) && r4)) (q := r5) h4 (by omega) (by omega) (by omega) (by omega) (by omega) (by omega) rfl rfl rfl rfl rfl rfl rfl rfl rfl rfl rfl rfl rfl rfl rfl (fun a h => by go_simp) (fun a h => by have u := U5.out; go_simp) (fun a h => by go_simp) (fun a h => by have u := V5.out; go_simp) (fun a h h' => by have q := Q5.out; go_simp) (fun a h h' => by go_simp) (fun a h => by go_simp) (fun a b h => by go_simp) (fun a5_ h5 => ?_)
 rw [cmb_true] at h5
 refine link (N := 108) (s := 46) (m := 52) (p := 45) (j := 40) (X := .pointer (some ⟨w.heap.size, 0, none⟩)) (Y := .pointer (some ⟨w.heap.size + 1, 0, none⟩)) (v0 := .pointer (some ⟨w.heap.size, 6, none⟩)) (v1 := .int .u32 a6) (v2 := .pointer (some ⟨w.heap.size + 1, 6, none⟩)) (v3 := .int .u32 b6) (want := true) (r := (((((r0 && r1) && r2) && r3) && r4) && r5)) (q := r6) h5 (by omega) (by omega) (by omega) (by omega) (by omega) (by omega) rfl rfl rfl rfl rfl rfl rfl rfl rfl rfl rfl rfl rfl rfl rfl (fun a h => by go_simp) (fun a h => by have u := U6.out; go_simp) (fun a h => by go_simp) (fun a h => by have u := V6.out; go_simp) (fun a h h' => by have q := Q6.out; go_simp) (fun a h h' => by go_simp) (fun a h => by go_simp) (fun a b h => by go_simp) (fun a6_ h6 => ?_)
 rw [cmb_true] at h6
 refine link (N := 108) (s := 53) (m := 59) (p := 52) (j := 47) (X := .pointer (some ⟨w.heap.size, 0, none⟩)) (Y := .pointer (some ⟨w.heap.size + 1, 0, none⟩)) (v0 := .pointer (some ⟨w.heap.size, 7, none⟩)) (v1 := .int .u32 a7) (v2 := .pointer (some ⟨w.heap.size + 1, 7, none⟩)) (v3 := .int .u32 b7) (want := true) (r := ((((((r0 && r1) && r2) && r3) && r4) && r5) && r6)) (q := r7) h6 (by omega) (by omega) (by omega) (by omega) (by omega) (by omega) rfl rfl rfl rfl rfl rfl rfl rfl rfl rfl rfl rfl rfl rfl rfl (fun a h => by go_simp) (fun a h => by have u := U7.out; go_simp) (fun a h => by go_simp) (fun a h => by have u := V7.out; go_simp) (fun a h h' => by have q := Q7.out; go_simp) (fun a h h' => by go_simp) (fun a h => by go_simp) (fun a b h => by go_simp) (fun a7_ h7 => ?_)
 rw [cmb_true] at h7
 refine link (N := 108) (s := 60) (m := 66) (p := 59) (j := 54) (X := .pointer (some ⟨w.heap.size, 0, none⟩)) (Y := .pointer (some ⟨w.heap.size + 1, 0, none⟩)) (v0 := .pointer (some ⟨w.heap.size, 8, none⟩)) (v1 := .int .u16 a8) (v2 := .pointer (some ⟨w.heap.size + 1, 8, none⟩)) (v3 := .int .u16 b8) (want := true) (r := (((((((r0 && r1) && r2) && r3) && r4) && r5) && r6) && r7)) (q := r8) h7 (by omega) (by omega) (by omega) (by omega) (by omega) (by omega) rfl rfl rfl rfl rfl rfl rfl rfl rfl rfl rfl rfl rfl rfl rfl (fun a h => by go_simp) (fun a h => by have u := U8.out; go_simp) (fun a h => by go_simp) (fun a h => by have u := V8.out; go_simp) (fun a h h' => by have q := Q8.out; go_simp) (fun a h h' => by go_simp) (fun a h => by go_simp) (fun a b h => by go_simp) (fun a8_ h8 => ?_)
 rw [cmb_true] at h8
 refine link (N := 108) (s := 67) (m := 73) (p := 66) (j := 61) (X := .pointer (some ⟨w.heap.size, 0, none⟩)) (Y := .pointer (some ⟨w.heap.size + 1, 0, none⟩)) (v0 := .pointer (some ⟨w.heap.size, 9, none⟩)) (v1 := .int .u16 a9) (v2 := .pointer (some ⟨w.heap.size + 1, 9, none⟩)) (v3 := .int .u16 b9) (want := true) (r := ((((((((r0 && r1) && r2) && r3) && r4) && r5) && r6) && r7) && r8)) (q := r9) h8 (by omega) (by omega) (by omega) (by omega) (by omega) (by omega) rfl rfl rfl rfl rfl rfl rfl rfl rfl rfl rfl rfl rfl rfl rfl (fun a h => by go_simp) (fun a h => by have u := U9.out; go_simp) (fun a h => by go_simp) (fun a h => by have u := V9.out; go_simp) (fun a h h' => by have q := Q9.out; go_simp) (fun a h h' => by go_simp) (fun a h => by go_simp) (fun a b h => by go_simp) (fun a9_ h9 => ?_)
 rw [cmb_true] at h9
 clear h0 h1 h2 h3 h4 h5 h6 h7 h8
 refine link_call (N := 108) (s := 74) (m := 80) (p := 73) (j := 68) (X := .pointer (some ⟨w.heap.size, 0, none⟩)) (Y := .pointer (some ⟨w.heap.size + 1, 0, none⟩)) (v0 := .pointer (some ⟨w.heap.size, 10, none⟩)) (v1 := .slice L.A10 n10 L.c10) (v2 := .pointer (some ⟨w.heap.size + 1, 10, none⟩)) (v3 := .slice M.A10 m10 M.c10) (want := true) (r := (((((((((r0 && r1) && r2) && r3) && r4) && r5) && r6) && r7) && r8) && r9)) (q := r10) (R := (fun w' => Drawn0 (W) w')) h9 (by omega) (by omega) (by omega) (by omega) (by omega) (by omega) rfl rfl rfl rfl rfl rfl rfl rfl rfl rfl rfl rfl rfl rfl rfl (fun a h => by go_simp) (fun a h => by have u := U10.out; go_simp) (fun a h => by go_simp) (fun a h => by have u := V10.out; go_simp) (fun a h h' => by go_simp) (H10.out _ HB.out) (Drawn0.refl _) (fun a W h h' => by go_simp) (fun a h => by go_simp) (fun a W b h => by go_simp) (fun a10_ W10 g10 h10 => ?_)
 rw [cmb_true] at h10
 obtain ⟨k10, rfl⟩ := g10
 refine link_call (N := 108) (s := 81) (m := 87) (p := 80) (j := 75) (X := .pointer (some ⟨w.heap.size, 0, none⟩)) (Y := .pointer (some ⟨w.heap.size + 1, 0, none⟩)) (v0 := .pointer (some ⟨w.heap.size, 11, none⟩)) (v1 := .slice L.A11 n11 L.c11) (v2 := .pointer (some ⟨w.heap.size + 1, 11, none⟩)) (v3 := .slice M.A11 m11 M.c11) (want := true) (r := ((((((((((r0 && r1) && r2) && r3) && r4) && r5) && r6) && r7) && r8) && r9) && r10)) (q := r11) (R := (fun w' => Drawn0 (W.drewN k10) w')) h10 (by omega) (by omega) (by omega) (by omega) (by omega) (by omega) rfl rfl rfl rfl rfl rfl rfl rfl rfl rfl rfl rfl rfl rfl rfl (fun a h => by go_simp) (fun a h => by have u := U11.out; go_simp) (fun a h => by go_simp) (fun a h => by have u := V11.out; go_simp) (fun a h h' => by go_simp) (H11.out _ (pw_below_drewN HB.out _)) (Drawn0.refl _) (fun a W h h' => by go_simp) (fun a h => by go_simp) (fun a W b h => by go_simp) (fun a11_ W11 g11 h11 => ?_)
 rw [cmb_true] at h11
 obtain ⟨k11, rfl⟩ := g11
 rw [World.drewN_drewN]
 refine link_call (N := 108) (s := 88) (m := 94) (p := 87) (j := 82) (X := .pointer (some ⟨w.heap.size, 0, none⟩)) (Y := .pointer (some ⟨w.heap.size + 1, 0, none⟩)) (v0 := .pointer (some ⟨w.heap.size, 12, none⟩)) (v1 := .slice L.A12 n12 L.c12) (v2 := .pointer (some ⟨w.heap.size + 1, 12, none⟩)) (v3 := .slice M.A12 m12 M.c12) (want := true) (r := (((((((((((r0 && r1) && r2) && r3) && r4) && r5) && r6) && r7) && r8) && r9) && r10) && r11)) (q := r12) (R := (fun w' => Drawn0 (W.drewN (k10 + k11)) w')) h11 (by omega) (by omega) (by omega) (by omega) (by omega) (by omega) rfl rfl rfl rfl rfl rfl rfl rfl rfl rfl rfl rfl rfl rfl rfl (fun a h => by go_simp) (fun a h => by have u := U12.out; go_simp) (fun a h => by go_simp) (fun a h => by have u := V12.out; go_simp) (fun a h h' => by go_simp) (H12.out _ (pw_below_drewN HB.out _)) (Drawn0.refl _) (fun a W h h' => by go_simp) (fun a h => by go_simp) (fun a W b h => by go_simp) (fun a12_ W12 g12 h12 => ?_)
 rw [cmb_true] at h12
 obtain ⟨k12, rfl⟩ := g12
 rw [World.drewN_drewN]
 refine link_call (N := 108) (s := 95) (m := 101) (p := 94) (j := 89) (X := .pointer (some ⟨w.heap.size, 0, none⟩)) (Y := .pointer (some ⟨w.heap.size + 1, 0, none⟩)) (v0 := .pointer (some ⟨w.heap.size, 13, none⟩)) (v1 := .slice L.A13 n13 L.c13) (v2 := .pointer (some ⟨w.heap.size + 1, 13, none⟩)) (v3 := .slice M.A13 m13 M.c13) (want := true) (r := ((((((((((((r0 && r1) && r2) && r3) && r4) && r5) && r6) && r7) && r8) && r9) && r10) && r11) && r12)) (q := r13) (R := (fun w' => Drawn0 (W.drewN (k10 + k11 + k12)) w')) h12 (by omega) (by omega) (by omega) (by omega) (by omega) (by omega) rfl rfl rfl rfl rfl rfl rfl rfl rfl rfl rfl rfl rfl rfl rfl (fun a h => by go_simp) (fun a h => by have u := U13.out; go_simp) (fun a h => by go_simp) (fun a h => by have u := V13.out; go_simp) (fun a h h' => by go_simp) (H13.out _ (pw_below_drewN HB.out _)) (Drawn0.refl _) (fun a W h h' => by go_simp) (fun a h => by go_simp) (fun a W b h => by go_simp) (fun a13_ W13 g13 h13 => ?_)
 rw [cmb_true] at h13
 obtain ⟨k13, rfl⟩ := g13
 rw [World.drewN_drewN]
 refine link_call (N := 108) (s := 102) (m := 4) (p := 101) (j := 96) (X := .pointer (some ⟨w.heap.size, 0, none⟩)) (Y := .pointer (some ⟨w.heap.size + 1, 0, none⟩)) (v0 := .pointer (some ⟨w.heap.size, 14, none⟩)) (v1 := .slice L.A14 n14 L.c14) (v2 := .pointer (some ⟨w.heap.size + 1, 14, none⟩)) (v3 := .slice M.A14 m14 M.c14) (want := true) (r := (((((((((((((r0 && r1) && r2) && r3) && r4) && r5) && r6) && r7) && r8) && r9) && r10) && r11) && r12) && r13)) (q := r14) (R := (fun w' => Below w.heap.size w w')) h13 (by omega) (by omega) (by omega) (by omega) (by omega) (by omega) rfl rfl rfl rfl rfl rfl rfl rfl rfl rfl rfl rfl rfl rfl rfl (fun a h => by go_simp) (fun a h => by have u := U14.out; go_simp) (fun a h => by go_simp) (fun a h => by have u := V14.out; go_simp) (fun a h h' => by go_simp) ((H14.out _ (pw_below_drewN HB.out _)).mono (fun e w' h => ⟨h.1, below_then (pw_below_drewN HB.out _) (pw_below_drewN HB.out _).size h.2⟩)) (pw_below_drewN HB.out _) (fun a W h h' => by go_simp) (fun a h => by go_simp) (fun a W b h => by go_simp) (fun a14_ W14 g14 h14 => ?_)
 rw [cmb_true] at h14
 refine wpList_nil ?_
 rename_i Q1 K1 hK1
 refine hK1 _ _ ?_
 apply wp_ret
 refine bodyPost_ret (results_tmp rfl _ _ _) h14.defers ⟨?_, g14⟩
 rw [Array.getD_eq_getD_getElem?, h14.r]
 rfl
end Go.Proofs.YthiaakjbapgibaaGreat.Ch
end
section
namespace Go.Proofs.YthiaakjbapgibaaGreat.ParCauses
open Go.RowKit YthiaakjbapgibaaGreatW.PrintWords PCh Base
theorem rd_drop (ps : List S123) (i : Nat) (h : i < ps.length) : ps.drop i = rd_T123 ps (i : Int) :: ps.drop (i + 1) := by
 rw [List.drop_eq_getElem_cons h]
 unfold rd_T123
 rw [Int.toNat_natCast]
 simp [List.getD_eq_getElem?_getD, h]
end Go.Proofs.YthiaakjbapgibaaGreat.ParCauses
end
section
namespace Go.Proofs.YthiaakjbapgibaaGreat.ParDec
open Go.RowKit YthiaakjbapgibaaGreatW.PrintWords YthiaakjbapgibaaGreatW.PrintLast YthiaakjbapgibaaGreatW.PrintMore PCh ParCauses Base
attribute [local go_sem] min2_int min_two
theorem drawn_below {w w' : World} (h : Drawn0 w w') : Below w.heap.size w w' := by
 obtain ⟨n, rfl⟩ := h
 exact pw_below_drewN (Below.refl _ _) n
end Go.Proofs.YthiaakjbapgibaaGreat.ParDec
end
section
namespace Go.Proofs.YthiaakjbapgibaaGreat.Base
open Go.RowKit YthiaakjbapgibaaGreatW.PrintWords
theorem clone_calls (A : Option Addr) (c : Nat) (l : List UInt8) (w : World) (hb : byte.C w A l.length l) (hm : l.length ≤ 140737488355328) :
  Calls Tryz.prog 146 #[.slice A l.length c] w (RetR byte 5 l w) := by
 cases A with
 | none =>
  have hl : l = [] := by
   rcases Nat.eq_zero_or_pos l.length with h | h
   ·exact List.eq_nil_of_length_eq_zero h
   ·obtain ⟨ad, e, _⟩ := hb.2.2 h
    cases e
  subst hl
  have he := fun (W : World) => Lib.run_eql_slice_nil (P := Tryz.prog) W 62 5 none 0 c 0 0 Tryz.underlying62
  go_enter Tryz.func146, Tryz.ntmps146
  go_wp2
  go_ret
  exact ⟨_, rfl, Kd.R_nil _ _ _ _ _, Below.refl _ _⟩
 | some ad =>
  have he := fun (W : World) => Lib.run_eql_slice_nil (P := Tryz.prog) W 62 5 (some ad) l.length c 0 0 Tryz.underlying62
  have hO : byte.R 5 (w.alloc (.cells #[] 5)) w.heap.size (fun _ => True) (.slice (some ⟨w.heap.size, 0, none⟩) 0 0) [] := Kd.R_of_own (own_lit_of (enc := fun b : UInt8 => Value.int .u8 (b.toNat : Int)) w w.heap.size 5 [] (Nat.le_refl _) (by simp)) (fun _ _ => trivial)
  have HO := Lh hO
  clear hO
  go_enter Tryz.func146, Tryz.ntmps146
  go_wp2_with (at_builtin; go_must (refine Kd.R_append_row (fun b : UInt8 => .int .u8 (b.toNat : Int)) (0 : UInt8) (w0 := w) w.heap.size rfl _ _ 62 5 _ 1 rfl Tryz.underlying62 info_u8 rfl (by decide) _ [] l (some ad) l.length c (fun _ => True) rfl rfl (fun _ _ => trivial) HO.out (Kd.C_alloc hb _) ((Below.refl _ _).alloc (Nat.le_refl _) _) (by simp) (by simpa using hm) ?_); intro v1 w1 hR1 hB1 _ _; clear hb he)
  go_ret
  exact ⟨_, rfl, hR1, hB1⟩
end Go.Proofs.YthiaakjbapgibaaGreat.Base
end
section
namespace Go.Proofs.YthiaakjbapgibaaGreat.ParDec
open Go.RowKit YthiaakjbapgibaaGreatW.PrintWords PCh ParCauses Base
def w3 (w : World) : World := (((w.alloc (.cells #[.slice none 0 0] 63)).alloc (.cells #[.int .i64 0] 3)).alloc (.cells #[.int .i64 0] 31))
end Go.Proofs.YthiaakjbapgibaaGreat.ParDec
end
section
namespace Go.Proofs.YthiaakjbapgibaaGreat.ParEnc
open Go.RowKit YthiaakjbapgibaaGreatW.PrintWords PCh
def padL (x : List Int) : List Int := x ++ List.replicate ((4 - x.length % 4) % 4) 0
def twoI (a : Int) : List Int := [(a / 256) % 256, a % 256]
def stepB (b : List Int) (p : S123) : List Int := padL b ++ twoI p.f0 ++ twoI (IntKind.u16.wrap (wrap64 (4 + (p.f1.length : Int)))) ++ p.f1
def runB : List Int → List S123 → List Int × Int
 | b, [] => (b, 0)
 | b, p :: r => if (p.f1.length : Int) > 65531 then ([], 2) else runB (stepB b p) r
theorem padL_le (x : List Int) : (padL x).length ≤ x.length + 3 := by
 unfold padL
 rw [List.length_append, List.length_replicate]
 omega
theorem stepB_le (b : List Int) (p : S123) (h : (p.f1.length : Int) ≤ 65531) : (stepB b p).length ≤ b.length + 65538 := by
 have := padL_le b
 unfold stepB twoI
 simp only [List.length_append, List.length_cons, List.length_nil]
 omega
theorem pad_step (x : List Int) (h : ¬ x.length % 4 = 0) : padL (x ++ [0]) = padL x := by
 unfold padL
 rw [List.length_append, List.length_singleton]
 obtain ⟨m, hm⟩ : ∃ m, (4 - x.length % 4) % 4 = m + 1 := ⟨(4 - x.length % 4) % 4 - 1, by omega⟩
 have h2 : (4 - (x.length + 1) % 4) % 4 = m := by omega
 rw [hm, h2, List.replicate_succ, List.append_assoc]
 rfl
theorem pad_done (x : List Int) (h : x.length % 4 = 0) : padL x = x := by
 unfold padL
 rw [h]
 simp
theorem l1_pads (n : Nat) (k : Nat) (x4 : List Int) (x10 : List S123) (x11 x12 a : Int) (q : List Int) (r : List Int × Int) (hb : x4.length + n ≤ 100000000) (hq : (q.length : Int) ≤ 65531) (hn : (4 - x4.length % 4) % 4 = n)
  (hr : param_Encode.l0 k (padL x4 ++ twoI a ++ twoI (IntKind.u16.wrap (wrap64 (4 + (q.length : Int)))) ++ q) x10 x11 (wrap64 (x12 + 1)) = some r) : param_Encode.l1 (k + n + 1) x4 x10 x11 x12 a q = some r := by
 induction n generalizing x4 with
 | zero =>
  have h0 : x4.length % 4 = 0 := by omega
  rw [pad_done x4 h0] at hr
  unfold param_Encode.l1
  have h1 : ¬ ((x4.length : Int) % 4 > 0) := by omega
  rw [if_neg h1]
  have e1 : param_two.f x4 a = some (x4 ++ twoI a) := by
   unfold param_two.f twoI
   simp only [Option.bind_some]
   rw [if_pos (by simp only [List.length_cons, List.length_nil]; omega)]
  rw [e1, Option.bind_some]
  have e2 : param_two.f (x4 ++ twoI a) (IntKind.u16.wrap (wrap64 (4 + (q.length : Int)))) = some (x4 ++ twoI a ++ twoI (IntKind.u16.wrap (wrap64 (4 + (q.length : Int))))) := by
   unfold param_two.f
   simp only [Option.bind_some]
   rw [if_pos (by simp only [List.length_append, twoI, List.length_cons, List.length_nil]; omega)]
   rfl
  rw [e2, Option.bind_some, if_pos (by simp only [List.length_append, twoI, List.length_cons, List.length_nil]; omega)]
  exact hr
 | succ n ih =>
  have h0 : ¬ x4.length % 4 = 0 := by omega
  unfold param_Encode.l1
  rw [if_pos (by omega), if_pos (by omega)]
  rw [← pad_step x4 h0] at hr
  exact ih (x4 ++ [0]) (by rw [List.length_append, List.length_singleton]; omega) (by rw [List.length_append, List.length_singleton]; omega) hr
theorem rd_drop (ps : List S123) (i : Nat) (h : i < ps.length) : ps.drop i = rd_T123 ps (i : Int) :: ps.drop (i + 1) := by
 rw [List.drop_eq_getElem_cons h]
 unfold rd_T123
 rw [Int.toNat_natCast]
 simp [List.getD_eq_getElem?_getD, h]
theorem wrap64_nat (n : Nat) (h : n ≤ 1000000) : wrap64 ((n : Int) + 1) = ((n + 1 : Nat) : Int) := by unfold wrap64; omega
theorem l0_run (ps : List S123) (hps : ps.length ≤ 256) (m i : Nat) (hm : ps.length - i = m) (hi : i ≤ ps.length) (b : List Int) (hb : b.length ≤ 65538 * i) : ∃ k, param_Encode.l0 k b ps (ps.length : Int) (i : Int) = some (runB b (ps.drop i)) := by
 induction m generalizing i b with
 | zero =>
  obtain rfl : i = ps.length := by omega
  refine ⟨1, ?_⟩
  unfold param_Encode.l0
  rw [if_neg (by omega), List.drop_length]
  rfl
 | succ m ih =>
  have hlt : i < ps.length := by omega
  rw [rd_drop ps i hlt]
  by_cases h : ((rd_T123 ps (i : Int)).f1.length : Int) > 65531
  ·refine ⟨1, ?_⟩
   unfold param_Encode.l0
   rw [if_pos (by omega), if_pos (by omega), if_pos (by omega), if_pos h]
   unfold runB
   rw [if_pos h]
  ·have hsb := stepB_le b (rd_T123 ps (i : Int)) (by omega)
   obtain ⟨k, hk⟩ := ih (i + 1) (by omega) (by omega) (stepB b (rd_T123 ps (i : Int))) (by omega)
   refine ⟨k + (4 - b.length % 4) % 4 + 1 + 1, ?_⟩
   unfold param_Encode.l0
   rw [if_pos (by omega), if_pos (by omega), if_pos (by omega), if_neg h]
   have hr : runB b (rd_T123 ps (i : Int) :: ps.drop (i + 1)) = runB (stepB b (rd_T123 ps (i : Int))) (ps.drop (i + 1)) := by
    conv => lhs; unfold runB
    rw [if_neg h]
   rw [hr]
   refine l1_pads _ k b ps _ _ _ _ _ (by omega) (by omega) rfl ?_
   rw [wrap64_nat i (by omega)]
   exact hk
theorem encode_run (ps : List S123) : ∃ k, param_Encode.f k ps = some (if ps.length > 256 then ([], 3) else runB [] ps) := by
 by_cases h : ps.length > 256
 ·refine ⟨0, ?_⟩
  unfold param_Encode.f
  rw [if_pos (by omega), if_pos h]
 ·obtain ⟨k, hk⟩ := l0_run ps (by omega) _ 0 rfl (by omega) [] (by simp)
  refine ⟨k, ?_⟩
  unfold param_Encode.f
  rw [if_neg (by omega), if_neg h]
  rw [List.drop_zero] at hk
  exact hk
end Go.Proofs.YthiaakjbapgibaaGreat.ParEnc
end
section
namespace Go.Proofs.YthiaakjbapgibaaGreat.Ch
open Go.RowKit YthiaakjbapgibaaGreatW.PrintWords Base PCh
structure Fr (gw : Nat) (w W : World) : Prop where
 below : Below gw w W
 kept : ∀ (k : Nat) (cells : Array Value) (t : TypeId), t ≠ 5 → t ≠ 168 → w.heap[k]? = some (Obj.cells cells t (0, 0)) → W.heap[k]? = some (Obj.cells cells t (0, 0))
theorem Fr.refl (gw : Nat) (w : World) : Fr gw w w := ⟨Below.refl _ _, fun _ _ _ _ _ h => h⟩
theorem Fr.trans {gw : Nat} {a b c : World} (h : Fr gw a b) (k : Fr gw b c) : Fr gw a c := ⟨h.below.trans k.below, fun i cells t h1 h2 h3 => k.kept i cells t h1 h2 (h.kept i cells t h1 h2 h3)⟩
theorem Fr.alloc {gw : Nat} {a b : World} (h : Fr gw a b) (hg : gw ≤ b.heap.size) (x : Obj) : Fr gw a (b.alloc x) := ⟨h.below.alloc hg x, fun i cells t h1 h2 h3 => blk_alloc (h.kept i cells t h1 h2 h3) x⟩
theorem Fr.drewN {gw : Nat} {a b : World} (h : Fr gw a b) (n : Nat) : Fr gw a (b.drewN n) := ⟨pw_below_drewN h.below n, fun i cells t h1 h2 h3 => blk_drewN (h.kept i cells t h1 h2 h3) n⟩
theorem Fr.set {gw : Nat} {a b : World} (h : Fr gw a b) {cs : Array Value} (hg : b.heap[gw]? = some (.cells cs 168 (0, 0))) (i : Nat) (u : Value) : Fr gw a (b.setCell ⟨gw, i, none⟩ u) :=
 ⟨h.below.setCell (Nat.le_refl _) u, fun k cells t h1 h2 h3 => blk_far (h.kept k cells t h1 h2 h3) (by
  intro e
  have h4 := h.kept k cells t h1 h2 h3
  dsimp only at e
  subst e
  rw [hg] at h4
  injection h4 with h4
  injection h4 with _ h5 _
  exact h2 h5.symm) u⟩
def twoL : List Int → List Int
 | [] => []
 | n :: r => [n / 256 % 256, n % 256] ++ twoL r
def fourL : List Int → List Int
 | [] => []
 | n :: r => [n / 16777216 % 256, n / 65536 % 256, n / 256 % 256, n % 256] ++ fourL r
end Go.Proofs.YthiaakjbapgibaaGreat.Ch
end
section
namespace Go.Proofs.YthiaakjbapgibaaGreat.Ch
open Go.RowKit YthiaakjbapgibaaGreatW.PrintWords Base PCh ParDec
def beatB (ps : List PrmS) : Bool := match ps with
 | [p] => decide (p.f0 = 1)
 | _ => false
end Go.Proofs.YthiaakjbapgibaaGreat.Ch
end
section
namespace Go.Proofs.YthiaakjbapgibaaGreat.Ch
open Go.RowKit YthiaakjbapgibaaGreatW.PrintWords Base PCh ParDec
theorem beat_f (a0 a1 a2 a3 a4 a5 a6 a7 a8 a9 : Int) (l10 l11 : List GapS) (l12 l13 : List Int) (ps : List PrmS) : chunk_beat.f a0 a1 a2 a3 a4 a5 a6 a7 a8 a9 l10 l11 l12 l13 ps = some (beatB ps) := by
 unfold chunk_beat.f beatB
 match ps with
 | [] => rfl
 | [p] => simp [rd_T123]; rfl
 | p :: q :: r => rw [if_neg (by simp only [List.length_cons]; omega)]
end Go.Proofs.YthiaakjbapgibaaGreat.Ch
end
section
namespace Go.Proofs.YthiaakjbapgibaaGreat.Ch
open Go.RowKit YthiaakjbapgibaaGreatW.PrintWords Base PCh ParDec
def maskD (kd : Int) : Int := if kd = 0 then 7 else if kd = 6 ∨ kd = 14 then 1 else if kd ≤ 11 ∨ kd = 16 then 0 else 255
theorem mask_f (kd : Int) : chunk_mask.f 1 kd = some (maskD kd) := by
 by_cases h0 : kd = 0
 ·simp [chunk_mask.f, maskD, h0]
 by_cases h6 : kd = 6
 ·simp [chunk_mask.f, chunk_mask.j0, maskD, h6, chunk_plain.f]
 by_cases h14 : kd = 14
 ·simp [chunk_mask.f, chunk_mask.j0, maskD, h14]
 by_cases h11 : kd ≤ 11
 ·simp [chunk_mask.f, chunk_mask.j0, maskD, h0, h6, h14, h11, chunk_plain.f]
 by_cases h16 : kd = 16
 ·simp [chunk_mask.f, chunk_mask.j0, maskD, h16, chunk_plain.f]
 ·simp [chunk_mask.f, chunk_mask.j0, maskD, h0, h6, h14, h11, h16, chunk_plain.f]
theorem mask_calls (kd : Int) (w : World) : Calls Tryz.prog 138 #[.int .u8 kd] w fun e w' => e = .returned (.int .u8 (maskD kd)) ∧ Drawn0 w w' := chunk_mask.calls 1 kd _ w (mask_f kd)
end Go.Proofs.YthiaakjbapgibaaGreat.Ch
end
section
namespace Go.Proofs.YthiaakjbapgibaaGreat.Ch
open Go.RowKit YthiaakjbapgibaaGreatW.PrintWords YthiaakjbapgibaaGreatW.PrintLast YthiaakjbapgibaaGreatW.PrintMore Base PCh ParDec
attribute [local go_sem] min2_int min_two
def flD (kd b1 : Int) : Int := bits .and .u8 b1 (maskD kd)
theorem below_setRow {B g : Nat} {a w : World} (h : Below B a w) (hg : B ≤ g) (cs : Array Value) : Below B a (w.setRow g cs) :=
 ⟨h.os, h.tape, h.output, by rw [setRow_size]; exact h.size, fun k hk => (setRow_other _ _ _ _ (by omega)).trans (h.block k hk)⟩
theorem exec_store_row {P : Program} {o : Oper} {a : Act} {w : World} (ty : TypeId) (x y : Operand) (ho : o.op = .store ty x y) {g : Nat} {cells : Array Value} (hx : a.eval x = .pointer (some ⟨g, 0, none⟩)) (hy : a.eval y = .agg cells) {t : TypeId} {old : Array Value} (hg : w.heap[g]? = some (.cells old t (0, 0))) (hi : (P.info? ty).map (·.size) = some cells.size)
  (hold : old.size = cells.size) (h1 : cells.all (·.oneCell') = true) : (execOp a.eval o).run P w = .ok .skip (w.setRow g cells) := by
 unfold execOp
 simp only [ho, hx, hy, Instr.storeAt, Instr.sureAddr, Sem.run_bind, Sem.run_pure, Result.andThen_ok, run_storeVar_row w g t ty old cells hg hi hold h1]
end Go.Proofs.YthiaakjbapgibaaGreat.Ch
end
section
namespace Go.Proofs.YthiaakjbapgibaaGreat.Ch
open Go.RowKit YthiaakjbapgibaaGreatW.PrintWords YthiaakjbapgibaaGreatW.PrintLast Base PCh ParDec
abbrev zerV : Array Value := #[.int .u8 0, .int .u8 0, .int .u32 0, .int .u16 0, .int .u16 0, .int .u32 0, .int .u32 0, .int .u32 0, .int .u16 0, .int .u16 0, .slice none 0 0, .slice none 0 0, .slice none 0 0, .slice none 0 0, .slice none 0 0]
theorem wpList_ret_row {ops : Array Oper} {rest : List Oper} {o1 o2 : Oper} {a : Act} {w : World} {Q : Exit → Act → World → Prop} (n : Tmp) (hd : o1.dst = some n) (h1 : o1.guard = none) (h2 : o2.guard = none) (x y : Operand) (ho1 : o1.op = .load 65 x) (ho2 : o2.op = .store 65 y (.tmp n)) (hd2 : o2.dst = none)
  (g gr : Nat) (cs old : Array Value) (e2 : a.eval x = .pointer (some ⟨g, 0, none⟩)) (e3 : (a.put (some n) (.agg cs)).eval (.tmp n) = .agg cs) (e4 : (a.put (some n) (.agg cs)).eval y = .pointer (some ⟨gr, 0, none⟩)) (hg : w.heap[g]? = some (.cells cs 65 (0, 0))) (hr : w.heap[gr]? = some (.cells old 65 (0, 0))) (hs : cs.size = 15) (hold : old.size = 15) (hone : cs.all (·.oneCell') = true)
  (h : wpList Tryz.prog ops Q rest (a.put (some n) (.agg cs)) (w.setRow gr cs)) : wpList Tryz.prog ops Q (o1 :: o2 :: rest) a w := by
 have hi : (Tryz.prog.info? 65).map (·.size) = some cs.size := by rw [hs]; kernel_rfl
 refine wpList_load_row h1 65 x ho1 g e2 65 cs (0, 0) _ hg Tryz.underlying65 rfl hi ?_
 rw [hd]
 refine wpList_store_row h2 65 y (.tmp n) ho2 gr cs e4 e3 65 old hr hi (by omega) hone ?_
 rw [hd2]
 exact h
theorem wp_gen {P : Program} {c : Code} {Q : Exit → Act → World → Prop} {a : Act} {W0 : World} (Pd : World → Prop) (h0 : Pd W0) (h : ∀ W, Pd W → c.wp P Q a W) : c.wp P Q a W0 := h W0 h0
structure Bx (w : World) (cs : Array Value) (W : World) : Prop where
 x0 : W.heap[w.heap.size]? = some (.cells cs 65 (0, 0))
 x1 : W.heap[w.heap.size + 1]? = some (.cells zerV 65 (0, 0))
 x2 : Below w.heap.size w W
 x3 : w.heap.size + 2 ≤ W.heap.size
theorem Bx.drewN {w W : World} {cs : Array Value} (h : Bx w cs W) (n : Nat) : Bx w cs (W.drewN n) := ⟨blk_drewN h.x0 n, blk_drewN h.x1 n, pw_below_drewN h.x2 n, by have := (pw_below_drewN (Below.refl W.heap.size W) n).size; have := h.x3; omega⟩
theorem Bx.set {w W : World} {cs : Array Value} (h : Bx w cs W) (i : Nat) (v : Value) : Bx w (cs.setIfInBounds i v) (W.setCell ⟨w.heap.size, i, none⟩ v) :=
 ⟨blk_put h.x0 i v rfl, (Below.heap_setCell _ ⟨w.heap.size, i, none⟩ _ _ (Nat.succ_ne_self _)).trans h.x1, h.x2.setCell (p := ⟨w.heap.size, i, none⟩) (Nat.le_refl _) v, by have := h.x3; simp [World.setCell]; exact this⟩
theorem Bx.below {w W W' : World} {cs : Array Value} (h : Bx w cs W) (hb : Below W.heap.size W W') : Bx w cs W' := ⟨blk_below h.x0 hb, blk_below h.x1 hb, below_then h.x2 h.x2.size hb, Nat.le_trans h.x3 hb.size⟩
theorem Bx.cell {w W : World} {cs : Array Value} (h : Bx w cs W) (i : Nat) : W.cell? ⟨w.heap.size, i, none⟩ = cs[i]? := blk_cell h.x0 i
theorem Bx.new (w : World) (cs : Array Value) : Bx w cs ((w.alloc (.cells cs 65)).alloc (.cells zerV 65)) := by
 refine ⟨blk_alloc (blk_new _ _) _, ?_, below_alloc (below_alloc (Below.refl _ _) _) _, by simp⟩
 have h := blk_new (w.alloc (.cells cs 65)) (.cells zerV 65)
 rw [World.size_alloc] at h
 exact h
end Go.Proofs.YthiaakjbapgibaaGreat.Ch
end
section
namespace Go.Proofs.YthiaakjbapgibaaGreat.Ch
open Go.RowKit YthiaakjbapgibaaGreatW.PrintWords YthiaakjbapgibaaGreatW.PrintLast Base PCh ParDec
def hasF (kd : Int) (i : Nat) : Bool :=
 if kd = 0 then i == 2 || i == 3 || i == 4 || i == 5 || i == 13
 else if kd = 1 ∨ kd = 2 then i == 2 || i == 6 || i == 7 || i == 8 || i == 9 || i == 14
 else if kd = 16 then i == 2 || i == 7 || i == 10 || i == 11 || i == 12
 else if kd = 3 then i == 2 || i == 7 || i == 10 || i == 12
 else if kd = 4 ∨ kd = 5 ∨ kd = 6 ∨ kd = 9 then i == 14
 else if kd = 7 then i == 2
 else if kd = 8 ∨ kd = 11 ∨ kd = 14 then false
 else i == 13
def keepF (p : Nat → Bool) (fl : Int) (x : Chk) : Chk := ⟨x.f0, fl, if p 2 then x.f2 else 0, if p 3 then x.f3 else 0, if p 4 then x.f4 else 0, if p 5 then x.f5 else 0, if p 6 then x.f6 else 0, if p 7 then x.f7 else 0, if p 8 then x.f8 else 0, if p 9 then x.f9 else 0, if p 10 then x.f10 else [], if p 11 then x.f11 else [], if p 12 then x.f12 else [], if p 13 then x.f13 else [], if p 14 then x.f14 else []⟩
def keepL (p : Nat → Bool) (L : Lay) : Lay := ⟨if p 10 then L.A10 else none, if p 10 then L.c10 else 0, if p 11 then L.A11 else none, if p 11 then L.c11 else 0, if p 12 then L.A12 else none, if p 12 then L.c12 else 0, if p 13 then L.A13 else none, if p 13 then L.c13 else 0, if p 14 then L.A14 else none, if p 14 then L.c14 else 0⟩
def bareD (x : Chk) : Chk := keepF (hasF x.f0) (flD x.f0 x.f1) x
theorem keep_CR {w : World} {x : Chk} {L : Lay} (h : CR w x L) (p : Nat → Bool) (fl : Int) : CR w (keepF p fl x) (keepL p L) := by
 refine ⟨?_, ?_, ?_, ?_, ?_, ?_, ?_, ?_, ?_, ?_⟩
 all_goals (unfold keepF keepL; dsimp only)
 ·cases p 10
  ·exact Nat.le_refl _
  ·exact h.l10
 ·cases p 10
  ·exact Kd.C_nil _ _
  ·exact h.h10
 ·cases p 11
  ·exact Nat.le_refl _
  ·exact h.l11
 ·cases p 11
  ·exact Kd.C_nil _ _
  ·exact h.h11
 ·cases p 12
  ·exact Nat.le_refl _
  ·exact h.l12
 ·cases p 12
  ·exact Kd.C_nil _ _
  ·exact h.h12
 ·cases p 13
  ·exact Nat.le_refl _
  ·exact h.l13
 ·cases p 13
  ·exact Kd.C_nil _ _
  ·exact h.h13
 ·cases p 14
  ·exact Nat.le_refl _
  ·exact h.l14
 ·cases p 14
  ·exact Kd.C_nil _ _
  ·exact h.h14
def bareT1 : Bool × List (List Nat × List Nat) := (true, [([], []), ([0], [0]), ([], []), ([2], [2]), ([], []), ([4], [4]), ([5], [5]), ([3, 6], [3, 6]), ([1, 7], [1, 7]), ([], []), ([9, 8, 6, 0, 1, 2, 3, 4, 5, 6, 7, 8, 9], [8, 9])])
def bareB1 : List Nat := [0, 1, 0, 4, 0, 16, 48, 124, 255, 0, 1023]
theorem baretab1 : Go.Proofs.YthiaakjbapgibaaGreatW.PrintLast.rtab .any (Go.Proofs.YthiaakjbapgibaaGreatW.PrintLast.opsOf Tryz.f103 1) = bareT1 := by kernel_rfl
theorem barebits1 : Go.Proofs.YthiaakjbapgibaaGreatW.PrintLast.waitsOk bareT1.2 bareB1 = true := by kernel_rfl
def bareT16 : Bool × List (List Nat × List Nat) := (true, [([], []), ([0], [0]), ([], []), ([2], [2]), ([], []), ([4], [4]), ([], []), ([6], [6]), ([], []), ([8], [8]), ([0, 1], []), ([10, 1, 0, 1], [1, 10]), ([0, 1, 2, 3, 10, 11], []), ([12, 3, 11, 0, 1, 2, 3, 10, 11], [3, 12]), ([0, 1, 2, 3, 4, 5, 10, 11, 12, 13], []), ([14, 5, 13, 0, 1, 2, 3, 4, 5, 10, 11, 12, 13], [5, 14]), ([0, 1, 2, 3, 4, 5, 6, 7, 10, 11, 12, 13, 14, 15], []), ([16, 7, 15, 0, 1, 2, 3, 4, 5, 6, 7, 10, 11, 12, 13, 14, 15], [7, 16]), ([0, 1, 2, 3, 4, 5, 6, 7, 8, 9, 10, 11, 12, 13, 14, 15, 16, 17], []), ([18, 9, 17, 0, 1, 2, 3, 4, 5, 6, 7, 8, 9, 10, 11, 12, 13, 14, 15, 16, 17], [9, 18])])
def bareB16 : List Nat := [0, 1, 0, 4, 0, 16, 0, 64, 0, 256, 3, 1027, 3087, 7183, 15423, 31807, 64767, 130303, 262143, 524287]
theorem baretab16 : Go.Proofs.YthiaakjbapgibaaGreatW.PrintLast.rtab .any (Go.Proofs.YthiaakjbapgibaaGreatW.PrintLast.opsOf Tryz.f103 16) = bareT16 := by kernel_rfl
theorem barebits16 : Go.Proofs.YthiaakjbapgibaaGreatW.PrintLast.waitsOk bareT16.2 bareB16 = true := by kernel_rfl
def bareT17 : Bool × List (List Nat × List Nat) := (true, [([], []), ([0], [0]), ([], []), ([2], [2]), ([], []), ([4], [4]), ([], []), ([6], [6]), ([], []), ([8], [8]), ([], []), ([10], [10]), ([0, 1], []), ([12, 1, 0, 1], [1, 12]), ([0, 1, 2, 3, 12, 13], []), ([14, 3, 13, 0, 1, 2, 3, 12, 13], [3, 14]), ([0, 1, 2, 3, 4, 5, 12, 13, 14, 15], []), ([16, 5, 15, 0, 1, 2, 3, 4, 5, 12, 13, 14, 15], [5, 16]), ([0, 1, 2, 3, 4, 5, 6, 7, 12, 13, 14, 15, 16, 17], []), ([18, 7, 17, 0, 1, 2, 3, 4, 5, 6, 7, 12, 13, 14, 15, 16, 17], [7, 18]), ([0, 1, 2, 3, 4, 5, 6, 7, 8, 9, 12, 13, 14, 15, 16, 17, 18, 19], []), ([20, 9, 19, 0, 1, 2, 3, 4, 5, 6, 7, 8, 9, 12, 13, 14, 15, 16, 17, 18, 19], [9, 20]), ([0, 1, 2, 3, 4, 5, 6, 7, 8, 9, 10, 11, 12, 13, 14, 15, 16, 17, 18, 19, 20, 21], []), ([22, 11, 21, 0, 1, 2, 3, 4, 5, 6, 7, 8, 9, 10, 11, 12, 13, 14, 15, 16, 17, 18, 19, 20, 21], [11, 22])])
def bareB17 : List Nat := [0, 1, 0, 4, 0, 16, 0, 64, 0, 256, 0, 1024, 3, 4099, 12303, 28687, 61503, 127039, 258303, 520447, 1045503, 2094079, 4194303, 8388607]
theorem baretab17 : Go.Proofs.YthiaakjbapgibaaGreatW.PrintLast.rtab .any (Go.Proofs.YthiaakjbapgibaaGreatW.PrintLast.opsOf Tryz.f103 17) = bareT17 := by kernel_rfl
theorem barebits17 : Go.Proofs.YthiaakjbapgibaaGreatW.PrintLast.waitsOk bareT17.2 bareB17 = true := by kernel_rfl
def bareT19 : Bool × List (List Nat × List Nat) := (true, [([], []), ([0], [0]), ([], []), ([2], [2]), ([], []), ([4], [4]), ([], []), ([6], [6]), ([0, 1], []), ([8, 1, 0, 1], [1, 8]), ([0, 1, 2, 3, 8, 9], []), ([10, 3, 9, 0, 1, 2, 3, 8, 9], [3, 10]), ([0, 1, 2, 3, 4, 5, 8, 9, 10, 11], []), ([12, 5, 11, 0, 1, 2, 3, 4, 5, 8, 9, 10, 11], [5, 12]), ([0, 1, 2, 3, 4, 5, 6, 7, 8, 9, 10, 11, 12, 13], []), ([14, 7, 13, 0, 1, 2, 3, 4, 5, 6, 7, 8, 9, 10, 11, 12, 13], [7, 14])])
def bareB19 : List Nat := [0, 1, 0, 4, 0, 16, 0, 64, 3, 259, 783, 1807, 3903, 7999, 16383, 32767]
theorem baretab19 : Go.Proofs.YthiaakjbapgibaaGreatW.PrintLast.rtab .any (Go.Proofs.YthiaakjbapgibaaGreatW.PrintLast.opsOf Tryz.f103 19) = bareT19 := by kernel_rfl
theorem barebits19 : Go.Proofs.YthiaakjbapgibaaGreatW.PrintLast.waitsOk bareT19.2 bareB19 = true := by kernel_rfl
structure By (w : World) (CX cs : Array Value) (g3 : Nat) (W : World) : Prop where
 bx : Bx w CX W
 x3 : W.heap[g3]? = some (.cells cs 65 (0, 0))
 hg : w.heap.size + 2 ≤ g3
theorem By.only {w W W' : World} {CX cs cs' : Array Value} {g3 : Nat} (h : By w CX cs g3 W) (hO : Only (· = g3) W W') (h3 : W'.heap[g3]? = some (.cells cs' 65 (0, 0))) : By w CX cs' g3 W' :=
 ⟨⟨hO.blk h.bx.x0 (by have := h.hg; omega), hO.blk h.bx.x1 (by have := h.hg; omega), h.bx.x2.trans (hO.below h.bx.x2.size (fun k hk => by have := h.hg; omega)), Nat.le_trans h.bx.x3 hO.size⟩, h3, h.hg⟩
theorem By.set {w W : World} {CX cs : Array Value} {g3 : Nat} (h : By w CX cs g3 W) (i : Nat) (v : Value) : By w CX (cs.setIfInBounds i v) g3 (W.setCell ⟨g3, i, none⟩ v) := h.only ((Only.refl (· = g3) W).setCell (fun _ => rfl) v) (blk_put h.x3 i v rfl)
theorem row_end {f : Func} (hf : f.results = #[ResultVar.cell 2 65]) {a : Act} {w W : World} {cs old r : Array Value} {gr : Nat} (hd : a.defers = []) (t2 : a.tmps.getD 2 undef = .pointer (some ⟨gr, 0, none⟩)) (hg : W.heap[gr]? = some (.cells old 65 (0, 0))) (hs : cs.size = 15) (hB : Below w.heap.size w W) (hl : w.heap.size ≤ gr) (h : cs = r) :
  bodyPost Tryz.prog f (fun e w' => e = .returned (.agg r) ∧ Below w.heap.size w w') Exit.ret a (W.setRow gr cs) := by
 have hi : (Tryz.prog.info? 65).map (·.size) = some cs.size := by rw [hs]; kernel_rfl
 have hl2 := run_loadVar_row (W.setRow gr cs) gr 65 65 cs (0, 0) _ (setRow_heap _ _ _ _ _ _ hg) Tryz.underlying65 rfl hi
 rw [Array.getD_eq_getD_getElem?] at t2
 exact bodyPost_ret (v := .agg cs) (by simp [results, hf, asAddr, t2, hl2]) hd ⟨by rw [h], below_setRow hB hl cs⟩
set_option maxHeartbeats 8000000 in
theorem bare_calls (w : World) (x : Chk) (L : Lay) (hx : CR w x L) :
  Calls Tryz.prog 103 #[.agg (CV x L)] w fun e w' => e = .returned (.agg (CV (bareD x) (keepL (hasF x.f0) L))) ∧ Below w.heap.size w w' := by
 clear hx
 obtain ⟨f0, f1, f2, f3, f4, f5, f6, f7, f8, f9, f10, f11, f12, f13, f14⟩ := x
 obtain ⟨A10, c10, A11, c11, A12, c12, A13, c13, A14, c14⟩ := L
 have hkd : (∃ r, bareD ⟨f0, f1, f2, f3, f4, f5, f6, f7, f8, f9, f10, f11, f12, f13, f14⟩ = r) := ⟨_, rfl⟩
 clear hkd
 have X := Bx.new w (CV ⟨f0, f1, f2, f3, f4, f5, f6, f7, f8, f9, f10, f11, f12, f13, f14⟩ ⟨A10, c10, A11, c11, A12, c12, A13, c13, A14, c14⟩)
 go_enter Tryz.func103, Tryz.ntmps103
 go_upto_region 1 with (fail)
 refine wp_gen (Bx w (CV ⟨f0, f1, f2, f3, f4, f5, f6, f7, f8, f9, f10, f11, f12, f13, f14⟩ ⟨A10, c10, A11, c11, A12, c12, A13, c13, A14, c14⟩)) X ?_
 clear X
 intro W X
 have U0 := Lh (show W.cell? ⟨w.heap.size, 0, none⟩ = some (.int .u8 f0) from X.cell 0)
 have U1 := Lh (show W.cell? ⟨w.heap.size, 1, none⟩ = some (.int .u8 f1) from X.cell 1)
 have U2 := Lh (show W.cell? ⟨w.heap.size, 2, none⟩ = some (.int .u32 f2) from X.cell 2)
 have U3 := Lh (show W.cell? ⟨w.heap.size, 3, none⟩ = some (.int .u16 f3) from X.cell 3)
 have U4 := Lh (show W.cell? ⟨w.heap.size, 4, none⟩ = some (.int .u16 f4) from X.cell 4)
 have U5 := Lh (show W.cell? ⟨w.heap.size, 5, none⟩ = some (.int .u32 f5) from X.cell 5)
 have U6 := Lh (show W.cell? ⟨w.heap.size, 6, none⟩ = some (.int .u32 f6) from X.cell 6)
 have U7 := Lh (show W.cell? ⟨w.heap.size, 7, none⟩ = some (.int .u32 f7) from X.cell 7)
 have U8 := Lh (show W.cell? ⟨w.heap.size, 8, none⟩ = some (.int .u16 f8) from X.cell 8)
 have U9 := Lh (show W.cell? ⟨w.heap.size, 9, none⟩ = some (.int .u16 f9) from X.cell 9)
 have U10 := Lh (show W.cell? ⟨w.heap.size, 10, none⟩ = some (.slice A10 f10.length c10) from X.cell 10)
 have U11 := Lh (show W.cell? ⟨w.heap.size, 11, none⟩ = some (.slice A11 f11.length c11) from X.cell 11)
 have U12 := Lh (show W.cell? ⟨w.heap.size, 12, none⟩ = some (.slice A12 f12.length c12) from X.cell 12)
 have U13 := Lh (show W.cell? ⟨w.heap.size, 13, none⟩ = some (.slice A13 f13.length c13) from X.cell 13)
 have U14 := Lh (show W.cell? ⟨w.heap.size, 14, none⟩ = some (.slice A14 f14.length c14) from X.cell 14)
 obtain ⟨fl, hfl⟩ : ∃ fl, flD f0 f1 = fl := ⟨_, rfl⟩
 have HFL := Lh (show bits .and .u8 f1 (maskD f0) = fl from hfl)
 have HFE := Lh hfl
 clear hfl
 have B := True.intro
 refine start_ (n := 11) (S := fun w' => True) (ds := []) #[false, false, false, false, false, false, false, false, false, false, false] (by kernel_rfl) rfl rfl trivial (fun hHeld => ?_)
 refine with_tabW baretab1 barebits1 (fun HT_ HW_ => ?_)
 refine inv_at [0, 1, 2, 3, 4, 5, 6, 7, 8, 9, 10] (fun a0_ b a w' => ∃ (g3 : Nat) (m9_ : Value), a = putSel a0_ b [(0, 4, .pointer (some ⟨w.heap.size, 0, none⟩)), (1, 5, .int .u8 f0), (2, 6, .pointer (some ⟨w.heap.size, 1, none⟩)), (3, 7, .int .u8 f1), (4, 8, .pointer (some ⟨w.heap.size, 0, none⟩)), (5, 9, .int .u8 f0), (6, 10, .int .u8 (maskD f0)), (7, 11, .int .u8 fl), (8, 12, .agg (#[.int .u8 (f0), .int .u8 (fl), .int .u32 0, .int .u16 0, .int .u16 0, .int .u32 0, .int .u32 0, .int .u32 0, .int .u16 0, .int .u16 0, .slice none 0 0, .slice none 0 0, .slice none 0 0, .slice none 0 0, .slice none 0 0])), (9, 3, m9_)] ∧ (Below W.heap.size W w') ∧ (b 9 = true → b 10 = false → w'.heap[g3]? = some (.cells (#[.int .u8 0, .int .u8 0, .int .u32 0, .int .u16 0, .int .u16 0, .int .u32 0, .int .u32 0, .int .u32 0, .int .u16 0, .int .u16 0, .slice none 0 0, .slice none 0 0, .slice none 0 0, .slice none 0 0, .slice none 0 0]) 65 (0, 0)) ∧ W.heap.size ≤ g3) ∧ (b 10 = true → w'.heap[g3]? = some (.cells (#[.int .u8 (f0), .int .u8 (fl), .int .u32 0, .int .u16 0, .int .u16 0, .int .u32 0, .int .u32 0, .int .u32 0, .int .u16 0, .int .u16 0, .slice none 0 0, .slice none 0 0, .slice none 0 0, .slice none 0 0, .slice none 0 0]) 65 (0, 0)) ∧ W.heap.size ≤ g3) ∧ (b 9 = true → (m9_ : Value) = .pointer (some ⟨g3, 0, none⟩))) HT_.out HW_.out (by kernel_rfl) (by kernel_rfl) ?_ ?_ ?_
 ·exact ⟨0, .bool false, by simp only [putSel, Bool.false_eq_true, if_false], below_drew (Below.refl _ _), fun h_ => absurd h_ (by decide), fun h_ => absurd h_ (by decide), fun h_ => absurd h_ (by decide)⟩
 ·skip
  clear B
  refine sc rfl ?_ ?_
  ·rintro b a w' ⟨g3, m9_, ha, Q_B, Q_Z, Q_Z2, Q_X9_⟩ hb_ hon hoff K hK
   have e1 : a.tmps[1]? = some (.pointer (some ⟨w.heap.size, 0, none⟩)) := by rw [ha]; exact (putSel_off rfl).trans rfl
   replace ha := Am ha
   refine value_ (w1 := w') (v := .pointer (some ⟨w.heap.size, 0, none⟩)) (by rfl) rfl ?_ ?_
   ·go_simp
    (try simp only [i64_w])
    try rfl
   refine hK.out _ _ ⟨g3, m9_, (puk ha 0 hb_ rfl rfl rfl), Q_B, Q_Z, fun h0_ => hof (hoff 10 (by kernel_rfl)) h0_, Q_X9_⟩
  refine sc rfl ?_ ?_
  ·rintro b a w' ⟨g3, m9_, ha, Q_B, Q_Z, Q_Z2, Q_X9_⟩ hb_ hon hoff K hK
   have e4 := psn ha 0 rfl rfl (hon 0 (by kernel_rfl)) rfl
   replace ha := Am ha
   have B := Am Q_B
   have hs : w'.cell? ⟨w.heap.size, 0, none⟩ = some (.int .u8 f0) := pw_cell_below B.out U0.out
   refine value_ (w1 := w') (v := .int .u8 f0) (by rfl) rfl ?_ ?_
   ·go_simp
    (try simp only [i64_w])
    try rfl
   refine hK.out _ _ ⟨g3, m9_, (puk ha 1 hb_ rfl rfl rfl), Q_B, Q_Z, fun h0_ => hof (hoff 10 (by kernel_rfl)) h0_, Q_X9_⟩
  refine sc rfl ?_ ?_
  ·rintro b a w' ⟨g3, m9_, ha, Q_B, Q_Z, Q_Z2, Q_X9_⟩ hb_ hon hoff K hK
   have e1 : a.tmps[1]? = some (.pointer (some ⟨w.heap.size, 0, none⟩)) := by rw [ha]; exact (putSel_off rfl).trans rfl
   replace ha := Am ha
   refine value_ (w1 := w') (v := .pointer (some ⟨w.heap.size, 1, none⟩)) (by rfl) rfl ?_ ?_
   ·go_simp
    (try simp only [i64_w])
    try rfl
   refine hK.out _ _ ⟨g3, m9_, (puk ha 2 hb_ rfl rfl rfl), Q_B, Q_Z, fun h0_ => hof (hoff 10 (by kernel_rfl)) h0_, Q_X9_⟩
  refine sc rfl ?_ ?_
  ·rintro b a w' ⟨g3, m9_, ha, Q_B, Q_Z, Q_Z2, Q_X9_⟩ hb_ hon hoff K hK
   have e6 := psn ha 2 rfl rfl (hon 2 (by kernel_rfl)) rfl
   replace ha := Am ha
   have B := Am Q_B
   have hs : w'.cell? ⟨w.heap.size, 1, none⟩ = some (.int .u8 f1) := pw_cell_below B.out U1.out
   refine value_ (w1 := w') (v := .int .u8 f1) (by rfl) rfl ?_ ?_
   ·go_simp
    (try simp only [i64_w])
    try rfl
   refine hK.out _ _ ⟨g3, m9_, (puk ha 3 hb_ rfl rfl rfl), Q_B, Q_Z, fun h0_ => hof (hoff 10 (by kernel_rfl)) h0_, Q_X9_⟩
  refine sc rfl ?_ ?_
  ·rintro b a w' ⟨g3, m9_, ha, Q_B, Q_Z, Q_Z2, Q_X9_⟩ hb_ hon hoff K hK
   have e1 : a.tmps[1]? = some (.pointer (some ⟨w.heap.size, 0, none⟩)) := by rw [ha]; exact (putSel_off rfl).trans rfl
   replace ha := Am ha
   refine value_ (w1 := w') (v := .pointer (some ⟨w.heap.size, 0, none⟩)) (by rfl) rfl ?_ ?_
   ·go_simp
    (try simp only [i64_w])
    try rfl
   refine hK.out _ _ ⟨g3, m9_, (puk ha 4 hb_ rfl rfl rfl), Q_B, Q_Z, fun h0_ => hof (hoff 10 (by kernel_rfl)) h0_, Q_X9_⟩
  refine sc rfl ?_ ?_
  ·rintro b a w' ⟨g3, m9_, ha, Q_B, Q_Z, Q_Z2, Q_X9_⟩ hb_ hon hoff K hK
   have e8 := psn ha 4 rfl rfl (hon 4 (by kernel_rfl)) rfl
   replace ha := Am ha
   have B := Am Q_B
   have hs : w'.cell? ⟨w.heap.size, 0, none⟩ = some (.int .u8 f0) := pw_cell_below B.out U0.out
   refine value_ (w1 := w') (v := .int .u8 f0) (by rfl) rfl ?_ ?_
   ·go_simp
    (try simp only [i64_w])
    try rfl
   refine hK.out _ _ ⟨g3, m9_, (puk ha 5 hb_ rfl rfl rfl), Q_B, Q_Z, fun h0_ => hof (hoff 10 (by kernel_rfl)) h0_, Q_X9_⟩
  refine sc rfl ?_ ?_
  ·rintro b a w' ⟨g3, m9_, ha, Q_B, Q_Z, Q_Z2, Q_X9_⟩ hb_ hon hoff K hK
   have e9 := psn ha 5 rfl rfl (hon 5 (by kernel_rfl)) rfl
   replace ha := Am ha
   have B := Am Q_B
   refine goes_ Tryz.func138 (by kernel_rfl) rfl #[.int .u8 f0] (by rfl) rfl rfl (by first | (simp only [List.map_toArray, List.map_cons, List.map_nil, Act.eval, Array.getD_eq_getD_getElem?, Option.getD_some, e9]; done) | (simp only [List.map_toArray, List.map_cons, List.map_nil, Act.eval, Array.getD_eq_getD_getElem?, Option.getD_some, e9]; rfl)) ?_
   refine (mask_calls f0 w').mono ?_
   rintro e w1 ⟨rfl, hD1⟩
   refine ⟨_, rfl, ?_⟩
   refine hK.out _ _ ⟨g3, m9_, (puk ha 6 hb_ rfl rfl rfl), below_then B.out B.out.size (drawn_below hD1), fun h0_ h1_ => ⟨blk_below (Q_Z h0_ h1_).1 (drawn_below hD1), (Q_Z h0_ h1_).2⟩, fun h0_ => hof (hoff 10 (by kernel_rfl)) h0_, Q_X9_⟩
  refine sc rfl ?_ ?_
  ·rintro b a w' ⟨g3, m9_, ha, Q_B, Q_Z, Q_Z2, Q_X9_⟩ hb_ hon hoff K hK
   have e7 := psn ha 3 rfl rfl (hon 3 (by kernel_rfl)) rfl
   have e10 := psn ha 6 rfl rfl (hon 6 (by kernel_rfl)) rfl
   replace ha := Am ha
   have B := Am Q_B
   refine value_ (w1 := w') (v := .int .u8 fl) (by rfl) rfl (by go_simp; first | done | exact HFL.out) ?_
   refine hK.out _ _ ⟨g3, m9_, (puk ha 7 hb_ rfl rfl rfl), B.out, fun h0_ h1_ => (Q_Z h0_ h1_), fun h0_ => hof (hoff 10 (by kernel_rfl)) h0_, Q_X9_⟩
  refine sc rfl ?_ ?_
  ·rintro b a w' ⟨g3, m9_, ha, Q_B, Q_Z, Q_Z2, Q_X9_⟩ hb_ hon hoff K hK
   have e5 := psn ha 1 rfl rfl (hon 1 (by kernel_rfl)) rfl
   have e11 := psn ha 7 rfl rfl (hon 7 (by kernel_rfl)) rfl
   replace ha := Am ha
   refine value_ (w1 := w') (v := .agg (#[.int .u8 (f0), .int .u8 (fl), .int .u32 0, .int .u16 0, .int .u16 0, .int .u32 0, .int .u32 0, .int .u32 0, .int .u16 0, .int .u16 0, .slice none 0 0, .slice none 0 0, .slice none 0 0, .slice none 0 0, .slice none 0 0])) (by rfl) rfl ?_ ?_
   ·go_simp
    (try simp only [i64_w])
    try rfl
   refine hK.out _ _ ⟨g3, m9_, (puk ha 8 hb_ rfl rfl rfl), Q_B, Q_Z, fun h0_ => hof (hoff 10 (by kernel_rfl)) h0_, Q_X9_⟩
  refine sc rfl ?_ ?_
  ·rintro b a w' ⟨g3, m9_, ha, Q_B, Q_Z, Q_Z2, Q_X9_⟩ hb_ hon hoff K hK
   replace ha := Am ha
   have B := Am Q_B
   refine value_ (w1 := w'.alloc (.cells #[.int .u8 0, .int .u8 0, .int .u32 0, .int .u16 0, .int .u16 0, .int .u32 0, .int .u32 0, .int .u32 0, .int .u16 0, .int .u16 0, .slice none 0 0, .slice none 0 0, .slice none 0 0, .slice none 0 0, .slice none 0 0] 65)) (v := .pointer (some ⟨w'.heap.size, 0, none⟩)) (by rfl) rfl (by go_simp; try rfl) ?_
   refine hK.out _ _ ⟨w'.heap.size, (.pointer (some ⟨w'.heap.size, 0, none⟩)), (puk ha 9 hb_ rfl rfl rfl), B.out.alloc B.out.size _, fun _ _ => ⟨blk_new _ _, B.out.size⟩, fun h0_ => hof (hoff 10 (by kernel_rfl)) h0_, fun _ => rfl⟩
  refine sc rfl ?_ ?_
  ·rintro b a w' ⟨g3, m9_, ha, Q_B, Q_Z, Q_Z2, Q_X9_⟩ hb_ hon hoff K hK
   have e3 := psn ha 9 rfl rfl (hon 9 (by kernel_rfl)) rfl
   rw [Q_X9_ (hon 9 (by kernel_rfl))] at e3
   have e12 := psn ha 8 rfl rfl (hon 8 (by kernel_rfl)) rfl
   replace ha := Am ha
   have B := Am Q_B
   have Z := Am (Q_Z (hon 9 (by kernel_rfl)) hb_)
   refine skip_ (w1 := w'.setRow g3 (#[.int .u8 (f0), .int .u8 (fl), .int .u32 0, .int .u16 0, .int .u16 0, .int .u32 0, .int .u32 0, .int .u32 0, .int .u16 0, .int .u16 0, .slice none 0 0, .slice none 0 0, .slice none 0 0, .slice none 0 0, .slice none 0 0])) (by rfl) rfl (exec_store_row 65 (.tmp 3) (.tmp 12) rfl (eval_of e3) (eval_of e12) Z.out.1 (by kernel_rfl) rfl (by simp [Value.oneCell'])) ?_
   refine hK.out _ _ ⟨g3, m9_, (by rw [ha.out]; exact putSel_none (v := undef) rfl), below_setRow B.out Z.out.2 _, fun _ h1_ => absurd ((up_self b 10).symm.trans h1_) (by decide), fun _ => ⟨setRow_heap _ _ _ _ _ _ Z.out.1, Z.out.2⟩, Q_X9_⟩
  exact steps_nil
 rintro b a w' hall ⟨g3, m9_, ha, Q_B, Q_Z, Q_Z2, Q_X9_⟩
 clear B
 have hb0_ := hall 0 (by kernel_rfl)
 have hb1_ := hall 1 (by kernel_rfl)
 have hb2_ := hall 2 (by kernel_rfl)
 have hb3_ := hall 3 (by kernel_rfl)
 have hb4_ := hall 4 (by kernel_rfl)
 have hb5_ := hall 5 (by kernel_rfl)
 have hb6_ := hall 6 (by kernel_rfl)
 have hb7_ := hall 7 (by kernel_rfl)
 have hb8_ := hall 8 (by kernel_rfl)
 have hb9_ := hall 9 (by kernel_rfl)
 have hb10_ := hall 10 (by kernel_rfl)
 subst ha
 obtain rfl := Q_X9_ hb9_
 simp only [putSel, hb0_, hb1_, hb2_, hb3_, hb4_, hb5_, hb6_, hb7_, hb8_, hb9_, hb10_, if_true, Act.put, List.setIfInBounds_toArray, List.set_cons_zero, List.set_cons_succ]
 have B := Am Q_B
 clear Q_B
 clear Q_Z
 have Z2 := Am (Q_Z2 hb10_)
 clear Q_Z2
 clear hall hb0_ hb1_ hb2_ hb3_ hb4_ hb5_ hb6_ hb7_ hb8_ hb9_ hb10_
 replace X : By w (CV ⟨f0, f1, f2, f3, f4, f5, f6, f7, f8, f9, f10, f11, f12, f13, f14⟩ ⟨A10, c10, A11, c11, A12, c12, A13, c13, A14, c14⟩) (#[.int .u8 (f0), .int .u8 (fl), .int .u32 0, .int .u16 0, .int .u16 0, .int .u32 0, .int .u32 0, .int .u32 0, .int .u16 0, .int .u16 0, .slice none 0 0, .slice none 0 0, .slice none 0 0, .slice none 0 0, .slice none 0 0]) g3 w' := ⟨X.below B.out, Z2.out.1, Nat.le_trans X.x3 Z2.out.2⟩
 replace U0 := Lh (pw_cell_below B.out U0.out)
 replace U1 := Lh (pw_cell_below B.out U1.out)
 replace U2 := Lh (pw_cell_below B.out U2.out)
 replace U3 := Lh (pw_cell_below B.out U3.out)
 replace U4 := Lh (pw_cell_below B.out U4.out)
 replace U5 := Lh (pw_cell_below B.out U5.out)
 replace U6 := Lh (pw_cell_below B.out U6.out)
 replace U7 := Lh (pw_cell_below B.out U7.out)
 replace U8 := Lh (pw_cell_below B.out U8.out)
 replace U9 := Lh (pw_cell_below B.out U9.out)
 replace U10 := Lh (pw_cell_below B.out U10.out)
 replace U11 := Lh (pw_cell_below B.out U11.out)
 replace U12 := Lh (pw_cell_below B.out U12.out)
 replace U13 := Lh (pw_cell_below B.out U13.out)
 replace U14 := Lh (pw_cell_below B.out U14.out)
 clear B Z2 HFL
 generalize w' = W at *
 have HN := Lh (show ¬ w.heap.size = g3 by have := X.hg; omega)
 by_cases h : f0 = 0
 ·subst h
  have k0 := U0.out
  go_upto_region 16 with (fail)
  refine copy_region (B := bareB16) (T := 65) (gd := g3) [0, 1, 2, 3, 4, 5, 6, 7, 8, 9, 10, 11, 12, 13, 14, 15, 16, 17, 18, 19] [(0, 36, .pointer (some ⟨w.heap.size, 2, none⟩)), (1, 37, .int .u32 f2), (2, 38, .pointer (some ⟨w.heap.size, 3, none⟩)), (3, 39, .int .u16 f3), (4, 40, .pointer (some ⟨w.heap.size, 4, none⟩)), (5, 41, .int .u16 f4), (6, 42, .pointer (some ⟨w.heap.size, 5, none⟩)), (7, 43, .int .u32 f5), (8, 44, .pointer (some ⟨w.heap.size, 13, none⟩)), (9, 45, .slice A13 f13.length c13), (10, 46, .pointer (some ⟨g3, 2, none⟩)), (12, 47, .pointer (some ⟨g3, 3, none⟩)), (14, 48, .pointer (some ⟨g3, 4, none⟩)), (16, 49, .pointer (some ⟨g3, 5, none⟩)), (18, 50, .pointer (some ⟨g3, 13, none⟩))] [(11, 2, .int .u32 f2), (13, 3, .int .u16 f3), (15, 4, .int .u16 f4), (17, 5, .int .u32 f5), (19, 13, .slice A13 f13.length c13)] (by kernel_rfl) rfl (l := #[false, false, false, false, false, false, false, false, false, false, false, false, false, false, false, false, false, false, false, false]) rfl baretab16 barebits16 (by kernel_rfl) (by kernel_rfl) rfl rfl X.x3 ?_ ?_
  ·exact steps_cons (cp_addr 0 0 1 rfl rfl rfl rfl rfl rfl rfl rfl (fun a w e => by go_simp)) (steps_cons (cp_op 1 1 0 0 rfl rfl rfl rfl rfl rfl rfl rfl rfl (by kernel_rfl) rfl (fun a w hO e => by have hs := hO.cell U2.out HN.out; go_simp)) (steps_cons (cp_addr 2 2 1 rfl rfl rfl rfl rfl rfl rfl rfl (fun a w e => by go_simp)) (steps_cons (cp_op 3 3 2 2 rfl rfl rfl rfl rfl rfl rfl rfl rfl (by kernel_rfl) rfl (fun a w hO e => by have hs := hO.cell U3.out HN.out; go_simp)) (steps_cons (cp_addr 4 4 1 rfl rfl rfl rfl rfl rfl rfl rfl (fun a w e => by go_simp)) (steps_cons (cp_op 5 5 4 4 rfl rfl rfl rfl rfl rfl rfl rfl rfl (by kernel_rfl) rfl (fun a w hO e => by have hs := hO.cell U4.out HN.out; go_simp)) (steps_cons (cp_addr 6 6 1 rfl rfl rfl rfl rfl rfl rfl rfl (fun a w e => by go_simp)) (steps_cons (cp_op 7 7 6 6 rfl rfl rfl rfl rfl rfl rfl rfl rfl (by kernel_rfl) rfl (fun a w hO e => by have hs := hO.cell U5.out HN.out; go_simp)) (steps_cons (cp_addr 8 8 1 rfl rfl rfl rfl rfl rfl rfl rfl (fun a w e => by go_simp)) (steps_cons (cp_op 9 9 8 8 rfl rfl rfl rfl rfl rfl rfl rfl rfl (by kernel_rfl) rfl (fun a w hO e => by have hs := hO.cell U13.out HN.out; go_simp)) (steps_cons (cp_addr 10 10 3 rfl rfl rfl rfl rfl rfl rfl rfl (fun a w e => by go_simp)) (steps_cons (cp_store 11 0 10 1 10 1 rfl rfl rfl rfl rfl rfl (show _ < 15 by decide) rfl rfl rfl (by kernel_rfl) rfl rfl rfl rfl (by kernel_rfl) rfl (fun a w old e e2 h h2 => by go_simp)) (steps_cons (cp_addr 12 11 3 rfl rfl rfl rfl rfl rfl rfl rfl (fun a w e => by go_simp)) (steps_cons (cp_store 13 1 11 3 12 3 rfl rfl rfl rfl rfl rfl (show _ < 15 by decide) rfl rfl rfl (by kernel_rfl) rfl rfl rfl rfl (by kernel_rfl) rfl (fun a w old e e2 h h2 => by go_simp)) (steps_cons (cp_addr 14 12 3 rfl rfl rfl rfl rfl rfl rfl rfl (fun a w e => by go_simp)) (steps_cons (cp_store 15 2 12 5 14 5 rfl rfl rfl rfl rfl rfl (show _ < 15 by decide) rfl rfl rfl (by kernel_rfl) rfl rfl rfl rfl (by kernel_rfl) rfl (fun a w old e e2 h h2 => by go_simp)) (steps_cons (cp_addr 16 13 3 rfl rfl rfl rfl rfl rfl rfl rfl (fun a w e => by go_simp)) (steps_cons (cp_store 17 3 13 7 16 7 rfl rfl rfl rfl rfl rfl (show _ < 15 by decide) rfl rfl rfl (by kernel_rfl) rfl rfl rfl rfl (by kernel_rfl) rfl (fun a w old e e2 h h2 => by go_simp)) (steps_cons (cp_addr 18 14 3 rfl rfl rfl rfl rfl rfl rfl rfl (fun a w e => by go_simp)) (steps_cons (cp_store 19 4 14 9 18 9 rfl rfl rfl rfl rfl rfl (show _ < 15 by decide) rfl rfl rfl (by kernel_rfl) rfl rfl rfl rfl (by kernel_rfl) rfl (fun a w old e e2 h h2 => by go_simp)) steps_nil)))))))))))))))))))
  intro W9 hO9 hC9
  replace X := (show By w _ (#[.int .u8 _, .int .u8 fl, .int .u32 f2, .int .u16 f3, .int .u16 f4, .int .u32 f5, .int .u32 0, .int .u32 0, .int .u16 0, .int .u16 0, .slice none 0 0, .slice none 0 0, .slice none 0 0, .slice A13 f13.length c13, .slice none 0 0]) g3 W9 from X.only hO9 hC9)
  clear hO9 hC9
  simp only [putSel, if_true, Act.put, List.setIfInBounds_toArray, List.set_cons_zero, List.set_cons_succ]
  go_wp2_with (with_reducible refine gate_dst (N := 93) rfl ?_; go_must (refine wpList_ret_row 93 rfl rfl rfl (.tmp 3) (.tmp 2) rfl rfl rfl _ _ _ _ rfl rfl rfl X.x3 X.bx.x1 rfl rfl (by simp [Value.oneCell']) ?_))
  exact row_end rfl rfl rfl X.bx.x1 rfl X.bx.x2 (Nat.le_succ _) (by rw [← HFE.out]; rfl)
 have q0 : (f0 == 0) = false := by simpa using h
 clear h
 by_cases h : f0 = 1 ∨ f0 = 2
 ·rcases h with rfl | rfl
  all_goals
   have k0 := U0.out
   go_upto_region 17 with (fail)
   refine copy_region (B := bareB17) (T := 65) (gd := g3) [0, 1, 2, 3, 4, 5, 6, 7, 8, 9, 10, 11, 12, 13, 14, 15, 16, 17, 18, 19, 20, 21, 22, 23] [(0, 51, .pointer (some ⟨w.heap.size, 6, none⟩)), (1, 52, .int .u32 f6), (2, 53, .pointer (some ⟨w.heap.size, 7, none⟩)), (3, 54, .int .u32 f7), (4, 55, .pointer (some ⟨w.heap.size, 8, none⟩)), (5, 56, .int .u16 f8), (6, 57, .pointer (some ⟨w.heap.size, 9, none⟩)), (7, 58, .int .u16 f9), (8, 59, .pointer (some ⟨w.heap.size, 2, none⟩)), (9, 60, .int .u32 f2), (10, 61, .pointer (some ⟨w.heap.size, 14, none⟩)), (11, 62, .slice A14 f14.length c14), (12, 63, .pointer (some ⟨g3, 6, none⟩)), (14, 64, .pointer (some ⟨g3, 7, none⟩)), (16, 65, .pointer (some ⟨g3, 8, none⟩)), (18, 66, .pointer (some ⟨g3, 9, none⟩)), (20, 67, .pointer (some ⟨g3, 2, none⟩)), (22, 68, .pointer (some ⟨g3, 14, none⟩))] [(13, 6, .int .u32 f6), (15, 7, .int .u32 f7), (17, 8, .int .u16 f8), (19, 9, .int .u16 f9), (21, 2, .int .u32 f2), (23, 14, .slice A14 f14.length c14)] (by kernel_rfl) rfl (l := #[false, false, false, false, false, false, false, false, false, false, false, false, false, false, false, false, false, false, false, false, false, false, false, false]) rfl baretab17 barebits17 (by kernel_rfl) (by kernel_rfl) rfl rfl X.x3 ?_ ?_
   ·exact steps_cons (cp_addr 0 0 1 rfl rfl rfl rfl rfl rfl rfl rfl (fun a w e => by go_simp)) (steps_cons (cp_op 1 1 0 0 rfl rfl rfl rfl rfl rfl rfl rfl rfl (by kernel_rfl) rfl (fun a w hO e => by have hs := hO.cell U6.out HN.out; go_simp)) (steps_cons (cp_addr 2 2 1 rfl rfl rfl rfl rfl rfl rfl rfl (fun a w e => by go_simp)) (steps_cons (cp_op 3 3 2 2 rfl rfl rfl rfl rfl rfl rfl rfl rfl (by kernel_rfl) rfl (fun a w hO e => by have hs := hO.cell U7.out HN.out; go_simp)) (steps_cons (cp_addr 4 4 1 rfl rfl rfl rfl rfl rfl rfl rfl (fun a w e => by go_simp)) (steps_cons (cp_op 5 5 4 4 rfl rfl rfl rfl rfl rfl rfl rfl rfl (by kernel_rfl) rfl (fun a w hO e => by have hs := hO.cell U8.out HN.out; go_simp)) (steps_cons (cp_addr 6 6 1 rfl rfl rfl rfl rfl rfl rfl rfl (fun a w e => by go_simp)) (steps_cons (cp_op 7 7 6 6 rfl rfl rfl rfl rfl rfl rfl rfl rfl (by kernel_rfl) rfl (fun a w hO e => by have hs := hO.cell U9.out HN.out; go_simp)) (steps_cons (cp_addr 8 8 1 rfl rfl rfl rfl rfl rfl rfl rfl (fun a w e => by go_simp)) (steps_cons (cp_op 9 9 8 8 rfl rfl rfl rfl rfl rfl rfl rfl rfl (by kernel_rfl) rfl (fun a w hO e => by have hs := hO.cell U2.out HN.out; go_simp)) (steps_cons (cp_addr 10 10 1 rfl rfl rfl rfl rfl rfl rfl rfl (fun a w e => by go_simp)) (steps_cons (cp_op 11 11 10 10 rfl rfl rfl rfl rfl rfl rfl rfl rfl (by kernel_rfl) rfl (fun a w hO e => by have hs := hO.cell U14.out HN.out; go_simp)) (steps_cons (cp_addr 12 12 3 rfl rfl rfl rfl rfl rfl rfl rfl (fun a w e => by go_simp)) (steps_cons (cp_store 13 0 12 1 12 1 rfl rfl rfl rfl rfl rfl (show _ < 15 by decide) rfl rfl rfl (by kernel_rfl) rfl rfl rfl rfl (by kernel_rfl) rfl (fun a w old e e2 h h2 => by go_simp)) (steps_cons (cp_addr 14 13 3 rfl rfl rfl rfl rfl rfl rfl rfl (fun a w e => by go_simp)) (steps_cons (cp_store 15 1 13 3 14 3 rfl rfl rfl rfl rfl rfl (show _ < 15 by decide) rfl rfl rfl (by kernel_rfl) rfl rfl rfl rfl (by kernel_rfl) rfl (fun a w old e e2 h h2 => by go_simp)) (steps_cons (cp_addr 16 14 3 rfl rfl rfl rfl rfl rfl rfl rfl (fun a w e => by go_simp)) (steps_cons (cp_store 17 2 14 5 16 5 rfl rfl rfl rfl rfl rfl (show _ < 15 by decide) rfl rfl rfl (by kernel_rfl) rfl rfl rfl rfl (by kernel_rfl) rfl (fun a w old e e2 h h2 => by go_simp)) (steps_cons (cp_addr 18 15 3 rfl rfl rfl rfl rfl rfl rfl rfl (fun a w e => by go_simp)) (steps_cons (cp_store 19 3 15 7 18 7 rfl rfl rfl rfl rfl rfl (show _ < 15 by decide) rfl rfl rfl (by kernel_rfl) rfl rfl rfl rfl (by kernel_rfl) rfl (fun a w old e e2 h h2 => by go_simp)) (steps_cons (cp_addr 20 16 3 rfl rfl rfl rfl rfl rfl rfl rfl (fun a w e => by go_simp)) (steps_cons (cp_store 21 4 16 9 20 9 rfl rfl rfl rfl rfl rfl (show _ < 15 by decide) rfl rfl rfl (by kernel_rfl) rfl rfl rfl rfl (by kernel_rfl) rfl (fun a w old e e2 h h2 => by go_simp)) (steps_cons (cp_addr 22 17 3 rfl rfl rfl rfl rfl rfl rfl rfl (fun a w e => by go_simp)) (steps_cons (cp_store 23 5 17 11 22 11 rfl rfl rfl rfl rfl rfl (show _ < 15 by decide) rfl rfl rfl (by kernel_rfl) rfl rfl rfl rfl (by kernel_rfl) rfl (fun a w old e e2 h h2 => by go_simp)) steps_nil)))))))))))))))))))))))
   intro W9 hO9 hC9
   replace X := (show By w _ (#[.int .u8 _, .int .u8 fl, .int .u32 f2, .int .u16 0, .int .u16 0, .int .u32 0, .int .u32 f6, .int .u32 f7, .int .u16 f8, .int .u16 f9, .slice none 0 0, .slice none 0 0, .slice none 0 0, .slice none 0 0, .slice A14 f14.length c14]) g3 W9 from X.only hO9 hC9)
   clear hO9 hC9
   simp only [putSel, if_true, Act.put, List.setIfInBounds_toArray, List.set_cons_zero, List.set_cons_succ]
   go_wp2_with (with_reducible refine gate_dst (N := 93) rfl ?_; go_must (refine wpList_ret_row 93 rfl rfl rfl (.tmp 3) (.tmp 2) rfl rfl rfl _ _ _ _ rfl rfl rfl X.x3 X.bx.x1 rfl rfl (by simp [Value.oneCell']) ?_))
   exact row_end rfl rfl rfl X.bx.x1 rfl X.bx.x2 (Nat.le_succ _) (by rw [← HFE.out]; rfl)
 have q1 : (f0 == 1) = false := by simp; omega
 have q2 : (f0 == 2) = false := by simp; omega
 clear h
 by_cases h : f0 = 16
 ·subst h
  have k0 := U0.out
  have HU := Lh (fun (i : Nat) (u : Value) (h : W.cell? ⟨w.heap.size, i, none⟩ = some u) => (show (W.setCell ⟨g3, 11, none⟩ (.slice A11 f11.length c11)).cell? ⟨w.heap.size, i, none⟩ = some u from ((Only.refl (· = g3) W).setCell (fun _ => rfl) _).cell h HN.out))
  have k11 : W.cell? ⟨w.heap.size, 11, none⟩ = some (.slice A11 f11.length c11) := U11.out
  have d11 : W.cell? ⟨g3, 11, none⟩ = some (.slice none 0 0) := blk_cell X.x3 11
  have f_11 := blk_frozen X.x3 11
  go_upto_region 19 with (fail)
  replace X := X.set 11 (.slice A11 f11.length c11)
  replace U0 := Lh (HU.out _ _ U0.out)
  replace U2 := Lh (HU.out _ _ U2.out)
  replace U7 := Lh (HU.out _ _ U7.out)
  replace U10 := Lh (HU.out _ _ U10.out)
  replace U12 := Lh (HU.out _ _ U12.out)
  clear HU k0 k11 d11 f_11
  generalize W.setCell ⟨g3, 11, none⟩ (.slice A11 f11.length c11) = W at *
  refine copy_region (B := bareB19) (T := 65) (gd := g3) [0, 1, 2, 3, 4, 5, 6, 7, 8, 9, 10, 11, 12, 13, 14, 15] [(0, 72, .pointer (some ⟨w.heap.size, 2, none⟩)), (1, 73, .int .u32 f2), (2, 74, .pointer (some ⟨w.heap.size, 7, none⟩)), (3, 75, .int .u32 f7), (4, 76, .pointer (some ⟨w.heap.size, 10, none⟩)), (5, 77, .slice A10 f10.length c10), (6, 78, .pointer (some ⟨w.heap.size, 12, none⟩)), (7, 79, .slice A12 f12.length c12), (8, 80, .pointer (some ⟨g3, 2, none⟩)), (10, 81, .pointer (some ⟨g3, 7, none⟩)), (12, 82, .pointer (some ⟨g3, 10, none⟩)), (14, 83, .pointer (some ⟨g3, 12, none⟩))] [(9, 2, .int .u32 f2), (11, 7, .int .u32 f7), (13, 10, .slice A10 f10.length c10), (15, 12, .slice A12 f12.length c12)] (by kernel_rfl) rfl (l := #[false, false, false, false, false, false, false, false, false, false, false, false, false, false, false, false]) rfl baretab19 barebits19 (by kernel_rfl) (by kernel_rfl) rfl rfl X.x3 ?_ ?_
  ·exact steps_cons (cp_addr 0 0 1 rfl rfl rfl rfl rfl rfl rfl rfl (fun a w e => by go_simp)) (steps_cons (cp_op 1 1 0 0 rfl rfl rfl rfl rfl rfl rfl rfl rfl (by kernel_rfl) rfl (fun a w hO e => by have hs := hO.cell U2.out HN.out; go_simp)) (steps_cons (cp_addr 2 2 1 rfl rfl rfl rfl rfl rfl rfl rfl (fun a w e => by go_simp)) (steps_cons (cp_op 3 3 2 2 rfl rfl rfl rfl rfl rfl rfl rfl rfl (by kernel_rfl) rfl (fun a w hO e => by have hs := hO.cell U7.out HN.out; go_simp)) (steps_cons (cp_addr 4 4 1 rfl rfl rfl rfl rfl rfl rfl rfl (fun a w e => by go_simp)) (steps_cons (cp_op 5 5 4 4 rfl rfl rfl rfl rfl rfl rfl rfl rfl (by kernel_rfl) rfl (fun a w hO e => by have hs := hO.cell U10.out HN.out; go_simp)) (steps_cons (cp_addr 6 6 1 rfl rfl rfl rfl rfl rfl rfl rfl (fun a w e => by go_simp)) (steps_cons (cp_op 7 7 6 6 rfl rfl rfl rfl rfl rfl rfl rfl rfl (by kernel_rfl) rfl (fun a w hO e => by have hs := hO.cell U12.out HN.out; go_simp)) (steps_cons (cp_addr 8 8 3 rfl rfl rfl rfl rfl rfl rfl rfl (fun a w e => by go_simp)) (steps_cons (cp_store 9 0 8 1 8 1 rfl rfl rfl rfl rfl rfl (show _ < 15 by decide) rfl rfl rfl (by kernel_rfl) rfl rfl rfl rfl (by kernel_rfl) rfl (fun a w old e e2 h h2 => by go_simp)) (steps_cons (cp_addr 10 9 3 rfl rfl rfl rfl rfl rfl rfl rfl (fun a w e => by go_simp)) (steps_cons (cp_store 11 1 9 3 10 3 rfl rfl rfl rfl rfl rfl (show _ < 15 by decide) rfl rfl rfl (by kernel_rfl) rfl rfl rfl rfl (by kernel_rfl) rfl (fun a w old e e2 h h2 => by go_simp)) (steps_cons (cp_addr 12 10 3 rfl rfl rfl rfl rfl rfl rfl rfl (fun a w e => by go_simp)) (steps_cons (cp_store 13 2 10 5 12 5 rfl rfl rfl rfl rfl rfl (show _ < 15 by decide) rfl rfl rfl (by kernel_rfl) rfl rfl rfl rfl (by kernel_rfl) rfl (fun a w old e e2 h h2 => by go_simp)) (steps_cons (cp_addr 14 11 3 rfl rfl rfl rfl rfl rfl rfl rfl (fun a w e => by go_simp)) (steps_cons (cp_store 15 3 11 7 14 7 rfl rfl rfl rfl rfl rfl (show _ < 15 by decide) rfl rfl rfl (by kernel_rfl) rfl rfl rfl rfl (by kernel_rfl) rfl (fun a w old e e2 h h2 => by go_simp)) steps_nil)))))))))))))))
  intro W8 hO9 hC9
  replace X := (show By w _ (#[.int .u8 _, .int .u8 fl, .int .u32 f2, .int .u16 0, .int .u16 0, .int .u32 0, .int .u32 0, .int .u32 f7, .int .u16 0, .int .u16 0, .slice A10 f10.length c10, .slice A11 f11.length c11, .slice A12 f12.length c12, .slice none 0 0, .slice none 0 0]) g3 W8 from X.only hO9 hC9)
  clear hO9 hC9
  simp only [putSel, if_true, Act.put, List.setIfInBounds_toArray, List.set_cons_zero, List.set_cons_succ]
  go_wp2_with (with_reducible refine gate_dst (N := 93) rfl ?_; go_must (refine wpList_ret_row 93 rfl rfl rfl (.tmp 3) (.tmp 2) rfl rfl rfl _ _ _ _ rfl rfl rfl X.x3 X.bx.x1 rfl rfl (by simp [Value.oneCell']) ?_))
  exact row_end rfl rfl rfl X.bx.x1 rfl X.bx.x2 (Nat.le_succ _) (by rw [← HFE.out]; rfl)
 have q16 : (f0 == 16) = false := by simpa using h
 clear h
 by_cases h : f0 = 3
 ·subst h
  have k0 := U0.out
  go_upto_region 19 with (fail)
  refine copy_region (B := bareB19) (T := 65) (gd := g3) [0, 1, 2, 3, 4, 5, 6, 7, 8, 9, 10, 11, 12, 13, 14, 15] [(0, 72, .pointer (some ⟨w.heap.size, 2, none⟩)), (1, 73, .int .u32 f2), (2, 74, .pointer (some ⟨w.heap.size, 7, none⟩)), (3, 75, .int .u32 f7), (4, 76, .pointer (some ⟨w.heap.size, 10, none⟩)), (5, 77, .slice A10 f10.length c10), (6, 78, .pointer (some ⟨w.heap.size, 12, none⟩)), (7, 79, .slice A12 f12.length c12), (8, 80, .pointer (some ⟨g3, 2, none⟩)), (10, 81, .pointer (some ⟨g3, 7, none⟩)), (12, 82, .pointer (some ⟨g3, 10, none⟩)), (14, 83, .pointer (some ⟨g3, 12, none⟩))] [(9, 2, .int .u32 f2), (11, 7, .int .u32 f7), (13, 10, .slice A10 f10.length c10), (15, 12, .slice A12 f12.length c12)] (by kernel_rfl) rfl (l := #[false, false, false, false, false, false, false, false, false, false, false, false, false, false, false, false]) rfl baretab19 barebits19 (by kernel_rfl) (by kernel_rfl) rfl rfl X.x3 ?_ ?_
  ·exact steps_cons (cp_addr 0 0 1 rfl rfl rfl rfl rfl rfl rfl rfl (fun a w e => by go_simp)) (steps_cons (cp_op 1 1 0 0 rfl rfl rfl rfl rfl rfl rfl rfl rfl (by kernel_rfl) rfl (fun a w hO e => by have hs := hO.cell U2.out HN.out; go_simp)) (steps_cons (cp_addr 2 2 1 rfl rfl rfl rfl rfl rfl rfl rfl (fun a w e => by go_simp)) (steps_cons (cp_op 3 3 2 2 rfl rfl rfl rfl rfl rfl rfl rfl rfl (by kernel_rfl) rfl (fun a w hO e => by have hs := hO.cell U7.out HN.out; go_simp)) (steps_cons (cp_addr 4 4 1 rfl rfl rfl rfl rfl rfl rfl rfl (fun a w e => by go_simp)) (steps_cons (cp_op 5 5 4 4 rfl rfl rfl rfl rfl rfl rfl rfl rfl (by kernel_rfl) rfl (fun a w hO e => by have hs := hO.cell U10.out HN.out; go_simp)) (steps_cons (cp_addr 6 6 1 rfl rfl rfl rfl rfl rfl rfl rfl (fun a w e => by go_simp)) (steps_cons (cp_op 7 7 6 6 rfl rfl rfl rfl rfl rfl rfl rfl rfl (by kernel_rfl) rfl (fun a w hO e => by have hs := hO.cell U12.out HN.out; go_simp)) (steps_cons (cp_addr 8 8 3 rfl rfl rfl rfl rfl rfl rfl rfl (fun a w e => by go_simp)) (steps_cons (cp_store 9 0 8 1 8 1 rfl rfl rfl rfl rfl rfl (show _ < 15 by decide) rfl rfl rfl (by kernel_rfl) rfl rfl rfl rfl (by kernel_rfl) rfl (fun a w old e e2 h h2 => by go_simp)) (steps_cons (cp_addr 10 9 3 rfl rfl rfl rfl rfl rfl rfl rfl (fun a w e => by go_simp)) (steps_cons (cp_store 11 1 9 3 10 3 rfl rfl rfl rfl rfl rfl (show _ < 15 by decide) rfl rfl rfl (by kernel_rfl) rfl rfl rfl rfl (by kernel_rfl) rfl (fun a w old e e2 h h2 => by go_simp)) (steps_cons (cp_addr 12 10 3 rfl rfl rfl rfl rfl rfl rfl rfl (fun a w e => by go_simp)) (steps_cons (cp_store 13 2 10 5 12 5 rfl rfl rfl rfl rfl rfl (show _ < 15 by decide) rfl rfl rfl (by kernel_rfl) rfl rfl rfl rfl (by kernel_rfl) rfl (fun a w old e e2 h h2 => by go_simp)) (steps_cons (cp_addr 14 11 3 rfl rfl rfl rfl rfl rfl rfl rfl (fun a w e => by go_simp)) (steps_cons (cp_store 15 3 11 7 14 7 rfl rfl rfl rfl rfl rfl (show _ < 15 by decide) rfl rfl rfl (by kernel_rfl) rfl rfl rfl rfl (by kernel_rfl) rfl (fun a w old e e2 h h2 => by go_simp)) steps_nil)))))))))))))))
  intro W9 hO9 hC9
  replace X := (show By w _ (#[.int .u8 _, .int .u8 fl, .int .u32 f2, .int .u16 0, .int .u16 0, .int .u32 0, .int .u32 0, .int .u32 f7, .int .u16 0, .int .u16 0, .slice A10 f10.length c10, .slice none 0 0, .slice A12 f12.length c12, .slice none 0 0, .slice none 0 0]) g3 W9 from X.only hO9 hC9)
  clear hO9 hC9
  simp only [putSel, if_true, Act.put, List.setIfInBounds_toArray, List.set_cons_zero, List.set_cons_succ]
  go_wp2_with (with_reducible refine gate_dst (N := 93) rfl ?_; go_must (refine wpList_ret_row 93 rfl rfl rfl (.tmp 3) (.tmp 2) rfl rfl rfl _ _ _ _ rfl rfl rfl X.x3 X.bx.x1 rfl rfl (by simp [Value.oneCell']) ?_))
  exact row_end rfl rfl rfl X.bx.x1 rfl X.bx.x2 (Nat.le_succ _) (by rw [← HFE.out]; rfl)
 have q3 : (f0 == 3) = false := by simpa using h
 clear h
 by_cases h : f0 = 4 ∨ f0 = 5 ∨ f0 = 6 ∨ f0 = 9
 ·rcases h with rfl | rfl | rfl | rfl
  all_goals
   have k0 := U0.out
   have k14 : W.cell? ⟨w.heap.size, 14, none⟩ = some (.slice A14 f14.length c14) := U14.out
   have d14 : W.cell? ⟨g3, 14, none⟩ = some (.slice none 0 0) := blk_cell X.x3 14
   have f_14 := blk_frozen X.x3 14
   go_upto_region 23 with (fail)
   refine wp_gen (By w _ (#[.int .u8 _, .int .u8 fl, .int .u32 0, .int .u16 0, .int .u16 0, .int .u32 0, .int .u32 0, .int .u32 0, .int .u16 0, .int .u16 0, .slice none 0 0, .slice none 0 0, .slice none 0 0, .slice none 0 0, .slice A14 f14.length c14]) g3) (X.set 14 _) ?_
   clear X k14 d14 f_14
   intro W9 X
   go_wp2_with (with_reducible refine gate_dst (N := 93) rfl ?_; go_must (refine wpList_ret_row 93 rfl rfl rfl (.tmp 3) (.tmp 2) rfl rfl rfl _ _ _ _ rfl rfl rfl X.x3 X.bx.x1 rfl rfl (by simp [Value.oneCell']) ?_))
   exact row_end rfl rfl rfl X.bx.x1 rfl X.bx.x2 (Nat.le_succ _) (by rw [← HFE.out]; rfl)
 have q4 : (f0 == 4) = false := by simp; omega
 have q5 : (f0 == 5) = false := by simp; omega
 have q6 : (f0 == 6) = false := by simp; omega
 have q9 : (f0 == 9) = false := by simp; omega
 clear h
 by_cases h : f0 = 7
 ·subst h
  have k0 := U0.out
  have k2 : W.cell? ⟨w.heap.size, 2, none⟩ = some (.int .u32 f2) := U2.out
  have d2 : W.cell? ⟨g3, 2, none⟩ = some (.int .u32 0) := blk_cell X.x3 2
  have f_2 := blk_frozen X.x3 2
  go_upto_region 23 with (fail)
  refine wp_gen (By w _ (#[.int .u8 _, .int .u8 fl, .int .u32 f2, .int .u16 0, .int .u16 0, .int .u32 0, .int .u32 0, .int .u32 0, .int .u16 0, .int .u16 0, .slice none 0 0, .slice none 0 0, .slice none 0 0, .slice none 0 0, .slice none 0 0]) g3) (X.set 2 _) ?_
  clear X k2 d2 f_2
  intro W9 X
  go_wp2_with (with_reducible refine gate_dst (N := 93) rfl ?_; go_must (refine wpList_ret_row 93 rfl rfl rfl (.tmp 3) (.tmp 2) rfl rfl rfl _ _ _ _ rfl rfl rfl X.x3 X.bx.x1 rfl rfl (by simp [Value.oneCell']) ?_))
  exact row_end rfl rfl rfl X.bx.x1 rfl X.bx.x2 (Nat.le_succ _) (by rw [← HFE.out]; rfl)
 have q7 : (f0 == 7) = false := by simpa using h
 clear h
 by_cases h : f0 = 8 ∨ f0 = 11 ∨ f0 = 14
 ·rcases h with rfl | rfl | rfl
  all_goals
   have k0 := U0.out
   go_wp2_with (with_reducible refine gate_dst (N := 93) rfl ?_; go_must (refine wpList_ret_row 93 rfl rfl rfl (.tmp 3) (.tmp 2) rfl rfl rfl _ _ _ _ rfl rfl rfl X.x3 X.bx.x1 rfl rfl (by simp [Value.oneCell']) ?_))
   exact row_end rfl rfl rfl X.bx.x1 rfl X.bx.x2 (Nat.le_succ _) (by rw [← HFE.out]; rfl)
 have q8 : (f0 == 8) = false := by simp; omega
 have q11 : (f0 == 11) = false := by simp; omega
 have q14 : (f0 == 14) = false := by simp; omega
 clear h
 have k0 := U0.out
 have k13 : W.cell? ⟨w.heap.size, 13, none⟩ = some (.slice A13 f13.length c13) := U13.out
 have d13 : W.cell? ⟨g3, 13, none⟩ = some (.slice none 0 0) := blk_cell X.x3 13
 have f_13 := blk_frozen X.x3 13
 go_upto_region 23 with (fail)
 refine wp_gen (By w _ (#[.int .u8 _, .int .u8 fl, .int .u32 0, .int .u16 0, .int .u16 0, .int .u32 0, .int .u32 0, .int .u32 0, .int .u16 0, .int .u16 0, .slice none 0 0, .slice none 0 0, .slice none 0 0, .slice A13 f13.length c13, .slice none 0 0]) g3) (X.set 13 _) ?_
 clear X k13 d13 f_13
 intro W9 X
 go_wp2_with (with_reducible refine gate_dst (N := 93) rfl ?_; go_must (refine wpList_ret_row 93 rfl rfl rfl (.tmp 3) (.tmp 2) rfl rfl rfl _ _ _ _ rfl rfl rfl X.x3 X.bx.x1 rfl rfl (by simp [Value.oneCell']) ?_))
 have hf : hasF f0 = fun i => i == 13 := by
  funext i
  simp only [beq_eq_false_iff_ne] at q0 q1 q2 q16 q3 q4 q5 q6 q9 q7 q8 q11 q14
  unfold hasF
  rw [if_neg q0, if_neg (fun e => e.elim q1 q2), if_neg q16, if_neg q3, if_neg (fun e => e.elim q4 (fun e => e.elim q5 (fun e => e.elim q6 q9))), if_neg q7, if_neg (fun e => e.elim q8 (fun e => e.elim q11 q14))]
 refine row_end rfl rfl rfl X.bx.x1 rfl X.bx.x2 (Nat.le_succ _) ?_
 rw [← HFE.out]
 unfold bareD
 dsimp only
 rw [hf]
 rfl
end Go.Proofs.YthiaakjbapgibaaGreat.Ch
end
section
namespace Go.Proofs.YthiaakjbapgibaaGreat.Ch
open Go.RowKit YthiaakjbapgibaaGreatW.PrintWords YthiaakjbapgibaaGreatW.PrintLast Base PCh ParDec ParEnc
def encP (ps : List PrmS) : List Int × Int := if ps.length > 256 then ([], 3) else runB [] ps
def gapL : List GapS → List Int
 | [] => []
 | g :: r => [g.f0, g.f1] ++ gapL r
def valData (x : Chk) : List Int := fourL [x.f2] ++ twoL [x.f3, x.f4] ++ fourL [x.f5] ++ x.f13
def valueD (x : Chk) : List Int :=
 if x.f0 = 0 then valData x
 else if x.f0 = 1 ∨ x.f0 = 2 then fourL [x.f6, x.f7] ++ twoL [x.f8, x.f9] ++ fourL [x.f2] ++ (encP x.f14).1
 else if x.f0 = 3 then fourL [x.f2, x.f7] ++ twoL [IntKind.u16.wrap (x.f10.length : Int), IntKind.u16.wrap (x.f12.length : Int)] ++ twoL (gapL x.f10) ++ fourL x.f12
 else if x.f0 = 16 then fourL [x.f2, x.f7] ++ twoL [IntKind.u16.wrap (x.f10.length : Int), IntKind.u16.wrap (x.f11.length : Int), IntKind.u16.wrap (x.f12.length : Int), 0] ++ twoL (gapL x.f10) ++ twoL (gapL x.f11) ++ fourL x.f12
 else if x.f0 = 4 ∨ x.f0 = 5 ∨ x.f0 = 6 ∨ x.f0 = 9 then (encP x.f14).1
 else if x.f0 = 7 then fourL [x.f2]
 else if x.f0 = 8 ∨ x.f0 = 11 ∨ x.f0 = 14 then []
 else x.f13
def ValP (xs : List Int) (w : World) (e : Ending) (w' : World) : Prop := ∃ A c, e = .returned (.slice A xs.length c) ∧ xs.length ≤ c ∧ (Kd.int .u8).C w' A xs.length xs ∧ Below w.heap.size w w'
def ValQ (b0 : Nat) (xs : List Int) (w : World) (e : Ending) (w' : World) : Prop :=
 ∃ A c, e = .returned (.slice A xs.length c) ∧ xs.length ≤ c ∧ (∀ W, Only (fun k => b0 ≤ k ∧ k < w.heap.size) w' W → (Kd.int .u8).C W A xs.length xs) ∧ Below w.heap.size w w'
theorem ValQ.P {b0 : Nat} {xs : List Int} {w w' : World} {e : Ending} (h : ValQ b0 xs w e w') : ValP xs w e w' := by
 obtain ⟨A, c, h1, h2, h3, h4⟩ := h
 exact ⟨A, c, h1, h2, h3 _ (Only.refl _ _), h4⟩
end Go.Proofs.YthiaakjbapgibaaGreat.Ch
end
section
namespace Go.Proofs.YthiaakjbapgibaaGreat.Ch
open Go.RowKit YthiaakjbapgibaaGreatW.PrintWords YthiaakjbapgibaaGreatW.PrintLast Base PCh ParDec ParEnc
def checkT1 : Bool × List (List Nat × List Nat) := (true, [([], []), ([], []), ([1], [1]), ([0, 2, 2], [0, 2]), ([3], [3]), ([4, 3], [4])])
def checkB1 : List Nat := [0, 0, 2, 7, 15, 31]
theorem checktab1 : Go.Proofs.YthiaakjbapgibaaGreatW.PrintLast.rtab .any (Go.Proofs.YthiaakjbapgibaaGreatW.PrintLast.opsOf Tryz.f60 1) = checkT1 := by kernel_rfl
theorem checkbits1 : Go.Proofs.YthiaakjbapgibaaGreatW.PrintLast.waitsOk checkT1.2 checkB1 = true := by kernel_rfl
noncomputable def checkD (x : Chk) : Int :=
 if decide (x = bareD x) = false then 63
 else if x.f0 = 0 ∧ x.f13.length = 0 then 62
 else if (x.f0 = 4 ∨ x.f0 = 5) ∧ beatB x.f14 = false then 61
 else if 4096 < x.f10.length ∨ 4096 < x.f11.length ∨ 4096 < x.f12.length then 3
 else if (encP x.f14).2 ≠ 0 then (encP x.f14).2
 else if 65531 < (valueD x).length then 2 else 0
theorem encP_calls (w : World) (A : Option Addr) (c : Nat) (ps : List PrmS) (h : Kd.C k123 w A ps.length ps) (hc : ps.length ≤ c) :
  Calls Tryz.prog 106 #[.slice A ps.length c] w fun e w' => ∃ v0 : Value, e = .returned (.tuple #[v0, .int .i64 (encP ps).2]) ∧ Kd.R (Kd.int .u8) 5 w' w.heap.size (fun _ => True) v0 (encP ps).1 ∧ Below w.heap.size w w' := by
 obtain ⟨k, hk⟩ := encode_run ps
 exact param_Encode.calls k A c ps _ _ w h hc hk
def ValOk (x : Chk) (L : Lay) : Prop := ∀ W, CR W x L → x = bareD x → x.f10.length ≤ 4096 → x.f11.length ≤ 4096 → x.f12.length ≤ 4096 → (encP x.f14).2 = 0 → Calls Tryz.prog 107 #[.agg (CV x L)] W (ValP (valueD x) W)
theorem isBeat_f (a : Int) : chunk_isBeat.f a = some (decide (a = 4 ∨ a = 5)) := by
 unfold chunk_isBeat.f
 by_cases h4 : a = 4
 ·simp [h4]
 ·by_cases h5 : a = 5
  ·simp [h5]
  ·simp [h4, h5]
theorem isBeat_calls (a : Int) (w : World) : Calls Tryz.prog 104 #[.int .u8 a] w fun e w' => e = .returned (.bool (decide (a = 4 ∨ a = 5))) ∧ Drawn0 w w' := chunk_isBeat.calls a _ w (isBeat_f a)
end Go.Proofs.YthiaakjbapgibaaGreat.Ch
end
