/- Rows of bytes and rows of rows of bytes, as the walks read and make them. -/
import Derived.Test.YthdemajmlidefaaProg
import Derived.Test.YthdemajmlidefaaWWords
import Derived.Deep.LoopGhost
import Derived.Deep.QuietTactic
import Derived.BigQuiet
import Derived.Laws.BitsLemmas
import Derived.Lib.Hide
import Derived.Outline
namespace Go.Proofs.Ythdemajmlidefaa.Base
open Go.RowKit Go.Proofs.YthdemajmlidefaaW.PrintWords
set_option linter.unusedVariables false
set_option linter.unusedSimpArgs false

theorem ret_bool {a b : Bool} (h : a = b) : Ending.returned (.bool a) = .returned (.bool b) := by rw [h]
theorem ret_int {k : IntKind} {a b : Int} (h : a = b) : Ending.returned (.int k a) = .returned (.int k b) := by rw [h]
theorem drawn2 {w w' : World} (h : ∃ n, w' = w.drewN n) : Drawn0 w w' := ⟨h⟩
theorem info_u8 : (Try.prog.info? 5).map (fun i => (i.zero, i.size, i.bytes)) = some (some (.int .u8 0), 1, 1) := by kernel_rfl
theorem getD_lt {α : Type} (l : List α) (d : α) (i : Nat) (h : i < l.length) : l.getD i d = l[i] := by simp [List.getD_eq_getElem?_getD, h]
/-- Nothing but the blocks of S, and new ones, has changed. -/
structure Only (S : Nat → Prop) (w w' : World) : Prop where
  os : w'.os = w.os
  tape : w'.tape = w.tape
  output : w'.output = w.output
  size : w.heap.size ≤ w'.heap.size
  block : ∀ k, k < w.heap.size → ¬ S k → w'.heap[k]? = w.heap[k]?
theorem Only.refl (S : Nat → Prop) (w : World) : Only S w w := ⟨rfl, rfl, rfl, Nat.le_refl _, fun _ _ _ => rfl⟩
theorem Only.mono {S S' : Nat → Prop} {w w' : World} (h : Only S w w') (hs : ∀ k, k < w.heap.size → S k → S' k) : Only S' w w' := ⟨h.os, h.tape, h.output, h.size, fun k hk hn => h.block k hk (fun hx => hn (hs k hk hx))⟩
theorem Only.trans {S S' : Nat → Prop} {a b c : World} (h : Only S a b) (k : Only S' b c) (hs : ∀ k, k < a.heap.size → S' k → S k) : Only S a c :=
  ⟨k.os.trans h.os, k.tape.trans h.tape, k.output.trans h.output, Nat.le_trans h.size k.size, fun i hi hn => (k.block i (Nat.lt_of_lt_of_le hi h.size) (fun hx => hn (hs i hi hx))).trans (h.block i hi hn)⟩
theorem Only.of_below {S : Nat → Prop} {w w' : World} (h : Below w.heap.size w w') : Only S w w' := ⟨h.os, h.tape, h.output, h.size, fun k hk _ => h.block k hk⟩
theorem Only.below {S : Nat → Prop} {B : Nat} {w w' : World} (h : Only S w w') (hB : B ≤ w.heap.size) (hs : ∀ k, S k → B ≤ k) : Below B w w' :=
  ⟨h.os, h.tape, h.output, h.size, fun k hk => h.block k (by omega) (fun hx => by have := hs k hx; omega)⟩
theorem Only.drew {S : Nat → Prop} {a w : World} (h : Only S a w) : Only S a w.drew := ⟨h.os, h.tape, h.output, h.size, h.block⟩
theorem Only.drewN {S : Nat → Prop} {a w : World} (h : Only S a w) (n : Nat) : Only S a (w.drewN n) := ⟨h.os, h.tape, h.output, h.size, h.block⟩
theorem Only.alloc {S : Nat → Prop} {a w : World} (h : Only S a w) (o : Obj) : Only S a (w.alloc o) := h.trans (.of_below (below_alloc (Below.refl _ _) o)) (S' := fun _ => False) (fun _ _ hf => hf.elim)
theorem Only.setCell {S : Nat → Prop} {a w : World} (h : Only S a w) {p : Addr} (hp : p.block < a.heap.size → S p.block) (u : Value) : Only S a (w.setCell p u) :=
  ⟨h.os, h.tape, h.output, by simpa [World.setCell] using h.size, fun k hk hn => (Below.heap_setCell w p u k (fun e => hn (by subst e; exact hp hk))).trans (h.block k hk hn)⟩
theorem Only.blk {S : Nat → Prop} {w w' : World} (h : Only S w w') {g : Nat} {o : Obj} (hb : w.heap[g]? = some o) (hg : ¬ S g) : w'.heap[g]? = some o := (h.block g (blk_lt hb) hg).trans hb
theorem Only.cell {S : Nat → Prop} {w w' : World} (h : Only S w w') {a : Addr} {v : Value} (hc : w.cell? a = some v) (hg : ¬ S a.block) : w'.cell? a = some v := by
  have := h.block a.block (World.block_lt_of_cell? w a hc) hg
  simpa [World.cell?, this] using hc
/-- A world is told by what is known of it. -/
theorem gen_world {G Pd : World → Prop} {W0 : World} (h0 : Pd W0) (h : ∀ W, Pd W → G W) : G W0 := h W0 h0
def byte : Kd UInt8 := Kd.scalar (fun b => .int .u8 (b.toNat : Int)) (fun _ => rfl)
theorem byte_at {w : World} {A : Option Addr} {n : Nat} {xs : List UInt8} (h : byte.C w A n xs) (i : Nat) (hi : i < n) : ∃ ad, A = some ad ∧ w.cell? (ad.add i) = some (.int .u8 ((xs.getD i 0).toNat : Int)) := by
  obtain ⟨ad, c, e, _, hK, hc0⟩ := Kd.C_get h (0 : UInt8) (i : Int) (by omega) (by omega)
  obtain rfl : c = [_] := hK
  have := hc0 0 _ rfl
  exact ⟨ad, e, by simpa [byte, Kd.scalar] using this⟩
def bytesK : Kd (List UInt8) := Kd.slice 5 byte
theorem bytes_at {w : World} {A : Option Addr} {n : Nat} {xs : List (List UInt8)} (h : bytesK.C w A n xs) (i : Nat) (hi : i < n) : ∃ ad A0 c0, A = some ad ∧ w.cell? (ad.add i) = some (.slice A0 (xs.getD i []).length c0) ∧ (xs.getD i []).length ≤ c0 ∧ byte.C w A0 (xs.getD i []).length (xs.getD i []) := by
  obtain ⟨ad, c, e, _, hK, hc0⟩ := Kd.C_get h ([] : List UInt8) (i : Int) (by omega) (by omega)
  obtain ⟨A0, c0, rfl, l0, g0⟩ := hK
  have := hc0 0 _ rfl
  exact ⟨ad, A0, c0, e, by simpa [bytesK, Kd.slice] using this, by simpa using l0, by simpa using g0⟩

theorem take_bytes {w : World} {A : Option Addr} {c : Nat} {l : List UInt8} (hb : byte.C w A l.length l) (hc : l.length ≤ c) (m : Nat) (j : Int) (hj : j = m) (hm : m ≤ l.length) :
    (∀ W : World, (Instr.slice 28 (.slice A l.length c) none (some (.int .i64 j)) none).run Try.prog W = .ok (.slice A (l.take m).length c) W) ∧ byte.C w A (l.take m).length (l.take m) ∧ (l.take m).length ≤ c := by
  subst hj
  obtain ⟨i, hi, h1, h2, h3⟩ := info_parts info_u8
  have hl : (l.take m).length = m := by rw [List.length_take]; omega
  refine ⟨fun W => ?_, Kd.C_take hb hm, by omega⟩
  have := cut_to (P := Try.prog) 28 5 .i64 Try.underlying28 hi A l.length c (m : Int) (by omega) (by omega) hc W
  rw [this, hl]
  rfl
theorem drop_bytes {w : World} {A : Option Addr} {c : Nat} {l : List UInt8} (hb : byte.C w A l.length l) (hc : l.length ≤ c) (m : Nat) (j : Int) (hj : j = m) (hm : m ≤ l.length) :
    ∃ A', (∀ W : World, (Instr.slice 28 (.slice A l.length c) (some (.int .i64 j)) none none).run Try.prog W = .ok (.slice A' (l.drop m).length (c - m)) W) ∧ byte.C w A' (l.drop m).length (l.drop m) ∧ (l.drop m).length ≤ c - m := by
  subst hj
  obtain ⟨i, hi, h1, h2, h3⟩ := info_parts info_u8
  have hl : (l.drop m).length = l.length - m := List.length_drop
  refine ⟨_, fun W => ?_, Kd.C_drop hb hm hc, by omega⟩
  have := cut_from (P := Try.prog) 28 5 .i64 Try.underlying28 hi 1 h2 A l.length c (m : Int) (by omega) (by omega) W
  rw [this, hl]
  rfl
/-- A row of literals: cells one behind the other, each read by a kind of one cell. -/
theorem row_lit {α : Type} (d : Kd α) (hd : d.sz = 1) (W : World) (e : TypeId) (vs : List Value) (ps : List α) (hl : vs.length = ps.length) (hm : ps.length ≤ 9223372036854775807)
    (h : ∀ (j : Nat) (v : Value) (p : α), vs[j]? = some v → ps[j]? = some p → d.K W p [v]) (fr : Nat × Nat := (0, 0)) : d.C (W.alloc (.cells vs.toArray e fr)) (some ⟨W.heap.size, 0, none⟩) ps.length ps := by
  refine ⟨rfl, hm, fun _ => ⟨_, rfl, fun j p hj => ?_⟩⟩
  have hjl : j < ps.length := (List.getElem?_eq_some_iff.1 hj).1
  obtain ⟨v, hv⟩ : ∃ v, vs[j]? = some v := ⟨vs[j]'(by omega), List.getElem?_eq_getElem (by omega)⟩
  refine ⟨[v], by rw [hd]; rfl, d.K_below (below_alloc (Below.refl _ _) _) (h j v p hv hj), fun i u hu => ?_⟩
  cases i with
  | zero =>
    obtain rfl : v = u := by simpa using hu
    rw [hd, add_plain, Nat.mul_one, Nat.add_zero]
    rw [cell_of_row _ _ _ _ _ _ (heap_alloc_new W _)]
    simpa using hv
  | succ i => simp at hu
theorem K_byte (w : World) (b : UInt8) : byte.K w b [.int .u8 (b.toNat : Int)] := rfl
theorem byte_cell {W : World} {base g n cap t : Nat} {ok : Nat → Prop} {xs : List UInt8} (h : byte.R t W base ok (.slice (some ⟨g, 0, none⟩) n cap) xs) (i : Nat) (hi : i < n) :
    W.cell? ⟨g, i, none⟩ = some (.int .u8 ((xs.getD i 0).toNat : Int)) ∧ W.frozen? ⟨g, i, none⟩ = false := by
  have := Kd.R_celln (0 : UInt8) h (i : Int) (by omega) (by omega)
  simpa [rdOf] using this
theorem byte_put {W : World} {base g n cap t : Nat} {ok : Nat → Prop} {xs : List UInt8} (h : byte.R t W base ok (.slice (some ⟨g, 0, none⟩) n cap) xs) (i : Nat) (z : Int) (x : UInt8) (hz : z = (x.toNat : Int)) :
    byte.R t (W.setCell ⟨g, i, none⟩ (.int .u8 z)) base ok (.slice (some ⟨g, 0, none⟩) n cap) (xs.set i x) := by
  have := Kd.R_putn h (i : Int) x
  rw [Int.toNat_natCast] at this
  rw [hz]
  exact this
/-- Bytes as a string. -/
def bstr (l : List UInt8) : ByteArray := ⟨l.toArray⟩
theorem bstr_toList (l : List UInt8) : (bstr l).toList = l := by
  rw [bstr, ByteArray.toList_mk]
theorem bstr_size (l : List UInt8) : (bstr l).size = l.length := rfl
theorem bstr_eq (l l' : List UInt8) : ((bstr l).toList == (bstr l').toList) = decide (l = l') := by
  rw [bstr_toList, bstr_toList]
  by_cases h : l = l' <;> simp [h]
theorem ints_of_bytes {w : World} {A : Option Addr} {n : Nat} {l : List UInt8} (h : byte.C w A n l) : ReadsInt w .u8 A n (l.map fun b => (b.toNat : Int)) := by
  obtain ⟨h1, h2, h3⟩ := Kd.reads_of_C (d := (0 : UInt8)) h
  refine ⟨by simpa using h1, h2, fun hn => ?_⟩
  obtain ⟨ad, e, hc⟩ := h3 hn
  refine ⟨ad, e, fun j hj => ?_⟩
  rw [hc j hj, getD_lt _ _ _ (by omega), getD_lt _ _ _ (by rw [List.length_map]; omega), List.getElem_map]
theorem nums_bstr (l : List UInt8) : strOfNums (l.map fun b => (b.toNat : Int)) = bstr l := by
  unfold strOfNums bstr
  rw [List.map_map]
  have : (List.map ((fun n : Int => UInt8.ofNat n.toNat) ∘ fun b : UInt8 => (b.toNat : Int)) l) = l := by
    conv => rhs; rw [← List.map_id l]
    exact List.map_congr_left fun b _ => by simp
  rw [this]
theorem run_bstr {w : World} {A : Option Addr} {n c : Nat} {l : List UInt8} (h : byte.C w A n l) : (convert 28 9 (.slice A n c)).run Try.prog w = .ok (.string (bstr l)) w := by
  rw [← nums_bstr]
  exact string_of_reads Try.underlying28 Try.underlying5 Try.underlying9 (ints_of_bytes h)
attribute [irreducible] bstr
theorem lit_byte (w : World) (l : List UInt8) {vs : List Value} (h : vs = l.map fun b => .int .u8 (b.toNat : Int)) : ∀ (j : Nat) (v : Value) (p : UInt8), vs[j]? = some v → l[j]? = some p → byte.K w p [v] := by
  subst h
  intro j v p hv hp
  rw [List.getElem?_map, hp] at hv
  obtain rfl := Option.some.inj hv
  rfl
theorem K_bytes {w : World} {A : Option Addr} {c : Nat} {l : List UInt8} (h : byte.C w A l.length l) (hc : l.length ≤ c) : bytesK.K w l [.slice A l.length c] := ⟨A, c, rfl, hc, h⟩
end Go.Proofs.Ythdemajmlidefaa.Base
