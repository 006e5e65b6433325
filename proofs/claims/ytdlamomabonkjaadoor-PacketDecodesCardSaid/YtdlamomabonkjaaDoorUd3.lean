/- The texts of one proof, merged: part 3. -/
import Derived.Test.YtdlamomabonkjaaDoorUd2
import Derived.Test.YtdlamomabonkjaaDoorProg
import Derived.Deep.LoopGhost
import Derived.Deep.QuietTactic
import Derived.BigQuiet
import Derived.Laws.BitsLemmas
import Derived.Lib.Hide
import Derived.Outline
import Derived.Test.YtdlamomabonkjaaDoorRows
import Derived.WalkKit
import Derived.ProofKit
import Derived.OpenShut
import Derived.ShutString
import Derived.ChangeOld
import Derived.SizedLaws
import Derived.Deep.Slices
import Derived.Deep.DeepHandedRow
import Derived.Lib.LaidTab
import Derived.LaidMore
import Derived.WalkSpells
import Derived.Laws.Rows
import Derived.WalkLawsBesides
import Derived.Defers
import Derived.Recover
import Derived.Laws.Pointers
import Derived.StillTailTactics
import Derived.Deep.RegionWith
set_option maxRecDepth 100000
set_option linter.unusedVariables false
set_option linter.unusedSimpArgs false
section
namespace Go.Proofs.YtdlamomabonkjaaDoor.Base
open Go.RowKit YtdlamomabonkjaaDoorW.PrintWords
theorem ret_bool {a b : Bool} (h : a = b) : Ending.returned (.bool a) = .returned (.bool b) := by rw [h]
theorem drawn2 {w w' : World} (h : ∃ n, w' = w.drewN n) : Drawn0 w w' := ⟨h⟩
theorem info_u8 : (Tryd.prog.info? 5).map (fun i => (i.zero, i.size, i.bytes)) = some (some (.int .u8 0), 1, 1) := by kernel_rfl
theorem getD_lt {α : Type} (l : List α) (d : α) (i : Nat) (h : i < l.length) : l.getD i d = l[i] := by simp [List.getD_eq_getElem?_getD, h]
structure Only (S : Nat → Prop) (w w' : World) : Prop where
 os : w'.os = w.os
 tape : w'.tape = w.tape
 output : w'.output = w.output
 size : w.heap.size ≤ w'.heap.size
 block : ∀ k, k < w.heap.size → ¬ S k → w'.heap[k]? = w.heap[k]?
theorem Only.refl (S : Nat → Prop) (w : World) : Only S w w := ⟨rfl, rfl, rfl, Nat.le_refl _, fun _ _ _ => rfl⟩
theorem Only.mono {S S' : Nat → Prop} {w w' : World} (h : Only S w w') (hs : ∀ k, k < w.heap.size → S k → S' k) : Only S' w w' := ⟨h.os, h.tape, h.output, h.size, fun k hk hn => h.block k hk (fun hx => hn (hs k hk hx))⟩
theorem Only.trans {S S' : Nat → Prop} {a b c : World} (h : Only S a b) (k : Only S' b c) (hs : ∀ k, k < a.heap.size → S' k → S k) : Only S a c :=
 ⟨k.os.trans h.os, k.tape.trans h.tape, k.output.trans h.output, Nat.le_trans h.size k.size, fun i hi hn => (k.block i (Nat.lt_of_lt_of_le hi h.size) (fun hx => hn (hs i hi hx))).trans (h.block i hi hn)⟩
theorem Only.of_below {S : Nat → Prop} {w w' : World} (h : Below w.heap.size w w') : Only S w w' := ⟨h.os, h.tape, h.output, h.size, fun k hk _ => h.block k hk⟩
theorem Only.below {S : Nat → Prop} {B : Nat} {w w' : World} (h : Only S w w') (hB : B ≤ w.heap.size) (hs : ∀ k, S k → B ≤ k) : Below B w w' :=
 ⟨h.os, h.tape, h.output, h.size, fun k hk => h.block k (by omega) (fun hx => by have := hs k hx; omega)⟩
theorem Only.drew {S : Nat → Prop} {a w : World} (h : Only S a w) : Only S a w.drew := ⟨h.os, h.tape, h.output, h.size, h.block⟩
theorem Only.drewN {S : Nat → Prop} {a w : World} (h : Only S a w) (n : Nat) : Only S a (w.drewN n) := ⟨h.os, h.tape, h.output, h.size, h.block⟩
theorem Only.alloc {S : Nat → Prop} {a w : World} (h : Only S a w) (o : Obj) : Only S a (w.alloc o) := h.trans (.of_below (below_alloc (Below.refl _ _) o)) (S' := fun _ => False) (fun _ _ hf => hf.elim)
theorem Only.setCell {S : Nat → Prop} {a w : World} (h : Only S a w) {p : Addr} (hp : p.block < a.heap.size → S p.block) (u : Value) : Only S a (w.setCell p u) :=
 ⟨h.os, h.tape, h.output, by simpa [World.setCell] using h.size, fun k hk hn => (Below.heap_setCell w p u k (fun e => hn (by subst e; exact hp hk))).trans (h.block k hk hn)⟩
theorem Only.blk {S : Nat → Prop} {w w' : World} (h : Only S w w') {g : Nat} {o : Obj} (hb : w.heap[g]? = some o) (hg : ¬ S g) : w'.heap[g]? = some o := (h.block g (blk_lt hb) hg).trans hb
theorem Only.cell {S : Nat → Prop} {w w' : World} (h : Only S w w') {a : Addr} {v : Value} (hc : w.cell? a = some v) (hg : ¬ S a.block) : w'.cell? a = some v := by
 have := h.block a.block (World.block_lt_of_cell? w a hc) hg
 simpa [World.cell?, this] using hc
def byte : Kd UInt8 := Kd.scalar (fun b => .int .u8 (b.toNat : Int)) (fun _ => rfl)
theorem byte_at {w : World} {A : Option Addr} {n : Nat} {xs : List UInt8} (h : byte.C w A n xs) (i : Nat) (hi : i < n) : ∃ ad, A = some ad ∧ w.cell? (ad.add i) = some (.int .u8 ((xs.getD i 0).toNat : Int)) := by
 obtain ⟨ad, c, e, _, hK, hc0⟩ := Kd.C_get h (0 : UInt8) (i : Int) (by omega) (by omega)
 obtain rfl : c = [_] := hK
 have := hc0 0 _ rfl
 exact ⟨ad, e, by simpa [byte, Kd.scalar] using this⟩
def bytesK : Kd (List UInt8) := Kd.slice 5 byte
theorem bytes_at {w : World} {A : Option Addr} {n : Nat} {xs : List (List UInt8)} (h : bytesK.C w A n xs) (i : Nat) (hi : i < n) : ∃ ad A0 c0, A = some ad ∧ w.cell? (ad.add i) = some (.slice A0 (xs.getD i []).length c0) ∧ (xs.getD i []).length ≤ c0 ∧ byte.C w A0 (xs.getD i []).length (xs.getD i []) := by
 obtain ⟨ad, c, e, _, hK, hc0⟩ := Kd.C_get h ([] : List UInt8) (i : Int) (by omega) (by omega)
 obtain ⟨A0, c0, rfl, l0, g0⟩ := hK
 have := hc0 0 _ rfl
 exact ⟨ad, A0, c0, e, by simpa [bytesK, Kd.slice] using this, by simpa using l0, by simpa using g0⟩
theorem take_bytes {w : World} {A : Option Addr} {c : Nat} {l : List UInt8} (hb : byte.C w A l.length l) (hc : l.length ≤ c) (m : Nat) (j : Int) (hj : j = m) (hm : m ≤ l.length) :
  (∀ W : World, (Instr.slice 27 (.slice A l.length c) none (some (.int .i64 j)) none).run Tryd.prog W = .ok (.slice A (l.take m).length c) W) ∧ byte.C w A (l.take m).length (l.take m) ∧ (l.take m).length ≤ c := by
 subst hj
 obtain ⟨i, hi, h1, h2, h3⟩ := info_parts info_u8
 have hl : (l.take m).length = m := by rw [List.length_take]; omega
 refine ⟨fun W => ?_, Kd.C_take hb hm, by omega⟩
 have := cut_to (P := Tryd.prog) 27 5 .i64 Tryd.underlying27 hi A l.length c (m : Int) (by omega) (by omega) hc W
 rw [this, hl]
 rfl
theorem drop_bytes {w : World} {A : Option Addr} {c : Nat} {l : List UInt8} (hb : byte.C w A l.length l) (hc : l.length ≤ c) (m : Nat) (j : Int) (hj : j = m) (hm : m ≤ l.length) :
  ∃ A', (∀ W : World, (Instr.slice 27 (.slice A l.length c) (some (.int .i64 j)) none none).run Tryd.prog W = .ok (.slice A' (l.drop m).length (c - m)) W) ∧ byte.C w A' (l.drop m).length (l.drop m) ∧ (l.drop m).length ≤ c - m := by
 subst hj
 obtain ⟨i, hi, h1, h2, h3⟩ := info_parts info_u8
 have hl : (l.drop m).length = l.length - m := List.length_drop
 refine ⟨_, fun W => ?_, Kd.C_drop hb hm hc, by omega⟩
 have := cut_from (P := Tryd.prog) 27 5 .i64 Tryd.underlying27 hi 1 h2 A l.length c (m : Int) (by omega) (by omega) W
 rw [this, hl]
 rfl
theorem row_lit {α : Type} (d : Kd α) (hd : d.sz = 1) (W : World) (e : TypeId) (vs : List Value) (ps : List α) (hl : vs.length = ps.length) (hm : ps.length ≤ 9223372036854775807)
  (h : ∀ (j : Nat) (v : Value) (p : α), vs[j]? = some v → ps[j]? = some p → d.K W p [v]) (fr : Nat × Nat := (0, 0)) : d.C (W.alloc (.cells vs.toArray e fr)) (some ⟨W.heap.size, 0, none⟩) ps.length ps := by
 refine ⟨rfl, hm, fun _ => ⟨_, rfl, fun j p hj => ?_⟩⟩
 have hjl : j < ps.length := (List.getElem?_eq_some_iff.1 hj).1
 obtain ⟨v, hv⟩ : ∃ v, vs[j]? = some v := ⟨vs[j]'(by omega), List.getElem?_eq_getElem (by omega)⟩
 refine ⟨[v], by rw [hd]; rfl, d.K_below (below_alloc (Below.refl _ _) _) (h j v p hv hj), fun i u hu => ?_⟩
 cases i with
 | zero =>
  obtain rfl : v = u := by simpa using hu
  rw [hd, add_plain, Nat.mul_one, Nat.add_zero]
  rw [cell_of_row _ _ _ _ _ _ (heap_alloc_new W _)]
  simpa using hv
 | succ i => simp at hu
theorem byte_cell {W : World} {base g n cap t : Nat} {ok : Nat → Prop} {xs : List UInt8} (h : byte.R t W base ok (.slice (some ⟨g, 0, none⟩) n cap) xs) (i : Nat) (hi : i < n) :
  W.cell? ⟨g, i, none⟩ = some (.int .u8 ((xs.getD i 0).toNat : Int)) ∧ W.frozen? ⟨g, i, none⟩ = false := by
 have := Kd.R_celln (0 : UInt8) h (i : Int) (by omega) (by omega)
 simpa [rdOf] using this
theorem byte_put {W : World} {base g n cap t : Nat} {ok : Nat → Prop} {xs : List UInt8} (h : byte.R t W base ok (.slice (some ⟨g, 0, none⟩) n cap) xs) (i : Nat) (z : Int) (x : UInt8) (hz : z = (x.toNat : Int)) :
  byte.R t (W.setCell ⟨g, i, none⟩ (.int .u8 z)) base ok (.slice (some ⟨g, 0, none⟩) n cap) (xs.set i x) := by
 have := Kd.R_putn h (i : Int) x
 rw [Int.toNat_natCast] at this
 rw [hz]
 exact this
def bstr (l : List UInt8) : ByteArray := ⟨l.toArray⟩
theorem bstr_toList (l : List UInt8) : (bstr l).toList = l := by
 rw [bstr, ByteArray.toList_mk]
theorem bstr_eq (l l' : List UInt8) : ((bstr l).toList == (bstr l').toList) = decide (l = l') := by
 rw [bstr_toList, bstr_toList]
 by_cases h : l = l' <;> simp [h]
theorem ints_of_bytes {w : World} {A : Option Addr} {n : Nat} {l : List UInt8} (h : byte.C w A n l) : ReadsInt w .u8 A n (l.map fun b => (b.toNat : Int)) := by
 obtain ⟨h1, h2, h3⟩ := Kd.reads_of_C (d := (0 : UInt8)) h
 refine ⟨by simpa using h1, h2, fun hn => ?_⟩
 obtain ⟨ad, e, hc⟩ := h3 hn
 refine ⟨ad, e, fun j hj => ?_⟩
 rw [hc j hj, getD_lt _ _ _ (by omega), getD_lt _ _ _ (by rw [List.length_map]; omega), List.getElem_map]
theorem nums_bstr (l : List UInt8) : strOfNums (l.map fun b => (b.toNat : Int)) = bstr l := by
 unfold strOfNums bstr
 rw [List.map_map]
 have : (List.map ((fun n : Int => UInt8.ofNat n.toNat) ∘ fun b : UInt8 => (b.toNat : Int)) l) = l := by
  conv => rhs; rw [← List.map_id l]
  exact List.map_congr_left fun b _ => by simp
 rw [this]
theorem run_bstr {w : World} {A : Option Addr} {n c : Nat} {l : List UInt8} (h : byte.C w A n l) : (convert 27 9 (.slice A n c)).run Tryd.prog w = .ok (.string (bstr l)) w := by
 rw [← nums_bstr]
 exact string_of_reads Tryd.underlying27 Tryd.underlying5 Tryd.underlying9 (ints_of_bytes h)
attribute [irreducible] bstr
theorem lit_byte (w : World) (l : List UInt8) {vs : List Value} (h : vs = l.map fun b => .int .u8 (b.toNat : Int)) : ∀ (j : Nat) (v : Value) (p : UInt8), vs[j]? = some v → l[j]? = some p → byte.K w p [v] := by
 subst h
 intro j v p hv hp
 rw [List.getElem?_map, hp] at hv
 obtain rfl := Option.some.inj hv
 rfl
theorem K_bytes {w : World} {A : Option Addr} {c : Nat} {l : List UInt8} (h : byte.C w A l.length l) (hc : l.length ≤ c) : bytesK.K w l [.slice A l.length c] := ⟨A, c, rfl, hc, h⟩
end Go.Proofs.YtdlamomabonkjaaDoor.Base
end
section
namespace Go.Proofs.YtdlamomabonkjaaDoor.Base
open Go.ChangeShapes Go.WideShapes Go.ChangeAt Go.RowKit YtdlamomabonkjaaDoorW.PrintWords
open Go.ChangeMaps (open_string shut_string)
theorem own : ownKnob Tryd.prog.godebug = none := by kernel_rfl
theorem laidOut : laidOutB Tryd.prog = true := by kernel_rfl
theorem cells_u8 : Tryd.prog.cellsOf 5 = 1 := by kernel_rfl
theorem bytes_u8 : Tryd.prog.bytesOf 5 = 1 := by kernel_rfl
theorem u8_of_wf {n : Int} (h : (Lit.int .u8 n).wf = true) : ((UInt8.ofNat n.toNat).toNat : Int) = n := by
 have := bounds_u8 h
 rw [UInt8.toNat_ofNat']
 omega
section
variable {H : Type} {enc : TypeId × Value → H} {W : World}
theorem open_bytes {a : Option Addr} {len cap : Nat} {d : DataW H} {p : List MemPlace} (h : DataW.Trod enc Tryd.prog W 0 (fun _ => true) true 27 (.slice a len cap) d p) :
  ∃ l : List UInt8, len = l.length ∧ l.length ≤ cap ∧ byte.C W a l.length l ∧ (cap = 0 ∨ ∃ elems spare, d = .slice elems spare ∧ elems.length + spare.length = cap) := by
 obtain ⟨fuel, hf⟩ := h
 rcases open_ints Tryd.underlying27 Tryd.underlying5 cells_u8 hf with ⟨hcs, hx⟩ | ⟨x, l, c, zs, hcs, _, hl, hm, hz, hx, hcell, hwz⟩
 ·simp [Value.cells] at hcs
  obtain ⟨rfl, rfl, rfl⟩ := hcs
  exact ⟨[], rfl, Nat.le_refl _, Kd.C_nil byte W, .inl rfl⟩
 ·simp [Value.cells] at hcs
  obtain ⟨rfl, rfl, rfl⟩ := hcs
  have hz' : zs.length = cap := by simpa using hz
  simp only [Prod.mk.injEq] at hx
  have hll : ((zs.take len).map fun n => UInt8.ofNat n.toNat).length = len := by simp; omega
  refine ⟨(zs.take len).map fun n => UInt8.ofNat n.toNat, hll.symm, by omega, ?_, .inr ⟨_, _, hx.1, by simp [lits]; omega⟩⟩
  refine Kd.C_of_reads (d := (0 : UInt8)) ⟨rfl, by simp only [maxLen] at hm; omega, fun _ => ⟨x, rfl, fun j hj => ?_⟩⟩
  rw [hll] at hj
  rw [hcell j (by omega), getD_lt _ _ _ (by omega), getD_lt _ _ _ (by omega), List.getElem_map, List.getElem_take]
  show some (Value.int .u8 zs[j]) = some (Value.int .u8 ((UInt8.ofNat zs[j].toNat).toNat : Int))
  rw [u8_of_wf (hwz _ (List.getElem_mem _))]
theorem reach_bytes {ts : List TypeId} {ds : List (DataW H)} (hsz : (DataW.weightsEach Tryd.prog ts ds).all (· ≤ reachBytes) = true) {j cap : Nat} {d : DataW H} (ht : ts[j]? = some 27) (hd : ds[j]? = some d)
  (h : cap = 0 ∨ ∃ elems spare, d = .slice elems spare ∧ elems.length + spare.length = cap) : cap ≤ 140737488351232 := by
 rcases h with rfl | ⟨elems, spare, rfl, he⟩
 ·omega
 ·have := sized_slice hsz ht hd Tryd.underlying27
  rw [bytes_u8, Nat.mul_one, he] at this
  exact this
end
end Go.Proofs.YtdlamomabonkjaaDoor.Base
end
section
namespace Go.Proofs.YtdlamomabonkjaaDoor.Base
open Go.RowKit YtdlamomabonkjaaDoorW.PrintWords
def RetR {α : Type} (d : Kd α) (t : Nat) (xs : List α) (w : World) (e : Ending) (w' : World) : Prop := ∃ v, e = .returned v ∧ d.R t w' w.heap.size (fun _ => True) v xs ∧ Below w.heap.size w w'
end Go.Proofs.YtdlamomabonkjaaDoor.Base
end
section
namespace Go.Proofs.YtdlamomabonkjaaDoor.Ch
open Go.RowKit YtdlamomabonkjaaDoorW.PrintWords Base PCh
abbrev Chk := S41
abbrev GapS := S117
abbrev PrmS := S72
noncomputable instance : DecidableEq GapS := fun _ _ => Classical.propDecidable _
noncomputable instance : DecidableEq PrmS := fun _ _ => Classical.propDecidable _
noncomputable instance : DecidableEq Chk := fun _ _ => Classical.propDecidable _
structure Lay where
 A10 : Option Addr
 c10 : Nat
 A11 : Option Addr
 c11 : Nat
 A12 : Option Addr
 c12 : Nat
 A13 : Option Addr
 c13 : Nat
 A14 : Option Addr
 c14 : Nat
def CV (x : Chk) (L : Lay) : Array Value := #[.int .u8 x.f0, .int .u8 x.f1, .int .u32 x.f2, .int .u16 x.f3, .int .u16 x.f4, .int .u32 x.f5, .int .u32 x.f6, .int .u32 x.f7, .int .u16 x.f8, .int .u16 x.f9, .slice L.A10 x.f10.length L.c10, .slice L.A11 x.f11.length L.c11, .slice L.A12 x.f12.length L.c12, .slice L.A13 x.f13.length L.c13, .slice L.A14 x.f14.length L.c14]
structure CR (w : World) (x : Chk) (L : Lay) : Prop where
 l10 : x.f10.length ≤ L.c10
 h10 : Kd.C k117 w L.A10 x.f10.length x.f10
 l11 : x.f11.length ≤ L.c11
 h11 : Kd.C k117 w L.A11 x.f11.length x.f11
 l12 : x.f12.length ≤ L.c12
 h12 : Kd.C (Kd.int .u32) w L.A12 x.f12.length x.f12
 l13 : x.f13.length ≤ L.c13
 h13 : Kd.C (Kd.int .u8) w L.A13 x.f13.length x.f13
 l14 : x.f14.length ≤ L.c14
 h14 : Kd.C k72 w L.A14 x.f14.length x.f14
theorem CR.below {w w' : World} {x : Chk} {L : Lay} (h : CR w x L) (hb : Below w.heap.size w w') : CR w' x L := ⟨h.l10, Kd.C_below h.h10 hb, h.l11, Kd.C_below h.h11 hb, h.l12, Kd.C_below h.h12 hb, h.l13, Kd.C_below h.h13 hb, h.l14, Kd.C_below h.h14 hb⟩
theorem CR.drewN {w : World} {x : Chk} {L : Lay} (h : CR w x L) (n : Nat) : CR (w.drewN n) x L := ⟨h.l10, Kd.C_drewN h.h10 n, h.l11, Kd.C_drewN h.h11 n, h.l12, Kd.C_drewN h.h12 n, h.l13, Kd.C_drewN h.h13 n, h.l14, Kd.C_drewN h.h14 n⟩
theorem CR.K {w : World} {x : Chk} {L : Lay} (h : CR w x L) : k41.K w x (CV x L).toList := k41_mk w x h.l10 h.h10 h.l11 h.h11 h.l12 h.h12 h.l13 h.h13 h.l14 h.h14
theorem CR.of_K {w : World} {x : Chk} {cs : List Value} (h : k41.K w x cs) : ∃ L, cs = (CV x L).toList ∧ CR w x L := by
 obtain ⟨A10, c10, A11, c11, A12, c12, A13, c13, A14, c14, rfl, l10, g10, l11, g11, l12, g12, l13, g13, l14, g14⟩ := k41_open h
 exact ⟨⟨A10, c10, A11, c11, A12, c12, A13, c13, A14, c14⟩, rfl, ⟨l10, g10, l11, g11, l12, g12, l13, g13, l14, g14⟩⟩
theorem chk_ext {x y : Chk} (h0 : x.f0 = y.f0) (h1 : x.f1 = y.f1) (h2 : x.f2 = y.f2) (h3 : x.f3 = y.f3) (h4 : x.f4 = y.f4) (h5 : x.f5 = y.f5) (h6 : x.f6 = y.f6) (h7 : x.f7 = y.f7) (h8 : x.f8 = y.f8) (h9 : x.f9 = y.f9) (h10 : x.f10 = y.f10) (h11 : x.f11 = y.f11) (h12 : x.f12 = y.f12) (h13 : x.f13 = y.f13) (h14 : x.f14 = y.f14) : x = y := by
 cases x; cases y; simp_all
theorem gap_ext {a b : GapS} (h0 : a.f0 = b.f0) (h1 : a.f1 = b.f1) : a = b := by
 cases a; cases b; simp_all
theorem max_len {α : Type} {d : Kd α} {w : World} {A : Option Addr} {xs : List α} (h : d.C w A xs.length xs) : xs.length ≤ 9223372036854775807 := by
 have := h.2.1
 omega
theorem gap_drop (l : List S117) (i : Nat) (h : i < l.length) : l.drop i = rd_T117 l (i : Int) :: l.drop (i + 1) := by
 rw [List.drop_eq_getElem_cons h]
 have e : rd_T117 l (i : Int) = l[i] := by
  simp [rd_T117, List.getD_eq_getElem?_getD, h]
 rw [e]
theorem u32_drop (l : List Int) (i : Nat) (h : i < l.length) : l.drop i = rd l (i : Int) :: l.drop (i + 1) := by
 rw [List.drop_eq_getElem_cons h]
 have e : rd l (i : Int) = l[i] := by
  simp [rd, List.getD_eq_getElem?_getD, h]
 rw [e]
theorem prm_ext {p q : PrmS} (h0 : p.f0 = q.f0) (h1 : p.f1 = q.f1) : p = q := by
 cases p; cases q; simp_all
end Go.Proofs.YtdlamomabonkjaaDoor.Ch
end
section
namespace Go.Proofs.YtdlamomabonkjaaDoor.Base
open Go.RowKit YtdlamomabonkjaaDoorW.PrintWords
theorem exec_load_row {P : Program} {o : Oper} {a : Act} {w : World} (ty : TypeId) (x : Operand) (ho : o.op = .load ty x) {g : Nat} (hx : a.eval x = .pointer (some ⟨g, 0, none⟩)) {t : TypeId} {cs : Array Value} {fr : Nat × Nat} {d : TypeDesc} (hg : w.heap[g]? = some (.cells cs t fr))
  (hu : P.underlying ty = some d) (hd : (match d with | .struct _ | .array _ _ => true | _ => false) = true) (hi : (P.info? ty).map (·.size) = some cs.size) : (execOp a.eval o).run P w = .ok (.value (.agg cs)) w := by
 unfold execOp
 simp only [ho, hx, Instr.loadAt, Instr.sureAddr, Sem.run_bind, Sem.run_pure, Result.andThen_ok, run_loadVar_row w g t ty cs fr d hg hu hd hi]
end Go.Proofs.YtdlamomabonkjaaDoor.Base
end
section
namespace Go.Proofs.YtdlamomabonkjaaDoor.ParCauses
open Go.RowKit YtdlamomabonkjaaDoorW.PrintWords PCh Base
def sameQ (p q : S72) : Bool := decide (p.f0 = q.f0) && ((strOfNums p.f1).toList == (strOfNums q.f1).toList)
def sameP : List S72 → List S72 → Bool
 | [], [] => true
 | p :: ps, q :: qs => sameQ p q && sameP ps qs
 | _, _ => false
theorem sameP_length : ∀ (ps qs : List S72), ps.length ≠ qs.length → sameP ps qs = false
 | [], [], h => absurd rfl h
 | [], _ :: _, _ => rfl
 | _ :: _, [], _ => rfl
 | p :: ps, q :: qs, h => by
  unfold sameP
  rw [sameP_length ps qs (by simpa using h), Bool.and_false]
theorem rd_drop (ps : List S72) (i : Nat) (h : i < ps.length) : ps.drop i = rd_T72 ps (i : Int) :: ps.drop (i + 1) := by
 rw [List.drop_eq_getElem_cons h]
 unfold rd_T72
 rw [Int.toNat_natCast]
 simp [List.getD_eq_getElem?_getD, h]
theorem refSame_calls (w : World) (A0 : Option Addr) (c0 : Nat) (l0 : List S72) (A1 : Option Addr) (c1 : Nat) (l1 : List S72) (h0 : Kd.C k72 w A0 l0.length l0) (h1 : Kd.C k72 w A1 l1.length l1) :
  Calls Tryd.prog 62 #[.slice A0 l0.length c0, .slice A1 l1.length c1] w fun e w' => e = .returned (.bool (sameP l0 l1)) ∧ Drawn0 w w' := by
 have m0 := h0.2.1
 by_cases hl : l0.length = l1.length
 ·go_enter Tryd.func62, Tryd.ntmps62
  go_wp2
  go_loopw [5] (fun v5 w' => ∃ i : Nat, i ≤ l0.length ∧ v5 = .int .i64 i ∧ Hid (sameP l0 l1 = sameP (l0.drop i) (l1.drop i)) ∧ Drawn0 w w') (fun v5 _ => l0.length - (intOf v5).toNat)
  case atStart => exact ⟨0, by omega, rfl, rfl, Drawn0.refl _⟩
  case round =>
   obtain ⟨i, hi, rfl, HS, ⟨m, rfl⟩⟩ := hrel
   by_cases hlt : i < l0.length
   ·obtain ⟨ad0, B0, d0, rfl, x0, y0, z0, b0⟩ := at_T72 h0 (i : Int) (by omega) (by omega)
    obtain ⟨ad1, B1, d1, rfl, x1, y1, z1, b1⟩ := at_T72 h1 (i : Int) (by omega) (by omega)
    rw [Int.toNat_natCast] at x0 y0 x1 y1
    have hd := HS.out
    rw [rd_drop l0 i hlt, rd_drop l1 i (by omega)] at hd
    generalize rd_T72 l0 (i : Int) = p at *
    generalize rd_T72 l1 (i : Int) = q at *
    have r0 := fun n => Kd.C_string (P := Tryd.prog) (c := d0) Tryd.underlying27 Tryd.underlying5 Tryd.underlying9 (Kd.C_drewN b0 n)
    have r1 := fun n => Kd.C_string (P := Tryd.prog) (c := d1) Tryd.underlying27 Tryd.underlying5 Tryd.underlying9 (Kd.C_drewN b1 n)
    by_cases hf : p.f0 = q.f0
    ·have hf1 : (p.f0 != q.f0) = false := by simp [hf]
     cases hb : ((strOfNums p.f1).toList == (strOfNums q.f1).toList) with
     | true =>
      have hb1 : ((strOfNums p.f1).toList != (strOfNums q.f1).toList) = false := by simpa using hb
      have HD := Lh (show sameP l0 l1 = sameP (l0.drop (i + 1)) (l1.drop (i + 1)) by rw [hd]; simp [sameP, sameQ, hf, hb])
      clear hd
      go_wp2
      go_quiet (fail)
      go_wp2
      go_roundw
      case rel => exact ⟨i + 1, by omega, by go_num, HD, drawn2 (by first | exact ⟨_, rfl⟩ | exact ⟨_, World.drewN_drewN ..⟩)⟩
      case measure => simp [intOf]; omega
     | false =>
      have hb1 : ((strOfNums p.f1).toList != (strOfNums q.f1).toList) = true := by simp [bne, hb]
      have HD := Lh (show sameP l0 l1 = false by rw [hd]; simp [sameP, sameQ, hf, hb])
      clear hd
      go_wp2
      go_quiet (fail)
      go_wp2
      go_ret
      exact ⟨by rw [HD.out]; rfl, drawn2 (by first | exact ⟨_, rfl⟩ | exact ⟨_, World.drewN_drewN ..⟩)⟩
    ·have hf1 : (p.f0 != q.f0) = true := by simp [hf]
     have HD := Lh (show sameP l0 l1 = false by rw [hd]; simp [sameP, sameQ, hf])
     clear hd
     go_wp2
     go_quiet (fail)
     go_wp2
     go_ret
     exact ⟨by rw [HD.out]; rfl, drawn2 (by first | exact ⟨_, rfl⟩ | exact ⟨_, World.drewN_drewN ..⟩)⟩
   ·obtain rfl : i = l0.length := by omega
    have HD := Lh (show sameP l0 l1 = true by rw [HS.out, List.drop_length, hl, List.drop_length]; rfl)
    go_wp2
    go_ret
    exact ⟨by rw [HD.out]; rfl, drawn2 ⟨_, rfl⟩⟩
 ·have HD := Lh (sameP_length l0 l1 hl)
  have hl2 : ¬ (l0.length : Int) = (l1.length : Int) := by omega
  go_enter Tryd.func62, Tryd.ntmps62
  go_wp2
  go_ret
  exact ⟨by rw [HD.out]; rfl, Drawn0.refl _⟩
end Go.Proofs.YtdlamomabonkjaaDoor.ParCauses
end
section
namespace Go.Proofs.YtdlamomabonkjaaDoor.ParDec
open Go.RowKit YtdlamomabonkjaaDoorW.PrintWords YtdlamomabonkjaaDoorW.PrintLast YtdlamomabonkjaaDoorW.PrintMore PCh ParCauses Base
attribute [local go_sem] min2_int min_two
theorem left_calls (w : World) (g : Nat) (A : Option Addr) (n c p : Nat) (k0 : w.cell? ⟨g, 0, none⟩ = some (.slice A n c)) (k1 : w.cell? ⟨g, 1, none⟩ = some (.int .i64 (p : Int))) (hp : p ≤ n) (hn : n ≤ 140737488355328) :
  Calls Tryd.prog 108 #[.pointer (some ⟨g, 0, none⟩)] w fun e w' => e = .returned (.int .i64 ((n - p : Nat) : Int)) ∧ Drawn0 w w' := by
 have hd : (n : Int) - (p : Int) = ((n - p : Nat) : Int) := by omega
 have hlt : n - p ≤ 140737488355328 := by omega
 generalize n - p = m at *
 go_enter Tryd.func108, Tryd.ntmps108
 go_wp2
 go_quiet (fail)
 go_wp2
 go_ret
 exact ⟨rfl, drawn2 ⟨_, rfl⟩⟩
theorem fail_calls (w : World) (g : Nat) (p : Nat) (code : Int) (k1 : w.cell? ⟨g, 1, none⟩ = some (.int .i64 (p : Int))) :
  Calls Tryd.prog 110 #[.pointer (some ⟨g, 0, none⟩), .int .i64 code] w fun e w' => e = .panicked [{ v := .iface 151 (.agg #[.int .i64 (p : Int), .int .i64 code]), recovered := false }] ∧ w' = w := by
 go_enter Tryd.func110, Tryd.ntmps110
 go_wp2
 exact ⟨rfl, rfl, rfl⟩
theorem or_bytes (x y : UInt8) : bits .or .i64 ((x.toNat : Int) * 256) (y.toNat : Int) = ((x.toNat * 256 + y.toNat : Nat) : Int) := by
 have hx : x.toNat < 256 := x.toNat_lt
 have hy : y.toNat < 256 := y.toNat_lt
 have h := (bits_nat .i64 16 (by decide) (fun n h0 h1 => by rw [IntKind.wrap_i64]; omega) (x.toNat * 256) y.toNat (by omega) (by omega)).2
 have e : x.toNat * 256 ||| y.toNat = x.toNat * 256 + y.toNat := by
  have := Nat.shiftLeft_add_eq_or_of_lt (i := 8) (b := y.toNat) (by omega) x.toNat
  rw [Nat.shiftLeft_eq] at this
  exact this.symm
 rw [e] at h
 rw [show ((x.toNat : Int) * 256) = ((x.toNat * 256 : Nat) : Int) from (Int.natCast_mul x.toNat 256).symm]
 exact h
theorem short_calls (w : World) (g : Nat) (A : Option Addr) (l : List UInt8) (c p at_ : Nat) (k0 : w.cell? ⟨g, 0, none⟩ = some (.slice A l.length c)) (k1 : w.cell? ⟨g, 1, none⟩ = some (.int .i64 (p : Int))) (hb : byte.C w A l.length l) (hp : p + at_ + 1 < l.length) (hn : l.length ≤ 140737488355328) :
  Calls Tryd.prog 111 #[.pointer (some ⟨g, 0, none⟩), .int .i64 (at_ : Int)] w fun e w' => e = .returned (.int .i64 (((l.getD (p + at_) 0).toNat * 256 + (l.getD (p + at_ + 1) 0).toNat : Nat) : Int)) ∧ Drawn0 w w' := by
 obtain ⟨ad, rfl, h0⟩ := byte_at hb (p + at_) (by omega)
 obtain ⟨_, e, h1⟩ := byte_at hb (p + at_ + 1) hp
 cases e
 have ho := or_bytes (l.getD (p + at_) 0) (l.getD (p + at_ + 1) 0)
 have hx : (l.getD (p + at_) 0).toNat < 256 := (l.getD (p + at_) 0).toNat_lt
 have hy : (l.getD (p + at_ + 1) 0).toNat < 256 := (l.getD (p + at_ + 1) 0).toNat_lt
 have e1 : (p : Int) + (at_ : Int) = ((p + at_ : Nat) : Int) := by omega
 have e2 : ((p + at_ : Nat) : Int) + 1 = ((p + at_ + 1 : Nat) : Int) := by omega
 generalize (l.getD (p + at_) 0).toNat * 256 + (l.getD (p + at_ + 1) 0).toNat = r at *
 generalize (l.getD (p + at_) 0).toNat = x at *
 generalize (l.getD (p + at_ + 1) 0).toNat = y at *
 generalize hq1 : p + at_ + 1 = q1 at *
 generalize hq : p + at_ = q at *
 go_enter Tryd.func111, Tryd.ntmps111
 go_wp2
 go_quiet (fail)
 go_wp2
 go_ret
 exact ⟨rfl, drawn2 ⟨_, rfl⟩⟩
structure LS (w : World) (g : Nat) (A : Option Addr) (n c p : Nat) (v : Value) : Prop where mk :: (out : w.heap[g]? = some (.cells #[.slice A n c, .int .i64 (p : Int), v] 157 (0, 0)))
def skipT0 : Bool × List (List Nat × List Nat) := (true, [([], []), ([0], [0]), ([1], [1]), ([2], [2]), ([], []), ([], []), ([5], [5]), ([4, 6], [4, 6]), ([3, 7], [3, 7]), ([0, 0, 1, 2, 3, 4, 5, 6, 7, 8], [0]), ([9, 0, 1, 2, 3, 4, 5, 6, 7, 8], [9]), ([10, 8, 6, 0, 1, 2, 3, 4, 5, 6, 7, 8], [8, 10])])
def skipB0 : List Nat := [0, 1, 3, 7, 0, 0, 32, 112, 255, 511, 1023, 2047]
theorem skiptab0 : Go.Proofs.YtdlamomabonkjaaDoorW.PrintLast.rtab .any (Go.Proofs.YtdlamomabonkjaaDoorW.PrintLast.opsOf Tryd.f112 0) = skipT0 := by kernel_rfl
theorem skipbits0 : Go.Proofs.YtdlamomabonkjaaDoorW.PrintLast.waitsOk skipT0.2 skipB0 = true := by kernel_rfl
theorem drawn_below {w w' : World} (h : Drawn0 w w') : Below w.heap.size w w' := by
 obtain ⟨n, rfl⟩ := h
 exact pw_below_drewN (Below.refl _ _) n
theorem drawn_trans {a b c : World} (h : Drawn0 a b) (k : Drawn0 b c) : Drawn0 a c := by
 obtain ⟨n, rfl⟩ := h
 obtain ⟨m, rfl⟩ := k
 exact ⟨n + m, by rw [World.drewN_drewN]⟩
theorem drawn_frozen {w w' : World} {a : Addr} (h : Drawn0 w w') (k : w.frozen? a = false) : w'.frozen? a = false := by
 obtain ⟨n, rfl⟩ := h
 exact k
set_option maxHeartbeats 1000000 in
theorem skip_calls (w : World) (g : Nat) (A : Option Addr) (n c p m : Nat) (v : Value) (hs : LS w g A n c p v) (hp : p ≤ n) (hn : n ≤ 140737488355328) (hm : m ≤ 140737488355328) :
  Calls Tryd.prog 112 #[.pointer (some ⟨g, 0, none⟩), .int .i64 (m : Int)] w fun e w' => e = .returned (.tuple #[]) ∧ LS w' g A n c (p + min m (n - p)) v ∧ Only (· = g) w w' := by
 have k0 := Lh (show w.cell? ⟨g, 0, none⟩ = some (.slice A n c) from blk_cell hs.out 0)
 have k1 := Lh (show w.cell? ⟨g, 1, none⟩ = some (.int .i64 (p : Int)) from blk_cell hs.out 1)
 have f1 := Lh (blk_frozen hs.out 1)
 obtain ⟨d, hd⟩ : ∃ d, Hid (n - p = d) := ⟨_, rfl⟩
 obtain ⟨mn, hmn⟩ : ∃ mn, Hid (min m d = mn) := ⟨_, rfl⟩
 obtain ⟨q, hqq⟩ : ∃ q, Hid (p + mn = q) := ⟨_, rfl⟩
 have hmin : Hid ((if d < m then (d : Int) else (m : Int)) = (mn : Int)) := by
  show _ = _
  have := hmn.out
  split <;> omega
 have hq : Hid ((p : Int) + (mn : Int) = (q : Int)) := by show _ = _; have := hqq.out; omega
 have hql : q ≤ 140737488355328 := by have := hqq.out; have := hmn.out; have := hd.out; omega
 have hwr : Hid (wrap64 (q : Int) = (q : Int)) := by show _ = _; unfold wrap64; omega
 have hdl : d ≤ 140737488355328 := by have := hd.out; omega
 have hmnl : mn ≤ 140737488355328 := by have := hmn.out; omega
 have HLF := Lh (fun (W : World) (h0 : W.cell? ⟨g, 0, none⟩ = some (.slice A n c)) (h1 : W.cell? ⟨g, 1, none⟩ = some (.int .i64 (p : Int))) => left_calls W g A n c p h0 h1 hp hn)
 rw [hd.out] at HLF
 rw [hd.out, hmn.out, hqq.out]
 go_enter Tryd.func112, Tryd.ntmps112
 go_wp2
 have B := True.intro
 refine start_ (n := 12) (S := fun w' => True) (ds := []) #[false, false, false, false, false, false, false, false, false, false, false, false] (by kernel_rfl) rfl rfl trivial (fun hHeld => ?_)
 refine with_tabW skiptab0 skipbits0 (fun HT_ HW_ => ?_)
 refine pu 0 4 ?_ rfl rfl (any_of HT_.out (by kernel_rfl)) (fun _ _ _ h => h) (by rfl) ?_ ?_ ?_ ?_
 rotate_left
 ·intro w'
  go_simp
  with_reducible rfl
 rotate_left
 ·simp only [sL]
  rfl
 refine pu 4 8 ?_ rfl rfl (any_of HT_.out (by kernel_rfl)) (fun _ _ _ h => h) (by rfl) ?_ ?_ ?_ ?_
 rotate_left
 ·intro w'
  go_simp
  with_reducible rfl
 rotate_left
 ·simp only [sL]
  rfl
 refine pu 5 9 ?_ rfl rfl (any_of HT_.out (by kernel_rfl)) (fun _ _ _ h => h) (by rfl) ?_ ?_ ?_ ?_
 rotate_left
 ·intro w'
  go_simp
  with_reducible rfl
 rotate_left
 ·simp only [sL]
  rfl
 refine inv_at [1, 2, 3, 6, 7, 8, 9, 10, 11] (fun a0_ b a w' => a = putSel a0_ b [(1, 5, .pointer (some ⟨g, 0, none⟩)), (2, 6, .pointer (some ⟨g, 1, none⟩)), (3, 7, .int .i64 (p : Int)), (6, 10, .int .i64 (d : Int)), (7, 11, .int .i64 (mn : Int)), (8, 12, .int .i64 (q : Int)), (9, 13, .pointer (some ⟨g, 0, none⟩)), (10, 14, .pointer (some ⟨g, 1, none⟩))] ∧ (b 11 = false → Drawn0 w w') ∧ (b 11 = true → ∃ w2, Drawn0 w w2 ∧ w' = w2.setCell ⟨g, 1, none⟩ (.int .i64 (q : Int)))) HT_.out HW_.out (by kernel_rfl) (by kernel_rfl) ?_ ?_ ?_
 ·exact ⟨by simp only [putSel, Bool.false_eq_true, if_false], fun _ => ⟨1, rfl⟩, fun h_ => absurd h_ (by decide)⟩
 ·skip
  clear B
  refine sc rfl ?_ ?_
  ·rintro b a w' ⟨ha, Q_B, Q_S⟩ hb_ hon hoff K hK
   have e4 : a.tmps[4]? = some (.pointer (some ⟨g, 0, none⟩)) := by rw [ha]; exact (putSel_off rfl).trans rfl
   replace ha := Am ha
   refine value_ (w1 := w') (v := .pointer (some ⟨g, 0, none⟩)) (by rfl) rfl ?_ ?_
   ·go_simp
    (try simp only [i64_w])
    try rfl
   refine hK.out _ _ ⟨(puk ha 0 hb_ rfl rfl rfl), Q_B, fun h0_ => hof (hoff 11 (by kernel_rfl)) h0_⟩
  refine sc rfl ?_ ?_
  ·rintro b a w' ⟨ha, Q_B, Q_S⟩ hb_ hon hoff K hK
   have e5 := psn ha 0 rfl rfl (hon 1 (by kernel_rfl)) rfl
   replace ha := Am ha
   refine value_ (w1 := w') (v := .pointer (some ⟨g, 1, none⟩)) (by rfl) rfl ?_ ?_
   ·go_simp
    (try simp only [i64_w])
    try rfl
   refine hK.out _ _ ⟨(puk ha 1 hb_ rfl rfl rfl), Q_B, fun h0_ => hof (hoff 11 (by kernel_rfl)) h0_⟩
  refine sc rfl ?_ ?_
  ·rintro b a w' ⟨ha, Q_B, Q_S⟩ hb_ hon hoff K hK
   have e6 := psn ha 1 rfl rfl (hon 2 (by kernel_rfl)) rfl
   replace ha := Am ha
   have B := Am (Q_B (hoff 11 (by kernel_rfl)))
   have hs := pw_cell_below (drawn_below B.out) k1.out
   refine value_ (w1 := w') (v := .int .i64 (p : Int)) (by rfl) rfl ?_ ?_
   ·go_simp
    (try simp only [i64_w])
    try rfl
   refine hK.out _ _ ⟨(puk ha 2 hb_ rfl rfl rfl), Q_B, fun h0_ => hof (hoff 11 (by kernel_rfl)) h0_⟩
  refine sc rfl ?_ ?_
  ·rintro b a w' ⟨ha, Q_B, Q_S⟩ hb_ hon hoff K hK
   have e9 : a.tmps[9]? = some (.pointer (some ⟨g, 0, none⟩)) := by rw [ha]; exact (putSel_off rfl).trans rfl
   replace ha := Am ha
   have B := Am (Q_B (hoff 11 (by kernel_rfl)))
   refine goes_ Tryd.func108 (by kernel_rfl) rfl #[.pointer (some ⟨g, 0, none⟩)] (by rfl) rfl rfl (by first | (simp only [List.map_toArray, List.map_cons, List.map_nil, Act.eval, Array.getD_eq_getD_getElem?, Option.getD_some, e9]; done) | (simp only [List.map_toArray, List.map_cons, List.map_nil, Act.eval, Array.getD_eq_getD_getElem?, Option.getD_some, e9]; rfl)) ?_
   refine (HLF.out w' (pw_cell_below (drawn_below B.out) k0.out) (pw_cell_below (drawn_below B.out) k1.out)).mono ?_
   rintro e w1 ⟨rfl, hD1⟩
   refine ⟨_, rfl, ?_⟩
   refine hK.out _ _ ⟨(puk ha 3 hb_ rfl rfl rfl), fun _ => drawn_trans B.out hD1, fun h0_ => hof (hoff 11 (by kernel_rfl)) h0_⟩
  refine sc rfl ?_ ?_
  ·rintro b a w' ⟨ha, Q_B, Q_S⟩ hb_ hon hoff K hK
   have e8 : a.tmps[8]? = some (.int .i64 (m : Int)) := by rw [ha]; exact (putSel_off rfl).trans rfl
   have e10 := psn ha 3 rfl rfl (hon 6 (by kernel_rfl)) rfl
   replace ha := Am ha
   have hm2 := hmin.out
   refine value_ (w1 := w') (v := .int .i64 (mn : Int)) (by rfl) rfl ?_ ?_
   ·go_simp
    (try simp only [i64_w])
    try rfl
   refine hK.out _ _ ⟨(puk ha 4 hb_ rfl rfl rfl), Q_B, fun h0_ => hof (hoff 11 (by kernel_rfl)) h0_⟩
  refine sc rfl ?_ ?_
  ·rintro b a w' ⟨ha, Q_B, Q_S⟩ hb_ hon hoff K hK
   have e7 := psn ha 2 rfl rfl (hon 3 (by kernel_rfl)) rfl
   have e11 := psn ha 4 rfl rfl (hon 7 (by kernel_rfl)) rfl
   replace ha := Am ha
   have B := Am (Q_B (hoff 11 (by kernel_rfl)))
   have hq2 := hq.out
   refine value_ (w1 := w') (v := .int .i64 (q : Int)) (by rfl) rfl (by go_simp; (try simp only [i64_w]); exact hwr.out) ?_
   refine hK.out _ _ ⟨(puk ha 5 hb_ rfl rfl rfl), fun _ => B.out, fun h0_ => hof (hoff 11 (by kernel_rfl)) h0_⟩
  refine sc rfl ?_ ?_
  ·rintro b a w' ⟨ha, Q_B, Q_S⟩ hb_ hon hoff K hK
   have e4 : a.tmps[4]? = some (.pointer (some ⟨g, 0, none⟩)) := by rw [ha]; exact (putSel_off rfl).trans rfl
   replace ha := Am ha
   refine value_ (w1 := w') (v := .pointer (some ⟨g, 0, none⟩)) (by rfl) rfl ?_ ?_
   ·go_simp
    (try simp only [i64_w])
    try rfl
   refine hK.out _ _ ⟨(puk ha 6 hb_ rfl rfl rfl), Q_B, fun h0_ => hof (hoff 11 (by kernel_rfl)) h0_⟩
  refine sc rfl ?_ ?_
  ·rintro b a w' ⟨ha, Q_B, Q_S⟩ hb_ hon hoff K hK
   have e13 := psn ha 6 rfl rfl (hon 9 (by kernel_rfl)) rfl
   replace ha := Am ha
   refine value_ (w1 := w') (v := .pointer (some ⟨g, 1, none⟩)) (by rfl) rfl ?_ ?_
   ·go_simp
    (try simp only [i64_w])
    try rfl
   refine hK.out _ _ ⟨(puk ha 7 hb_ rfl rfl rfl), Q_B, fun h0_ => hof (hoff 11 (by kernel_rfl)) h0_⟩
  refine sc rfl ?_ ?_
  ·rintro b a w' ⟨ha, Q_B, Q_S⟩ hb_ hon hoff K hK
   have e14 := psn ha 7 rfl rfl (hon 10 (by kernel_rfl)) rfl
   have e12 := psn ha 5 rfl rfl (hon 8 (by kernel_rfl)) rfl
   replace ha := Am ha
   have B := Am (Q_B hb_)
   have hf : w'.frozen? ⟨g, 1, none⟩ = false := drawn_frozen B.out f1.out
   have hs := pw_cell_below (drawn_below B.out) k1.out
   refine skip_ (w1 := w'.setCell ⟨g, 1, none⟩ (.int .i64 (q : Int))) (by rfl) rfl (by go_simp; try rfl) ?_
   refine hK.out _ _ ⟨(by rw [ha.out]; exact putSel_none (v := undef) rfl), fun h0_ => absurd ((up_self b 11).symm.trans h0_) (by decide), fun _ => ⟨w', B.out, rfl⟩⟩
  exact steps_nil
 rintro b a w' hall ⟨ha, Q_B, Q_S⟩
 clear B
 have hb1_ := hall 1 (by kernel_rfl)
 have hb2_ := hall 2 (by kernel_rfl)
 have hb3_ := hall 3 (by kernel_rfl)
 have hb6_ := hall 6 (by kernel_rfl)
 have hb7_ := hall 7 (by kernel_rfl)
 have hb8_ := hall 8 (by kernel_rfl)
 have hb9_ := hall 9 (by kernel_rfl)
 have hb10_ := hall 10 (by kernel_rfl)
 have hb11_ := hall 11 (by kernel_rfl)
 subst ha
 simp only [putSel, hb1_, hb2_, hb3_, hb6_, hb7_, hb8_, hb9_, hb10_, hb11_, if_true, Act.put, List.setIfInBounds_toArray, List.set_cons_zero, List.set_cons_succ]
 clear Q_B
 have S := Am (Q_S hb11_)
 clear Q_S
 clear hall hb1_ hb2_ hb3_ hb6_ hb7_ hb8_ hb9_ hb10_ hb11_
 go_wp2
 go_end0
 obtain ⟨w2, ⟨nn, rfl⟩, hw2⟩ := S.out
 subst hw2
 exact ⟨rfl, ⟨by have := blk_set (w := w.drewN nn) hs.out 1 (.int .i64 (q : Int)); exact this⟩, ((Only.refl (· = g) w).drewN nn).setCell (p := ⟨g, 1, none⟩) (fun _ => rfl) _⟩
end Go.Proofs.YtdlamomabonkjaaDoor.ParDec
end
section
namespace Go.Proofs.YtdlamomabonkjaaDoor.Base
open Go.RowKit YtdlamomabonkjaaDoorW.PrintWords
theorem clone_calls (A : Option Addr) (c : Nat) (l : List UInt8) (w : World) (hb : byte.C w A l.length l) (hm : l.length ≤ 140737488355328) :
  Calls Tryd.prog 55 #[.slice A l.length c] w (RetR byte 5 l w) := by
 cases A with
 | none =>
  have hl : l = [] := by
   rcases Nat.eq_zero_or_pos l.length with h | h
   ·exact List.eq_nil_of_length_eq_zero h
   ·obtain ⟨ad, e, _⟩ := hb.2.2 h
    cases e
  subst hl
  have he := fun (W : World) => Lib.run_eql_slice_nil (P := Tryd.prog) W 27 5 none 0 c 0 0 Tryd.underlying27
  go_enter Tryd.func55, Tryd.ntmps55
  go_wp2
  go_ret
  exact ⟨_, rfl, Kd.R_nil _ _ _ _ _, Below.refl _ _⟩
 | some ad =>
  have he := fun (W : World) => Lib.run_eql_slice_nil (P := Tryd.prog) W 27 5 (some ad) l.length c 0 0 Tryd.underlying27
  have hO : byte.R 5 (w.alloc (.cells #[] 5)) w.heap.size (fun _ => True) (.slice (some ⟨w.heap.size, 0, none⟩) 0 0) [] := Kd.R_of_own (own_lit_of (enc := fun b : UInt8 => Value.int .u8 (b.toNat : Int)) w w.heap.size 5 [] (Nat.le_refl _) (by simp)) (fun _ _ => trivial)
  have HO := Lh hO
  clear hO
  go_enter Tryd.func55, Tryd.ntmps55
  go_wp2_with (at_builtin; go_must (refine Kd.R_append_row (fun b : UInt8 => .int .u8 (b.toNat : Int)) (0 : UInt8) (w0 := w) w.heap.size rfl _ _ 27 5 _ 1 rfl Tryd.underlying27 info_u8 rfl (by decide) _ [] l (some ad) l.length c (fun _ => True) rfl rfl (fun _ _ => trivial) HO.out (Kd.C_alloc hb _) ((Below.refl _ _).alloc (Nat.le_refl _) _) (by simp) (by simpa using hm) ?_); intro v1 w1 hR1 hB1 _ _; clear hb he)
  go_ret
  exact ⟨_, rfl, hR1, hB1⟩
end Go.Proofs.YtdlamomabonkjaaDoor.Base
end
section
namespace Go.Proofs.YtdlamomabonkjaaDoor.ParDec
open Go.RowKit YtdlamomabonkjaaDoorW.PrintWords PCh ParCauses Base
def nI (l : List UInt8) (p : Nat) : Nat := (l.getD p 0).toNat * 256 + (l.getD (p + 1) 0).toNat
def stepD (l : List UInt8) (p m : Nat) : Except Int (S72 × Nat) :=
 if m = 256 then .error 3
 else if l.length - p < 4 then .error 50
 else if nI l (p + 2) < 4 ∨ l.length - p < nI l (p + 2) then .error 50
 else .ok (⟨(nI l p : Int), ((l.drop (p + 4)).take (nI l (p + 2) - 4)).map fun b => (b.toNat : Int)⟩, p + min ((nI l (p + 2) + 3) / 4 * 4) (l.length - p))
def faultV (p : Nat) (code : Int) : Value := .iface 151 (.agg #[.int .i64 (p : Int), .int .i64 code])
theorem next_fault (w : World) (base g : Nat) (A : Option Addr) (l : List UInt8) (c p : Nat) (v : Value) (ps : List S72) (hs : LS w g A l.length c p v) (hR : Kd.R k72 72 w base (fun k => k ≠ g) v ps) (hb : byte.C w A l.length l) (hp : p < l.length) (hn : l.length ≤ 140737488355328) (hl : ps.length ≤ 256) (hg : base ≤ g) (hgw : base ≤ w.heap.size) (code : Int) (he : stepD l p ps.length = .error code) :
  Calls Tryd.prog 109 #[.pointer (some ⟨g, 0, none⟩)] w fun e w' => e = .panicked [{ v := faultV p code, recovered := false }] ∧ Drawn0 w w' := by
 have k0 : w.cell? ⟨g, 0, none⟩ = some (.slice A l.length c) := blk_cell hs.out 0
 have k1 : w.cell? ⟨g, 1, none⟩ = some (.int .i64 (p : Int)) := blk_cell hs.out 1
 have k2 : w.cell? ⟨g, 2, none⟩ = some v := blk_cell hs.out 2
 obtain ⟨Av, cv, rfl⟩ := Kd.R_slice hR
 unfold stepD at he
 by_cases h1 : ps.length = 256
 ·rw [if_pos h1] at he
  injection he with he
  subst he
  have h1' : (ps.length : Int) = 256 := by omega
  go_enter Tryd.func109, Tryd.ntmps109
  go_wp2_with fail
  refine (fail_calls _ g p 3 k1).mono ?_
  rintro e w' ⟨rfl, rfl⟩
  exact ⟨rfl, rfl, Drawn0.refl _⟩
 ·rw [if_neg h1] at he
  have h1' : ¬ (ps.length : Int) = 256 := by omega
  by_cases h2 : l.length - p < 4
  ·rw [if_pos h2] at he
   injection he with he
   subst he
   have hlf := left_calls w g A l.length c p k0 k1 (by omega) hn
   have h2' : ((l.length - p : Nat) : Int) < 4 := by omega
   generalize l.length - p = d at *
   go_enter Tryd.func109, Tryd.ntmps109
   go_wp2_with fail
   refine hlf.mono ?_
   rintro e w' ⟨rfl, ⟨m, rfl⟩⟩
   go_wp2_with fail
   refine (fail_calls (w.drewN m) g p 50 k1).mono ?_
   rintro e w' ⟨rfl, rfl⟩
   exact ⟨rfl, rfl, drawn2 ⟨_, rfl⟩⟩
  ·rw [if_neg h2] at he
   have hlf := fun q : Nat => left_calls (w.drewN q) g A l.length c p k0 k1 (by omega) hn
   have hsh := fun q : Nat => short_calls (w.drewN q) g A l c p 2 k0 k1 (Kd.C_drewN hb q) (by omega) hn
   have h2' : ¬ ((l.length - p : Nat) : Int) < 4 := by omega
   have hd : l.length - p ≤ 140737488355328 := by omega
   have hsn : (l.getD (p + 2) 0).toNat * 256 + (l.getD (p + 2 + 1) 0).toNat = nI l (p + 2) := rfl
   rw [hsn] at hsh
   generalize l.length - p = d at *
   by_cases h3 : nI l (p + 2) < 4
   ·rw [if_pos (Or.inl h3)] at he
    injection he with he
    subst he
    have h3' : ((nI l (p + 2) : Nat) : Int) < 4 := by omega
    generalize nI l (p + 2) = x at *
    go_enter Tryd.func109, Tryd.ntmps109
    go_wp2_with fail
    refine (hlf 0).mono ?_
    rintro e w' ⟨rfl, ⟨m, rfl⟩⟩
    rw [World.drewN_drewN]
    go_wp2_with fail
    refine (hsh _).mono ?_
    rintro e w' ⟨rfl, ⟨m2, rfl⟩⟩
    rw [World.drewN_drewN]
    go_wp2_with fail
    refine (fail_calls (w.drewN _) g p 50 k1).mono ?_
    rintro e w' ⟨rfl, rfl⟩
    exact ⟨rfl, rfl, drawn2 ⟨_, rfl⟩⟩
   ·have h4 : d < nI l (p + 2) := by
     refine Classical.byContradiction fun h5 => ?_
     rw [if_neg (by omega)] at he
     cases he
    rw [if_pos (Or.inr h4)] at he
    injection he with he
    subst he
    have h3' : ¬ ((nI l (p + 2) : Nat) : Int) < 4 := by omega
    have h4' : (d : Int) < ((nI l (p + 2) : Nat) : Int) := by omega
    generalize nI l (p + 2) = x at *
    go_enter Tryd.func109, Tryd.ntmps109
    go_wp2_with fail
    refine (hlf 0).mono ?_
    rintro e w' ⟨rfl, ⟨m, rfl⟩⟩
    rw [World.drewN_drewN]
    go_wp2_with fail
    refine (hsh _).mono ?_
    rintro e w' ⟨rfl, ⟨m2, rfl⟩⟩
    rw [World.drewN_drewN]
    go_wp2_with fail
    refine (hlf _).mono ?_
    rintro e w' ⟨rfl, ⟨m3, rfl⟩⟩
    rw [World.drewN_drewN]
    go_wp2_with fail
    refine (fail_calls (w.drewN _) g p 50 k1).mono ?_
    rintro e w' ⟨rfl, rfl⟩
    exact ⟨rfl, rfl, drawn2 ⟨_, rfl⟩⟩
end Go.Proofs.YtdlamomabonkjaaDoor.ParDec
end
section
namespace Go.Proofs.YtdlamomabonkjaaDoor.ParDec
open Go.RowKit YtdlamomabonkjaaDoorW.PrintWords YtdlamomabonkjaaDoorW.PrintLast PCh ParCauses Base
def nextT7 : Bool × List (List Nat × List Nat) := (true, [([], []), ([], []), ([1], [1]), ([2], [2]), ([3], [3]), ([], []), ([5], [5]), ([6], [6]), ([7], [7]), ([8], [8]), ([], []), ([10], [10]), ([11], [11]), ([12], [12]), ([13], [13]), ([], []), ([15], [15]), ([16], [16]), ([17], [17]), ([18], [18]), ([19], [19]), ([], []), ([21], [21]), ([22], [22]), ([23], [23]), ([24], [24]), ([], []), ([25, 26], [25, 26]), ([14, 20, 27], [14, 20, 27]), ([28, 8], [28]), ([9, 29], [9, 29]), ([30], [30]), ([4, 31, 29], [4, 31]), ([0, 0, 1, 2, 3, 4, 5, 6, 7, 8, 9, 10, 11, 12, 13, 14, 15, 16, 17, 18, 19, 20, 21, 22, 23, 24, 25, 26, 27, 28, 29, 30, 31, 32], [0]), ([33, 0, 1, 2, 3, 4, 5, 6, 7, 8, 9, 10, 11, 12, 13, 14, 15, 16, 17, 18, 19, 20, 21, 22, 23, 24, 25, 26, 27, 28, 29, 30, 31, 32], [33]), ([34, 32, 32, 0, 1, 2, 3, 4, 5, 6, 7, 8, 9, 10, 11, 12, 13, 14, 15, 16, 17, 18, 19, 20, 21, 22, 23, 24, 25, 26, 27, 28, 29, 30, 31, 32], [32, 34])])
def nextB7 : List Nat := [0, 0, 2, 6, 14, 0, 32, 96, 224, 480, 0, 1024, 3072, 7168, 15360, 0, 32768, 98304, 229376, 491520, 1015808, 0, 2097152, 6291456, 14680064, 31457280, 0, 132120576, 268434432, 536870368, 1073741792, 2147483616, 4294967294, 8589934591, 17179869183, 34359738367]
theorem nexttab7 : Go.Proofs.YtdlamomabonkjaaDoorW.PrintLast.rtab .any (Go.Proofs.YtdlamomabonkjaaDoorW.PrintLast.opsOf Tryd.f109 7) = nextT7 := by kernel_rfl
theorem nextbits7 : Go.Proofs.YtdlamomabonkjaaDoorW.PrintLast.waitsOk nextT7.2 nextB7 = true := by kernel_rfl
theorem mid_bytes {w : World} {A : Option Addr} {c : Nat} {l : List UInt8} (hb : byte.C w A l.length l) (hc : l.length ≤ c) (lo hi : Nat) (h1 : lo ≤ hi) (h2 : hi ≤ l.length) :
  ∃ A', (∀ W : World, (Instr.slice 27 (.slice A l.length c) (some (.int .i64 (lo : Int))) (some (.int .i64 (hi : Int))) none).run Tryd.prog W = .ok (.slice A' ((l.take hi).drop lo).length (c - lo)) W) ∧ byte.C w A' ((l.take hi).drop lo).length ((l.take hi).drop lo) ∧ ((l.take hi).drop lo).length ≤ c - lo := by
 obtain ⟨i, hi', e1, e2, e3⟩ := info_parts info_u8
 have hl : ((l.take hi).drop lo).length = hi - lo := by rw [List.length_drop, List.length_take]; omega
 refine ⟨_, fun W => ?_, Kd.C_mid hb h1 h2 hc, by omega⟩
 have := cut_mid (P := Tryd.prog) 27 5 .i64 .i64 Tryd.underlying27 hi' 1 e2 A l.length c (lo : Int) (hi : Int) (by omega) (by omega) (by omega) hc W
 rw [this, hl]
 rfl
theorem andnot3 (a : Nat) (h : a ≤ 1000000) : bits .andNot .i64 (a : Int) 3 = ((a / 4 * 4 : Nat) : Int) := by
 have e1 : bits .andNot .i64 (a : Int) 3 = IntKind.i64.wrap ((BitVec.ofNat 64 a &&& ~~~(3 : BitVec 64)).toNat : Nat) := rfl
 have e2 : (BitVec.ofNat 64 a &&& ~~~(3 : BitVec 64)).toNat = a / 4 * 4 := by
  have e3 : (BitVec.ofNat 64 a &&& ~~~(3 : BitVec 64)) = (BitVec.ofNat 64 a >>> 2) <<< 2 := by
   apply BitVec.eq_of_getLsbD_eq
   intro i hi
   simp only [BitVec.getLsbD_and, BitVec.getLsbD_not, BitVec.getLsbD_shiftLeft, BitVec.getLsbD_ushiftRight]
   by_cases h0 : i = 0
   ·subst h0; simp
   ·by_cases h1 : i = 1
    ·subst h1; simp
    ·have h2 : (3#64).getLsbD i = false := by
      rw [BitVec.getLsbD_ofNat]
      have : Nat.testBit 3 i = false := Nat.testBit_lt_two_pow (by have : 2 ^ 2 ≤ 2 ^ i := Nat.pow_le_pow_right (by decide) (by omega); omega)
      simp [this]
     have h3 : (3#64)[i] = false := by rw [← BitVec.getLsbD_eq_getElem hi]; exact h2
     simp [h3, show ¬ i < 2 by omega, show 2 + (i - 2) = i by omega, hi]
  rw [e3, BitVec.toNat_shiftLeft, BitVec.toNat_ushiftRight, BitVec.toNat_ofNat, Nat.shiftLeft_eq, Nat.shiftRight_eq_div_pow]
  omega
 rw [e1, e2, IntKind.wrap_i64]
 omega
theorem int_of_byte {w : World} {base e : Nat} {ok : Nat → Prop} {v : Value} {l : List UInt8} (h : byte.R e w base ok v l) : (Kd.int .u8).R e w base ok v (l.map fun b => (b.toNat : Int)) := by
 have h1 := Kd.own_of_R h
 refine Kd.R_of_own ?_ h.1
 have e1 : encs (Value.int .u8) (l.map fun b : UInt8 => (b.toNat : Int)) = encs (fun b : UInt8 => Value.int .u8 (b.toNat : Int)) l := by
  simp [encs]
 rw [e1, List.length_map]
 exact h1
set_option maxHeartbeats 4000000 in
theorem next_ok (wB w : World) (base g : Nat) (A : Option Addr) (l : List UInt8) (c p : Nat) (v : Value) (ps : List S72) (hs : LS w g A l.length c p v) (hR : Kd.R k72 72 w base (fun k => k ≠ g) v ps) (hb : byte.C w A l.length l) (hc : l.length ≤ c) (hp : p < l.length) (hn : l.length ≤ 140737488355328) (hl : ps.length ≤ 256) (hgb : base ≤ g) (hB : Below base wB w) (hbw : base ≤ wB.heap.size) (q : S72) (p' : Nat) (he : stepD l p ps.length = .ok (q, p')) :
  Calls Tryd.prog 109 #[.pointer (some ⟨g, 0, none⟩)] w fun e w' => e = .returned (.tuple #[]) ∧ ∃ v', LS w' g A l.length c p' v' ∧ Kd.R k72 72 w' base (fun k => k ≠ g) v' (ps ++ [q]) ∧ Below base wB w' := by
 have k0 := Lh (show w.cell? ⟨g, 0, none⟩ = some (.slice A l.length c) from blk_cell hs.out 0)
 have k1 := Lh (show w.cell? ⟨g, 1, none⟩ = some (.int .i64 (p : Int)) from blk_cell hs.out 1)
 unfold stepD at he
 by_cases h1 : ps.length = 256
 ·rw [if_pos h1] at he; cases he
 rw [if_neg h1] at he
 by_cases h2 : l.length - p < 4
 ·rw [if_pos h2] at he; cases he
 rw [if_neg h2] at he
 by_cases h3 : nI l (p + 2) < 4 ∨ l.length - p < nI l (p + 2)
 ·rw [if_pos h3] at he; cases he
 rw [if_neg h3] at he
 injection he with he
 have hq : q = ⟨(nI l p : Int), ((l.drop (p + 4)).take (nI l (p + 2) - 4)).map fun b => (b.toNat : Int)⟩ := (congrArg Prod.fst he).symm
 have hp' : p' = p + min ((nI l (p + 2) + 3) / 4 * 4) (l.length - p) := (congrArg Prod.snd he).symm
 clear he
 have hx3 : ¬ nI l (p + 2) < 4 := fun h => h3 (Or.inl h)
 have hx4 : ¬ l.length - p < nI l (p + 2) := fun h => h3 (Or.inr h)
 have hbb : ∀ b : UInt8, b.toNat < 256 := fun b => b.toNat_lt
 have ht65 : nI l p ≤ 65535 := by unfold nI; have := hbb (l.getD p 0); have := hbb (l.getD (p + 1) 0); omega
 have hx65 : nI l (p + 2) ≤ 65535 := by unfold nI; have := hbb (l.getD (p + 2) 0); have := hbb (l.getD (p + 2 + 1) 0); omega
 have hlf := fun q : Nat => left_calls (w.drewN q) g A l.length c p k0.out k1.out (by omega) hn
 have hsh := fun q : Nat => short_calls (w.drewN q) g A l c p 2 k0.out k1.out (Kd.C_drewN hb q) (by omega) hn
 have HSH := Lh (fun (W : World) (h0 : W.cell? ⟨g, 0, none⟩ = some (.slice A l.length c)) (h1 : W.cell? ⟨g, 1, none⟩ = some (.int .i64 (p : Int))) (h : byte.C W A l.length l) => short_calls W g A l c p 0 h0 h1 h (by omega) hn)
 have hsn : (l.getD (p + 2) 0).toNat * 256 + (l.getD (p + 2 + 1) 0).toNat = nI l (p + 2) := rfl
 have hs0 : (l.getD (p + 0) 0).toNat * 256 + (l.getD (p + 0 + 1) 0).toNat = nI l p := rfl
 rw [hsn] at hsh
 rw [hs0] at HSH
 have h2' : ¬ ((l.length - p : Nat) : Int) < 4 := by omega
 have h3' : ¬ ((nI l (p + 2) : Nat) : Int) < 4 := by omega
 have h4' : ¬ ((l.length - p : Nat) : Int) < ((nI l (p + 2) : Nat) : Int) := by omega
 have h1' : ¬ (ps.length : Int) = 256 := by omega
 have hdl : l.length - p ≤ 140737488355328 := by omega
 obtain ⟨Bd, hcut, hCb, hcle⟩ := mid_bytes hb hc (p + 4) (p + nI l (p + 2)) (by omega) (by omega)
 have hqb : ((l.take (p + nI l (p + 2))).drop (p + 4)) = (l.drop (p + 4)).take (nI l (p + 2) - 4) := by
  rw [List.drop_take]
  congr 1
  omega
 rw [← hqb] at hq
 have hbl : ((l.take (p + nI l (p + 2))).drop (p + 4)).length ≤ 140737488355328 := by rw [List.length_drop, List.length_take]; omega
 generalize (l.take (p + nI l (p + 2))).drop (p + 4) = bd at *
 generalize hcd : c - (p + 4) = cd at *
 have hp4 : Hid ((p : Int) + 4 = ((p + 4 : Nat) : Int)) := by show _ = _; omega
 have hpx : Hid ((p : Int) + ((nI l (p + 2) : Nat) : Int) = ((p + nI l (p + 2) : Nat) : Int)) := by show _ = _; omega
 have hpl : p + nI l (p + 2) ≤ 140737488355328 := by omega
 have hpl4 : p + 4 ≤ 140737488355328 := by omega
 have HSK := Lh (fun (W : World) (v' : Value) (h : LS W g A l.length c p v') => skip_calls W g A l.length c p ((nI l (p + 2) + 3) / 4 * 4) v' h (by omega) hn (by omega))
 have han := andnot3 (nI l (p + 2) + 3) (by omega)
 rw [show ((nI l (p + 2) + 3 : Nat) : Int) = ((nI l (p + 2) : Nat) : Int) + 3 by omega] at han
 rw [← hp'] at HSK
 generalize (nI l (p + 2) + 3) / 4 * 4 = mm at *
 generalize p + 4 = p4 at *
 generalize p + nI l (p + 2) = px at *
 generalize nI l (p + 2) = x at *
 generalize nI l p = t at *
 generalize l.length - p = d at *
 obtain ⟨Av, cv, rfl⟩ := Kd.R_slice hR
 have hng := hR.1
 have k2 := Lh (show w.cell? ⟨g, 2, none⟩ = some (.slice Av ps.length cv) from blk_cell hs.out 2)
 have HN := Lh hng
 have HQ := Lh hq
 have HCUT0 := Lh hcut
 have HLS := Lh hs
 have HR0 := Lh hR
 have HC0 := Lh hb
 have HCB0 := Lh hCb
 have HBB0 := Lh hB
 have HLF := Lh hlf
 have HS2 := Lh hsh
 have HAN := Lh han
 clear hng hq hcut hs hR hb hCb hB hlf hsh hp' hsn hs0 hqb han h3 h2 hx3 hx4 h1
 have c0 := k0.out
 have c1 := k1.out
 have c2 := k2.out
 go_enter Tryd.func109, Tryd.ntmps109
 go_wp2_with fail
 refine (HLF.out 0).mono ?_
 rintro e w1 ⟨rfl, ⟨m, rfl⟩⟩
 rw [World.drewN_drewN]
 go_wp2_with fail
 refine (HS2.out _).mono ?_
 rintro e w1 ⟨rfl, ⟨m2, rfl⟩⟩
 rw [World.drewN_drewN]
 go_wp2_with fail
 refine (HLF.out _).mono ?_
 rintro e w1 ⟨rfl, ⟨m3, rfl⟩⟩
 rw [World.drewN_drewN]
 go_upto_region 7 with (fail)
 have k0b := Lh (show (w.drewN (m + m2 + m3)).cell? ⟨g, 0, none⟩ = some (.slice A l.length c) from k0.out)
 have k1b := Lh (show (w.drewN (m + m2 + m3)).cell? ⟨g, 1, none⟩ = some (.int .i64 (p : Int)) from k1.out)
 have k2b := Lh (show (w.drewN (m + m2 + m3)).cell? ⟨g, 2, none⟩ = some (.slice Av ps.length cv) from k2.out)
 have HR := Lh (Kd.R_drewN HR0.out (m + m2 + m3))
 have HC := Lh (Kd.C_drewN HC0.out (m + m2 + m3))
 have HBD := Lh (Kd.C_drewN HCB0.out (m + m2 + m3))
 have HBB := Lh (pw_below_drewN HBB0.out (m + m2 + m3))
 have HL7 := Lh (show (w.drewN (m + m2 + m3)).heap[g]? = some (.cells #[.slice A l.length c, .int .i64 (p : Int), .slice Av ps.length cv] 157 (0, 0)) from HLS.out.out)
 clear k0 k1 k2 c0 c1 c2 HR0 HC0 HCB0 HBB0 HLS HLF HS2
 generalize w.drewN (m + m2 + m3) = wS at *
 have hgS : g < wS.heap.size := blk_lt HL7.out
 have hbS : base ≤ wS.heap.size := by have := HBB.out.size; omega
 have HGG := Lh (fun (w2 : World) (h : Below wS.heap.size wS w2) => blk_below HL7.out h)
 have HNG := Lh (fun e : (Value.slice Av ps.length cv).ownBlock = some g => HN.out g e rfl)
 have HM := Lh (fun (w2 : World) (A9 : Option Addr) (c9 : Nat) (hB : Below wS.heap.size wS w2) (h : byte.R 5 w2 wS.heap.size (fun _ => True) (.slice A9 bd.length c9) bd) =>
  show k72.M w2 base (fun k => k ≠ g ∧ some k ≠ (Value.slice Av ps.length cv).ownBlock) ⟨(t : Int), bd.map fun b => (b.toNat : Int)⟩ [.int .u16 (t : Int), .slice A9 bd.length c9] from
   k72_mkM w2 base _ _ (Kd.R_flat (fun h => h) (Kd.R_lower (int_of_byte h) hbS) (fun k hk _ => by
    have h1 := Kd.R_base h k hk
    exact ⟨by omega, fun e => by have := Kd.R_lt HR.out k e.symm; omega⟩)))
 clear HL7
 have hw43 : Hid (IntKind.u16.wrap (t : Int) = (t : Int)) := by show _ = _; rw [show IntKind.u16.wrap (t : Int) = (t : Int) % 65536 by simp [IntKind.wrap, IntKind.bits, IntKind.signed]]; omega
 have hw54 : Hid (wrap64 (p4 : Int) = (p4 : Int)) := by show _ = _; unfold wrap64; omega
 have hw61 : Hid (wrap64 (px : Int) = (px : Int)) := by show _ = _; unfold wrap64; omega
 have k0 := k0b
 have k1 := k1b
 have k2 := k2b
 have HCUT := HCUT0
 have B := True.intro
 refine start_ (n := 36) (S := fun w' => True) (ds := []) #[false, false, false, false, false, false, false, false, false, false, false, false, false, false, false, false, false, false, false, false, false, false, false, false, false, false, false, false, false, false, false, false, false, false, false, false] (by kernel_rfl) rfl rfl trivial (fun hHeld => ?_)
 refine with_tabW nexttab7 nextbits7 (fun HT_ HW_ => ?_)
 refine pu 0 34 ?_ rfl rfl (any_of HT_.out (by kernel_rfl)) (fun _ _ _ h => h) (by rfl) ?_ ?_ ?_ ?_
 rotate_left
 ·intro w'
  go_simp
  with_reducible rfl
 rotate_left
 ·simp only [sL]
  rfl
 refine pu 1 35 ?_ rfl rfl (any_of HT_.out (by kernel_rfl)) (fun _ _ _ h => h) (by rfl) ?_ ?_ ?_ ?_
 rotate_left
 ·intro w'
  go_simp
  with_reducible rfl
 rotate_left
 ·simp only [sL]
  rfl
 refine pu 5 39 ?_ rfl rfl (any_of HT_.out (by kernel_rfl)) (fun _ _ _ h => h) (by rfl) ?_ ?_ ?_ ?_
 rotate_left
 ·intro w'
  go_simp
  with_reducible rfl
 rotate_left
 ·simp only [sL]
  rfl
 refine pu 10 44 ?_ rfl rfl (any_of HT_.out (by kernel_rfl)) (fun _ _ _ h => h) (by rfl) ?_ ?_ ?_ ?_
 rotate_left
 ·intro w'
  go_simp
  with_reducible rfl
 rotate_left
 ·simp only [sL]
  rfl
 refine pu 15 49 ?_ rfl rfl (any_of HT_.out (by kernel_rfl)) (fun _ _ _ h => h) (by rfl) ?_ ?_ ?_ ?_
 rotate_left
 ·intro w'
  go_simp
  with_reducible rfl
 rotate_left
 ·simp only [sL]
  rfl
 refine pu 21 55 ?_ rfl rfl (any_of HT_.out (by kernel_rfl)) (fun _ _ _ h => h) (by rfl) ?_ ?_ ?_ ?_
 rotate_left
 ·intro w'
  go_simp
  with_reducible rfl
 rotate_left
 ·simp only [sL]
  rfl
 refine pu 26 60 ?_ rfl rfl (any_of HT_.out (by kernel_rfl)) (fun _ _ _ h => h) (by rfl) ?_ ?_ ?_ ?_
 rotate_left
 ·intro w'
  go_simp
  with_reducible rfl
 rotate_left
 ·simp only [sL]
  rfl
 refine inv_at [2, 3, 4, 6, 7, 8, 9, 11, 12, 13, 14, 16, 17, 18, 19, 20, 22, 23, 24, 25, 27, 28, 29, 30, 31, 32, 33, 34, 35] (fun a0_ b a w' => ∃ (A9 : Option Addr) (c9 : Nat) (g9 : Nat) (v9 : Value) (m29_ : Value) (m30_ : Value) (m31_ : Value), a = putSel a0_ b [(2, 36, .pointer (some ⟨g, 0, none⟩)), (3, 37, .pointer (some ⟨g, 2, none⟩)), (4, 38, .slice Av ps.length cv), (6, 40, .pointer (some ⟨g, 0, none⟩)), (7, 41, .pointer (some ⟨g, 0, none⟩)), (8, 42, .int .i64 (t : Int)), (9, 43, .int .u16 (t : Int)), (11, 45, .pointer (some ⟨g, 0, none⟩)), (12, 46, .pointer (some ⟨g, 0, none⟩)), (13, 47, .pointer (some ⟨g, 0, none⟩)), (14, 48, .slice A l.length c), (16, 50, .pointer (some ⟨g, 0, none⟩)), (17, 51, .pointer (some ⟨g, 0, none⟩)), (18, 52, .pointer (some ⟨g, 1, none⟩)), (19, 53, .int .i64 (p : Int)), (20, 54, .int .i64 (p4 : Int)), (22, 56, .pointer (some ⟨g, 0, none⟩)), (23, 57, .pointer (some ⟨g, 0, none⟩)), (24, 58, .pointer (some ⟨g, 1, none⟩)), (25, 59, .int .i64 (p : Int)), (27, 61, .int .i64 (px : Int)), (28, 62, .slice Bd bd.length cd), (29, 63, m29_), (30, 64, m30_), (31, 65, m31_), (32, 66, v9), (33, 67, .pointer (some ⟨g, 0, none⟩)), (34, 68, .pointer (some ⟨g, 2, none⟩))] ∧ (b 32 = false → Below wS.heap.size wS w') ∧ (b 29 = true → b 32 = false → byte.R 5 w' wS.heap.size (fun _ => True) (.slice A9 bd.length c9) bd) ∧ (b 31 = true → b 32 = false → ∃ w2, w' = w2.alloc (.cells #[.int .u16 (t : Int), .slice A9 bd.length c9] 72) ∧ g9 = w2.heap.size ∧ Below wS.heap.size wS w2 ∧ byte.R 5 w2 wS.heap.size (fun _ => True) (.slice A9 bd.length c9) bd) ∧ (b 32 = true → b 35 = false → Kd.R k72 72 w' base (fun k => k ≠ g) v9 (ps ++ [⟨(t : Int), bd.map fun b => (b.toNat : Int)⟩]) ∧ Below base wB w' ∧ w'.heap[g]? = some (.cells #[.slice A l.length c, .int .i64 (p : Int), .slice Av ps.length cv] 157 (0, 0))) ∧ (b 35 = true → LS w' g A l.length c p v9 ∧ Kd.R k72 72 w' base (fun k => k ≠ g) v9 (ps ++ [⟨(t : Int), bd.map fun b => (b.toNat : Int)⟩]) ∧ Below base wB w') ∧ (b 29 = true → (m29_ : Value) = .slice A9 bd.length c9) ∧ (b 30 = true → (m30_ : Value) = .agg #[.int .u16 (t : Int), .slice A9 bd.length c9]) ∧ (b 31 = true → (m31_ : Value) = .slice (some ⟨g9, 0, none⟩) 1 1)) HT_.out HW_.out (by kernel_rfl) (by kernel_rfl) ?_ ?_ ?_
 ·exact ⟨none, 0, 0, undef, .bool false, .bool false, .bool false, by simp only [putSel, Bool.false_eq_true, if_false], fun _ => below_drew (Below.refl _ _), fun h_ => absurd h_ (by decide), fun h_ => absurd h_ (by decide), fun h_ => absurd h_ (by decide), fun h_ => absurd h_ (by decide), fun h_ => absurd h_ (by decide), fun h_ => absurd h_ (by decide), fun h_ => absurd h_ (by decide)⟩
 ·skip
  clear B
  refine sc rfl ?_ ?_
  ·rintro b a w' ⟨A9, c9, g9, v9, m29_, m30_, m31_, ha, Q_B, Q_C, Q_W2, Q_S1, Q_S2, Q_X29_, Q_X30_, Q_X31_⟩ hb_ hon hoff K hK
   have e35 : a.tmps[35]? = some (.pointer (some ⟨g, 0, none⟩)) := by rw [ha]; exact (putSel_off rfl).trans rfl
   replace ha := Am ha
   refine value_ (w1 := w') (v := .pointer (some ⟨g, 0, none⟩)) (by rfl) rfl ?_ ?_
   ·go_simp
    (try simp only [i64_w])
    try rfl
   refine hK.out _ _ ⟨A9, c9, g9, v9, m29_, m30_, m31_, (puk ha 0 hb_ rfl rfl rfl), Q_B, Q_C, Q_W2, fun h0_ _ => hof (hoff 32 (by kernel_rfl)) h0_, fun h0_ => hof (hoff 35 (by kernel_rfl)) h0_, Q_X29_, Q_X30_, Q_X31_⟩
  refine sc rfl ?_ ?_
  ·rintro b a w' ⟨A9, c9, g9, v9, m29_, m30_, m31_, ha, Q_B, Q_C, Q_W2, Q_S1, Q_S2, Q_X29_, Q_X30_, Q_X31_⟩ hb_ hon hoff K hK
   have e36 := psn ha 0 rfl rfl (hon 2 (by kernel_rfl)) rfl
   replace ha := Am ha
   refine value_ (w1 := w') (v := .pointer (some ⟨g, 2, none⟩)) (by rfl) rfl ?_ ?_
   ·go_simp
    (try simp only [i64_w])
    try rfl
   refine hK.out _ _ ⟨A9, c9, g9, v9, m29_, m30_, m31_, (puk ha 1 hb_ rfl rfl rfl), Q_B, Q_C, Q_W2, fun h0_ _ => hof (hoff 32 (by kernel_rfl)) h0_, fun h0_ => hof (hoff 35 (by kernel_rfl)) h0_, Q_X29_, Q_X30_, Q_X31_⟩
  refine sc rfl ?_ ?_
  ·rintro b a w' ⟨A9, c9, g9, v9, m29_, m30_, m31_, ha, Q_B, Q_C, Q_W2, Q_S1, Q_S2, Q_X29_, Q_X30_, Q_X31_⟩ hb_ hon hoff K hK
   have e37 := psn ha 1 rfl rfl (hon 3 (by kernel_rfl)) rfl
   replace ha := Am ha
   have B := Am (Q_B (hoff 32 (by kernel_rfl)))
   have hs := pw_cell_below B.out k2.out
   refine value_ (w1 := w') (v := .slice Av ps.length cv) (by rfl) rfl ?_ ?_
   ·go_simp
    (try simp only [i64_w])
    try rfl
   refine hK.out _ _ ⟨A9, c9, g9, v9, m29_, m30_, m31_, (puk ha 2 hb_ rfl rfl rfl), Q_B, Q_C, Q_W2, fun h0_ _ => hof (hoff 32 (by kernel_rfl)) h0_, fun h0_ => hof (hoff 35 (by kernel_rfl)) h0_, Q_X29_, Q_X30_, Q_X31_⟩
  refine sc rfl ?_ ?_
  ·rintro b a w' ⟨A9, c9, g9, v9, m29_, m30_, m31_, ha, Q_B, Q_C, Q_W2, Q_S1, Q_S2, Q_X29_, Q_X30_, Q_X31_⟩ hb_ hon hoff K hK
   have e39 : a.tmps[39]? = some (.pointer (some ⟨g, 0, none⟩)) := by rw [ha]; exact (putSel_off rfl).trans rfl
   replace ha := Am ha
   refine value_ (w1 := w') (v := .pointer (some ⟨g, 0, none⟩)) (by rfl) rfl ?_ ?_
   ·go_simp
    (try simp only [i64_w])
    try rfl
   refine hK.out _ _ ⟨A9, c9, g9, v9, m29_, m30_, m31_, (puk ha 3 hb_ rfl rfl rfl), Q_B, fun h0_ _ => hof (hoff 29 (by kernel_rfl)) h0_, fun h0_ _ => hof (hoff 31 (by kernel_rfl)) h0_, fun h0_ _ => hof (hoff 32 (by kernel_rfl)) h0_, fun h0_ => hof (hoff 35 (by kernel_rfl)) h0_, fun h0_ => hof (hoff 29 (by kernel_rfl)) h0_, fun h0_ => hof (hoff 30 (by kernel_rfl)) h0_, fun h0_ => hof (hoff 31 (by kernel_rfl)) h0_⟩
  refine sc rfl ?_ ?_
  ·rintro b a w' ⟨A9, c9, g9, v9, m29_, m30_, m31_, ha, Q_B, Q_C, Q_W2, Q_S1, Q_S2, Q_X29_, Q_X30_, Q_X31_⟩ hb_ hon hoff K hK
   have e40 := psn ha 3 rfl rfl (hon 6 (by kernel_rfl)) rfl
   replace ha := Am ha
   refine value_ (w1 := w') (v := .pointer (some ⟨g, 0, none⟩)) (by rfl) rfl ?_ ?_
   ·go_simp
    (try simp only [i64_w])
    try rfl
   refine hK.out _ _ ⟨A9, c9, g9, v9, m29_, m30_, m31_, (puk ha 4 hb_ rfl rfl rfl), Q_B, fun h0_ _ => hof (hoff 29 (by kernel_rfl)) h0_, fun h0_ _ => hof (hoff 31 (by kernel_rfl)) h0_, fun h0_ _ => hof (hoff 32 (by kernel_rfl)) h0_, fun h0_ => hof (hoff 35 (by kernel_rfl)) h0_, fun h0_ => hof (hoff 29 (by kernel_rfl)) h0_, fun h0_ => hof (hoff 30 (by kernel_rfl)) h0_, fun h0_ => hof (hoff 31 (by kernel_rfl)) h0_⟩
  refine sc rfl ?_ ?_
  ·rintro b a w' ⟨A9, c9, g9, v9, m29_, m30_, m31_, ha, Q_B, Q_C, Q_W2, Q_S1, Q_S2, Q_X29_, Q_X30_, Q_X31_⟩ hb_ hon hoff K hK
   have e41 := psn ha 4 rfl rfl (hon 7 (by kernel_rfl)) rfl
   replace ha := Am ha
   have B := Am (Q_B (hoff 32 (by kernel_rfl)))
   refine goes_ Tryd.func111 (by kernel_rfl) rfl #[.pointer (some ⟨g, 0, none⟩), .int .i64 0] (by rfl) rfl rfl (by first | (simp only [List.map_toArray, List.map_cons, List.map_nil, Act.eval, Array.getD_eq_getD_getElem?, Option.getD_some, e41]; done) | (simp only [List.map_toArray, List.map_cons, List.map_nil, Act.eval, Array.getD_eq_getD_getElem?, Option.getD_some, e41]; rfl)) ?_
   refine (HSH.out w' (pw_cell_below B.out k0.out) (pw_cell_below B.out k1.out) (Kd.C_below HC.out B.out)).mono ?_
   rintro e w1 ⟨rfl, hD1⟩
   refine ⟨_, rfl, ?_⟩
   refine hK.out _ _ ⟨A9, c9, g9, v9, m29_, m30_, m31_, (puk ha 5 hb_ rfl rfl rfl), fun _ => B.out.trans ((drawn_below hD1).mono B.out.size), fun h0_ _ => hof (hoff 29 (by kernel_rfl)) h0_, fun h0_ _ => hof (hoff 31 (by kernel_rfl)) h0_, fun h0_ _ => hof (hoff 32 (by kernel_rfl)) h0_, fun h0_ => hof (hoff 35 (by kernel_rfl)) h0_, fun h0_ => hof (hoff 29 (by kernel_rfl)) h0_, fun h0_ => hof (hoff 30 (by kernel_rfl)) h0_, fun h0_ => hof (hoff 31 (by kernel_rfl)) h0_⟩
  refine sc rfl ?_ ?_
  ·rintro b a w' ⟨A9, c9, g9, v9, m29_, m30_, m31_, ha, Q_B, Q_C, Q_W2, Q_S1, Q_S2, Q_X29_, Q_X30_, Q_X31_⟩ hb_ hon hoff K hK
   have e42 := psn ha 5 rfl rfl (hon 8 (by kernel_rfl)) rfl
   replace ha := Am ha
   have B := Am (Q_B (hoff 32 (by kernel_rfl)))
   refine value_ (w1 := w') (v := .int .u16 (t : Int)) (by rfl) rfl (by go_simp; (try simp only [i64_w]); first | done | exact hw43.out) ?_
   refine hK.out _ _ ⟨A9, c9, g9, v9, m29_, m30_, m31_, (puk ha 6 hb_ rfl rfl rfl), fun _ => B.out, fun h0_ h1_ => (Q_C h0_ h1_), fun h0_ _ => hof (hoff 31 (by kernel_rfl)) h0_, fun h0_ _ => hof (hoff 32 (by kernel_rfl)) h0_, fun h0_ => hof (hoff 35 (by kernel_rfl)) h0_, Q_X29_, fun h0_ => hof (hoff 30 (by kernel_rfl)) h0_, fun h0_ => hof (hoff 31 (by kernel_rfl)) h0_⟩
  refine sc rfl ?_ ?_
  ·rintro b a w' ⟨A9, c9, g9, v9, m29_, m30_, m31_, ha, Q_B, Q_C, Q_W2, Q_S1, Q_S2, Q_X29_, Q_X30_, Q_X31_⟩ hb_ hon hoff K hK
   have e44 : a.tmps[44]? = some (.pointer (some ⟨g, 0, none⟩)) := by rw [ha]; exact (putSel_off rfl).trans rfl
   replace ha := Am ha
   refine value_ (w1 := w') (v := .pointer (some ⟨g, 0, none⟩)) (by rfl) rfl ?_ ?_
   ·go_simp
    (try simp only [i64_w])
    try rfl
   refine hK.out _ _ ⟨A9, c9, g9, v9, m29_, m30_, m31_, (puk ha 7 hb_ rfl rfl rfl), Q_B, fun h0_ _ => hof (hoff 29 (by kernel_rfl)) h0_, fun h0_ _ => hof (hoff 31 (by kernel_rfl)) h0_, fun h0_ _ => hof (hoff 32 (by kernel_rfl)) h0_, fun h0_ => hof (hoff 35 (by kernel_rfl)) h0_, fun h0_ => hof (hoff 29 (by kernel_rfl)) h0_, fun h0_ => hof (hoff 30 (by kernel_rfl)) h0_, fun h0_ => hof (hoff 31 (by kernel_rfl)) h0_⟩
  refine sc rfl ?_ ?_
  ·rintro b a w' ⟨A9, c9, g9, v9, m29_, m30_, m31_, ha, Q_B, Q_C, Q_W2, Q_S1, Q_S2, Q_X29_, Q_X30_, Q_X31_⟩ hb_ hon hoff K hK
   have e45 := psn ha 7 rfl rfl (hon 11 (by kernel_rfl)) rfl
   replace ha := Am ha
   refine value_ (w1 := w') (v := .pointer (some ⟨g, 0, none⟩)) (by rfl) rfl ?_ ?_
   ·go_simp
    (try simp only [i64_w])
    try rfl
   refine hK.out _ _ ⟨A9, c9, g9, v9, m29_, m30_, m31_, (puk ha 8 hb_ rfl rfl rfl), Q_B, fun h0_ _ => hof (hoff 29 (by kernel_rfl)) h0_, fun h0_ _ => hof (hoff 31 (by kernel_rfl)) h0_, fun h0_ _ => hof (hoff 32 (by kernel_rfl)) h0_, fun h0_ => hof (hoff 35 (by kernel_rfl)) h0_, fun h0_ => hof (hoff 29 (by kernel_rfl)) h0_, fun h0_ => hof (hoff 30 (by kernel_rfl)) h0_, fun h0_ => hof (hoff 31 (by kernel_rfl)) h0_⟩
  refine sc rfl ?_ ?_
  ·rintro b a w' ⟨A9, c9, g9, v9, m29_, m30_, m31_, ha, Q_B, Q_C, Q_W2, Q_S1, Q_S2, Q_X29_, Q_X30_, Q_X31_⟩ hb_ hon hoff K hK
   have e46 := psn ha 8 rfl rfl (hon 12 (by kernel_rfl)) rfl
   replace ha := Am ha
   refine value_ (w1 := w') (v := .pointer (some ⟨g, 0, none⟩)) (by rfl) rfl ?_ ?_
   ·go_simp
    (try simp only [i64_w])
    try rfl
   refine hK.out _ _ ⟨A9, c9, g9, v9, m29_, m30_, m31_, (puk ha 9 hb_ rfl rfl rfl), Q_B, fun h0_ _ => hof (hoff 29 (by kernel_rfl)) h0_, fun h0_ _ => hof (hoff 31 (by kernel_rfl)) h0_, fun h0_ _ => hof (hoff 32 (by kernel_rfl)) h0_, fun h0_ => hof (hoff 35 (by kernel_rfl)) h0_, fun h0_ => hof (hoff 29 (by kernel_rfl)) h0_, fun h0_ => hof (hoff 30 (by kernel_rfl)) h0_, fun h0_ => hof (hoff 31 (by kernel_rfl)) h0_⟩
  refine sc rfl ?_ ?_
  ·rintro b a w' ⟨A9, c9, g9, v9, m29_, m30_, m31_, ha, Q_B, Q_C, Q_W2, Q_S1, Q_S2, Q_X29_, Q_X30_, Q_X31_⟩ hb_ hon hoff K hK
   have e47 := psn ha 9 rfl rfl (hon 13 (by kernel_rfl)) rfl
   replace ha := Am ha
   have B := Am (Q_B (hoff 32 (by kernel_rfl)))
   have hs := pw_cell_below B.out k0.out
   refine value_ (w1 := w') (v := .slice A l.length c) (by rfl) rfl ?_ ?_
   ·go_simp
    (try simp only [i64_w])
    try rfl
   refine hK.out _ _ ⟨A9, c9, g9, v9, m29_, m30_, m31_, (puk ha 10 hb_ rfl rfl rfl), Q_B, fun h0_ _ => hof (hoff 29 (by kernel_rfl)) h0_, fun h0_ _ => hof (hoff 31 (by kernel_rfl)) h0_, fun h0_ _ => hof (hoff 32 (by kernel_rfl)) h0_, fun h0_ => hof (hoff 35 (by kernel_rfl)) h0_, fun h0_ => hof (hoff 29 (by kernel_rfl)) h0_, fun h0_ => hof (hoff 30 (by kernel_rfl)) h0_, fun h0_ => hof (hoff 31 (by kernel_rfl)) h0_⟩
  refine sc rfl ?_ ?_
  ·rintro b a w' ⟨A9, c9, g9, v9, m29_, m30_, m31_, ha, Q_B, Q_C, Q_W2, Q_S1, Q_S2, Q_X29_, Q_X30_, Q_X31_⟩ hb_ hon hoff K hK
   have e49 : a.tmps[49]? = some (.pointer (some ⟨g, 0, none⟩)) := by rw [ha]; exact (putSel_off rfl).trans rfl
   replace ha := Am ha
   refine value_ (w1 := w') (v := .pointer (some ⟨g, 0, none⟩)) (by rfl) rfl ?_ ?_
   ·go_simp
    (try simp only [i64_w])
    try rfl
   refine hK.out _ _ ⟨A9, c9, g9, v9, m29_, m30_, m31_, (puk ha 11 hb_ rfl rfl rfl), Q_B, fun h0_ _ => hof (hoff 29 (by kernel_rfl)) h0_, fun h0_ _ => hof (hoff 31 (by kernel_rfl)) h0_, fun h0_ _ => hof (hoff 32 (by kernel_rfl)) h0_, fun h0_ => hof (hoff 35 (by kernel_rfl)) h0_, fun h0_ => hof (hoff 29 (by kernel_rfl)) h0_, fun h0_ => hof (hoff 30 (by kernel_rfl)) h0_, fun h0_ => hof (hoff 31 (by kernel_rfl)) h0_⟩
  refine sc rfl ?_ ?_
  ·rintro b a w' ⟨A9, c9, g9, v9, m29_, m30_, m31_, ha, Q_B, Q_C, Q_W2, Q_S1, Q_S2, Q_X29_, Q_X30_, Q_X31_⟩ hb_ hon hoff K hK
   have e50 := psn ha 11 rfl rfl (hon 16 (by kernel_rfl)) rfl
   replace ha := Am ha
   refine value_ (w1 := w') (v := .pointer (some ⟨g, 0, none⟩)) (by rfl) rfl ?_ ?_
   ·go_simp
    (try simp only [i64_w])
    try rfl
   refine hK.out _ _ ⟨A9, c9, g9, v9, m29_, m30_, m31_, (puk ha 12 hb_ rfl rfl rfl), Q_B, fun h0_ _ => hof (hoff 29 (by kernel_rfl)) h0_, fun h0_ _ => hof (hoff 31 (by kernel_rfl)) h0_, fun h0_ _ => hof (hoff 32 (by kernel_rfl)) h0_, fun h0_ => hof (hoff 35 (by kernel_rfl)) h0_, fun h0_ => hof (hoff 29 (by kernel_rfl)) h0_, fun h0_ => hof (hoff 30 (by kernel_rfl)) h0_, fun h0_ => hof (hoff 31 (by kernel_rfl)) h0_⟩
  refine sc rfl ?_ ?_
  ·rintro b a w' ⟨A9, c9, g9, v9, m29_, m30_, m31_, ha, Q_B, Q_C, Q_W2, Q_S1, Q_S2, Q_X29_, Q_X30_, Q_X31_⟩ hb_ hon hoff K hK
   have e51 := psn ha 12 rfl rfl (hon 17 (by kernel_rfl)) rfl
   replace ha := Am ha
   refine value_ (w1 := w') (v := .pointer (some ⟨g, 1, none⟩)) (by rfl) rfl ?_ ?_
   ·go_simp
    (try simp only [i64_w])
    try rfl
   refine hK.out _ _ ⟨A9, c9, g9, v9, m29_, m30_, m31_, (puk ha 13 hb_ rfl rfl rfl), Q_B, fun h0_ _ => hof (hoff 29 (by kernel_rfl)) h0_, fun h0_ _ => hof (hoff 31 (by kernel_rfl)) h0_, fun h0_ _ => hof (hoff 32 (by kernel_rfl)) h0_, fun h0_ => hof (hoff 35 (by kernel_rfl)) h0_, fun h0_ => hof (hoff 29 (by kernel_rfl)) h0_, fun h0_ => hof (hoff 30 (by kernel_rfl)) h0_, fun h0_ => hof (hoff 31 (by kernel_rfl)) h0_⟩
  refine sc rfl ?_ ?_
  ·rintro b a w' ⟨A9, c9, g9, v9, m29_, m30_, m31_, ha, Q_B, Q_C, Q_W2, Q_S1, Q_S2, Q_X29_, Q_X30_, Q_X31_⟩ hb_ hon hoff K hK
   have e52 := psn ha 13 rfl rfl (hon 18 (by kernel_rfl)) rfl
   replace ha := Am ha
   have B := Am (Q_B (hoff 32 (by kernel_rfl)))
   have hs := pw_cell_below B.out k1.out
   refine value_ (w1 := w') (v := .int .i64 (p : Int)) (by rfl) rfl ?_ ?_
   ·go_simp
    (try simp only [i64_w])
    try rfl
   refine hK.out _ _ ⟨A9, c9, g9, v9, m29_, m30_, m31_, (puk ha 14 hb_ rfl rfl rfl), Q_B, fun h0_ _ => hof (hoff 29 (by kernel_rfl)) h0_, fun h0_ _ => hof (hoff 31 (by kernel_rfl)) h0_, fun h0_ _ => hof (hoff 32 (by kernel_rfl)) h0_, fun h0_ => hof (hoff 35 (by kernel_rfl)) h0_, fun h0_ => hof (hoff 29 (by kernel_rfl)) h0_, fun h0_ => hof (hoff 30 (by kernel_rfl)) h0_, fun h0_ => hof (hoff 31 (by kernel_rfl)) h0_⟩
  refine sc rfl ?_ ?_
  ·rintro b a w' ⟨A9, c9, g9, v9, m29_, m30_, m31_, ha, Q_B, Q_C, Q_W2, Q_S1, Q_S2, Q_X29_, Q_X30_, Q_X31_⟩ hb_ hon hoff K hK
   have e53 := psn ha 14 rfl rfl (hon 19 (by kernel_rfl)) rfl
   replace ha := Am ha
   have B := Am (Q_B (hoff 32 (by kernel_rfl)))
   have hq := hp4.out
   refine value_ (w1 := w') (v := .int .i64 (p4 : Int)) (by rfl) rfl (by go_simp; (try simp only [i64_w]); first | done | exact hw54.out) ?_
   refine hK.out _ _ ⟨A9, c9, g9, v9, m29_, m30_, m31_, (puk ha 15 hb_ rfl rfl rfl), fun _ => B.out, fun h0_ _ => hof (hoff 29 (by kernel_rfl)) h0_, fun h0_ _ => hof (hoff 31 (by kernel_rfl)) h0_, fun h0_ _ => hof (hoff 32 (by kernel_rfl)) h0_, fun h0_ => hof (hoff 35 (by kernel_rfl)) h0_, fun h0_ => hof (hoff 29 (by kernel_rfl)) h0_, fun h0_ => hof (hoff 30 (by kernel_rfl)) h0_, fun h0_ => hof (hoff 31 (by kernel_rfl)) h0_⟩
  refine sc rfl ?_ ?_
  ·rintro b a w' ⟨A9, c9, g9, v9, m29_, m30_, m31_, ha, Q_B, Q_C, Q_W2, Q_S1, Q_S2, Q_X29_, Q_X30_, Q_X31_⟩ hb_ hon hoff K hK
   have e55 : a.tmps[55]? = some (.pointer (some ⟨g, 0, none⟩)) := by rw [ha]; exact (putSel_off rfl).trans rfl
   replace ha := Am ha
   refine value_ (w1 := w') (v := .pointer (some ⟨g, 0, none⟩)) (by rfl) rfl ?_ ?_
   ·go_simp
    (try simp only [i64_w])
    try rfl
   refine hK.out _ _ ⟨A9, c9, g9, v9, m29_, m30_, m31_, (puk ha 16 hb_ rfl rfl rfl), Q_B, fun h0_ _ => hof (hoff 29 (by kernel_rfl)) h0_, fun h0_ _ => hof (hoff 31 (by kernel_rfl)) h0_, fun h0_ _ => hof (hoff 32 (by kernel_rfl)) h0_, fun h0_ => hof (hoff 35 (by kernel_rfl)) h0_, fun h0_ => hof (hoff 29 (by kernel_rfl)) h0_, fun h0_ => hof (hoff 30 (by kernel_rfl)) h0_, fun h0_ => hof (hoff 31 (by kernel_rfl)) h0_⟩
  refine sc rfl ?_ ?_
  ·rintro b a w' ⟨A9, c9, g9, v9, m29_, m30_, m31_, ha, Q_B, Q_C, Q_W2, Q_S1, Q_S2, Q_X29_, Q_X30_, Q_X31_⟩ hb_ hon hoff K hK
   have e56 := psn ha 16 rfl rfl (hon 22 (by kernel_rfl)) rfl
   replace ha := Am ha
   refine value_ (w1 := w') (v := .pointer (some ⟨g, 0, none⟩)) (by rfl) rfl ?_ ?_
   ·go_simp
    (try simp only [i64_w])
    try rfl
   refine hK.out _ _ ⟨A9, c9, g9, v9, m29_, m30_, m31_, (puk ha 17 hb_ rfl rfl rfl), Q_B, fun h0_ _ => hof (hoff 29 (by kernel_rfl)) h0_, fun h0_ _ => hof (hoff 31 (by kernel_rfl)) h0_, fun h0_ _ => hof (hoff 32 (by kernel_rfl)) h0_, fun h0_ => hof (hoff 35 (by kernel_rfl)) h0_, fun h0_ => hof (hoff 29 (by kernel_rfl)) h0_, fun h0_ => hof (hoff 30 (by kernel_rfl)) h0_, fun h0_ => hof (hoff 31 (by kernel_rfl)) h0_⟩
  refine sc rfl ?_ ?_
  ·rintro b a w' ⟨A9, c9, g9, v9, m29_, m30_, m31_, ha, Q_B, Q_C, Q_W2, Q_S1, Q_S2, Q_X29_, Q_X30_, Q_X31_⟩ hb_ hon hoff K hK
   have e57 := psn ha 17 rfl rfl (hon 23 (by kernel_rfl)) rfl
   replace ha := Am ha
   refine value_ (w1 := w') (v := .pointer (some ⟨g, 1, none⟩)) (by rfl) rfl ?_ ?_
   ·go_simp
    (try simp only [i64_w])
    try rfl
   refine hK.out _ _ ⟨A9, c9, g9, v9, m29_, m30_, m31_, (puk ha 18 hb_ rfl rfl rfl), Q_B, fun h0_ _ => hof (hoff 29 (by kernel_rfl)) h0_, fun h0_ _ => hof (hoff 31 (by kernel_rfl)) h0_, fun h0_ _ => hof (hoff 32 (by kernel_rfl)) h0_, fun h0_ => hof (hoff 35 (by kernel_rfl)) h0_, fun h0_ => hof (hoff 29 (by kernel_rfl)) h0_, fun h0_ => hof (hoff 30 (by kernel_rfl)) h0_, fun h0_ => hof (hoff 31 (by kernel_rfl)) h0_⟩
  refine sc rfl ?_ ?_
  ·rintro b a w' ⟨A9, c9, g9, v9, m29_, m30_, m31_, ha, Q_B, Q_C, Q_W2, Q_S1, Q_S2, Q_X29_, Q_X30_, Q_X31_⟩ hb_ hon hoff K hK
   have e58 := psn ha 18 rfl rfl (hon 24 (by kernel_rfl)) rfl
   replace ha := Am ha
   have B := Am (Q_B (hoff 32 (by kernel_rfl)))
   have hs := pw_cell_below B.out k1.out
   refine value_ (w1 := w') (v := .int .i64 (p : Int)) (by rfl) rfl ?_ ?_
   ·go_simp
    (try simp only [i64_w])
    try rfl
   refine hK.out _ _ ⟨A9, c9, g9, v9, m29_, m30_, m31_, (puk ha 19 hb_ rfl rfl rfl), Q_B, fun h0_ _ => hof (hoff 29 (by kernel_rfl)) h0_, fun h0_ _ => hof (hoff 31 (by kernel_rfl)) h0_, fun h0_ _ => hof (hoff 32 (by kernel_rfl)) h0_, fun h0_ => hof (hoff 35 (by kernel_rfl)) h0_, fun h0_ => hof (hoff 29 (by kernel_rfl)) h0_, fun h0_ => hof (hoff 30 (by kernel_rfl)) h0_, fun h0_ => hof (hoff 31 (by kernel_rfl)) h0_⟩
  refine sc rfl ?_ ?_
  ·rintro b a w' ⟨A9, c9, g9, v9, m29_, m30_, m31_, ha, Q_B, Q_C, Q_W2, Q_S1, Q_S2, Q_X29_, Q_X30_, Q_X31_⟩ hb_ hon hoff K hK
   have e59 := psn ha 19 rfl rfl (hon 25 (by kernel_rfl)) rfl
   have e60 : a.tmps[60]? = some (.int .i64 (x : Int)) := by rw [ha]; exact (putSel_off rfl).trans rfl
   replace ha := Am ha
   have B := Am (Q_B (hoff 32 (by kernel_rfl)))
   have hq := hpx.out
   refine value_ (w1 := w') (v := .int .i64 (px : Int)) (by rfl) rfl (by go_simp; (try simp only [i64_w]); first | done | exact hw61.out) ?_
   refine hK.out _ _ ⟨A9, c9, g9, v9, m29_, m30_, m31_, (puk ha 20 hb_ rfl rfl rfl), fun _ => B.out, fun h0_ _ => hof (hoff 29 (by kernel_rfl)) h0_, fun h0_ _ => hof (hoff 31 (by kernel_rfl)) h0_, fun h0_ _ => hof (hoff 32 (by kernel_rfl)) h0_, fun h0_ => hof (hoff 35 (by kernel_rfl)) h0_, fun h0_ => hof (hoff 29 (by kernel_rfl)) h0_, fun h0_ => hof (hoff 30 (by kernel_rfl)) h0_, fun h0_ => hof (hoff 31 (by kernel_rfl)) h0_⟩
  refine sc rfl ?_ ?_
  ·rintro b a w' ⟨A9, c9, g9, v9, m29_, m30_, m31_, ha, Q_B, Q_C, Q_W2, Q_S1, Q_S2, Q_X29_, Q_X30_, Q_X31_⟩ hb_ hon hoff K hK
   have e48 := psn ha 10 rfl rfl (hon 14 (by kernel_rfl)) rfl
   have e54 := psn ha 15 rfl rfl (hon 20 (by kernel_rfl)) rfl
   have e61 := psn ha 20 rfl rfl (hon 27 (by kernel_rfl)) rfl
   replace ha := Am ha
   have hq := HCUT.out
   refine value_ (w1 := w') (v := .slice Bd bd.length cd) (by rfl) rfl ?_ ?_
   ·go_simp
    (try simp only [i64_w])
    try rfl
   refine hK.out _ _ ⟨A9, c9, g9, v9, m29_, m30_, m31_, (puk ha 21 hb_ rfl rfl rfl), Q_B, fun h0_ _ => hof (hoff 29 (by kernel_rfl)) h0_, fun h0_ _ => hof (hoff 31 (by kernel_rfl)) h0_, fun h0_ _ => hof (hoff 32 (by kernel_rfl)) h0_, fun h0_ => hof (hoff 35 (by kernel_rfl)) h0_, fun h0_ => hof (hoff 29 (by kernel_rfl)) h0_, fun h0_ => hof (hoff 30 (by kernel_rfl)) h0_, fun h0_ => hof (hoff 31 (by kernel_rfl)) h0_⟩
  refine sc rfl ?_ ?_
  ·rintro b a w' ⟨A9, c9, g9, v9, m29_, m30_, m31_, ha, Q_B, Q_C, Q_W2, Q_S1, Q_S2, Q_X29_, Q_X30_, Q_X31_⟩ hb_ hon hoff K hK
   have e62 := psn ha 21 rfl rfl (hon 28 (by kernel_rfl)) rfl
   replace ha := Am ha
   have B := Am (Q_B (hoff 32 (by kernel_rfl)))
   refine goes_ Tryd.func55 (by kernel_rfl) rfl #[.slice Bd bd.length cd] (by rfl) rfl rfl (by first | (simp only [List.map_toArray, List.map_cons, List.map_nil, Act.eval, Array.getD_eq_getD_getElem?, Option.getD_some, e62]; done) | (simp only [List.map_toArray, List.map_cons, List.map_nil, Act.eval, Array.getD_eq_getD_getElem?, Option.getD_some, e62]; rfl)) ?_
   refine (clone_calls Bd cd bd w' (Kd.C_below HBD.out B.out) hbl).mono ?_
   rintro e w1 ⟨v, rfl, hR, hB1⟩; obtain ⟨A8, c8, rfl⟩ := Kd.R_slice hR
   refine ⟨_, rfl, ?_⟩
   refine hK.out _ _ ⟨A8, c8, g9, v9, (.slice A8 bd.length c8), m30_, m31_, (puk ha 22 hb_ rfl rfl rfl), fun _ => B.out.trans (hB1.mono B.out.size), fun _ _ => Kd.R_lower hR B.out.size, fun h0_ _ => hof (hoff 31 (by kernel_rfl)) h0_, fun h0_ _ => hof (hoff 32 (by kernel_rfl)) h0_, fun h0_ => hof (hoff 35 (by kernel_rfl)) h0_, fun _ => rfl, fun h0_ => hof (hoff 30 (by kernel_rfl)) h0_, fun h0_ => hof (hoff 31 (by kernel_rfl)) h0_⟩
  refine sc rfl ?_ ?_
  ·rintro b a w' ⟨A9, c9, g9, v9, m29_, m30_, m31_, ha, Q_B, Q_C, Q_W2, Q_S1, Q_S2, Q_X29_, Q_X30_, Q_X31_⟩ hb_ hon hoff K hK
   have e43 := psn ha 6 rfl rfl (hon 9 (by kernel_rfl)) rfl
   have e63 := psn ha 22 rfl rfl (hon 29 (by kernel_rfl)) rfl
   rw [Q_X29_ (hon 29 (by kernel_rfl))] at e63
   replace ha := Am ha
   refine value_ (w1 := w') (v := .agg #[.int .u16 (t : Int), .slice A9 bd.length c9]) (by rfl) rfl ?_ ?_
   ·go_simp
    (try simp only [i64_w])
    try rfl
   refine hK.out _ _ ⟨A9, c9, g9, v9, m29_, (.agg #[.int .u16 (t : Int), .slice A9 bd.length c9]), m31_, (puk ha 23 hb_ rfl rfl rfl), Q_B, Q_C, fun h0_ _ => hof (hoff 31 (by kernel_rfl)) h0_, fun h0_ _ => hof (hoff 32 (by kernel_rfl)) h0_, fun h0_ => hof (hoff 35 (by kernel_rfl)) h0_, Q_X29_, fun _ => rfl, fun h0_ => hof (hoff 31 (by kernel_rfl)) h0_⟩
  refine sc rfl ?_ ?_
  ·rintro b a w' ⟨A9, c9, g9, v9, m29_, m30_, m31_, ha, Q_B, Q_C, Q_W2, Q_S1, Q_S2, Q_X29_, Q_X30_, Q_X31_⟩ hb_ hon hoff K hK
   have e64 := psn ha 23 rfl rfl (hon 30 (by kernel_rfl)) rfl
   rw [Q_X30_ (hon 30 (by kernel_rfl))] at e64
   replace ha := Am ha
   have B := Am (Q_B (hoff 32 (by kernel_rfl)))
   have C := Am (Q_C (hon 29 (by kernel_rfl)) (hoff 32 (by kernel_rfl)))
   refine value_ (w1 := w'.alloc (.cells #[.int .u16 (t : Int), .slice A9 bd.length c9] 72)) (v := .slice (some ⟨w'.heap.size, 0, none⟩) 1 1) (by rfl) rfl (by go_simp; try rfl) ?_
   refine hK.out _ _ ⟨A9, c9, w'.heap.size, v9, m29_, m30_, (.slice (some ⟨w'.heap.size, 0, none⟩) 1 1), (puk ha 24 hb_ rfl rfl rfl), fun _ => B.out.alloc B.out.size _, fun _ _ => Kd.R_alloc C.out _, fun _ _ => ⟨w', rfl, rfl, B.out, C.out⟩, fun h0_ _ => hof (hoff 32 (by kernel_rfl)) h0_, fun h0_ => hof (hoff 35 (by kernel_rfl)) h0_, Q_X29_, Q_X30_, fun _ => rfl⟩
  refine sc rfl ?_ ?_
  ·rintro b a w' ⟨A9, c9, g9, v9, m29_, m30_, m31_, ha, Q_B, Q_C, Q_W2, Q_S1, Q_S2, Q_X29_, Q_X30_, Q_X31_⟩ hb_ hon hoff K hK
   have e38 := psn ha 2 rfl rfl (hon 4 (by kernel_rfl)) rfl
   have e65 := psn ha 24 rfl rfl (hon 31 (by kernel_rfl)) rfl
   rw [Q_X31_ (hon 31 (by kernel_rfl))] at e65
   replace ha := Am ha
   have W2 := Am (Q_W2 (hon 31 (by kernel_rfl)) hb_)
   obtain ⟨w2, rfl, hg9, hB2, hC2⟩ := W2.out
   rw [hg9] at e65
   refine Kd.R_append_step k72 (w0 := wB) (W := w2) base (by rfl) _ _ 39 72 _ 32 rfl Tryd.underlying39 info72 rfl (by decide) (by decide) (.slice Av ps.length cv) ps ⟨(t : Int), bd.map fun b => (b.toNat : Int)⟩ [.int .u16 (t : Int), .slice A9 bd.length c9] (fun k => k ≠ g) (fun k => k ≠ g ∧ some k ≠ (Value.slice Av ps.length cv).ownBlock) (eval_of e38) (eval_of e65) (HM.out w2 A9 c9 hB2 hC2) (fun k hk => hk) (fun k hk => by have := hB2.size; omega) (Kd.R_below HR.out hB2) (HBB.out.trans (hB2.mono hbS)) (Nat.le_trans hbS hB2.size) (by omega) ?_
   intro v1 w1 hR1 hB1 hG1 hat1
   refine hK.out _ _ ⟨A9, c9, g9, v1, m29_, m30_, m31_, (puk ha 25 hb_ rfl rfl rfl), fun h0_ => absurd ((up_self b 32).symm.trans h0_) (by decide), fun _ h1_ => absurd ((up_self b 32).symm.trans h1_) (by decide), fun _ h1_ => absurd ((up_self b 32).symm.trans h1_) (by decide), fun _ _ => ⟨hR1, hB1, blk_grown (HGG.out w2 hB2) hG1 (fun e => HNG.out e.symm)⟩, fun h0_ => hof (hoff 35 (by kernel_rfl)) h0_, Q_X29_, Q_X30_, Q_X31_⟩
  refine sc rfl ?_ ?_
  ·rintro b a w' ⟨A9, c9, g9, v9, m29_, m30_, m31_, ha, Q_B, Q_C, Q_W2, Q_S1, Q_S2, Q_X29_, Q_X30_, Q_X31_⟩ hb_ hon hoff K hK
   have e34 : a.tmps[34]? = some (.pointer (some ⟨g, 0, none⟩)) := by rw [ha]; exact (putSel_off rfl).trans rfl
   replace ha := Am ha
   refine value_ (w1 := w') (v := .pointer (some ⟨g, 0, none⟩)) (by rfl) rfl ?_ ?_
   ·go_simp
    (try simp only [i64_w])
    try rfl
   refine hK.out _ _ ⟨A9, c9, g9, v9, m29_, m30_, m31_, (puk ha 26 hb_ rfl rfl rfl), fun h0_ => absurd ((hon 32 (by kernel_rfl)).symm.trans h0_) (by decide), fun _ h1_ => absurd ((hon 32 (by kernel_rfl)).symm.trans h1_) (by decide), fun _ h1_ => absurd ((hon 32 (by kernel_rfl)).symm.trans h1_) (by decide), Q_S1, fun h0_ => hof (hoff 35 (by kernel_rfl)) h0_, Q_X29_, Q_X30_, Q_X31_⟩
  refine sc rfl ?_ ?_
  ·rintro b a w' ⟨A9, c9, g9, v9, m29_, m30_, m31_, ha, Q_B, Q_C, Q_W2, Q_S1, Q_S2, Q_X29_, Q_X30_, Q_X31_⟩ hb_ hon hoff K hK
   have e67 := psn ha 26 rfl rfl (hon 33 (by kernel_rfl)) rfl
   replace ha := Am ha
   refine value_ (w1 := w') (v := .pointer (some ⟨g, 2, none⟩)) (by rfl) rfl ?_ ?_
   ·go_simp
    (try simp only [i64_w])
    try rfl
   refine hK.out _ _ ⟨A9, c9, g9, v9, m29_, m30_, m31_, (puk ha 27 hb_ rfl rfl rfl), fun h0_ => absurd ((hon 32 (by kernel_rfl)).symm.trans h0_) (by decide), fun _ h1_ => absurd ((hon 32 (by kernel_rfl)).symm.trans h1_) (by decide), fun _ h1_ => absurd ((hon 32 (by kernel_rfl)).symm.trans h1_) (by decide), Q_S1, fun h0_ => hof (hoff 35 (by kernel_rfl)) h0_, Q_X29_, Q_X30_, Q_X31_⟩
  refine sc rfl ?_ ?_
  ·rintro b a w' ⟨A9, c9, g9, v9, m29_, m30_, m31_, ha, Q_B, Q_C, Q_W2, Q_S1, Q_S2, Q_X29_, Q_X30_, Q_X31_⟩ hb_ hon hoff K hK
   have e68 := psn ha 27 rfl rfl (hon 34 (by kernel_rfl)) rfl
   have e66 := psn ha 25 rfl rfl (hon 32 (by kernel_rfl)) rfl
   replace ha := Am ha
   have S1 := Am (Q_S1 (hon 32 (by kernel_rfl)) hb_)
   obtain ⟨hR1, hB1, hG1⟩ := S1.out
   obtain ⟨A7, c7, hv9⟩ := Kd.R_slice hR1
   have hs := blk_cell hG1 2
   have hf := blk_frozen hG1 2
   refine skip_ (w1 := w'.setCell ⟨g, 2, none⟩ v9) (by rfl) rfl (by generalize (ps ++ [(⟨(t : Int), bd.map fun b => (b.toNat : Int)⟩ : S72)]).length = zl at hv9; rw [hv9] at e66 ⊢; go_simp; try rfl) ?_
   refine hK.out _ _ ⟨A9, c9, g9, v9, m29_, m30_, m31_, (by rw [ha.out]; exact putSel_none (v := undef) rfl), fun h0_ => absurd ((hon 32 (by kernel_rfl)).symm.trans h0_) (by decide), fun _ h1_ => absurd ((hon 32 (by kernel_rfl)).symm.trans h1_) (by decide), fun _ h1_ => absurd ((hon 32 (by kernel_rfl)).symm.trans h1_) (by decide), fun _ h1_ => absurd ((up_self b 35).symm.trans h1_) (by decide), fun _ => ⟨⟨by have := blk_set hG1 2 v9; exact this⟩, Kd.R_far hR1 (p := ⟨g, 2, none⟩) (fun k hk => hk) _, hB1.setCell (p := ⟨g, 2, none⟩) hgb _⟩, Q_X29_, Q_X30_, Q_X31_⟩
  exact steps_nil
 rintro b a w' hall ⟨A9, c9, g9, v9, m29_, m30_, m31_, ha, Q_B, Q_C, Q_W2, Q_S1, Q_S2, Q_X29_, Q_X30_, Q_X31_⟩
 clear B
 have hb2_ := hall 2 (by kernel_rfl)
 have hb3_ := hall 3 (by kernel_rfl)
 have hb4_ := hall 4 (by kernel_rfl)
 have hb6_ := hall 6 (by kernel_rfl)
 have hb7_ := hall 7 (by kernel_rfl)
 have hb8_ := hall 8 (by kernel_rfl)
 have hb9_ := hall 9 (by kernel_rfl)
 have hb11_ := hall 11 (by kernel_rfl)
 have hb12_ := hall 12 (by kernel_rfl)
 have hb13_ := hall 13 (by kernel_rfl)
 have hb14_ := hall 14 (by kernel_rfl)
 have hb16_ := hall 16 (by kernel_rfl)
 have hb17_ := hall 17 (by kernel_rfl)
 have hb18_ := hall 18 (by kernel_rfl)
 have hb19_ := hall 19 (by kernel_rfl)
 have hb20_ := hall 20 (by kernel_rfl)
 have hb22_ := hall 22 (by kernel_rfl)
 have hb23_ := hall 23 (by kernel_rfl)
 have hb24_ := hall 24 (by kernel_rfl)
 have hb25_ := hall 25 (by kernel_rfl)
 have hb27_ := hall 27 (by kernel_rfl)
 have hb28_ := hall 28 (by kernel_rfl)
 have hb29_ := hall 29 (by kernel_rfl)
 have hb30_ := hall 30 (by kernel_rfl)
 have hb31_ := hall 31 (by kernel_rfl)
 have hb32_ := hall 32 (by kernel_rfl)
 have hb33_ := hall 33 (by kernel_rfl)
 have hb34_ := hall 34 (by kernel_rfl)
 have hb35_ := hall 35 (by kernel_rfl)
 subst ha
 obtain rfl := Q_X29_ hb29_
 obtain rfl := Q_X30_ hb30_
 obtain rfl := Q_X31_ hb31_
 simp only [putSel, hb2_, hb3_, hb4_, hb6_, hb7_, hb8_, hb9_, hb11_, hb12_, hb13_, hb14_, hb16_, hb17_, hb18_, hb19_, hb20_, hb22_, hb23_, hb24_, hb25_, hb27_, hb28_, hb29_, hb30_, hb31_, hb32_, hb33_, hb34_, hb35_, if_true, Act.put, List.setIfInBounds_toArray, List.set_cons_zero, List.set_cons_succ]
 clear Q_B
 clear Q_C
 clear Q_W2
 clear Q_S1
 have S2 := Am (Q_S2 hb35_)
 clear Q_S2
 clear hall hb2_ hb3_ hb4_ hb6_ hb7_ hb8_ hb9_ hb11_ hb12_ hb13_ hb14_ hb16_ hb17_ hb18_ hb19_ hb20_ hb22_ hb23_ hb24_ hb25_ hb27_ hb28_ hb29_ hb30_ hb31_ hb32_ hb33_ hb34_ hb35_
 obtain ⟨hLS, hRR, hBE⟩ := S2.out
 have han := HAN.out
 have H8 := Lh (HSK.out w' v9 hLS)
 have HRR := Lh hRR
 have HBE := Lh hBE
 clear hLS hRR hBE
 go_wp2_with fail
 refine H8.out.mono ?_
 rintro e w8 ⟨rfl, hL8, hO⟩
 go_wp2
 go_end0
 exact ⟨rfl, v9, hL8, by rw [HQ.out]; exact Kd.R_step HRR.out (fun k hk hlt => hO.block k hlt (fun e => hk e)), HBE.out.trans (hO.below (by have := HBE.out.size; omega) (fun k hk => by omega))⟩
end Go.Proofs.YtdlamomabonkjaaDoor.ParDec
end
section
namespace Go.Proofs.YtdlamomabonkjaaDoor.ParDec
open Go.RowKit YtdlamomabonkjaaDoorW.PrintWords PCh ParCauses Base
theorem catch_idle (a b c : Addr) (w : World) :
  CallsD Tryd.prog 107 #[.pointer (some a), .pointer (some b), .pointer (some c)] .returning w fun e u' w' => e = .returned (.tuple #[]) ∧ u' = .returning ∧ w' = w := by
 refine callsD_of_wpS Tryd.func107 rfl fun c₀ cs hu => ?_
 apply wpS_seq
 apply wpS_region
 simp [wpOpsS, go_sem, recoverD, hu, Tryd.ntmps107, Exit.thenS]
 have ht : (#[Value.pointer (some a), Value.pointer (some b), Value.pointer (some c)] ++ ((Array.replicate 18 undef).setIfInBounds 3 Value.nilIface).setIfInBounds 0 Value.nilIface) = #[.pointer (some a), .pointer (some b), .pointer (some c), .nilIface, undef, undef, .nilIface, undef, undef, undef, undef, undef, undef, undef, undef, undef, undef, undef, undef, undef, undef] := by kernel_rfl
 rw [ht]
 refine wpS_of_wp ?_
 go_wp2
 cases c₀
 simp_all [bodyPostS, results, Tryd.results107]
theorem catch_fault (a b c : Nat) (p : Nat) (code : Int) (older : List PanicEntry) (w : World) (x0 x1 x2 : Value) (t0 t1 t2 : TypeId)
  (h0 : w.heap[a]? = some (.cells #[x0] t0 (0, 0))) (h1 : w.heap[b]? = some (.cells #[x1] t1 (0, 0))) (h2 : w.heap[c]? = some (.cells #[x2] t2 (0, 0))) (hab : a ≠ b) (hac : a ≠ c) (hbc : b ≠ c) :
  CallsD Tryd.prog 107 #[.pointer (some ⟨a, 0, none⟩), .pointer (some ⟨b, 0, none⟩), .pointer (some ⟨c, 0, none⟩)] (.panicking ({ v := faultV p code, recovered := false } :: older)) w fun e u' w' => e = .returned (.tuple #[]) ∧ u' = .panicking ({ v := faultV p code, recovered := true } :: older) ∧
   w'.heap[a]? = some (.cells #[.slice none 0 0] t0 (0, 0)) ∧ w'.heap[b]? = some (.cells #[.int .i64 (p : Int)] t1 (0, 0)) ∧ w'.heap[c]? = some (.cells #[.int .i64 code] t2 (0, 0)) ∧ Only (fun k => k = a ∨ k = b ∨ k = c) w w' := by
 unfold faultV
 refine callsD_of_wpS Tryd.func107 rfl fun c₀ cs hu => ?_
 apply wpS_seq
 apply wpS_region
 simp [wpOpsS, go_sem, recoverD, hu, Tryd.ntmps107, Exit.thenS]
 generalize hfv : (Value.iface 151 (.agg #[.int .i64 (p : Int), .int .i64 code])) = fv at *
 have ht : ∀ fv : Value, (#[Value.pointer (some ⟨a, 0, none⟩), Value.pointer (some ⟨b, 0, none⟩), Value.pointer (some ⟨c, 0, none⟩)] ++ ((Array.replicate 18 undef).setIfInBounds 3 fv).setIfInBounds 0 fv) = #[.pointer (some ⟨a, 0, none⟩), .pointer (some ⟨b, 0, none⟩), .pointer (some ⟨c, 0, none⟩), fv, undef, undef, fv, undef, undef, undef, undef, undef, undef, undef, undef, undef, undef, undef, undef, undef, undef] := fun fv => by kernel_rfl
 rw [ht]
 subst hfv
 have hta : ∀ W : World, (Instr.typeAssert (Value.iface 151 (Value.agg #[Value.int IntKind.i64 ↑p, Value.int IntKind.i64 code])) 20 151 true).run Tryd.prog W = .ok (.tuple #[Value.agg #[Value.int IntKind.i64 ↑p, Value.int IntKind.i64 code], .bool true]) W := fun W => by rfl
 refine wpS_of_wp ?_
 have n0 := blk_lt h0
 have n1 := blk_lt h1
 have n2 := blk_lt h2
 have H0 := Lh (blk_alloc h0 (.cells #[.int .i64 (p : Int), .int .i64 code] 151))
 have H1 := Lh (blk_alloc h1 (.cells #[.int .i64 (p : Int), .int .i64 code] 151))
 have H2 := Lh (blk_alloc h2 (.cells #[.int .i64 (p : Int), .int .i64 code] 151))
 have H3 := Lh (heap_alloc_new w (.cells #[.int .i64 (p : Int), .int .i64 code] 151))
 have HO := Lh ((Only.refl (fun k => k = a ∨ k = b ∨ k = c) w).alloc (.cells #[.int .i64 (p : Int), .int .i64 code] 151))
 have HN : Hid (a < w.heap.size ∧ b < w.heap.size ∧ c < w.heap.size) := ⟨n0, n1, n2⟩
 clear h0 h1 h2
 go_upto_region 5 with (fail)
 have e0 : a ≠ w.heap.size := by omega
 have e1 : b ≠ w.heap.size := by omega
 have e2 : c ≠ w.heap.size := by omega
 clear n0 n1 n2
 generalize w.alloc (.cells #[.int .i64 (p : Int), .int .i64 code] 151) = W5 at *
 generalize w.heap.size = g at *
 have k0 := blk_cell H0.out 0
 have k1 := blk_cell H1.out 0
 have k2 := blk_cell H2.out 0
 have k3 := blk_cell H3.out 0
 have k4 := blk_cell H3.out 1
 have f0 := blk_frozen H0.out 0
 have f1 := blk_frozen H1.out 0
 have f2 := blk_frozen H2.out 0
 go_region
 clear k0 k1 k2 k3 k4 f0 f1 f2
 show bodyPostS _ _ _ _ _ _ _ _ _
 cases c₀
 simp only at hu
 subst hu
 refine ⟨rfl, _, rfl, _, results_none rfl _ _ _, rfl, rfl, ?_, ?_, ?_, ?_⟩
 ·exact blk_drew (blk_far (p := ⟨c, 0, none⟩) (blk_far (p := ⟨b, 0, none⟩) (blk_put H0.out 0 _ rfl) hab _) hac _)
 ·exact blk_drew (blk_far (p := ⟨c, 0, none⟩) (blk_put (blk_far (p := ⟨a, 0, none⟩) H1.out (Ne.symm hab) _) 0 _ rfl) hbc _)
 ·exact blk_drew (blk_put (blk_far (p := ⟨b, 0, none⟩) (blk_far (p := ⟨a, 0, none⟩) H2.out (Ne.symm hac) _) (Ne.symm hbc) _) 0 _ rfl)
 ·exact (((HO.out.setCell (p := ⟨a, 0, none⟩) (fun _ => Or.inl rfl) _).setCell (p := ⟨b, 0, none⟩) (fun _ => Or.inr (Or.inl rfl)) _).setCell (p := ⟨c, 0, none⟩) (fun _ => Or.inr (Or.inr rfl)) _).drew
end Go.Proofs.YtdlamomabonkjaaDoor.ParDec
end
section
namespace Go.Proofs.YtdlamomabonkjaaDoor.ParDec
open Go.RowKit YtdlamomabonkjaaDoorW.PrintWords PCh ParCauses Base
def runD (l : List UInt8) : Nat → Nat → List S72 → Except (Nat × Int) (List S72)
 | 0, _, ps => .ok ps
 | n + 1, p, ps =>
  if p < l.length then
   match stepD l p ps.length with
   | .error c => .error (p, c)
   | .ok (q, p') => runD l n p' (ps ++ [q])
  else .ok ps
def decD (l : List UInt8) : List S72 × Int × Int :=
 match runD l (l.length + 1) 0 [] with
 | .ok ps => (ps, 0, 0)
 | .error (p, c) => ([], (p : Int), c)
theorem stepD_next {l : List UInt8} {p m : Nat} {q : S72} {p' : Nat} (h : stepD l p m = .ok (q, p')) (hp : p < l.length) : p < p' ∧ p' ≤ l.length ∧ m ≠ 256 := by
 unfold stepD at h
 by_cases h1 : m = 256
 ·rw [if_pos h1] at h; cases h
 rw [if_neg h1] at h
 by_cases h2 : l.length - p < 4
 ·rw [if_pos h2] at h; cases h
 rw [if_neg h2] at h
 by_cases h3 : nI l (p + 2) < 4 ∨ l.length - p < nI l (p + 2)
 ·rw [if_pos h3] at h; cases h
 rw [if_neg h3] at h
 injection h with h
 have hp' : p' = p + min ((nI l (p + 2) + 3) / 4 * 4) (l.length - p) := (congrArg Prod.snd h).symm
 omega
def DecPost (l : List UInt8) (w : World) (e : Ending) (w' : World) : Prop :=
 ∃ v, e = .returned (.tuple #[v, .int .i64 (decD l).2.1, .int .i64 (decD l).2.2]) ∧ Kd.R k72 72 w' w.heap.size (fun _ => True) v (decD l).1 ∧ Below w.heap.size w w'
def w3 (w : World) : World := (((w.alloc (.cells #[.slice none 0 0] 39)).alloc (.cells #[.int .i64 0] 3)).alloc (.cells #[.int .i64 0] 28))
def DecI (w : World) (A : Option Addr) (l : List UInt8) (c n : Nat) (W : World) : Prop :=
 ∃ p ps v, p ≤ l.length ∧ l.length < n + p ∧ ps.length ≤ 256 ∧ runD l (l.length + 1) 0 [] = runD l n p ps ∧ LS W (w.heap.size + 3) A l.length c p v ∧ Kd.R k72 72 W (w.heap.size + 3) (fun k => k ≠ w.heap.size + 3) v ps ∧ Below (w.heap.size + 3) (w3 w) W
theorem w3_size (w : World) : (w3 w).heap.size = w.heap.size + 3 := by simp [w3]
theorem w3_below (w : World) : Below w.heap.size w (w3 w) := below_alloc (below_alloc (below_alloc (Below.refl _ _) _) _) _
theorem w3_blk (w : World) : (w3 w).heap[w.heap.size]? = some (.cells #[.slice none 0 0] 39 (0, 0)) ∧ (w3 w).heap[w.heap.size + 1]? = some (.cells #[.int .i64 0] 3 (0, 0)) ∧ (w3 w).heap[w.heap.size + 2]? = some (.cells #[.int .i64 0] 28 (0, 0)) := by
 have s1 : (w.alloc (.cells #[.slice none 0 0] 39)).heap.size = w.heap.size + 1 := by simp
 have s2 : ((w.alloc (.cells #[.slice none 0 0] 39)).alloc (.cells #[.int .i64 0] 3)).heap.size = w.heap.size + 2 := by simp
 have h0 := blk_new w (.cells #[.slice none 0 0] 39)
 have h1 := blk_new (w.alloc (.cells #[.slice none 0 0] 39)) (.cells #[.int .i64 0] 3)
 have h2 := blk_new ((w.alloc (.cells #[.slice none 0 0] 39)).alloc (.cells #[.int .i64 0] 3)) (.cells #[.int .i64 0] 28)
 rw [s1] at h1
 rw [s2] at h2
 exact ⟨blk_alloc (blk_alloc h0 _) _, blk_alloc h1 _, h2⟩
theorem w3_kept {w W : World} (h : Below (w.heap.size + 3) (w3 w) W) : W.heap[w.heap.size]? = some (.cells #[.slice none 0 0] 39 (0, 0)) ∧ W.heap[w.heap.size + 1]? = some (.cells #[.int .i64 0] 3 (0, 0)) ∧ W.heap[w.heap.size + 2]? = some (.cells #[.int .i64 0] 28 (0, 0)) := by
 obtain ⟨h0, h1, h2⟩ := w3_blk w
 exact ⟨(h.block _ (by omega)).trans h0, (h.block _ (by omega)).trans h1, (h.block _ (by omega)).trans h2⟩
theorem w3_out {w W : World} (h : Below (w.heap.size + 3) (w3 w) W) : Below w.heap.size w W :=
 (w3_below w).trans (h.mono (by omega))
theorem dec_start (w : World) (A : Option Addr) (l : List UInt8) (c : Nat) (hn : l.length ≤ 140737488355328) : DecI w A l c (l.length + 1) ((((w.alloc (.cells #[.slice none 0 0] 39)).alloc (.cells #[.int .i64 0] 3)).alloc (.cells #[.int .i64 0] 28)).alloc (.cells #[.slice A l.length c, .int .i64 0, .slice none 0 0] 157)) := by
 have h3 := blk_new (w3 w) (.cells #[.slice A l.length c, .int .i64 0, .slice none 0 0] 157)
 rw [w3_size] at h3
 exact ⟨0, [], .slice none 0 0, Nat.zero_le _, by omega, by simp, rfl, ⟨h3⟩, Kd.R_nil _ _ _ _ _, (Below.refl (w.heap.size + 3) (w3 w)).alloc (by rw [w3_size]; omega) _⟩
theorem dec_results (tmps : Array Value) (w : World) (a b c : Nat) (v0 v1 v2 : Value) (t0 : tmps.getD 2 undef = .pointer (some ⟨a, 0, none⟩)) (t1 : tmps.getD 3 undef = .pointer (some ⟨b, 0, none⟩)) (t2 : tmps.getD 4 undef = .pointer (some ⟨c, 0, none⟩))
  (h0 : w.heap[a]? = some (.cells #[v0] 39 (0, 0))) (h1 : w.heap[b]? = some (.cells #[v1] 3 (0, 0))) (h2 : w.heap[c]? = some (.cells #[v2] 28 (0, 0))) :
  (results Tryd.f104 tmps).run Tryd.prog w = .ok (.tuple #[v0, v1, v2]) w := by
 have k0 := blk_cell h0 0
 have k1 := blk_cell h1 0
 have k2 := blk_cell h2 0
 rw [Array.getD_eq_getD_getElem?] at t0 t1 t2
 simp [results, Tryd.results104, go_sem, t0, t1, t2, k0, k1, k2]
theorem decD_err {l : List UInt8} {p : Nat} {code : Int} (h : runD l (l.length + 1) 0 [] = .error (p, code)) : decD l = ([], (p : Int), code) := by unfold decD; rw [h]
theorem decD_ok {l : List UInt8} {ps : List S72} (h : runD l (l.length + 1) 0 [] = .ok ps) : decD l = (ps, 0, 0) := by unfold decD; rw [h]
set_option maxHeartbeats 1000000 in
theorem decode_calls (w : World) (A : Option Addr) (l : List UInt8) (c : Nat) (hb : byte.C w A l.length l) (hc : l.length ≤ c) (hn : l.length ≤ 140737488355328) :
  Calls Tryd.prog 104 #[.slice A l.length c] w (DecPost l w) := by
 have hmf : ∀ (fn : Fn) (first cap : Array Value) (w : World), (Instr.makeFunc fn first cap).run Tryd.prog w = .ok (.func fn first cap) w := fun _ _ _ _ => rfl
 go_enter_defers Tryd.func104, Tryd.ntmps104
 go_wp2
 go_loopg [] (l.length + 1) (fun n wr => DecI w A l c n wr)
 case atStart => exact dec_start w A l c hn
 case round =>
  obtain ⟨p, ps, v, hp, hpn, hps, hrun, hLS, hR, hB⟩ := hrel
  have HRUN := Lh hrun
  have HLS := Lh hLS
  have HR := Lh hR
  have HB := Lh hB
  have HBC := Lh (Kd.C_below hb (w3_out hB))
  clear hrun hLS hR hB hb
  by_cases hlt : p < l.length
  ·have hd : (0 : Int) < ((l.length - p : Nat) : Int) := by omega
   have hlf := Lh (left_calls wr (w.heap.size + 3) A l.length c p (blk_cell HLS.out.out 0) (blk_cell HLS.out.out 1) hp hn)
   cases hst : stepD l p ps.length with
   | error code =>
    have hnx := fun m => Lh (next_fault (wr.drewN m) (w.heap.size + 3) (w.heap.size + 3) A l c p v ps ⟨HLS.out.out⟩ (Kd.R_drewN HR.out m) (Kd.C_drewN HBC.out m) hlt hn hps (Nat.le_refl _) (by have := HB.out.size; rw [w3_size] at this; exact this) code hst)
    have HST := Lh hst
    clear hst
    generalize l.length - p = d at *
    go_wp2_with fail
    refine hlf.out.mono ?_
    rintro e w1 ⟨rfl, ⟨m, rfl⟩⟩
    go_wp2_with fail
    refine (hnx m).out.mono ?_
    rintro e w1 ⟨rfl, ⟨m2, rfl⟩⟩
    have hrun2 : runD l (l.length + 1) 0 [] = .error (p, code) := by
     rw [HRUN.out]
     obtain ⟨n, rfl⟩ : ∃ n, gk = n + 1 := ⟨gk - 1, by omega⟩
     conv => lhs; unfold runD
     rw [if_pos hlt, HST.out]
    have HDE := Lh (decD_err hrun2)
    clear hrun2
    go_wp2
    refine leaves_cons (f := 107) (args := #[.pointer (some ⟨w.heap.size, 0, none⟩), .pointer (some ⟨w.heap.size + 1, 0, none⟩), .pointer (some ⟨w.heap.size + 1 + 1, 0, none⟩)]) (by simp) (by simp [go_sem]) ?_
    obtain ⟨h0, h1, h2⟩ := w3_kept (pw_below_drewN HB.out (m + m2))
    refine (catch_fault w.heap.size (w.heap.size + 1) (w.heap.size + 1 + 1) p code [] _ _ _ _ _ _ _ h0 h1 h2 (by omega) (by omega) (by omega)).mono ?_
    rintro e u' w'' ⟨rfl, rfl, h0, h1, h2, hO⟩
    refine ⟨_, dec_results _ _ _ _ _ _ _ _ rfl rfl rfl h0 h1 h2, .slice none 0 0, ?_, ?_, ?_⟩
    ·rw [HDE.out]
    ·rw [HDE.out]
     exact Kd.R_nil _ _ _ _ _
    ·have hb1 := w3_out (pw_below_drewN HB.out (m + m2))
     exact hb1.trans (hO.below hb1.size (fun k hk => by omega))
   | ok qp =>
    obtain ⟨q, p'⟩ := qp
    have hnp := stepD_next hst hlt
    have hnx := fun m => Lh (next_ok (w3 w) (wr.drewN m) (w.heap.size + 3) (w.heap.size + 3) A l c p v ps ⟨HLS.out.out⟩ (Kd.R_drewN HR.out m) (Kd.C_drewN HBC.out m) hc hlt hn hps (Nat.le_refl _) (pw_below_drewN HB.out m) (by rw [w3_size]; omega) q p' hst)
    have HST := Lh hst
    clear hst
    generalize hdd : l.length - p = d at *
    have HDD := Lh hdd
    clear hdd
    go_wp2_with fail
    refine hlf.out.mono ?_
    rintro e w1 ⟨rfl, ⟨m, rfl⟩⟩
    go_wp2_with fail
    refine (hnx m).out.mono ?_
    rintro e w1 ⟨rfl, v', hLS', hR', hB'⟩
    go_wp2_with fail
    go_roundg (gk - 1)
    case measure => omega
    case rel =>
     refine ⟨p', ps ++ [q], v', hnp.2.1, by omega, by rw [List.length_append, List.length_singleton]; omega, ?_, hLS', hR', hB'⟩
     rw [HRUN.out]
     obtain ⟨n, rfl⟩ : ∃ n, gk = n + 1 := ⟨gk - 1, by omega⟩
     conv => lhs; unfold runD
     rw [if_pos hlt, HST.out]
     rfl
  ·obtain ⟨Av, cv, rfl⟩ := Kd.R_slice HR.out
   have hrun2 : runD l (l.length + 1) 0 [] = .ok ps := by
    rw [HRUN.out]
    obtain ⟨n, rfl⟩ : ∃ n, gk = n + 1 := ⟨gk - 1, by omega⟩
    conv => lhs; unfold runD
    rw [if_neg hlt]
   have HDE := Lh (decD_ok hrun2)
   clear hrun2
   have hd : ¬ (0 : Int) < ((l.length - p : Nat) : Int) := by omega
   have hlf := Lh (left_calls wr (w.heap.size + 3) A l.length c p (blk_cell HLS.out.out 0) (blk_cell HLS.out.out 1) hp hn)
   generalize l.length - p = d at *
   go_wp2_with fail
   refine hlf.out.mono ?_
   rintro e w1 ⟨rfl, ⟨m, rfl⟩⟩
   obtain ⟨h0, h1, h2⟩ := w3_kept (pw_below_drewN HB.out m)
   have hl := blk_drewN HLS.out.out m
   have HB1 := Lh (pw_below_drewN HB.out m)
   have HR1 := Lh (Kd.R_drewN HR.out m)
   generalize wr.drewN m = W1 at *
   replace hl : W1.heap[w.heap.size + 1 + 1 + 1]? = _ := hl
   replace h2 : W1.heap[w.heap.size + 1 + 1]? = _ := h2
   have k0 := blk_cell h0 0
   have k1 := blk_cell h1 0
   have k2 := blk_cell h2 0
   have k3 := blk_cell hl 2
   have f0 := blk_frozen h0 0
   have f1 := blk_frozen h1 0
   have f2 := blk_frozen h2 0
   have H0 := Lh h0
   have H1 := Lh h1
   have H2 := Lh h2
   have HL := Lh hl
   clear h0 h1 h2 hl
   go_wp2
   refine leaves_cons (f := 107) (args := #[.pointer (some ⟨w.heap.size, 0, none⟩), .pointer (some ⟨w.heap.size + 1, 0, none⟩), .pointer (some ⟨w.heap.size + 1 + 1, 0, none⟩)]) (by simp) (by simp [go_sem]) ?_
   refine (catch_idle _ _ _ _).mono ?_
   rintro e u' w'' ⟨rfl, rfl, rfl⟩
   have q0 := blk_far (p := ⟨w.heap.size + 1 + 1, 0, none⟩) (blk_far (p := ⟨w.heap.size + 1, 0, none⟩) (blk_put H0.out 0 (.slice Av ps.length cv) rfl) (by dsimp only; omega) (.int .i64 0)) (by dsimp only; omega) (.int .i64 0)
   have q1 := blk_far (p := ⟨w.heap.size + 1 + 1, 0, none⟩) (blk_put (blk_far (p := ⟨w.heap.size, 0, none⟩) H1.out (by dsimp only; omega) (.slice Av ps.length cv)) 0 (.int .i64 0) rfl) (by dsimp only; omega) (.int .i64 0)
   have q2 := blk_put (blk_far (p := ⟨w.heap.size + 1, 0, none⟩) (blk_far (p := ⟨w.heap.size, 0, none⟩) H2.out (by dsimp only; omega) (.slice Av ps.length cv)) (by dsimp only; omega) (.int .i64 0)) 0 (.int .i64 0) rfl
   refine ⟨_, dec_results _ _ _ _ _ _ _ _ rfl rfl rfl q0 q1 q2, .slice Av ps.length cv, ?_, ?_, ?_⟩
   ·rw [HDE.out]
   ·rw [HDE.out]
    have hr := Kd.R_mono (Kd.R_bound HR1.out) (ok' := fun k => w.heap.size + 3 ≤ k) (fun k hk => hk.2.1)
    have hr2 := Kd.R_far (p := ⟨w.heap.size + 1 + 1, 0, none⟩) (Kd.R_far (p := ⟨w.heap.size + 1, 0, none⟩) (Kd.R_far (p := ⟨w.heap.size, 0, none⟩) hr (fun k hk => by dsimp only; omega) (.slice Av ps.length cv)) (fun k hk => by dsimp only; omega) (.int .i64 0)) (fun k hk => by dsimp only; omega) (.int .i64 0)
    exact Kd.R_mono (Kd.R_lower hr2 (by omega)) (fun _ _ => trivial)
   ·have hb1 := w3_out HB1.out
    exact ((hb1.setCell (p := ⟨w.heap.size, 0, none⟩) (Nat.le_refl _) _).setCell (p := ⟨w.heap.size + 1, 0, none⟩) (by dsimp only; omega) _).setCell (p := ⟨w.heap.size + 1 + 1, 0, none⟩) (by dsimp only; omega) _
end Go.Proofs.YtdlamomabonkjaaDoor.ParDec
end
section
namespace Go.Proofs.YtdlamomabonkjaaDoor.Ch
open Go.RowKit YtdlamomabonkjaaDoorW.PrintWords Base PCh
def be (l : List UInt8) : Nat := l.foldl (fun a b => a * 256 + b.toNat) 0
def errE (code : Int) : Ending := .panicked [{ v := .iface 28 (.int .i64 code), recovered := false }]
def RS (w0 w : World) (g : Nat) (v : List UInt8) : Prop := ∃ A c, w.heap[g]? = some (.cells #[.slice A v.length c] 133 (0, 0)) ∧ v.length ≤ c ∧ byte.C w0 A v.length v
theorem RS.only {w0 w w' : World} {g : Nat} {v : List UInt8} {S : Nat → Prop} (h : RS w0 w g v) (o : Only S w w') (hg : ¬ S g) : RS w0 w' g v := by
 obtain ⟨A, c, hb, hc, hC⟩ := h
 exact ⟨A, c, o.blk hb hg, hc, hC⟩
theorem RS.lt {w0 w : World} {g : Nat} {v : List UInt8} (h : RS w0 w g v) : g < w.heap.size := by
 obtain ⟨A, c, hb, hc, hC⟩ := h
 exact blk_lt hb
theorem need_ok (w0 w : World) (g n : Nat) (v : List UInt8) (hs : RS w0 w g v) (hn : n ≤ v.length) (hv : v.length ≤ 140737488355328) :
  Calls Tryd.prog 103 #[.pointer (some ⟨g, 0, none⟩), .int .i64 (n : Int)] w fun e w' => ∃ A c, e = .returned (.slice A (v.take n).length c) ∧ (v.take n).length ≤ c ∧ byte.C w0 A (v.take n).length (v.take n) ∧ RS w0 w' g (v.drop n) ∧ Only (· = g) w w' := by
 obtain ⟨A, c, hb, hc, hC⟩ := hs
 obtain ⟨ht1, ht2, ht3⟩ := take_bytes hC hc n (n : Int) rfl hn
 obtain ⟨A2, hd1, hd2, hd3⟩ := drop_bytes hC hc n (n : Int) rfl hn
 have k0 : w.cell? ⟨g, 0, none⟩ = some (.slice A v.length c) := blk_cell hb 0
 have f0 := blk_frozen hb 0
 have hlt : ¬ (v.length : Int) < (n : Int) := by omega
 have HP := Lh (show ∃ A' c', Ending.returned (.slice A (v.take n).length c) = .returned (.slice A' (v.take n).length c') ∧ (v.take n).length ≤ c' ∧ byte.C w0 A' (v.take n).length (v.take n) ∧ RS w0 (w.setCell ⟨g, 0, none⟩ (.slice A2 (v.drop n).length (c - n))) g (v.drop n) ∧ Only (· = g) w (w.setCell ⟨g, 0, none⟩ (.slice A2 (v.drop n).length (c - n))) from
  ⟨A, c, rfl, ht3, ht2, ⟨A2, c - n, blk_put hb 0 _ rfl, hd3, hd2⟩, (Only.refl (· = g) w).setCell (fun _ => rfl) _⟩)
 clear hb hc hC ht2 ht3 hd2 hd3 hn
 generalize c - n = c2 at *
 generalize v.take n = v1 at *
 generalize v.drop n = v2 at *
 generalize v1.length = n1 at *
 generalize v2.length = n2 at *
 generalize v.length = n0 at *
 go_enter Tryd.func103, Tryd.ntmps103
 go_wp2
 go_ret
 exact HP.out
theorem need_bad (w0 w : World) (g n : Nat) (v : List UInt8) (hs : RS w0 w g v) (hn : v.length < n) (hv : v.length ≤ 140737488355328) :
  Calls Tryd.prog 103 #[.pointer (some ⟨g, 0, none⟩), .int .i64 (n : Int)] w fun e w' => e = errE 61 ∧ w' = w := by
 obtain ⟨A, c, hb, hc, hC⟩ := hs
 have k0 : w.cell? ⟨g, 0, none⟩ = some (.slice A v.length c) := blk_cell hb 0
 have hlt : (v.length : Int) < (n : Int) := by omega
 clear hb hc hC hn
 generalize v.length = n0 at *
 unfold errE
 go_enter Tryd.func103, Tryd.ntmps103
 go_wp2
 exact ⟨rfl, rfl, rfl⟩
theorem or16 (x y : UInt8) : bits .or .u16 ((x.toNat : Int) * 256) (y.toNat : Int) = ((x.toNat * 256 + y.toNat : Nat) : Int) := by
 have hx : x.toNat < 256 := x.toNat_lt
 have hy : y.toNat < 256 := y.toNat_lt
 have h := (bits_nat .u16 16 (by decide) (fun n h0 h1 => by simp [IntKind.wrap, IntKind.bits, IntKind.signed]; omega) (x.toNat * 256) y.toNat (by omega) (by omega)).2
 have e : x.toNat * 256 ||| y.toNat = x.toNat * 256 + y.toNat := by
  have := Nat.shiftLeft_add_eq_or_of_lt (i := 8) (b := y.toNat) (by omega) x.toNat
  rw [Nat.shiftLeft_eq] at this
  exact this.symm
 rw [e] at h
 rw [show ((x.toNat : Int) * 256) = ((x.toNat * 256 : Nat) : Int) from (Int.natCast_mul x.toNat 256).symm]
 exact h
theorem or32 (x y : Nat) (hx : x < 65536) (hy : y < 65536) : bits .or .u32 ((x : Int) * 65536) (y : Int) = ((x * 65536 + y : Nat) : Int) := by
 have h := (bits_nat .u32 32 (by decide) (fun n h0 h1 => by simp [IntKind.wrap, IntKind.bits, IntKind.signed]; omega) (x * 65536) y (by omega) (by omega)).2
 have e : x * 65536 ||| y = x * 65536 + y := by
  have := Nat.shiftLeft_add_eq_or_of_lt (i := 16) (b := y) (by omega) x
  rw [Nat.shiftLeft_eq] at this
  exact this.symm
 rw [e] at h
 rw [show ((x : Int) * 65536) = ((x * 65536 : Nat) : Int) from (Int.natCast_mul x 65536).symm]
 exact h
theorem be_two (a b : UInt8) : be [a, b] = a.toNat * 256 + b.toNat := by simp [be]
theorem take_two {v : List UInt8} (h : 2 ≤ v.length) : ∃ a b r, v = a :: b :: r := by
 match v, h with
 | a :: b :: r, _ => exact ⟨a, b, r, rfl⟩
theorem two_ok (w0 w : World) (g : Nat) (v : List UInt8) (hs : RS w0 w g v) (hB : Below w0.heap.size w0 w) (hg : w0.heap.size ≤ g) (hn : 2 ≤ v.length) (hv : v.length ≤ 140737488355328) :
  Calls Tryd.prog 97 #[.pointer (some ⟨g, 0, none⟩)] w fun e w' => e = .returned (.int .u16 (be (v.take 2) : Nat)) ∧ RS w0 w' g (v.drop 2) ∧ Only (· = g) w w' := by
 have HN := Lh (need_ok w0 w g 2 v hs hn hv)
 obtain ⟨a, b, r, rfl⟩ := take_two hn
 have e0 : (a :: b :: r).take 2 = [a, b] := rfl
 have e1 : (a :: b :: r).drop 2 = r := rfl
 rw [e0, e1] at HN
 rw [e0, e1, be_two]
 have hor := or16 a b
 have HB := Lh hB
 clear hs hn hv e0 e1 hB
 generalize a.toNat * 256 + b.toNat = q at *
 go_enter Tryd.func97, Tryd.ntmps97
 go_wp2_with fail
 refine HN.out.mono ?_
 rintro e w1 ⟨A, c, rfl, hc, hC, hR, hO⟩
 have hC1 := Kd.C_below hC (HB.out.trans (hO.below HB.out.size (fun k hk => by omega)))
 obtain ⟨ad, rfl, x0⟩ := byte_at hC1 0 (by simp)
 obtain ⟨ad', e', x1⟩ := byte_at hC1 1 (by simp)
 cases e'
 have HR := Lh hR
 have HO := Lh hO
 have hx : a.toNat < 256 := a.toNat_lt
 have hy : b.toNat < 256 := b.toNat_lt
 replace x0 : w1.cell? ad = some (.int .u8 (a.toNat : Int)) := x0
 replace x1 : w1.cell? ⟨ad.block, ad.off + 1, none⟩ = some (.int .u8 (b.toNat : Int)) := by
  rw [show ad.add 1 = ad.add (0 + 1) from rfl, add_field _ _ 1 (by omega)] at x1
  exact x1
 have hw1 : IntKind.u16.wrap (a.toNat : Int) = (a.toNat : Int) := by simp [IntKind.wrap, IntKind.bits, IntKind.signed]; omega
 have hw2 : IntKind.u16.wrap (b.toNat : Int) = (b.toNat : Int) := by simp [IntKind.wrap, IntKind.bits, IntKind.signed]; omega
 have hw3 : IntKind.u16.wrap ((a.toNat : Int) * 256) = (a.toNat : Int) * 256 := by simp [IntKind.wrap, IntKind.bits, IntKind.signed]; omega
 rw [show [a, b].length = 2 from rfl] at *
 clear hC1 hC hR hO
 generalize (a.toNat : Int) = x at *
 generalize (b.toNat : Int) = y at *
 go_wp2
 go_quiet (fail)
 go_wp2
 go_ret
 exact ⟨rfl, by first | exact HR.out.only ((Only.refl (fun _ => False) _).drewN _) id | exact HR.out, by first | exact HO.out.drewN _ | exact HO.out⟩
theorem two_bad (w0 w : World) (g : Nat) (v : List UInt8) (hs : RS w0 w g v) (hn : v.length < 2) (hv : v.length ≤ 140737488355328) :
  Calls Tryd.prog 97 #[.pointer (some ⟨g, 0, none⟩)] w fun e w' => e = errE 61 ∧ w' = w := by
 have HN := Lh (need_bad w0 w g 2 v hs hn hv)
 clear hs hn hv
 unfold errE at *
 go_enter Tryd.func97, Tryd.ntmps97
 go_wp2_with fail
 refine HN.out.mono ?_
 rintro e w1 ⟨rfl, rfl⟩
 exact ⟨rfl, rfl, rfl⟩
theorem be_four (a b c d : UInt8) : be [a, b, c, d] = (a.toNat * 256 + b.toNat) * 65536 + (c.toNat * 256 + d.toNat) := by simp [be]; omega
theorem take_four {v : List UInt8} (h : 4 ≤ v.length) : ∃ a b c d r, v = a :: b :: c :: d :: r := by
 match v, h with
 | a :: b :: c :: d :: r, _ => exact ⟨a, b, c, d, r, rfl⟩
theorem four_ok (w0 w : World) (g : Nat) (v : List UInt8) (hs : RS w0 w g v) (hB : Below w0.heap.size w0 w) (hg : w0.heap.size ≤ g) (hn : 4 ≤ v.length) (hv : v.length ≤ 140737488355328) :
  Calls Tryd.prog 96 #[.pointer (some ⟨g, 0, none⟩)] w fun e w' => e = .returned (.int .u32 (be (v.take 4) : Nat)) ∧ RS w0 w' g (v.drop 4) ∧ Only (· = g) w w' := by
 have H1 := Lh (two_ok w0 w g v hs hB hg (by omega) hv)
 have H2 := Lh (fun (W : World) (h : RS w0 W g (v.drop 2)) (hO : Only (· = g) w W) => two_ok w0 W g (v.drop 2) h (hB.trans (hO.below hB.size (fun k hk => by omega))) hg (by rw [List.length_drop]; omega) (by rw [List.length_drop]; omega))
 obtain ⟨a, b, c, d, r, rfl⟩ := take_four hn
 have e0 : (a :: b :: c :: d :: r).take 2 = [a, b] := rfl
 have e1 : ((a :: b :: c :: d :: r).drop 2).take 2 = [c, d] := rfl
 have e2 : ((a :: b :: c :: d :: r).drop 2).drop 2 = r := rfl
 have e3 : (a :: b :: c :: d :: r).take 4 = [a, b, c, d] := rfl
 have e4 : (a :: b :: c :: d :: r).drop 4 = r := rfl
 rw [e0, be_two] at H1
 rw [e1, e2, be_two] at H2
 rw [e3, e4, be_four]
 have ha : a.toNat < 256 := a.toNat_lt
 have hb : b.toNat < 256 := b.toNat_lt
 have hc : c.toNat < 256 := c.toNat_lt
 have hd : d.toNat < 256 := d.toNat_lt
 have hx : a.toNat * 256 + b.toNat < 65536 := by omega
 have hy : c.toNat * 256 + d.toNat < 65536 := by omega
 clear hs hn hv e0 e1 e2 e3 e4 hB ha hb hc hd
 generalize a.toNat * 256 + b.toNat = x at *
 generalize c.toNat * 256 + d.toNat = y at *
 have hor := or32 x y hx hy
 have hw1 : IntKind.u32.wrap (x : Int) = (x : Int) := by simp [IntKind.wrap, IntKind.bits, IntKind.signed]; omega
 have hw2 : IntKind.u32.wrap (y : Int) = (y : Int) := by simp [IntKind.wrap, IntKind.bits, IntKind.signed]; omega
 have hw3 : IntKind.u32.wrap ((x : Int) * 65536) = (x : Int) * 65536 := by simp [IntKind.wrap, IntKind.bits, IntKind.signed]; omega
 generalize x * 65536 + y = q at *
 go_enter Tryd.func96, Tryd.ntmps96
 go_wp2_with fail
 refine H1.out.mono ?_
 rintro e w1 ⟨rfl, hR1, hO1⟩
 have HR1 := Lh hR1
 have HO1 := Lh hO1
 clear hR1 hO1
 go_wp2_with fail
 refine (H2.out w1 HR1.out HO1.out).mono ?_
 rintro e w2 ⟨rfl, hR2, hO2⟩
 have HR2 := Lh hR2
 have HO2 := Lh (HO1.out.trans hO2 (fun k _ h => h))
 clear hR2 hO2
 go_wp2
 go_ret
 exact ⟨rfl, HR2.out, HO2.out⟩
theorem four_bad (w0 w : World) (g : Nat) (v : List UInt8) (hs : RS w0 w g v) (hB : Below w0.heap.size w0 w) (hg : w0.heap.size ≤ g) (hn : v.length < 4) (hv : v.length ≤ 140737488355328) :
  Calls Tryd.prog 96 #[.pointer (some ⟨g, 0, none⟩)] w fun e w' => e = errE 61 ∧ Only (· = g) w w' := by
 by_cases h2 : v.length < 2
 ·have H1 := Lh (two_bad w0 w g v hs h2 hv)
  unfold errE at *
  clear hs hn hv hB
  go_enter Tryd.func96, Tryd.ntmps96
  go_wp2_with fail
  refine H1.out.mono ?_
  rintro e w1 ⟨rfl, rfl⟩
  exact ⟨rfl, rfl, Only.refl _ _⟩
 ·have H1 := Lh (two_ok w0 w g v hs hB hg (by omega) hv)
  have H2 := Lh (fun (W : World) (h : RS w0 W g (v.drop 2)) => two_bad w0 W g (v.drop 2) h (by rw [List.length_drop]; omega) (by rw [List.length_drop]; omega))
  unfold errE at *
  clear hs hn hv hB
  generalize be (v.take 2) = x at *
  generalize v.drop 2 = v2 at *
  have hw1 := True.intro
  go_enter Tryd.func96, Tryd.ntmps96
  go_wp2_with fail
  refine H1.out.mono ?_
  rintro e w1 ⟨rfl, hR1, hO1⟩
  have HO1 := Lh hO1
  have HR1 := Lh hR1
  clear hO1 hR1
  go_wp2_with fail
  refine (H2.out w1 HR1.out).mono ?_
  rintro e w2 ⟨rfl, rfl⟩
  exact ⟨rfl, rfl, HO1.out⟩
end Go.Proofs.YtdlamomabonkjaaDoor.Ch
end
section
namespace Go.Proofs.YtdlamomabonkjaaDoor.Ch
open Go.RowKit YtdlamomabonkjaaDoorW.PrintWords YtdlamomabonkjaaDoorW.PrintLast Base PCh
theorem only_below {w0 w w' : World} {g : Nat} (hB : Below w0.heap.size w0 w) (hg : w0.heap.size ≤ g) (h : Only (· = g) w w') : Below w0.heap.size w0 w' := hB.trans (h.below hB.size (fun k hk => by omega))
def readerAllT1 : Bool × List (List Nat × List Nat) := (true, [([], []), ([0], [0]), ([1], [1]), ([], []), ([3], [3]), ([4], [4]), ([5], [5]), ([6], [6]), ([7], [7]), ([2, 8], [2, 8]), ([9, 9], [9]), ([10, 10, 0, 1, 2, 3, 4, 5, 6, 7, 8, 9, 10], [10])])
def readerAllB1 : List Nat := [0, 1, 3, 0, 8, 24, 56, 120, 248, 511, 1023, 2047]
theorem readerAlltab1 : Go.Proofs.YtdlamomabonkjaaDoorW.PrintLast.rtab .any (Go.Proofs.YtdlamomabonkjaaDoorW.PrintLast.opsOf Tryd.f98 1) = readerAllT1 := by kernel_rfl
theorem readerAllbits1 : Go.Proofs.YtdlamomabonkjaaDoorW.PrintLast.waitsOk readerAllT1.2 readerAllB1 = true := by kernel_rfl
set_option maxHeartbeats 1000000 in
theorem all_calls (w0 w : World) (g : Nat) (v : List UInt8) (hs : RS w0 w g v) (hB : Below w0.heap.size w0 w) (hg : w0.heap.size ≤ g) (hv : v.length ≤ 140737488355328) :
  Calls Tryd.prog 98 #[.pointer (some ⟨g, 0, none⟩)] w fun e w' => ∃ u, e = .returned u ∧ byte.R 5 w' w.heap.size (fun _ => True) u v ∧ RS w0 w' g [] ∧ Only (· = g) w w' := by
 have HN := Lh (fun (W : World) (h : RS w0 W g v) => need_ok w0 W g v.length v h (Nat.le_refl _) hv)
 rw [List.take_length, List.drop_length] at HN
 have HCL := Lh (fun (W : World) (A : Option Addr) (c : Nat) (hW : Only (· = g) w W) (h : byte.C w0 A v.length v) => clone_calls A c v W (Kd.C_below h (only_below hB hg hW)) hv)
 unfold RetR at HCL
 obtain ⟨A, c, hb, hc, hC⟩ := hs
 have HB := Lh hb
 have HC := Lh (fun (W : World) (h : W.heap[g]? = some (.cells #[.slice A v.length c] 133 (0, 0))) => (show RS w0 W g v from ⟨A, c, h, hc, hC⟩))
 clear hb hc hC hB hg
 go_enter Tryd.func98, Tryd.ntmps98
 go_upto_region 1 with (fail)
 have B := True.intro
 have S := True.intro
 refine start_ (n := 12) (S := fun w' => True) (ds := []) #[false, false, false, false, false, false, false, false, false, false, false, false] (by kernel_rfl) rfl rfl trivial (fun hHeld => ?_)
 refine with_tabW readerAlltab1 readerAllbits1 (fun HT_ HW_ => ?_)
 refine pu 0 3 ?_ rfl rfl (any_of HT_.out (by kernel_rfl)) (fun _ _ _ h => h) (by rfl) ?_ ?_ ?_ ?_
 rotate_left
 ·intro w'
  go_simp
  with_reducible rfl
 rotate_left
 ·simp only [sL]
  rfl
 refine pu 3 6 ?_ rfl rfl (any_of HT_.out (by kernel_rfl)) (fun _ _ _ h => h) (by rfl) ?_ ?_ ?_ ?_
 rotate_left
 ·intro w'
  go_simp
  with_reducible rfl
 rotate_left
 ·simp only [sL]
  rfl
 refine inv_at [1, 2, 4, 5, 6, 7, 8, 9, 10, 11] (fun a0_ b a w' => ∃ (A9 : Option Addr) (c9 : Nat) (v9 : Value) (m9_ : Value) (m11_ : Value), a = putSel a0_ b [(1, 4, .pointer (some ⟨g, 0, none⟩)), (2, 5, .pointer (some ⟨g, 0, none⟩)), (4, 7, .pointer (some ⟨g, 0, none⟩)), (5, 8, .pointer (some ⟨g, 0, none⟩)), (6, 9, .pointer (some ⟨g, 0, none⟩)), (7, 10, .slice A v.length c), (8, 11, .int .i64 (v.length : Int)), (9, 12, m9_), (10, 13, v9), (11, 2, m11_)] ∧ (Only (· = g) w w') ∧ (b 9 = false → w'.heap[g]? = some (.cells #[.slice A v.length c] 133 (0, 0))) ∧ (b 9 = true → RS w0 w' g []) ∧ (b 9 = true → byte.C w0 A9 v.length v) ∧ (b 10 = true → byte.R 5 w' w.heap.size (fun _ => True) v9 v) ∧ (b 9 = true → (m9_ : Value) = .slice A9 v.length c9) ∧ (b 11 = true → (m11_ : Value) = v9)) HT_.out HW_.out (by kernel_rfl) (by kernel_rfl) ?_ ?_ ?_
 ·exact ⟨none, 0, .bool false, .bool false, .bool false, by simp only [putSel, Bool.false_eq_true, if_false], (Only.refl _ _).drew, fun _ => HB.out, fun h_ => absurd h_ (by decide), fun h_ => absurd h_ (by decide), fun h_ => absurd h_ (by decide), fun h_ => absurd h_ (by decide), fun h_ => absurd h_ (by decide)⟩
 ·skip
  clear B S
  refine sc rfl ?_ ?_
  ·rintro b a w' ⟨A9, c9, v9, m9_, m11_, ha, Q_B, Q_S, Q_R, Q_C, Q_Z, Q_X9_, Q_X11_⟩ hb_ hon hoff K hK
   have e3 : a.tmps[3]? = some (.pointer (some ⟨g, 0, none⟩)) := by rw [ha]; exact (putSel_off rfl).trans rfl
   replace ha := Am ha
   refine value_ (w1 := w') (v := .pointer (some ⟨g, 0, none⟩)) (by rfl) rfl ?_ ?_
   ·go_simp
    (try simp only [i64_w])
    try rfl
   refine hK.out _ _ ⟨A9, c9, v9, m9_, m11_, (puk ha 0 hb_ rfl rfl rfl), Q_B, Q_S, fun h0_ => hof (hoff 9 (by kernel_rfl)) h0_, fun h0_ => hof (hoff 9 (by kernel_rfl)) h0_, fun h0_ => hof (hoff 10 (by kernel_rfl)) h0_, fun h0_ => hof (hoff 9 (by kernel_rfl)) h0_, fun h0_ => hof (hoff 11 (by kernel_rfl)) h0_⟩
  refine sc rfl ?_ ?_
  ·rintro b a w' ⟨A9, c9, v9, m9_, m11_, ha, Q_B, Q_S, Q_R, Q_C, Q_Z, Q_X9_, Q_X11_⟩ hb_ hon hoff K hK
   have e4 := psn ha 0 rfl rfl (hon 1 (by kernel_rfl)) rfl
   replace ha := Am ha
   refine value_ (w1 := w') (v := .pointer (some ⟨g, 0, none⟩)) (by rfl) rfl ?_ ?_
   ·go_simp
    (try simp only [i64_w])
    try rfl
   refine hK.out _ _ ⟨A9, c9, v9, m9_, m11_, (puk ha 1 hb_ rfl rfl rfl), Q_B, Q_S, fun h0_ => hof (hoff 9 (by kernel_rfl)) h0_, fun h0_ => hof (hoff 9 (by kernel_rfl)) h0_, fun h0_ => hof (hoff 10 (by kernel_rfl)) h0_, fun h0_ => hof (hoff 9 (by kernel_rfl)) h0_, fun h0_ => hof (hoff 11 (by kernel_rfl)) h0_⟩
  refine sc rfl ?_ ?_
  ·rintro b a w' ⟨A9, c9, v9, m9_, m11_, ha, Q_B, Q_S, Q_R, Q_C, Q_Z, Q_X9_, Q_X11_⟩ hb_ hon hoff K hK
   have e6 : a.tmps[6]? = some (.pointer (some ⟨g, 0, none⟩)) := by rw [ha]; exact (putSel_off rfl).trans rfl
   replace ha := Am ha
   refine value_ (w1 := w') (v := .pointer (some ⟨g, 0, none⟩)) (by rfl) rfl ?_ ?_
   ·go_simp
    (try simp only [i64_w])
    try rfl
   refine hK.out _ _ ⟨A9, c9, v9, m9_, m11_, (puk ha 2 hb_ rfl rfl rfl), Q_B, Q_S, fun h0_ => hof (hoff 9 (by kernel_rfl)) h0_, fun h0_ => hof (hoff 9 (by kernel_rfl)) h0_, fun h0_ => hof (hoff 10 (by kernel_rfl)) h0_, fun h0_ => hof (hoff 9 (by kernel_rfl)) h0_, fun h0_ => hof (hoff 11 (by kernel_rfl)) h0_⟩
  refine sc rfl ?_ ?_
  ·rintro b a w' ⟨A9, c9, v9, m9_, m11_, ha, Q_B, Q_S, Q_R, Q_C, Q_Z, Q_X9_, Q_X11_⟩ hb_ hon hoff K hK
   have e7 := psn ha 2 rfl rfl (hon 4 (by kernel_rfl)) rfl
   replace ha := Am ha
   refine value_ (w1 := w') (v := .pointer (some ⟨g, 0, none⟩)) (by rfl) rfl ?_ ?_
   ·go_simp
    (try simp only [i64_w])
    try rfl
   refine hK.out _ _ ⟨A9, c9, v9, m9_, m11_, (puk ha 3 hb_ rfl rfl rfl), Q_B, Q_S, fun h0_ => hof (hoff 9 (by kernel_rfl)) h0_, fun h0_ => hof (hoff 9 (by kernel_rfl)) h0_, fun h0_ => hof (hoff 10 (by kernel_rfl)) h0_, fun h0_ => hof (hoff 9 (by kernel_rfl)) h0_, fun h0_ => hof (hoff 11 (by kernel_rfl)) h0_⟩
  refine sc rfl ?_ ?_
  ·rintro b a w' ⟨A9, c9, v9, m9_, m11_, ha, Q_B, Q_S, Q_R, Q_C, Q_Z, Q_X9_, Q_X11_⟩ hb_ hon hoff K hK
   have e8 := psn ha 3 rfl rfl (hon 5 (by kernel_rfl)) rfl
   replace ha := Am ha
   refine value_ (w1 := w') (v := .pointer (some ⟨g, 0, none⟩)) (by rfl) rfl ?_ ?_
   ·go_simp
    (try simp only [i64_w])
    try rfl
   refine hK.out _ _ ⟨A9, c9, v9, m9_, m11_, (puk ha 4 hb_ rfl rfl rfl), Q_B, Q_S, fun h0_ => hof (hoff 9 (by kernel_rfl)) h0_, fun h0_ => hof (hoff 9 (by kernel_rfl)) h0_, fun h0_ => hof (hoff 10 (by kernel_rfl)) h0_, fun h0_ => hof (hoff 9 (by kernel_rfl)) h0_, fun h0_ => hof (hoff 11 (by kernel_rfl)) h0_⟩
  refine sc rfl ?_ ?_
  ·rintro b a w' ⟨A9, c9, v9, m9_, m11_, ha, Q_B, Q_S, Q_R, Q_C, Q_Z, Q_X9_, Q_X11_⟩ hb_ hon hoff K hK
   have e9 := psn ha 4 rfl rfl (hon 6 (by kernel_rfl)) rfl
   replace ha := Am ha
   have S := Am (Q_S (hoff 9 (by kernel_rfl)))
   have hs := blk_cell S.out 0
   refine value_ (w1 := w') (v := .slice A v.length c) (by rfl) rfl ?_ ?_
   ·go_simp
    (try simp only [i64_w])
    try rfl
   refine hK.out _ _ ⟨A9, c9, v9, m9_, m11_, (puk ha 5 hb_ rfl rfl rfl), Q_B, Q_S, fun h0_ => hof (hoff 9 (by kernel_rfl)) h0_, fun h0_ => hof (hoff 9 (by kernel_rfl)) h0_, fun h0_ => hof (hoff 10 (by kernel_rfl)) h0_, fun h0_ => hof (hoff 9 (by kernel_rfl)) h0_, fun h0_ => hof (hoff 11 (by kernel_rfl)) h0_⟩
  refine sc rfl ?_ ?_
  ·rintro b a w' ⟨A9, c9, v9, m9_, m11_, ha, Q_B, Q_S, Q_R, Q_C, Q_Z, Q_X9_, Q_X11_⟩ hb_ hon hoff K hK
   have e10 := psn ha 5 rfl rfl (hon 7 (by kernel_rfl)) rfl
   replace ha := Am ha
   refine value_ (w1 := w') (v := .int .i64 (v.length : Int)) (by rfl) rfl ?_ ?_
   ·go_simp
    (try simp only [i64_w])
    try rfl
   refine hK.out _ _ ⟨A9, c9, v9, m9_, m11_, (puk ha 6 hb_ rfl rfl rfl), Q_B, Q_S, fun h0_ => hof (hoff 9 (by kernel_rfl)) h0_, fun h0_ => hof (hoff 9 (by kernel_rfl)) h0_, fun h0_ => hof (hoff 10 (by kernel_rfl)) h0_, fun h0_ => hof (hoff 9 (by kernel_rfl)) h0_, fun h0_ => hof (hoff 11 (by kernel_rfl)) h0_⟩
  refine sc rfl ?_ ?_
  ·rintro b a w' ⟨A9, c9, v9, m9_, m11_, ha, Q_B, Q_S, Q_R, Q_C, Q_Z, Q_X9_, Q_X11_⟩ hb_ hon hoff K hK
   have e5 := psn ha 1 rfl rfl (hon 2 (by kernel_rfl)) rfl
   have e11 := psn ha 6 rfl rfl (hon 8 (by kernel_rfl)) rfl
   replace ha := Am ha
   have B := Am Q_B
   have S := Am (Q_S hb_)
   refine goes_ Tryd.func103 (by kernel_rfl) rfl #[.pointer (some ⟨g, 0, none⟩), .int .i64 (v.length : Int)] (by rfl) rfl rfl (by first | (simp only [List.map_toArray, List.map_cons, List.map_nil, Act.eval, Array.getD_eq_getD_getElem?, Option.getD_some, e5, e11]; done) | (simp only [List.map_toArray, List.map_cons, List.map_nil, Act.eval, Array.getD_eq_getD_getElem?, Option.getD_some, e5, e11]; rfl)) ?_
   refine (HN.out w' (HC.out w' S.out)).mono ?_
   rintro e w1 ⟨A1, c1, rfl, hle1, hC1, hR1, hO1⟩
   refine ⟨_, rfl, ?_⟩
   refine hK.out _ _ ⟨A1, c1, v9, (.slice A1 v.length c1), m11_, (puk ha 7 hb_ rfl rfl rfl), B.out.trans hO1 (fun k _ h => h), fun h0_ => absurd ((up_self b 9).symm.trans h0_) (by decide), fun _ => hR1, fun _ => hC1, fun h0_ => hof (hoff 10 (by kernel_rfl)) h0_, fun _ => rfl, fun h0_ => hof (hoff 11 (by kernel_rfl)) h0_⟩
  refine sc rfl ?_ ?_
  ·rintro b a w' ⟨A9, c9, v9, m9_, m11_, ha, Q_B, Q_S, Q_R, Q_C, Q_Z, Q_X9_, Q_X11_⟩ hb_ hon hoff K hK
   have e12 := psn ha 7 rfl rfl (hon 9 (by kernel_rfl)) rfl
   rw [Q_X9_ (hon 9 (by kernel_rfl))] at e12
   replace ha := Am ha
   have B := Am Q_B
   have R := Am (Q_R (hon 9 (by kernel_rfl)))
   have C := Am (Q_C (hon 9 (by kernel_rfl)))
   refine goes_ Tryd.func55 (by kernel_rfl) rfl #[.slice A9 v.length c9] (by rfl) rfl rfl (by first | (simp only [List.map_toArray, List.map_cons, List.map_nil, Act.eval, Array.getD_eq_getD_getElem?, Option.getD_some, e12]; done) | (simp only [List.map_toArray, List.map_cons, List.map_nil, Act.eval, Array.getD_eq_getD_getElem?, Option.getD_some, e12]; rfl)) ?_
   refine (HCL.out w' A9 c9 B.out C.out).mono ?_
   rintro e w1 ⟨u1, rfl, hR1, hB1⟩
   refine ⟨_, rfl, ?_⟩
   refine hK.out _ _ ⟨A9, c9, u1, m9_, m11_, (puk ha 8 hb_ rfl rfl rfl), B.out.trans (Only.of_below (S := (· = g)) hB1) (fun k _ h => h), fun h0_ => absurd ((hon 9 (by kernel_rfl)).symm.trans h0_) (by decide), fun _ => R.out.only (Only.of_below (S := fun _ => False) hB1) id, fun _ => C.out, fun _ => Kd.R_lower hR1 B.out.size, Q_X9_, fun h0_ => hof (hoff 11 (by kernel_rfl)) h0_⟩
  refine sc rfl ?_ ?_
  ·rintro b a w' ⟨A9, c9, v9, m9_, m11_, ha, Q_B, Q_S, Q_R, Q_C, Q_Z, Q_X9_, Q_X11_⟩ hb_ hon hoff K hK
   have e13 := psn ha 8 rfl rfl (hon 10 (by kernel_rfl)) rfl
   replace ha := Am ha
   refine value_ (w1 := w') (v := v9) (by rfl) rfl ?_ ?_
   ·go_simp
    (try simp only [i64_w])
    try rfl
   refine hK.out _ _ ⟨A9, c9, v9, m9_, (v9), (puk ha 9 hb_ rfl rfl rfl), Q_B, fun h0_ => absurd ((hon 9 (by kernel_rfl)).symm.trans h0_) (by decide), Q_R, Q_C, Q_Z, Q_X9_, fun _ => rfl⟩
  exact steps_nil
 rintro b a w' hall ⟨A9, c9, v9, m9_, m11_, ha, Q_B, Q_S, Q_R, Q_C, Q_Z, Q_X9_, Q_X11_⟩
 clear B S
 have hb1_ := hall 1 (by kernel_rfl)
 have hb2_ := hall 2 (by kernel_rfl)
 have hb4_ := hall 4 (by kernel_rfl)
 have hb5_ := hall 5 (by kernel_rfl)
 have hb6_ := hall 6 (by kernel_rfl)
 have hb7_ := hall 7 (by kernel_rfl)
 have hb8_ := hall 8 (by kernel_rfl)
 have hb9_ := hall 9 (by kernel_rfl)
 have hb10_ := hall 10 (by kernel_rfl)
 have hb11_ := hall 11 (by kernel_rfl)
 subst ha
 obtain rfl := Q_X9_ hb9_
 obtain rfl := Q_X11_ hb11_
 simp only [putSel, hb1_, hb2_, hb4_, hb5_, hb6_, hb7_, hb8_, hb9_, hb10_, hb11_, if_true, Act.put, List.setIfInBounds_toArray, List.set_cons_zero, List.set_cons_succ]
 have B := Am Q_B
 clear Q_B
 clear Q_S
 have R := Am (Q_R hb9_)
 clear Q_R
 have C := Am (Q_C hb9_)
 clear Q_C
 have Z := Am (Q_Z hb10_)
 clear Q_Z
 clear hall hb1_ hb2_ hb4_ hb5_ hb6_ hb7_ hb8_ hb9_ hb10_ hb11_
 have HZ := Lh Z.out
 have HR := Lh R.out
 have HO := Lh B.out
 clear B R C Z HB HC HN HCL
 go_wp2
 go_ret
 exact ⟨_, rfl, HZ.out, HR.out, HO.out⟩
end Go.Proofs.YtdlamomabonkjaaDoor.Ch
end
section
namespace Go.Proofs.YtdlamomabonkjaaDoor.Ch
open Go.RowKit YtdlamomabonkjaaDoorW.PrintWords Base PCh ParDec
theorem R_only {α : Type} {d : Kd α} {e : Nat} {w w' : World} {base : Nat} {ok : Nat → Prop} {v : Value} {xs : List α} {S : Nat → Prop} (h : d.R e w base ok v xs) (o : Only S w w') (hs : ∀ k, base ≤ k → k < w.heap.size → ¬ S k) : d.R e w' base ok v xs :=
 Kd.R_mono (Kd.R_move (Kd.R_bound h) (fun k hk => o.block k hk.2.2.1 (hs k hk.2.1 hk.2.2.1))) (fun k hk => hk.1)
theorem Only.then_ {S : Nat → Prop} {w W W' : World} (h : Only S w W) (hb : Below w.heap.size W W') : Only S w W' :=
 ⟨hb.os.trans h.os, hb.tape.trans h.tape, hb.output.trans h.output, Nat.le_trans h.size hb.size, fun k hk hn => (hb.block k hk).trans (h.block k hk hn)⟩
theorem RS.below {w0 w w' : World} {g B : Nat} {v : List UInt8} (h : RS w0 w g v) (hb : Below B w w') (hg : g < B) : RS w0 w' g v := by
 obtain ⟨A, c, h1, h2, h3⟩ := h
 exact ⟨A, c, (hb.block g hg).trans h1, h2, h3⟩
set_option maxHeartbeats 1000000 in
theorem params_ok (w0 w : World) (g : Nat) (v : List UInt8) (hs : RS w0 w g v) (hB : Below w0.heap.size w0 w) (hg : w0.heap.size ≤ g) (hv : v.length ≤ 140737488355328) (h : (decD v).2.2 = 0) :
  Calls Tryd.prog 99 #[.pointer (some ⟨g, 0, none⟩)] w fun e w' => ∃ u, e = .returned u ∧ Kd.R k72 72 w' w.heap.size (fun _ => True) u (decD v).1 ∧ RS w0 w' g [] ∧ Only (· = g) w w' := by
 have HA := Lh (all_calls w0 w g v hs hB hg hv)
 have HD := Lh (fun (W : World) (A : Option Addr) (c : Nat) (h : byte.C W A v.length v) (hc : v.length ≤ c) => decode_calls W A v c h hc hv)
 unfold DecPost at HD
 rw [h] at HD
 clear hs hB hg hv h
 generalize (decD v).1 = ps at *
 generalize (decD v).2.1 = at_ at *
 go_enter Tryd.func99, Tryd.ntmps99
 go_wp2_with fail
 refine HA.out.mono ?_
 rintro e w1 ⟨u, rfl, hR, hRS, hO⟩
 obtain ⟨A, c, rfl, hle, hC⟩ := Kd.R_reads hR
 have HC := Lh hC
 have HRS := Lh hRS
 have HO := Lh hO
 clear hR hRS hO hC
 go_wp2_with fail
 refine (HD.out w1 A c HC.out hle).mono ?_
 rintro e w2 ⟨u, rfl, hR, hB2⟩
 have HR := Lh (Kd.R_lower hR HO.out.size)
 replace HO := Lh (HO.out.trans (Only.of_below (S := (· = g)) hB2) (fun k _ h => h))
 replace HRS := Lh (HRS.out.only (Only.of_below (S := fun _ => False) hB2) id)
 clear hR hB2 HC HD HA
 go_wp2
 go_ret
 exact ⟨_, rfl, HR.out, HRS.out, HO.out⟩
set_option maxHeartbeats 1000000 in
theorem params_bad (w0 w : World) (g : Nat) (v : List UInt8) (hs : RS w0 w g v) (hB : Below w0.heap.size w0 w) (hg : w0.heap.size ≤ g) (hv : v.length ≤ 140737488355328) (h : (decD v).2.2 ≠ 0) :
  Calls Tryd.prog 99 #[.pointer (some ⟨g, 0, none⟩)] w fun e w' => e = errE (decD v).2.2 ∧ Only (· = g) w w' := by
 have HA := Lh (all_calls w0 w g v hs hB hg hv)
 have HD := Lh (fun (W : World) (A : Option Addr) (c : Nat) (h : byte.C W A v.length v) (hc : v.length ≤ c) => decode_calls W A v c h hc hv)
 unfold DecPost at HD
 unfold errE
 clear hs hB hg hv
 generalize (decD v).1 = ps at *
 generalize (decD v).2.1 = at_ at *
 generalize (decD v).2.2 = code at *
 have hc1 : (code != 0) = true := by simpa using h
 clear h
 go_enter Tryd.func99, Tryd.ntmps99
 go_wp2_with fail
 refine HA.out.mono ?_
 rintro e w1 ⟨u, rfl, hR, hRS, hO⟩
 obtain ⟨A, c, rfl, hle, hC⟩ := Kd.R_reads hR
 have HC := Lh hC
 have HO := Lh hO
 clear hR hRS hO hC
 go_wp2_with fail
 refine (HD.out w1 A c HC.out hle).mono ?_
 rintro e w2 ⟨u, rfl, hR, hB2⟩
 replace HO := Lh (HO.out.trans (Only.of_below (S := (· = g)) hB2) (fun k _ h => h))
 clear hR hB2 HC HD HA
 go_wp2
 exact ⟨rfl, rfl, HO.out⟩
def cntD : Nat → List UInt8 → List Int
 | 0, _ => []
 | n + 1, v => (be (v.take 2) : Int) :: cntD n (v.drop 2)
def gapsD : Nat → List UInt8 → List GapS
 | 0, _ => []
 | n + 1, v => ⟨(be (v.take 2) : Int), (be ((v.drop 2).take 2) : Int)⟩ :: gapsD n (v.drop 4)
def dupsD : Nat → List UInt8 → List Int
 | 0, _ => []
 | n + 1, v => (be (v.take 4) : Int) :: dupsD n (v.drop 4)
theorem cntD_length (n : Nat) (v : List UInt8) : (cntD n v).length = n := by
 induction n generalizing v with
 | zero => rfl
 | succ n ih => simp [cntD, ih]
theorem gapsD_length (n : Nat) (v : List UInt8) : (gapsD n v).length = n := by
 induction n generalizing v with
 | zero => rfl
 | succ n ih => simp [gapsD, ih]
theorem dupsD_length (n : Nat) (v : List UInt8) : (dupsD n v).length = n := by
 induction n generalizing v with
 | zero => rfl
 | succ n ih => simp [dupsD, ih]
def CntP (w0 w : World) (g : Nat) (v : List UInt8) (m : Nat) (e : Ending) (w' : World) : Prop :=
 if 2 * m ≤ v.length then ∃ u, e = .returned u ∧ (Kd.int .u16).R 22 w' w.heap.size (fun _ => True) u (cntD m v) ∧ RS w0 w' g (v.drop (2 * m)) ∧ Only (· = g) w w' else e = errE 61 ∧ Only (· = g) w w'
theorem info_u16 : (Tryd.prog.info? 22).map (fun i => (i.zero, i.size, i.bytes)) = some (some (.int .u16 0), 1, 2) := by kernel_rfl
set_option maxHeartbeats 2000000 in
theorem counts_calls (w0 w : World) (g : Nat) (v : List UInt8) (m : Nat) (hm : m ≤ 4) (hs : RS w0 w g v) (hB : Below w0.heap.size w0 w) (hg : w0.heap.size ≤ g) (hv : v.length ≤ 140737488355328) :
  Calls Tryd.prog 105 #[.pointer (some ⟨g, 0, none⟩), .int .i64 (m : Int)] w (CntP w0 w g v m) := by
 have HS := Lh hs
 have HG := Lh hs.lt
 have HOK := Lh (fun (W : World) (u : List UInt8) (h : RS w0 W g u) (hO : Only (· = g) w W) (h2 : 2 ≤ u.length) (hu : u.length ≤ 140737488355328) => two_ok w0 W g u h (only_below hB hg hO) hg h2 hu)
 have HBAD := Lh (fun (W : World) (u : List UInt8) (h : RS w0 W g u) (h2 : u.length < 2) (hu : u.length ≤ 140737488355328) => two_bad w0 W g u h h2 hu)
 unfold errE at HBAD
 clear hs hB hg
 go_enter Tryd.func105, Tryd.ntmps105
 go_wp2
 go_loopw [5, 7] (fun v5 v7 wr => ∃ (i : Nat) (xs : List Int), i ≤ m ∧ v7 = .int .i64 (i : Int) ∧ 2 * i ≤ v.length ∧ Hid ((Kd.int .u16).R 22 wr w.heap.size (fun _ => True) v5 xs) ∧ Hid (xs ++ cntD (m - i) (v.drop (2 * i)) = cntD m v) ∧ Hid (RS w0 wr g (v.drop (2 * i))) ∧ Hid (Only (· = g) w wr)) (fun _ v7 _ => m - (intOf v7).toNat)
 case atStart => exact ⟨0, [], Nat.zero_le _, rfl, Nat.zero_le _, Kd.R_nil _ _ _ _ _, rfl, HS.out, Only.refl _ _⟩
 case round =>
  clear HS
  obtain ⟨i, xs, hi, rfl, h2i, HR, HE, HRS, HO⟩ := hrel
  obtain ⟨Av, cv, rfl⟩ := Kd.R_slice HR.out
  have hxl : xs.length ≤ 4 := by
   have := congrArg List.length HE.out
   rw [List.length_append, cntD_length, cntD_length] at this
   omega
  by_cases hlt : i < m
  ·have hvl : (v.drop (2 * i)).length ≤ 140737488355328 := by rw [List.length_drop]; omega
   by_cases h2 : 2 ≤ (v.drop (2 * i)).length
   ·have HT := Lh (HOK.out wr (v.drop (2 * i)) HRS.out HO.out h2 hvl)
    have hE := HE.out
    rw [show m - i = (m - (i + 1)) + 1 by omega, cntD] at hE
    have e2 : (v.drop (2 * i)).drop 2 = v.drop (2 * (i + 1)) := by rw [List.drop_drop]; congr 1
    rw [e2] at hE HT
    have hE2 : (xs ++ [(be ((v.drop (2 * i)).take 2) : Int)]) ++ cntD (m - (i + 1)) (v.drop (2 * (i + 1))) = cntD m v := by rw [List.append_assoc]; exact hE
    have h2i' : 2 * (i + 1) ≤ v.length := by rw [List.length_drop] at h2; omega
    generalize (be ((v.drop (2 * i)).take 2) : Int) = q at *
    have HE2 := Lh hE2
    clear hE hE2 HE HRS e2 h2 hvl
    go_wp2_with fail
    refine HT.out.mono ?_
    rintro e w1 ⟨rfl, hRS, hO1⟩
    have HRS := Lh hRS
    replace HO := Lh (HO.out.trans hO1 (fun k _ h => h))
    replace HR := Lh (R_only HR.out hO1 (fun k hk _ e => by have := HG.out; omega))
    clear hRS hO1 HT
    go_wp2_with (at_builtin; go_must (refine Kd.R_append (Kd.int .u16) (w0 := w1) (W := w1) w.heap.size rfl _ _ 113 22 _ 2 rfl Tryd.underlying113 info_u16 rfl (by decide) (by decide) (.slice Av xs.length cv) xs q [.int .u16 q] (fun _ => True) (fun _ => False) rfl rfl rfl (fun _ h => h.elim) (fun _ _ => trivial) HR.out (Below.refl _ _) HO.out.size (by omega) ?_); intro v1 w2 hR1 hB1 hG1 _; have HR1 := Lh hR1; have HO1 := Lh (Only.then_ HO.out hB1); have HRS1 := Lh (HRS.out.below hB1 HG.out); clear hR1 hB1 hG1)
    go_roundw
    case rel => exact ⟨i + 1, xs ++ [q], by omega, by go_num, h2i', HR1, HE2, HRS1, HO1⟩
    case measure => simp [intOf]; omega
   ·have HT := Lh (HBAD.out wr (v.drop (2 * i)) HRS.out (by omega) hvl)
    have hn : ¬ 2 * m ≤ v.length := by rw [List.length_drop] at h2; omega
    have HN := Lh hn
    clear h2 hvl hn HR HE HRS HOK HBAD
    go_wp2_with fail
    refine HT.out.mono ?_
    rintro e w1 ⟨rfl, rfl⟩
    refine ⟨rfl, ?_⟩
    unfold CntP
    rw [if_neg HN.out]
    exact ⟨rfl, HO.out⟩
  ·obtain rfl : i = m := by omega
   have hE := HE.out
   rw [Nat.sub_self, cntD, List.append_nil] at hE
   have HE2 := Lh hE
   clear hE HE HOK HBAD
   go_wp2
   go_ret
   unfold CntP
   rw [if_pos h2i]
   exact ⟨_, rfl, by rw [← HE2.out]; exact HR.out, HRS.out, HO.out⟩
end Go.Proofs.YtdlamomabonkjaaDoor.Ch
end
section
namespace Go.Proofs.YtdlamomabonkjaaDoor.Ch
open Go.RowKit YtdlamomabonkjaaDoorW.PrintWords Base PCh ParDec
set_option maxHeartbeats 2000000 in
theorem rgaps_ok (w0 w : World) (g : Nat) (v : List UInt8) (m : Nat) (hm : m ≤ 4096) (hs : RS w0 w g v) (hB : Below w0.heap.size w0 w) (hg : w0.heap.size ≤ g) (hv : v.length ≤ 140737488355328) (hl : 4 * m ≤ v.length) :
  Calls Tryd.prog 106 #[.pointer (some ⟨g, 0, none⟩), .int .u16 (m : Int)] w fun e w' => ∃ u, e = .returned u ∧ Kd.R k117 117 w' w.heap.size (fun _ => True) u (gapsD m v) ∧ RS w0 w' g (v.drop (4 * m)) ∧ Only (· = g) w w' := by
 have HS := Lh hs
 have HG := Lh hs.lt
 have HOK := Lh (fun (W : World) (u : List UInt8) (h : RS w0 W g u) (hO : Only (· = g) w W) (h2 : 2 ≤ u.length) (hu : u.length ≤ 140737488355328) => two_ok w0 W g u h (only_below hB hg hO) hg h2 hu)
 clear hs hB hg
 go_enter Tryd.func106, Tryd.ntmps106
 go_wp2
 go_loopw [5, 7] (fun v5 v7 wr => ∃ (i : Nat) (xs : List GapS), i ≤ m ∧ v7 = .int .u16 (i : Int) ∧ Hid (Kd.R k117 117 wr w.heap.size (fun _ => True) v5 xs) ∧ Hid (xs ++ gapsD (m - i) (v.drop (4 * i)) = gapsD m v) ∧ Hid (RS w0 wr g (v.drop (4 * i))) ∧ Hid (Only (· = g) w wr)) (fun _ v7 _ => m - (intOf v7).toNat)
 case atStart => exact ⟨0, [], Nat.zero_le _, rfl, Kd.R_nil _ _ _ _ _, rfl, HS.out, Only.refl _ _⟩
 case round =>
  clear HS
  obtain ⟨i, xs, hi, rfl, HR, HE, HRS, HO⟩ := hrel
  obtain ⟨Av, cv, rfl⟩ := Kd.R_slice HR.out
  have hxl : xs.length ≤ 4096 := by
   have := congrArg List.length HE.out
   rw [List.length_append, gapsD_length, gapsD_length] at this
   omega
  by_cases hlt : i < m
  ·have hdl : (v.drop (4 * i)).length = v.length - 4 * i := List.length_drop
   have HT := Lh (HOK.out wr (v.drop (4 * i)) HRS.out HO.out (by omega) (by omega))
   have HT2 := Lh (fun (W : World) (h : RS w0 W g ((v.drop (4 * i)).drop 2)) (hO : Only (· = g) w W) => HOK.out W ((v.drop (4 * i)).drop 2) h hO (by rw [List.length_drop]; omega) (by rw [List.length_drop]; omega))
   have hE := HE.out
   rw [show m - i = (m - (i + 1)) + 1 by omega, gapsD] at hE
   have e4 : (v.drop (4 * i)).drop 4 = v.drop (4 * (i + 1)) := by rw [List.drop_drop]; congr 1
   have e5 : ((v.drop (4 * i)).drop 2).drop 2 = v.drop (4 * (i + 1)) := by rw [List.drop_drop, List.drop_drop]; congr 1
   rw [e4] at hE
   rw [e5] at HT2
   have hE2 : (xs ++ [⟨(be ((v.drop (4 * i)).take 2) : Int), (be (((v.drop (4 * i)).drop 2).take 2) : Int)⟩]) ++ gapsD (m - (i + 1)) (v.drop (4 * (i + 1))) = gapsD m v := by rw [List.append_assoc]; exact hE
   have hw : IntKind.u16.wrap ((i : Int) + 1) = ((i + 1 : Nat) : Int) := by simp [IntKind.wrap, IntKind.bits, IntKind.signed]; omega
   generalize (be ((v.drop (4 * i)).take 2) : Int) = q at *
   generalize (be (((v.drop (4 * i)).drop 2).take 2) : Int) = q2 at *
   generalize (v.drop (4 * i)).drop 2 = vv at *
   have HE2 := Lh hE2
   clear hE hE2 HE HRS e4 e5 hdl
   go_wp2_with fail
   refine HT.out.mono ?_
   rintro e w1 ⟨rfl, hRS, hO1⟩
   have HRS := Lh hRS
   replace HO := Lh (HO.out.trans hO1 (fun k _ h => h))
   replace HR := Lh (R_only HR.out hO1 (fun k hk _ e => by have := HG.out; omega))
   clear hRS hO1 HT
   go_wp2_with fail
   refine (HT2.out w1 HRS.out HO.out).mono ?_
   rintro e w1' ⟨rfl, hRS, hO1⟩
   replace HRS := Lh hRS
   replace HO := Lh (HO.out.trans hO1 (fun k _ h => h))
   replace HR := Lh (R_only HR.out hO1 (fun k hk _ e => by have := HG.out; omega))
   clear hRS hO1 HT2 HOK
   go_wp2_with (at_builtin; go_must (refine Kd.R_append k117 (w0 := w1') (W := w1') w.heap.size rfl _ _ 37 117 _ 4 rfl Tryd.underlying37 info117 rfl (by decide) (by decide) (.slice Av xs.length cv) xs ⟨q, q2⟩ [.int .u16 q, .int .u16 q2] (fun _ => True) (fun _ => False) rfl rfl (k117_mkM _ _ _ _) (fun _ h => h.elim) (fun _ _ => trivial) HR.out (Below.refl _ _) HO.out.size (by omega) ?_); intro v1 w2 hR1 hB1 hG1 _; have HR1 := Lh hR1; have HO1 := Lh (Only.then_ HO.out hB1); have HRS1 := Lh (HRS.out.below hB1 HG.out); clear hR1 hB1 hG1)
   go_roundw
   case rel => exact ⟨i + 1, xs ++ [⟨q, q2⟩], by omega, by first | go_num | exact congrArg _ hw, HR1, HE2, HRS1, HO1⟩
   case measure => simp [intOf]; omega
  ·obtain rfl : i = m := by omega
   have hE := HE.out
   rw [Nat.sub_self, gapsD, List.append_nil] at hE
   have HE2 := Lh hE
   clear hE HE HOK
   go_wp2
   go_ret
   exact ⟨_, rfl, by rw [← HE2.out]; exact HR.out, HRS.out, HO.out⟩
end Go.Proofs.YtdlamomabonkjaaDoor.Ch
end
section
namespace Go.Proofs.YtdlamomabonkjaaDoor.Base
open Go.RowKit YtdlamomabonkjaaDoorW.PrintWords
section
variable {P : Program} {ops : Array Oper} {Q : Exit → Act → World → Prop} {rest : List Oper} {a : Act} {W : World}
theorem step_off {o : Oper} (h : Region.wanted o (yielded ops a.tmps) = false) (k : wpList P ops Q rest (a.put o.dst undef) W) : wpList P ops Q (o :: rest) a W := by
 unfold wpList
 rw [if_neg (by rw [h]; decide)]
 exact k
theorem step_on {o : Oper} {v : Value} {w1 : World} (h : Region.wanted o (yielded ops a.tmps) = true) (hr : (execOp a.eval o).run P W = .ok (.value v) w1) (k : wpList P ops Q rest (a.put o.dst v) w1) : wpList P ops Q (o :: rest) a W := by
 unfold wpList
 rw [if_pos h]
 refine Or.inl ?_
 unfold Oper.wp
 rw [hr]
 exact k
theorem step_in {o : Oper} {f : FuncId} {args : Array Value} {R : World → Prop} {v : Value} (h : Region.wanted o (yielded ops a.tmps) = true) (hr : (execOp a.eval o).run P W = .ok (.enter f args) W) (hc : Calls P f args W fun e w' => e = .returned v ∧ R w') (k : ∀ w', R w' → wpList P ops Q rest (a.put o.dst v) w') : wpList P ops Q (o :: rest) a W := by
 unfold wpList
 rw [if_pos h]
 refine Or.inl ?_
 unfold Oper.wp
 rw [hr, Oper.upon_enter]
 refine hc.mono ?_
 rintro e w' ⟨rfl, hw⟩
 exact k w' hw
theorem wanted_none {o : Oper} (h : o.guard = none) : Region.wanted o (yielded ops a.tmps) = true := by unfold Region.wanted; rw [h]
theorem wanted_on_ {o : Oper} {j p : Nat} {b : Bool} (h : o.guard = some (j, b)) (hj : (ops[j]?).bind (·.dst) = some p) (hp : a.tmps[p]? = some (.bool b)) : Region.wanted o (yielded ops a.tmps) = true := by
 unfold Region.wanted yielded
 rw [h]
 simp [hj, hp]
theorem wanted_off_ {o : Oper} {j p : Nat} {b r : Bool} (h : o.guard = some (j, b)) (hj : (ops[j]?).bind (·.dst) = some p) (hp : a.tmps[p]? = some (.bool r)) (hr : r ≠ b) : Region.wanted o (yielded ops a.tmps) = false := by
 unfold Region.wanted yielded
 rw [h]
 simp [hj, hp, hr]
structure St (a : Act) (N : Nat) (X Y : Value) (p : Nat) (r : Bool) : Prop where
 size : a.tmps.size = N
 defers : a.defers = []
 x : a.tmps[2]? = some X
 y : a.tmps[3]? = some Y
 r : a.tmps[p]? = some (.bool r)
theorem put_get {a : Act} {d k : Nat} {v : Value} (hd : d < a.tmps.size) : (a.put (some d) v).tmps[k]? = if d = k then some v else a.tmps[k]? := by
 simp only [Act.put, Array.getElem?_setIfInBounds]
 split
 ·rfl
 ·rfl
theorem put_size {a : Act} {d : Nat} {v : Value} : (a.put (some d) v).tmps.size = a.tmps.size := by simp [Act.put]
theorem St.put {N : Nat} {X Y : Value} {p d : Nat} {r : Bool} {v : Value} (h : St a N X Y p r) (h3 : 3 < d) (hp : d ≠ p) (hN : d < N) : St (a.put (some d) v) N X Y p r :=
 ⟨put_size.trans h.size, h.defers, by rw [put_get (by rw [h.size]; exact hN), if_neg (by omega)]; exact h.x, by rw [put_get (by rw [h.size]; exact hN), if_neg (by omega)]; exact h.y, by rw [put_get (by rw [h.size]; exact hN), if_neg hp]; exact h.r⟩
theorem St.put_r {N : Nat} {X Y : Value} {p d : Nat} {r b : Bool} (h : St a N X Y p r) (h3 : 3 < d) (hN : d < N) : St (a.put (some d) (.bool b)) N X Y d b :=
 ⟨put_size.trans h.size, h.defers, by rw [put_get (by rw [h.size]; exact hN), if_neg (by omega)]; exact h.x, by rw [put_get (by rw [h.size]; exact hN), if_neg (by omega)]; exact h.y, by rw [put_get (by rw [h.size]; exact hN), if_pos rfl]⟩
theorem St.at {N : Nat} {X Y : Value} {p d : Nat} {r : Bool} {v : Value} (h : St a N X Y p r) (hN : d < N) : (a.put (some d) v).tmps[d]? = some v := by
 rw [put_get (by rw [h.size]; exact hN), if_pos rfl]
theorem St.keep {N : Nat} {X Y : Value} {p d k : Nat} {r : Bool} {v u : Value} (h : St a N X Y p r) (hN : d < N) (hk : d ≠ k) (hu : a.tmps[k]? = some u) : (a.put (some d) v).tmps[k]? = some u := by
 rw [put_get (by rw [h.size]; exact hN), if_neg hk]
 exact hu
def cmb (want r q : Bool) : Bool := if r = want then q else r
theorem link {N s m p j : Nat} {X Y v0 v1 v2 v3 : Value} {want r q : Bool} {o0 o1 o2 o3 o4 o5 o6 : Oper} (h : St a N X Y p r) (h3 : 3 < s) (hps : p < s) (hm3 : 3 < m) (hms : m ≠ s + 5) (hN : s + 5 < N) (hm : m < N)
  (d0 : o0.dst = some s) (d1 : o1.dst = some (s + 1)) (d2 : o2.dst = some (s + 2)) (d3 : o3.dst = some (s + 3)) (d4 : o4.dst = some (s + 4)) (d5 : o5.dst = some (s + 5)) (d6 : o6.dst = some m)
  (g0 : o0.guard = some (j, want)) (g1 : o1.guard = some (j, want)) (g2 : o2.guard = some (j, want)) (g3 : o3.guard = some (j, want)) (g4 : o4.guard = some (j, want)) (g5 : o5.guard = none) (g6 : o6.guard = none)
  (hj : (ops[j]?).bind (·.dst) = some p)
  (r0 : ∀ a : Act, a.tmps[2]? = some X → (execOp a.eval o0).run P W = .ok (.value v0) W)
  (r1 : ∀ a : Act, a.tmps[s]? = some v0 → (execOp a.eval o1).run P W = .ok (.value v1) W)
  (r2 : ∀ a : Act, a.tmps[3]? = some Y → (execOp a.eval o2).run P W = .ok (.value v2) W)
  (r3 : ∀ a : Act, a.tmps[s + 2]? = some v2 → (execOp a.eval o3).run P W = .ok (.value v3) W)
  (r4 : ∀ a : Act, a.tmps[s + 1]? = some v1 → a.tmps[s + 3]? = some v3 → (execOp a.eval o4).run P W = .ok (.value (.bool q)) W)
  (r5 : ∀ a : Act, a.tmps[p]? = some (.bool want) → a.tmps[s + 4]? = some (.bool q) → (execOp a.eval o5).run P W = .ok (.value (.bool q)) W)
  (r5' : ∀ a : Act, a.tmps[p]? = some (.bool (!want)) → (execOp a.eval o5).run P W = .ok (.value (.bool (!want))) W)
  (r6 : ∀ (a : Act) (b : Bool), a.tmps[s + 5]? = some (.bool b) → (execOp a.eval o6).run P W = .ok (.value (.bool b)) W)
  (k : ∀ a', St a' N X Y m (cmb want r q) → wpList P ops Q rest a' W) : wpList P ops Q (o0 :: o1 :: o2 :: o3 :: o4 :: o5 :: o6 :: rest) a W := by
 by_cases hr : r = want
 ·subst hr
  have e : cmb r r q = q := if_pos rfl
  rw [e] at k
  refine step_on (wanted_on_ g0 hj h.r) (r0 _ h.x) ?_
  rw [d0]
  have h0 := h.put (v := v0) h3 (by omega) (by omega : s < N)
  have t0 := h.at (v := v0) (by omega : s < N)
  refine step_on (wanted_on_ g1 hj h0.r) (r1 _ t0) ?_
  rw [d1]
  have h1 := h0.put (d := s + 1) (v := v1) (by omega) (by omega) (by omega)
  have t1 := h0.at (d := s + 1) (v := v1) (by omega)
  refine step_on (wanted_on_ g2 hj h1.r) (r2 _ h1.y) ?_
  rw [d2]
  have h2 := h1.put (d := s + 2) (v := v2) (by omega) (by omega) (by omega)
  have t2 := h1.at (d := s + 2) (v := v2) (by omega)
  have t1 := h1.keep (d := s + 2) (v := v2) (by omega) (by omega) t1
  refine step_on (wanted_on_ g3 hj h2.r) (r3 _ t2) ?_
  rw [d3]
  have h4 := h2.put (d := s + 3) (v := v3) (by omega) (by omega) (by omega)
  have t3 := h2.at (d := s + 3) (v := v3) (by omega)
  have t1 := h2.keep (d := s + 3) (v := v3) (by omega) (by omega) t1
  refine step_on (wanted_on_ g4 hj h4.r) (r4 _ t1 t3) ?_
  rw [d4]
  have h5 := h4.put (d := s + 4) (v := .bool q) (by omega) (by omega) (by omega)
  have t4 := h4.at (d := s + 4) (v := .bool q) (by omega)
  refine step_on (wanted_none g5) (r5 _ h5.r t4) ?_
  rw [d5]
  have h6 := h5.put_r (d := s + 5) (b := q) (by omega) (by omega)
  refine step_on (wanted_none g6) (r6 _ _ h6.r) ?_
  rw [d6]
  exact k _ (h6.put_r hm3 hm)
 ·have e : cmb want r q = r := if_neg hr
  have hn : r = !want := by cases r <;> cases want <;> simp_all
  rw [e] at k
  refine step_off (wanted_off_ g0 hj h.r hr) ?_
  rw [d0]
  have h0 := h.put (v := undef) h3 (by omega) (by omega : s < N)
  refine step_off (wanted_off_ g1 hj h0.r hr) ?_
  rw [d1]
  have h1 := h0.put (d := s + 1) (v := undef) (by omega) (by omega) (by omega)
  refine step_off (wanted_off_ g2 hj h1.r hr) ?_
  rw [d2]
  have h2 := h1.put (d := s + 2) (v := undef) (by omega) (by omega) (by omega)
  refine step_off (wanted_off_ g3 hj h2.r hr) ?_
  rw [d3]
  have h4 := h2.put (d := s + 3) (v := undef) (by omega) (by omega) (by omega)
  refine step_off (wanted_off_ g4 hj h4.r hr) ?_
  rw [d4]
  have h5 := h4.put (d := s + 4) (v := undef) (by omega) (by omega) (by omega)
  subst hn
  refine step_on (wanted_none g5) (r5' _ h5.r) ?_
  rw [d5]
  have h6 := h5.put_r (d := s + 5) (b := !want) (by omega) (by omega)
  refine step_on (wanted_none g6) (r6 _ _ h6.r) ?_
  rw [d6]
  exact k _ (h6.put_r hm3 hm)
theorem link6 {N s p j : Nat} {X Y v0 v1 v2 v3 : Value} {want r q : Bool} {o0 o1 o2 o3 o4 o5 : Oper} (h : St a N X Y p r) (h3 : 3 < s) (hps : p < s) (hN : s + 5 < N)
  (d0 : o0.dst = some s) (d1 : o1.dst = some (s + 1)) (d2 : o2.dst = some (s + 2)) (d3 : o3.dst = some (s + 3)) (d4 : o4.dst = some (s + 4)) (d5 : o5.dst = some (s + 5))
  (g0 : o0.guard = some (j, want)) (g1 : o1.guard = some (j, want)) (g2 : o2.guard = some (j, want)) (g3 : o3.guard = some (j, want)) (g4 : o4.guard = some (j, want)) (g5 : o5.guard = none)
  (hj : (ops[j]?).bind (·.dst) = some p)
  (r0 : ∀ a : Act, a.tmps[2]? = some X → (execOp a.eval o0).run P W = .ok (.value v0) W)
  (r1 : ∀ a : Act, a.tmps[s]? = some v0 → (execOp a.eval o1).run P W = .ok (.value v1) W)
  (r2 : ∀ a : Act, a.tmps[3]? = some Y → (execOp a.eval o2).run P W = .ok (.value v2) W)
  (r3 : ∀ a : Act, a.tmps[s + 2]? = some v2 → (execOp a.eval o3).run P W = .ok (.value v3) W)
  (r4 : ∀ a : Act, a.tmps[s + 1]? = some v1 → a.tmps[s + 3]? = some v3 → (execOp a.eval o4).run P W = .ok (.value (.bool q)) W)
  (r5 : ∀ a : Act, a.tmps[p]? = some (.bool want) → a.tmps[s + 4]? = some (.bool q) → (execOp a.eval o5).run P W = .ok (.value (.bool q)) W)
  (r5' : ∀ a : Act, a.tmps[p]? = some (.bool (!want)) → (execOp a.eval o5).run P W = .ok (.value (.bool (!want))) W)
  (k : ∀ a', St a' N X Y (s + 5) (cmb want r q) → wpList P ops Q rest a' W) : wpList P ops Q (o0 :: o1 :: o2 :: o3 :: o4 :: o5 :: rest) a W := by
 by_cases hr : r = want
 ·subst hr
  have e : cmb r r q = q := if_pos rfl
  rw [e] at k
  refine step_on (wanted_on_ g0 hj h.r) (r0 _ h.x) ?_
  rw [d0]
  have h0 := h.put (v := v0) h3 (by omega) (by omega : s < N)
  have t0 := h.at (v := v0) (by omega : s < N)
  refine step_on (wanted_on_ g1 hj h0.r) (r1 _ t0) ?_
  rw [d1]
  have h1 := h0.put (d := s + 1) (v := v1) (by omega) (by omega) (by omega)
  have t1 := h0.at (d := s + 1) (v := v1) (by omega)
  refine step_on (wanted_on_ g2 hj h1.r) (r2 _ h1.y) ?_
  rw [d2]
  have h2 := h1.put (d := s + 2) (v := v2) (by omega) (by omega) (by omega)
  have t2 := h1.at (d := s + 2) (v := v2) (by omega)
  have t1 := h1.keep (d := s + 2) (v := v2) (by omega) (by omega) t1
  refine step_on (wanted_on_ g3 hj h2.r) (r3 _ t2) ?_
  rw [d3]
  have h4 := h2.put (d := s + 3) (v := v3) (by omega) (by omega) (by omega)
  have t3 := h2.at (d := s + 3) (v := v3) (by omega)
  have t1 := h2.keep (d := s + 3) (v := v3) (by omega) (by omega) t1
  refine step_on (wanted_on_ g4 hj h4.r) (r4 _ t1 t3) ?_
  rw [d4]
  have h5 := h4.put (d := s + 4) (v := .bool q) (by omega) (by omega) (by omega)
  have t4 := h4.at (d := s + 4) (v := .bool q) (by omega)
  refine step_on (wanted_none g5) (r5 _ h5.r t4) ?_
  rw [d5]
  have h6 := h5.put_r (d := s + 5) (b := q) (by omega) (by omega)
  exact k _ h6
 ·have e : cmb want r q = r := if_neg hr
  have hn : r = !want := by cases r <;> cases want <;> simp_all
  rw [e] at k
  refine step_off (wanted_off_ g0 hj h.r hr) ?_
  rw [d0]
  have h0 := h.put (v := undef) h3 (by omega) (by omega : s < N)
  refine step_off (wanted_off_ g1 hj h0.r hr) ?_
  rw [d1]
  have h1 := h0.put (d := s + 1) (v := undef) (by omega) (by omega) (by omega)
  refine step_off (wanted_off_ g2 hj h1.r hr) ?_
  rw [d2]
  have h2 := h1.put (d := s + 2) (v := undef) (by omega) (by omega) (by omega)
  refine step_off (wanted_off_ g3 hj h2.r hr) ?_
  rw [d3]
  have h4 := h2.put (d := s + 3) (v := undef) (by omega) (by omega) (by omega)
  refine step_off (wanted_off_ g4 hj h4.r hr) ?_
  rw [d4]
  have h5 := h4.put (d := s + 4) (v := undef) (by omega) (by omega) (by omega)
  subst hn
  refine step_on (wanted_none g5) (r5' _ h5.r) ?_
  rw [d5]
  have h6 := h5.put_r (d := s + 5) (b := !want) (by omega) (by omega)
  exact k _ h6
theorem link_first {N s : Nat} {X Y v0 v1 v2 v3 : Value} {q : Bool} {o0 o1 o2 o3 o4 o5 : Oper} (hsz : a.tmps.size = N) (hdf : a.defers = []) (hx : a.tmps[2]? = some X) (hy : a.tmps[3]? = some Y) (h3 : 3 < s) (hN : s + 5 < N)
  (d0 : o0.dst = some s) (d1 : o1.dst = some (s + 1)) (d2 : o2.dst = some (s + 2)) (d3 : o3.dst = some (s + 3)) (d4 : o4.dst = some (s + 4)) (d5 : o5.dst = some (s + 5))
  (g0 : o0.guard = none) (g1 : o1.guard = none) (g2 : o2.guard = none) (g3 : o3.guard = none) (g4 : o4.guard = none) (g5 : o5.guard = none)
  (r0 : ∀ a : Act, a.tmps[2]? = some X → (execOp a.eval o0).run P W = .ok (.value v0) W)
  (r1 : ∀ a : Act, a.tmps[s]? = some v0 → (execOp a.eval o1).run P W = .ok (.value v1) W)
  (r2 : ∀ a : Act, a.tmps[3]? = some Y → (execOp a.eval o2).run P W = .ok (.value v2) W)
  (r3 : ∀ a : Act, a.tmps[s + 2]? = some v2 → (execOp a.eval o3).run P W = .ok (.value v3) W)
  (r4 : ∀ a : Act, a.tmps[s + 1]? = some v1 → a.tmps[s + 3]? = some v3 → (execOp a.eval o4).run P W = .ok (.value (.bool q)) W)
  (r5 : ∀ (a : Act) (b : Bool), a.tmps[s + 4]? = some (.bool b) → (execOp a.eval o5).run P W = .ok (.value (.bool b)) W)
  (k : ∀ a', St a' N X Y (s + 5) q → wpList P ops Q rest a' W) : wpList P ops Q (o0 :: o1 :: o2 :: o3 :: o4 :: o5 :: rest) a W := by
 refine step_on (wanted_none g0) (r0 _ hx) ?_
 rw [d0]
 have z0 : (a.put (some s) v0).tmps.size = N := put_size.trans hsz
 have x0 : (a.put (some s) v0).tmps[2]? = some X := by rw [put_get (by omega), if_neg (by omega)]; exact hx
 have y0 : (a.put (some s) v0).tmps[3]? = some Y := by rw [put_get (by omega), if_neg (by omega)]; exact hy
 have t0 : (a.put (some s) v0).tmps[s]? = some v0 := by rw [put_get (by omega), if_pos rfl]
 have f0 : (a.put (some s) v0).defers = [] := hdf
 generalize a.put (some s) v0 = a at *
 refine step_on (wanted_none g1) (r1 _ t0) ?_
 rw [d1]
 have z1 : (a.put (some (s + 1)) v1).tmps.size = N := put_size.trans z0
 have x1 : (a.put (some (s + 1)) v1).tmps[2]? = some X := by rw [put_get (by omega), if_neg (by omega)]; exact x0
 have y1 : (a.put (some (s + 1)) v1).tmps[3]? = some Y := by rw [put_get (by omega), if_neg (by omega)]; exact y0
 have t1 : (a.put (some (s + 1)) v1).tmps[s + 1]? = some v1 := by rw [put_get (by omega), if_pos rfl]
 have f1 : (a.put (some (s + 1)) v1).defers = [] := f0
 clear z0 x0 y0 t0 f0
 generalize a.put (some (s + 1)) v1 = a at *
 refine step_on (wanted_none g2) (r2 _ y1) ?_
 rw [d2]
 have z2 : (a.put (some (s + 2)) v2).tmps.size = N := put_size.trans z1
 have x2 : (a.put (some (s + 2)) v2).tmps[2]? = some X := by rw [put_get (by omega), if_neg (by omega)]; exact x1
 have y2 : (a.put (some (s + 2)) v2).tmps[3]? = some Y := by rw [put_get (by omega), if_neg (by omega)]; exact y1
 have t2 : (a.put (some (s + 2)) v2).tmps[s + 2]? = some v2 := by rw [put_get (by omega), if_pos rfl]
 have u2 : (a.put (some (s + 2)) v2).tmps[s + 1]? = some v1 := by rw [put_get (by omega), if_neg (by omega)]; exact t1
 have f2 : (a.put (some (s + 2)) v2).defers = [] := f1
 clear z1 x1 y1 t1 f1
 generalize a.put (some (s + 2)) v2 = a at *
 refine step_on (wanted_none g3) (r3 _ t2) ?_
 rw [d3]
 have z3 : (a.put (some (s + 3)) v3).tmps.size = N := put_size.trans z2
 have x3 : (a.put (some (s + 3)) v3).tmps[2]? = some X := by rw [put_get (by omega), if_neg (by omega)]; exact x2
 have y3 : (a.put (some (s + 3)) v3).tmps[3]? = some Y := by rw [put_get (by omega), if_neg (by omega)]; exact y2
 have t3 : (a.put (some (s + 3)) v3).tmps[s + 3]? = some v3 := by rw [put_get (by omega), if_pos rfl]
 have u3 : (a.put (some (s + 3)) v3).tmps[s + 1]? = some v1 := by rw [put_get (by omega), if_neg (by omega)]; exact u2
 have f3 : (a.put (some (s + 3)) v3).defers = [] := f2
 clear z2 x2 y2 t2 f2 u2
 generalize a.put (some (s + 3)) v3 = a at *
 refine step_on (wanted_none g4) (r4 _ u3 t3) ?_
 rw [d4]
 have h4 : St (a.put (some (s + 4)) (.bool q)) N X Y (s + 4) q := ⟨put_size.trans z3, f3, by rw [put_get (by omega), if_neg (by omega)]; exact x3, by rw [put_get (by omega), if_neg (by omega)]; exact y3, by rw [put_get (by omega), if_pos rfl]⟩
 refine step_on (wanted_none g5) (r5 _ _ h4.r) ?_
 rw [d5]
 exact k _ (h4.put_r (by omega) (by omega))
theorem act_lit {N : Nat} (hs : a.tmps.size = N) (hd : a.defers = []) : ∃ f : Nat → Value, (∀ k v, a.tmps[k]? = some v → f k = v) ∧ a = ⟨((List.range N).map f).toArray, []⟩ := by
 refine ⟨fun i => a.tmps.getD i undef, fun k v h => by show a.tmps.getD k undef = v; rw [Array.getD_eq_getD_getElem?, h]; rfl, ?_⟩
 obtain ⟨t, d⟩ := a
 simp only at hs hd
 subst hd
 congr 1
 apply Array.ext
 ·simp [hs]
 ·intro i h1 h2
  simp only [List.getElem_toArray, List.getElem_map, List.getElem_range, Array.getD_eq_getD_getElem?]
  rw [Array.getElem?_eq_getElem h1]
  rfl
end
end Go.Proofs.YtdlamomabonkjaaDoor.Base
end
section
namespace Go.Proofs.YtdlamomabonkjaaDoor.Ch
open Go.RowKit YtdlamomabonkjaaDoorW.PrintWords Base PCh
theorem chk_decide (x y : Chk) : decide (x = y) = ((((((((((((((((x.f0 == y.f0) && (x.f1 == y.f1)) && (x.f2 == y.f2)) && (x.f3 == y.f3)) && (x.f4 == y.f4)) && (x.f5 == y.f5)) && (x.f6 == y.f6)) && (x.f7 == y.f7)) && (x.f8 == y.f8)) && (x.f9 == y.f9)) && decide (x.f10 = y.f10)) && decide (x.f11 = y.f11)) && decide (x.f12 = y.f12)) && decide (x.f13 = y.f13)) && decide (x.f14 = y.f14))) := by
 by_cases h : x = y
 ·subst h
  simp
 ·rw [decide_eq_false h]
  symm
  rw [Bool.eq_false_iff]
  intro hb
  simp only [Bool.and_eq_true, beq_iff_eq, decide_eq_true_eq] at hb
  exact h (chk_ext hb.1.1.1.1.1.1.1.1.1.1.1.1.1.1 hb.1.1.1.1.1.1.1.1.1.1.1.1.1.2 hb.1.1.1.1.1.1.1.1.1.1.1.1.2 hb.1.1.1.1.1.1.1.1.1.1.1.2 hb.1.1.1.1.1.1.1.1.1.1.2 hb.1.1.1.1.1.1.1.1.1.2 hb.1.1.1.1.1.1.1.1.2 hb.1.1.1.1.1.1.1.2 hb.1.1.1.1.1.1.2 hb.1.1.1.1.1.2 hb.1.1.1.1.2 hb.1.1.1.2 hb.1.1.2 hb.1.2 hb.2)
theorem cmb_false (r q : Bool) : cmb false r q = (r || q) := by cases r <;> cases q <;> rfl
end Go.Proofs.YtdlamomabonkjaaDoor.Ch
end
section
namespace Go.Proofs.YtdlamomabonkjaaDoor.ParEnc
open Go.RowKit YtdlamomabonkjaaDoorW.PrintWords PCh
def padL (x : List Int) : List Int := x ++ List.replicate ((4 - x.length % 4) % 4) 0
def twoI (a : Int) : List Int := [(a / 256) % 256, a % 256]
def stepB (b : List Int) (p : S72) : List Int := padL b ++ twoI p.f0 ++ twoI (IntKind.u16.wrap (wrap64 (4 + (p.f1.length : Int)))) ++ p.f1
def runB : List Int → List S72 → List Int × Int
 | b, [] => (b, 0)
 | b, p :: r => if (p.f1.length : Int) > 65531 then ([], 2) else runB (stepB b p) r
theorem rd_drop (ps : List S72) (i : Nat) (h : i < ps.length) : ps.drop i = rd_T72 ps (i : Int) :: ps.drop (i + 1) := by
 rw [List.drop_eq_getElem_cons h]
 unfold rd_T72
 rw [Int.toNat_natCast]
 simp [List.getD_eq_getElem?_getD, h]
def foldB : List Int → List S72 → List Int
 | b, [] => b
 | b, p :: r => foldB (stepB b p) r
def allShort (ps : List S72) : Prop := ∀ p ∈ ps, ¬ (p.f1.length : Int) > 65531
theorem runB_short (ps : List S72) (h : allShort ps) (b : List Int) : runB b ps = (foldB b ps, 0) := by
 induction ps generalizing b with
 | nil => rfl
 | cons p r ih =>
  unfold runB foldB
  rw [if_neg (h p (List.mem_cons_self ..)), ih (fun q hq => h q (List.mem_cons_of_mem _ hq))]
theorem runB_long (ps : List S72) (h : ¬ allShort ps) (b : List Int) : runB b ps = ([], 2) := by
 induction ps generalizing b with
 | nil => exact absurd (fun p hp => by cases hp) h
 | cons p r ih =>
  unfold runB
  by_cases hp : (p.f1.length : Int) > 65531
  ·rw [if_pos hp]
  ·rw [if_neg hp]
   refine ih (fun hr => h (fun q hq => ?_)) _
   rcases List.mem_cons.1 hq with rfl | hq
   ·exact hp
   ·exact hr q hq
end Go.Proofs.YtdlamomabonkjaaDoor.ParEnc
end
section
namespace Go.Proofs.YtdlamomabonkjaaDoor.ParDec
open Go.RowKit YtdlamomabonkjaaDoorW.PrintWords PCh ParCauses Base
def vc (x : S72) : PCh.S72 := ⟨x.f0, x.f1⟩
theorem vc_R {w : World} {e base : Nat} {ok : Nat → Prop} {v : Value} {xs : List S72} (h : Kd.R PCh.k72 e w base ok v (xs.map vc)) : Kd.R k72 e w base ok v xs := by
 obtain ⟨h0, inner, ho, hr⟩ := h
 rw [List.length_map] at ho
 refine ⟨h0, inner, ho, ?_⟩
 obtain ⟨h1, h2⟩ := hr
 rw [List.length_map] at h1
 exact ⟨h1, fun j p hj => h2 j (vc p) (by rw [List.getElem?_map, hj]; rfl)⟩
def ints (l : List UInt8) : List Int := l.map fun b => (b.toNat : Int)
theorem ints_length (l : List UInt8) : (ints l).length = l.length := List.length_map ..
theorem rd_ints (l : List UInt8) (i : Nat) (h : i < l.length) : rd (ints l) (i : Int) = ((l.getD i 0).toNat : Int) := by
 unfold rd ints
 rw [Int.toNat_natCast]
 simp [List.getD_eq_getElem?_getD, h]
theorem w64 (a : Int) (h0 : -9223372036854775808 ≤ a) (h1 : a < 9223372036854775808) : wrap64 a = a := by unfold wrap64; omega
theorem u16n (n : Int) : IntKind.u16.wrap n = n % 65536 := by simp [IntKind.wrap, IntKind.bits, IntKind.signed]
def outR (r : Except (Nat × Int) (List S72)) : List PCh.S72 × Int × Int :=
 match r with
 | .ok ps => (ps.map vc, 0, 0)
 | .error (p, c) => ([], (p : Int), c)
theorem ref_run (l : List UInt8) (hn : l.length ≤ 140737488355327) (n p pr : Nat) (ps : List S72) (hpl : p ≤ l.length) (hpn : l.length < n + p) (hps : ps.length ≤ 256) (hp : pr = p ∨ (p = l.length ∧ l.length ≤ pr)) : PCh.ropewalkref05_Decode.l0 n (ints l) (ps.map vc) (pr : Int) = some (outR (runD l n p ps)) := by
 induction n generalizing p pr ps with
 | zero => omega
 | succ n ih =>
  unfold PCh.ropewalkref05_Decode.l0
  conv => rhs; unfold runD
  rw [ints_length, List.length_map]
  by_cases hlt : p < l.length
  ·obtain rfl : pr = p := by omega
   rw [if_pos (by omega), if_pos hlt]
   unfold stepD
   by_cases h1 : ps.length = 256
   ·rw [if_pos (by omega), if_pos h1]
    rfl
   rw [if_neg (by omega), if_neg h1]
   have ed : wrap64 ((l.length : Int) - (pr : Int)) = ((l.length - pr : Nat) : Int) := by rw [w64 _ (by omega) (by omega)]; omega
   rw [ed]
   clear ed
   by_cases h2 : l.length - pr < 4
   ·rw [if_pos (by omega), if_pos h2]
    rfl
   rw [if_neg (by omega), if_neg h2]
   have e1 : wrap64 ((pr : Int) + 1) = ((pr + 1 : Nat) : Int) := by rw [w64 _ (by omega) (by omega)]; omega
   have e2 : wrap64 ((pr : Int) + 2) = ((pr + 2 : Nat) : Int) := by rw [w64 _ (by omega) (by omega)]; omega
   have e3 : wrap64 ((pr : Int) + 3) = ((pr + 2 + 1 : Nat) : Int) := by rw [w64 _ (by omega) (by omega)]; omega
   have e4 : wrap64 ((pr : Int) + 4) = ((pr + 4 : Nat) : Int) := by rw [w64 _ (by omega) (by omega)]; omega
   rw [e1, e2, e3, e4]
   clear e1 e2 e3 e4
   rw [if_pos (by omega), if_pos (by omega), if_pos (by omega), if_pos (by omega)]
   rw [rd_ints l (pr + 2) (by omega), rd_ints l (pr + 2 + 1) (by omega), rd_ints l pr (by omega), rd_ints l (pr + 1) (by omega)]
   have b0 : (l.getD pr 0).toNat < 256 := UInt8.toNat_lt _
   have b1 : (l.getD (pr + 1) 0).toNat < 256 := UInt8.toNat_lt _
   have b2 : (l.getD (pr + 2) 0).toNat < 256 := UInt8.toNat_lt _
   have b3 : (l.getD (pr + 2 + 1) 0).toNat < 256 := UInt8.toNat_lt _
   have en : wrap64 (wrap64 (wrap64 ((l.getD (pr + 2) 0).toNat : Int) * 256) + wrap64 ((l.getD (pr + 2 + 1) 0).toNat : Int)) = ((nI l (pr + 2) : Nat) : Int) := by
    unfold nI
    rw [w64 ((l.getD (pr + 2) 0).toNat : Int) (by omega) (by omega), w64 ((l.getD (pr + 2 + 1) 0).toNat : Int) (by omega) (by omega), w64 (((l.getD (pr + 2) 0).toNat : Int) * 256) (by omega) (by omega), w64 _ (by omega) (by omega)]
    omega
   have et : IntKind.u16.wrap (IntKind.u16.wrap (IntKind.u16.wrap ((l.getD pr 0).toNat : Int) * 256) + IntKind.u16.wrap ((l.getD (pr + 1) 0).toNat : Int)) = ((nI l pr : Nat) : Int) := by
    unfold nI
    simp only [u16n]
    omega
   rw [en, et]
   clear en et
   have hx65 : nI l (pr + 2) ≤ 65535 := by unfold nI; omega
   by_cases h3 : nI l (pr + 2) < 4
   ·rw [if_pos (by omega), if_pos (Or.inl h3)]
    rfl
   rw [if_neg (by omega)]
   by_cases h4 : l.length - pr < nI l (pr + 2)
   ·rw [if_pos (by omega), if_pos (Or.inr h4)]
    rfl
   rw [if_neg (by omega), if_neg (show ¬ (nI l (pr + 2) < 4 ∨ l.length - pr < nI l (pr + 2)) by omega)]
   rw [if_pos (by omega), if_pos (by omega), if_pos (by omega), Option.bind_some]
   have ex : wrap64 ((pr : Int) + ((nI l (pr + 2) : Nat) : Int)) = ((pr + nI l (pr + 2) : Nat) : Int) := by rw [w64 _ (by omega) (by omega)]; omega
   rw [ex]
   clear ex
   have g1 : (0 : Int) ≤ ((pr + 4 : Nat) : Int) := by omega
   have g2 : ((pr + 4 : Nat) : Int) ≤ ((pr + nI l (pr + 2) : Nat) : Int) := by omega
   have g3 : ((pr + nI l (pr + 2) : Nat) : Int) ≤ (l.length : Int) := by omega
   rw [if_pos g1, if_pos g2, if_pos g3]
   rw [Int.toNat_natCast, Int.toNat_natCast]
   have eb : ([] : List Int) ++ ((ints l).take (pr + nI l (pr + 2))).drop (pr + 4) = ((l.drop (pr + 4)).take (nI l (pr + 2) - 4)).map fun b => (b.toNat : Int) := by
    unfold ints
    rw [List.nil_append, ← List.map_take, ← List.map_drop, List.drop_take, show pr + nI l (pr + 2) - (pr + 4) = nI l (pr + 2) - 4 by omega]
   have el : ([] : List Int).length + (((ints l).take (pr + nI l (pr + 2))).drop (pr + 4)).length < 140737488355328 := by
    rw [List.length_drop, List.length_take, ints_length, List.length_nil]
    omega
   have g5 : ps.length < 4398046511104 := by omega
   rw [if_pos el, if_pos g5, eb]
   clear el eb
   have ep : wrap64 ((pr : Int) + wrap64 (wrap64 (Int.tdiv (wrap64 (((nI l (pr + 2) : Nat) : Int) + 3)) 4) * 4)) = ((pr + (nI l (pr + 2) + 3) / 4 * 4 : Nat) : Int) := by
    generalize nI l (pr + 2) = x at *
    rw [w64 ((x : Int) + 3) (by omega) (by omega), Int.tdiv_eq_ediv_of_nonneg (by omega)]
    rw [w64 (((x : Int) + 3) / 4) (by omega) (by omega), w64 (((x : Int) + 3) / 4 * 4) (by omega) (by omega), w64 _ (by omega) (by omega)]
    omega
   rw [ep]
   have em : ps.map vc ++ [(⟨((nI l pr : Nat) : Int), ((l.drop (pr + 4)).take (nI l (pr + 2) - 4)).map fun b => (b.toNat : Int)⟩ : PCh.S72)] = (ps ++ [(⟨((nI l pr : Nat) : Int), ((l.drop (pr + 4)).take (nI l (pr + 2) - 4)).map fun b => (b.toNat : Int)⟩ : S72)]).map vc := by rw [List.map_append]; rfl
   rw [em]
   clear em ep
   exact ih _ _ _ (by omega) (by omega) (by rw [List.length_append, List.length_singleton]; omega) (by omega)
  ·rw [if_neg (by omega), if_neg hlt]
   rfl
theorem ref_f (l : List UInt8) (hn : l.length ≤ 140737488355327) : PCh.ropewalkref05_Decode.f (l.length + 1) (ints l) = some ((decD l).1.map vc, (decD l).2.1, (decD l).2.2) := by
 unfold PCh.ropewalkref05_Decode.f
 have := ref_run l hn (l.length + 1) 0 0 [] (Nat.zero_le _) (by omega) (by simp) (Or.inl rfl)
 rw [show ((([] : List S72).map vc) : List PCh.S72) = [] from rfl] at this
 refine this.trans ?_
 unfold decD outR
 cases runD l (l.length + 1) 0 [] with
 | ok ps => rfl
 | error pc => rfl
theorem refDecode_calls (w : World) (A : Option Addr) (l : List UInt8) (c : Nat) (hb : byte.C w A l.length l) (hc : l.length ≤ c) (hn : l.length ≤ 140737488355327) :
  Calls Tryd.prog 101 #[.slice A l.length c] w fun e w' => ∃ A1 c1, e = .returned (.tuple #[.slice A1 (decD l).1.length c1, .int .i64 (decD l).2.1, .int .i64 (decD l).2.2]) ∧ Kd.R k72 72 w' w.heap.size (fun _ => True) (.slice A1 (decD l).1.length c1) (decD l).1 ∧ Below w.heap.size w w' := by
 have hi : (Kd.int .u8).C w A (ints l).length (ints l) := by
  rw [ints_length]
  exact Kd.C_of_reads (d := (0 : Int)) (ints_of_bytes hb)
 have := PCh.ropewalkref05_Decode.calls (l.length + 1) A c (ints l) _ _ _ w hi (by rw [ints_length]; exact hc) (ref_f l hn)
 rw [ints_length] at this
 refine this.mono fun e w' h => ?_
 obtain ⟨v, he, hS, hB⟩ := h
 have hR := vc_R (Kd.S_R hS)
 obtain ⟨A1, c1, rfl⟩ := Kd.R_slice hR
 exact ⟨A1, c1, he, hR, hB⟩
end Go.Proofs.YtdlamomabonkjaaDoor.ParDec
end
section
namespace Go.Proofs.YtdlamomabonkjaaDoor.ParDec
open Go.RowKit YtdlamomabonkjaaDoorW.PrintWords PCh ParEnc
def okP (q : S72) : Prop := 0 ≤ q.f0 ∧ q.f0 < 65536 ∧ q.f1.length ≤ 65531 ∧ ∀ x ∈ q.f1, 0 ≤ x ∧ x < 256
def item (p : S72) : List Int := twoI p.f0 ++ twoI (IntKind.u16.wrap (wrap64 (4 + (p.f1.length : Int)))) ++ p.f1
def encL : List S72 → List Int
 | [] => []
 | [p] => item p
 | p :: q :: r => padL (item p) ++ encL (q :: r)
theorem stepB_item (b : List Int) (p : S72) : stepB b p = padL b ++ item p := by unfold stepB item; simp only [List.append_assoc]
theorem padL_mod (x : List Int) : (padL x).length % 4 = 0 := by unfold padL; rw [List.length_append, List.length_replicate]; omega
theorem padL_app (b x : List Int) (h : b.length % 4 = 0) : padL (b ++ x) = b ++ padL x := by
 unfold padL
 rw [List.append_assoc, List.length_append, show (4 - (b.length + x.length) % 4) % 4 = (4 - x.length % 4) % 4 by omega]
theorem foldB_enc (r : List S72) (p : S72) (b : List Int) : foldB b (p :: r) = padL b ++ encL (p :: r) := by
 induction r generalizing p b with
 | nil => exact stepB_item b p
 | cons q r ih =>
  show foldB (stepB b p) (q :: r) = _
  rw [ih q, stepB_item, padL_app _ _ (padL_mod b), List.append_assoc]
  rfl
theorem foldB_nil (ps : List S72) : foldB [] ps = encL ps := by
 cases ps with
 | nil => rfl
 | cons p r => exact foldB_enc r p []
theorem foldB_app (b : List Int) (ps : List S72) (q : S72) : foldB b (ps ++ [q]) = stepB (foldB b ps) q := by
 induction ps generalizing b with
 | nil => rfl
 | cons p r ih => exact ih (stepB b p)
theorem len16 (p : S72) (h : p.f1.length ≤ 65531) : IntKind.u16.wrap (wrap64 (4 + (p.f1.length : Int))) = ((4 + p.f1.length : Nat) : Int) := by
 rw [u16n, w64 _ (by omega) (by omega)]
 omega
theorem item_len (p : S72) : (item p).length = 4 + p.f1.length := by
 unfold item twoI
 simp only [List.length_append, List.length_cons, List.length_nil]
def tailL (p : S72) : List S72 → List Int
 | [] => []
 | q :: r => List.replicate ((4 - (item p).length % 4) % 4) 0 ++ encL (q :: r)
theorem enc_tail (p : S72) (r : List S72) : encL (p :: r) = item p ++ tailL p r := by
 cases r with
 | nil => exact (List.append_nil _).symm
 | cons q r =>
  show padL (item p) ++ encL (q :: r) = _
  unfold padL tailL
  rw [List.append_assoc]
theorem geti (l : List UInt8) (p i : Nat) : ((l.getD (p + i) 0).toNat : Int) = (ints (l.drop p)).getD i 0 := by
 unfold ints
 rw [List.getD_eq_getElem?_getD, List.getD_eq_getElem?_getD, List.getElem?_map, List.getElem?_drop]
 cases l[p + i]? <;> rfl
theorem ints_drop (l : List UInt8) (p m : Nat) : ints (l.drop (p + m)) = (ints (l.drop p)).drop m := by
 unfold ints
 rw [← List.map_drop, List.drop_drop]
theorem getD_four (a b c d : Int) (t : List Int) : (a :: b :: c :: d :: t).getD 0 0 = a ∧ (a :: b :: c :: d :: t).getD 1 0 = b ∧ (a :: b :: c :: d :: t).getD 2 0 = c ∧ (a :: b :: c :: d :: t).getD 3 0 = d := ⟨rfl, rfl, rfl, rfl⟩
theorem run_enc (l : List UInt8) (ps : List S72) : ∀ (n p : Nat) (acc : List S72), ints (l.drop p) = encL ps → p ≤ l.length → l.length < n + p → acc.length + ps.length ≤ 256 → (∀ q ∈ ps, okP q) → runD l n p acc = .ok (acc ++ ps) := by
 induction ps with
 | nil =>
  intro n p acc h hp hn hl hok
  have h1 : (ints (l.drop p)).length = 0 := by rw [h]; rfl
  rw [ints_length, List.length_drop] at h1
  obtain ⟨m, rfl⟩ : ∃ m, n = m + 1 := ⟨n - 1, by omega⟩
  unfold runD
  rw [if_neg (by omega), List.append_nil]
 | cons q r ih =>
  intro n p acc h hp hn hl hok
  obtain ⟨hq0, hq1, hq2, hq3⟩ := hok q (List.mem_cons_self ..)
  rw [enc_tail] at h
  have h1 : (ints (l.drop p)).length = 4 + q.f1.length + (tailL q r).length := by rw [h, List.length_append, item_len]
  rw [ints_length, List.length_drop] at h1
  obtain ⟨m, rfl⟩ : ∃ m, n = m + 1 := ⟨n - 1, by omega⟩
  have hf : ints (l.drop p) = (q.f0 / 256) % 256 :: q.f0 % 256 :: (((4 + q.f1.length : Nat) : Int) / 256) % 256 :: ((4 + q.f1.length : Nat) : Int) % 256 :: (q.f1 ++ tailL q r) := by
   rw [h]
   unfold item
   rw [len16 q hq2]
   rfl
  have g0 := geti l p 0
  have g1 := geti l p 1
  have g2 := geti l p 2
  have g3 := geti l p 3
  rw [hf] at g0 g1 g2 g3
  obtain ⟨e0, e1, e2, e3⟩ := getD_four ((q.f0 / 256) % 256) (q.f0 % 256) ((((4 + q.f1.length : Nat) : Int) / 256) % 256) (((4 + q.f1.length : Nat) : Int) % 256) (q.f1 ++ tailL q r)
  rw [e0] at g0
  rw [e1] at g1
  rw [e2] at g2
  rw [e3] at g3
  have n0 : ((nI l p : Nat) : Int) = q.f0 := by
   unfold nI
   rw [Nat.add_zero] at g0
   omega
  have n2 : nI l (p + 2) = 4 + q.f1.length := by
   unfold nI
   rw [show p + 2 + 1 = p + 3 from rfl]
   omega
  have hst : stepD l p acc.length = .ok (q, p + min ((4 + q.f1.length + 3) / 4 * 4) (l.length - p)) := by
   unfold stepD
   rw [List.length_cons] at hl
   rw [n2, if_neg (by omega), if_neg (by omega), if_neg (by omega), n0]
   congr 2
   have hb : ((l.drop (p + 4)).take (4 + q.f1.length - 4)).map (fun b => (b.toNat : Int)) = q.f1 := by
    have := ints_drop l p 4
    rw [hf] at this
    rw [List.map_take, show (l.drop (p + 4)).map (fun b => (b.toNat : Int)) = ints (l.drop (p + 4)) from rfl, this]
    show ((q.f1 ++ tailL q r).take _) = _
    rw [show 4 + q.f1.length - 4 = q.f1.length by omega, List.take_left]
   rw [hb]
  unfold runD
  rw [if_pos (by omega), hst]
  show runD l m (p + min ((4 + q.f1.length + 3) / 4 * 4) (l.length - p)) (acc ++ [q]) = _
  rw [List.length_cons] at hl
  have hgo : ints (l.drop (p + min ((4 + q.f1.length + 3) / 4 * 4) (l.length - p))) = encL r := by
   rw [ints_drop, h, h1]
   cases r with
   | nil =>
    rw [show tailL q [] = [] from rfl, List.append_nil]
    refine List.drop_eq_nil_of_le ?_
    rw [item_len, List.length_nil]
    omega
   | cons q2 r2 =>
    have ht : (tailL q (q2 :: r2)).length = (4 - (4 + q.f1.length) % 4) % 4 + (encL (q2 :: r2)).length := by
     unfold tailL
     rw [List.length_append, List.length_replicate, item_len]
    have hm : min ((4 + q.f1.length + 3) / 4 * 4) (4 + q.f1.length + (tailL q (q2 :: r2)).length) = (item q).length + (4 - (4 + q.f1.length) % 4) % 4 := by rw [ht, item_len]; omega
    rw [hm, ← List.drop_drop, List.drop_left]
    unfold tailL
    rw [item_len, List.drop_left' (by rw [List.length_replicate])]
  have := ih m (p + min ((4 + q.f1.length + 3) / 4 * 4) (l.length - p)) (acc ++ [q]) hgo (by omega) (by omega) (by rw [List.length_append, List.length_singleton]; omega) (fun x hx => hok x (List.mem_cons_of_mem _ hx))
  rw [this, List.append_assoc]
  rfl
def inB (x : Int) : Prop := 0 ≤ x ∧ x < 256
theorem two_in (a : Int) : ∀ x ∈ twoI a, inB x := by
 intro x hx
 unfold twoI at hx
 rcases List.mem_cons.1 hx with rfl | hx
 ·unfold inB; omega
 ·rw [List.mem_singleton.1 hx]
  unfold inB; omega
theorem step_in {b : List Int} {q : S72} (hb : ∀ x ∈ b, inB x) (hq : okP q) : ∀ x ∈ stepB b q, inB x := by
 intro x hx
 unfold stepB padL at hx
 simp only [List.mem_append] at hx
 rcases hx with (((hx | hx) | hx) | hx) | hx
 ·exact hb x hx
 ·rw [(List.mem_replicate.1 hx).2]
  unfold inB; omega
 ·exact two_in _ x hx
 ·exact two_in _ x hx
 ·exact hq.2.2.2 x hx
theorem fold_in (ps : List S72) : ∀ (b : List Int), (∀ x ∈ b, inB x) → (∀ q ∈ ps, okP q) → ∀ x ∈ foldB b ps, inB x := by
 induction ps with
 | nil => intro b hb _; exact hb
 | cons q r ih => intro b hb hq; exact ih (stepB b q) (step_in hb (hq q (List.mem_cons_self ..))) (fun x hx => hq x (List.mem_cons_of_mem _ hx))
def bytesOf (l : List Int) : List UInt8 := l.map fun x => UInt8.ofNat x.toNat
theorem ints_bytesOf (l : List Int) (h : ∀ x ∈ l, inB x) : ints (bytesOf l) = l := by
 unfold ints bytesOf
 rw [List.map_map]
 conv => rhs; rw [← List.map_id l]
 refine List.map_congr_left fun x hx => ?_
 have := h x hx
 unfold inB at this
 show ((UInt8.ofNat x.toNat).toNat : Int) = x
 rw [UInt8.toNat_ofNat']
 omega
theorem back_dec (ps : List S72) (hl : ps.length ≤ 256) (hok : ∀ q ∈ ps, okP q) : decD (bytesOf (foldB [] ps)) = (ps, 0, 0) := by
 refine decD_ok ?_
 have h1 := ints_bytesOf (foldB [] ps) (fold_in ps [] (fun x hx => by cases hx) hok)
 have := run_enc (bytesOf (foldB [] ps)) ps ((bytesOf (foldB [] ps)).length + 1) 0 [] (by rw [List.drop_zero, h1, foldB_nil]) (Nat.zero_le _) (by omega) (by simpa using hl) hok
 rw [this, List.nil_append]
theorem step_ok {l : List UInt8} {p m : Nat} {q : S72} {p' : Nat} (h : stepD l p m = .ok (q, p')) (hp : p < l.length) : okP q ∧ 4 + q.f1.length ≤ l.length - p ∧ p' = p + min ((4 + q.f1.length + 3) / 4 * 4) (l.length - p) := by
 unfold stepD at h
 by_cases h1 : m = 256
 ·rw [if_pos h1] at h; cases h
 rw [if_neg h1] at h
 by_cases h2 : l.length - p < 4
 ·rw [if_pos h2] at h; cases h
 rw [if_neg h2] at h
 by_cases h3 : nI l (p + 2) < 4 ∨ l.length - p < nI l (p + 2)
 ·rw [if_pos h3] at h; cases h
 rw [if_neg h3] at h
 injection h with h
 have hp' : p' = p + min ((nI l (p + 2) + 3) / 4 * 4) (l.length - p) := (congrArg Prod.snd h).symm
 have hq : q = ⟨(nI l p : Int), ((l.drop (p + 4)).take (nI l (p + 2) - 4)).map fun b => (b.toNat : Int)⟩ := (congrArg Prod.fst h).symm
 have b0 : ∀ x : UInt8, x.toNat < 256 := fun x => UInt8.toNat_lt x
 have h65 : ∀ i, nI l i ≤ 65535 := fun i => by unfold nI; have := b0 (l.getD i 0); have := b0 (l.getD (i + 1) 0); omega
 have hlen : q.f1.length = nI l (p + 2) - 4 := by
  rw [hq]
  rw [List.length_map, List.length_take, List.length_drop]
  omega
 have := h65 (p + 2)
 refine ⟨⟨?_, ?_, by omega, ?_⟩, by omega, by rw [hlen, show 4 + (nI l (p + 2) - 4) + 3 = nI l (p + 2) + 3 by omega]; exact hp'⟩
 ·rw [hq]; show 0 ≤ (nI l p : Int); omega
 ·rw [hq]; show (nI l p : Int) < 65536; have := h65 p; omega
 ·rw [hq]
  intro x hx
  obtain ⟨b, _, rfl⟩ := List.mem_map.1 hx
  have := b0 b
  show (0 : Int) ≤ (b.toNat : Int) ∧ (b.toNat : Int) < 256
  omega
theorem padL_len (x : List Int) : (padL x).length = x.length + (4 - x.length % 4) % 4 := by unfold padL; rw [List.length_append, List.length_replicate]
theorem stepB_len (b : List Int) (q : S72) : (stepB b q).length = b.length + (4 - b.length % 4) % 4 + 4 + q.f1.length := by
 rw [stepB_item, List.length_append, padL_len, item_len]
 omega
theorem run_len (l : List UInt8) (ps : List S72) : ∀ (n p : Nat) (acc : List S72), p ≤ l.length → l.length < n + p → acc.length ≤ 256 → (∀ q ∈ acc, okP q) → (foldB [] acc).length ≤ p → p < (foldB [] acc).length + 4 → (p < l.length → p = (foldB [] acc).length + (4 - (foldB [] acc).length % 4) % 4) → runD l n p acc = .ok ps →
  ps.length ≤ 256 ∧ (∀ q ∈ ps, okP q) ∧ (foldB [] ps).length ≤ l.length ∧ l.length < (foldB [] ps).length + 4 := by
 intro n
 induction n with
 | zero => intro p acc h1 h2; omega
 | succ n ih =>
  intro p acc h1 h2 h3 h4 h5 h6 h7 hr
  unfold runD at hr
  by_cases hlt : p < l.length
  ·rw [if_pos hlt] at hr
   cases hst : stepD l p acc.length with
   | error c => rw [hst] at hr; cases hr
   | ok qp =>
    obtain ⟨q, p'⟩ := qp
    rw [hst] at hr
    obtain ⟨hq, hle, hp'⟩ := step_ok hst hlt
    obtain ⟨hn1, hn2, hn3⟩ := stepD_next hst hlt
    have hpl := h7 hlt
    have hs := stepB_len (foldB [] acc) q
    refine ih p' (acc ++ [q]) hn2 (by omega) (by rw [List.length_append, List.length_singleton]; omega) (fun x hx => ?_) ?_ ?_ ?_ hr
    ·rcases List.mem_append.1 hx with hx | hx
     ·exact h4 x hx
     ·rw [List.mem_singleton.1 hx]; exact hq
    ·rw [foldB_app, hs]; omega
    ·rw [foldB_app, hs]; omega
    ·rw [foldB_app, hs]
     intro hlt2
     omega
  ·rw [if_neg hlt] at hr
   injection hr with hr
   subst hr
   exact ⟨h3, h4, by omega, by omega⟩
theorem dec_ok (l : List UInt8) (h : (decD l).2.2 = 0) : (decD l).1.length ≤ 256 ∧ (∀ q ∈ (decD l).1, okP q) ∧ (foldB [] (decD l).1).length ≤ l.length ∧ l.length < (foldB [] (decD l).1).length + 4 := by
 cases hr : runD l (l.length + 1) 0 [] with
 | ok ps =>
  rw [decD_ok hr]
  exact run_len l ps (l.length + 1) 0 [] (Nat.zero_le _) (by omega) (by simp) (fun q hq => by cases hq) (Nat.le_refl _) (by show 0 < 0 + 4; omega) (fun _ => rfl) hr
 | error pc =>
  obtain ⟨p, c⟩ := pc
  rw [decD_err hr] at h
  exfalso
  have hc : ∀ (n p : Nat) (acc : List S72) (p' : Nat) (c : Int), runD l n p acc = .error (p', c) → c ≠ 0 := by
   intro n
   induction n with
   | zero => intro p acc p' c h; cases h
   | succ n ih =>
    intro p acc p' c h
    unfold runD at h
    by_cases hlt : p < l.length
    ·rw [if_pos hlt] at h
     cases hst : stepD l p acc.length with
     | error c2 =>
      rw [hst] at h
      injection h with h
      have h2 : c2 = c := congrArg Prod.snd h
      subst h2
      unfold stepD at hst
      by_cases h1 : acc.length = 256
      ·rw [if_pos h1] at hst; injection hst with hst; omega
      rw [if_neg h1] at hst
      by_cases h2 : l.length - p < 4
      ·rw [if_pos h2] at hst; injection hst with hst; omega
      rw [if_neg h2] at hst
      by_cases h3 : nI l (p + 2) < 4 ∨ l.length - p < nI l (p + 2)
      ·rw [if_pos h3] at hst; injection hst with hst; omega
      rw [if_neg h3] at hst; cases hst
     | ok qp =>
      obtain ⟨q, p2⟩ := qp
      rw [hst] at h
      exact ih _ _ _ _ h
    ·rw [if_neg hlt] at h; cases h
  exact hc _ _ _ _ _ hr h
end Go.Proofs.YtdlamomabonkjaaDoor.ParDec
end
section
namespace Go.Proofs.YtdlamomabonkjaaDoor.Ch
open Go.RowKit YtdlamomabonkjaaDoorW.PrintWords Base PCh ParEnc ParDec ParCauses
structure OkB (x : Chk) : Prop where
 body : ∀ b ∈ x.f13, inB b
 prm : ∀ p ∈ x.f14, ∀ b ∈ p.f1, inB b
theorem str_eq {l l' : List Int} (h : ∀ b ∈ l, inB b) (h' : ∀ b ∈ l', inB b) : ((strOfNums l).toList == (strOfNums l').toList) = decide (l = l') := by
 have e := ints_bytesOf l h
 have e' := ints_bytesOf l' h'
 have n : strOfNums l = bstr (bytesOf l) := by rw [← nums_bstr]; exact congrArg strOfNums e.symm
 have n' : strOfNums l' = bstr (bytesOf l') := by rw [← nums_bstr]; exact congrArg strOfNums e'.symm
 rw [n, n', bstr_eq]
 exact decide_eq_decide.2 ⟨fun hb => by rw [← e, ← e', hb], fun hl => by rw [hl]⟩
theorem sameP_eq (ps qs : List PrmS) (h : ∀ p ∈ ps, ∀ b ∈ p.f1, inB b) (h' : ∀ p ∈ qs, ∀ b ∈ p.f1, inB b) : sameP ps qs = decide (ps = qs) := by
 induction ps generalizing qs with
 | nil => cases qs with
  | nil => simp [sameP]
  | cons q qs => simp [sameP]
 | cons p ps ih =>
  cases qs with
  | nil => simp [sameP]
  | cons q qs =>
   unfold sameP sameQ
   rw [ih qs (fun r hr => h r (List.mem_cons_of_mem _ hr)) (fun r hr => h' r (List.mem_cons_of_mem _ hr)), str_eq (h p (List.mem_cons_self ..)) (h' q (List.mem_cons_self ..))]
   by_cases e0 : p.f0 = q.f0
   ·by_cases e1 : p.f1 = q.f1
    ·obtain rfl := prm_ext e0 e1
     simp
    ·have : p ≠ q := fun e => e1 (congrArg _ e)
     simp [e1, this]
   ·have : p ≠ q := fun e => e0 (congrArg _ e)
    simp [e0, this]
theorem rgap_run (l0 l1 : List GapS) (hl : l0.length = l1.length) (hm : l0.length ≤ 9223372036854775807) (m i : Nat) (hi : i + m = l0.length) : ∃ k, ropewalkref06_sameGaps.l0 k l0 l1 (i : Int) = some (decide (l0.drop i = l1.drop i)) := by
 induction m generalizing i with
 | zero =>
  refine ⟨1, ?_⟩
  unfold ropewalkref06_sameGaps.l0
  rw [if_neg (by omega), show i = l0.length by omega, List.drop_length, hl, List.drop_length]
  rfl
 | succ m ih =>
  obtain ⟨k, hk⟩ := ih (i + 1) (by omega)
  refine ⟨k + 1, ?_⟩
  unfold ropewalkref06_sameGaps.l0
  rw [if_pos (by omega), if_pos (by omega), if_pos (by omega), gap_drop l0 i (by omega), gap_drop l1 i (by omega), show wrap64 ((i : Int) + 1) = ((i + 1 : Nat) : Int) by unfold wrap64; omega, hk]
  by_cases h : rd_T117 l0 (i : Int) = rd_T117 l1 (i : Int)
  ·rw [h]
   simp
  ·have hc : (!((rd_T117 l0 (i : Int)).f0 == (rd_T117 l1 (i : Int)).f0) || (!((rd_T117 l0 (i : Int)).f1 == (rd_T117 l1 (i : Int)).f1))) = true := by
    by_cases h0 : (rd_T117 l0 (i : Int)).f0 = (rd_T117 l1 (i : Int)).f0
    ·by_cases h1 : (rd_T117 l0 (i : Int)).f1 = (rd_T117 l1 (i : Int)).f1
     ·exact absurd (gap_ext h0 h1) h
     ·simp [h1]
    ·simp [h0]
   rw [if_pos hc, decide_eq_false (fun e => h (List.cons.inj e).1)]
theorem rgaps_calls (w : World) (A0 A1 : Option Addr) (c0 c1 : Nat) (l0 l1 : List GapS) (h0 : Kd.C k117 w A0 l0.length l0) (g0 : l0.length ≤ c0) (h1 : Kd.C k117 w A1 l1.length l1) (g1 : l1.length ≤ c1) :
  Calls Tryd.prog 61 #[.slice A0 l0.length c0, .slice A1 l1.length c1] w fun e w' => e = .returned (.bool (decide (l0 = l1))) ∧ Drawn0 w w' := by
 have hf : ∃ k, ropewalkref06_sameGaps.f k l0 l1 = some (decide (l0 = l1)) := by
  by_cases hl : l0.length = l1.length
  ·obtain ⟨k, hk⟩ := rgap_run l0 l1 hl (max_len h0) l0.length 0 (by omega)
   refine ⟨k, ?_⟩
   unfold ropewalkref06_sameGaps.f
   rw [if_pos (by omega)]
   exact hk
  ·refine ⟨0, ?_⟩
   unfold ropewalkref06_sameGaps.f
   rw [if_neg (by omega), decide_eq_false (fun e => hl (congrArg List.length e))]
 obtain ⟨k, hk⟩ := hf
 exact ropewalkref06_sameGaps.calls k A0 c0 l0 A1 c1 l1 _ w h0 g0 h1 g1 hk
theorem int_at {k : IntKind} {w : World} {A : Option Addr} {n : Nat} {l : List Int} (h : (Kd.int k).C w A n l) (i : Nat) (hi : i < n) : ∃ ad, A = some ad ∧ w.cell? (ad.add i) = some (.int k (l.getD i 0)) := by
 obtain ⟨_, _, h3⟩ := Kd.reads_of_C (enc := Value.int k) (d := (0 : Int)) (h1 := fun _ => rfl) h
 obtain ⟨ad, e, hc⟩ := h3 (by omega)
 exact ⟨ad, e, hc i hi⟩
theorem drawn_le (w : World) (n m : Nat) (h : n ≤ m) : Drawn0 (w.drewN n) (w.drewN m) := by
 refine ⟨m - n, ?_⟩
 rw [World.drewN_drewN]
 congr 1
 omega
theorem neq_chain (a b c d e f g h i j : Bool) : (!a || !b || !c || !d || !e || !f || !g || !h || !i || !j) = !(a && b && c && d && e && f && g && h && i && j) := by
 simp [Bool.not_and]
set_option maxHeartbeats 4000000 in
theorem rsame_calls (w : World) (x y : Chk) (L M : Lay) (hx : CR w x L) (hy : CR w y M) (ox : OkB x) (oy : OkB y) :
  Calls Tryd.prog 32 #[.agg (CV x L), .agg (CV y M)] w fun e w' => e = .returned (.bool (decide (x = y))) ∧ Below w.heap.size w w' := by
 rw [chk_decide]
 have HD := Lh (neq_chain (x.f0 == y.f0) (x.f1 == y.f1) (x.f2 == y.f2) (x.f3 == y.f3) (x.f4 == y.f4) (x.f5 == y.f5) (x.f6 == y.f6) (x.f7 == y.f7) (x.f8 == y.f8) (x.f9 == y.f9))
 have H10 := Lh (fun (W : World) (hb : Below w.heap.size w W) => rgaps_calls W L.A10 M.A10 L.c10 M.c10 x.f10 y.f10 (Kd.C_below hx.h10 hb) hx.l10 (Kd.C_below hy.h10 hb) hy.l10)
 have H11 := Lh (fun (W : World) (hb : Below w.heap.size w W) => rgaps_calls W L.A11 M.A11 L.c11 M.c11 x.f11 y.f11 (Kd.C_below hx.h11 hb) hx.l11 (Kd.C_below hy.h11 hb) hy.l11)
 have H12 := Lh (fun (W : World) (hb : Below w.heap.size w W) => Kd.C_below hx.h12 hb)
 have G12 := Lh (fun (W : World) (hb : Below w.heap.size w W) => Kd.C_below hy.h12 hb)
 have H13 := Lh (fun (W : World) (hb : Below w.heap.size w W) => Kd.C_string (P := Tryd.prog) (c := L.c13) Tryd.underlying27 Tryd.underlying5 Tryd.underlying9 (Kd.C_below hx.h13 hb))
 have G13 := Lh (fun (W : World) (hb : Below w.heap.size w W) => Kd.C_string (P := Tryd.prog) (c := M.c13) Tryd.underlying27 Tryd.underlying5 Tryd.underlying9 (Kd.C_below hy.h13 hb))
 have H14 := Lh (fun (W : World) (hb : Below w.heap.size w W) => refSame_calls W L.A14 L.c14 x.f14 M.A14 M.c14 y.f14 (Kd.C_below hx.h14 hb) (Kd.C_below hy.h14 hb))
 rw [sameP_eq _ _ ox.prm oy.prm] at H14
 have HS := Lh (str_eq ox.body oy.body)
 have z12 := hx.h12.2.1
 have z13 := hy.h12.2.1
 clear hx hy ox oy
 have HB := Lh (below_alloc (below_alloc (Below.refl w.heap.size w) (.cells (CV x L) 41)) (.cells (CV y M) 41))
 have O0 := Lh (show ((w.alloc (.cells (CV x L) 41)).alloc (.cells (CV y M) 41)).heap[w.heap.size]? = some (.cells (CV x L) 41 (0, 0)) from blk_alloc (blk_new _ _) _)
 have O1 := Lh (show ((w.alloc (.cells (CV x L) 41)).alloc (.cells (CV y M) 41)).heap[w.heap.size + 1]? = some (.cells (CV y M) 41 (0, 0)) by have h := blk_new (w.alloc (.cells (CV x L) 41)) (.cells (CV y M) 41); rw [World.size_alloc] at h; exact h)
 have u0 := (blk_cell O0.out 0).trans (show (CV x L)[0]? = some (.int .u8 x.f0) from rfl)
 have v0 := (blk_cell O1.out 0).trans (show (CV y M)[0]? = some (.int .u8 y.f0) from rfl)
 have U0 := Lh u0
 have V0 := Lh v0
 clear u0 v0
 have u1 := (blk_cell O0.out 1).trans (show (CV x L)[1]? = some (.int .u8 x.f1) from rfl)
 have v1 := (blk_cell O1.out 1).trans (show (CV y M)[1]? = some (.int .u8 y.f1) from rfl)
 have U1 := Lh u1
 have V1 := Lh v1
 clear u1 v1
 have u2 := (blk_cell O0.out 2).trans (show (CV x L)[2]? = some (.int .u32 x.f2) from rfl)
 have v2 := (blk_cell O1.out 2).trans (show (CV y M)[2]? = some (.int .u32 y.f2) from rfl)
 have U2 := Lh u2
 have V2 := Lh v2
 clear u2 v2
 have u3 := (blk_cell O0.out 3).trans (show (CV x L)[3]? = some (.int .u16 x.f3) from rfl)
 have v3 := (blk_cell O1.out 3).trans (show (CV y M)[3]? = some (.int .u16 y.f3) from rfl)
 have U3 := Lh u3
 have V3 := Lh v3
 clear u3 v3
 have u4 := (blk_cell O0.out 4).trans (show (CV x L)[4]? = some (.int .u16 x.f4) from rfl)
 have v4 := (blk_cell O1.out 4).trans (show (CV y M)[4]? = some (.int .u16 y.f4) from rfl)
 have U4 := Lh u4
 have V4 := Lh v4
 clear u4 v4
 have u5 := (blk_cell O0.out 5).trans (show (CV x L)[5]? = some (.int .u32 x.f5) from rfl)
 have v5 := (blk_cell O1.out 5).trans (show (CV y M)[5]? = some (.int .u32 y.f5) from rfl)
 have U5 := Lh u5
 have V5 := Lh v5
 clear u5 v5
 have u6 := (blk_cell O0.out 6).trans (show (CV x L)[6]? = some (.int .u32 x.f6) from rfl)
 have v6 := (blk_cell O1.out 6).trans (show (CV y M)[6]? = some (.int .u32 y.f6) from rfl)
 have U6 := Lh u6
 have V6 := Lh v6
 clear u6 v6
 have u7 := (blk_cell O0.out 7).trans (show (CV x L)[7]? = some (.int .u32 x.f7) from rfl)
 have v7 := (blk_cell O1.out 7).trans (show (CV y M)[7]? = some (.int .u32 y.f7) from rfl)
 have U7 := Lh u7
 have V7 := Lh v7
 clear u7 v7
 have u8 := (blk_cell O0.out 8).trans (show (CV x L)[8]? = some (.int .u16 x.f8) from rfl)
 have v8 := (blk_cell O1.out 8).trans (show (CV y M)[8]? = some (.int .u16 y.f8) from rfl)
 have U8 := Lh u8
 have V8 := Lh v8
 clear u8 v8
 have u9 := (blk_cell O0.out 9).trans (show (CV x L)[9]? = some (.int .u16 x.f9) from rfl)
 have v9 := (blk_cell O1.out 9).trans (show (CV y M)[9]? = some (.int .u16 y.f9) from rfl)
 have U9 := Lh u9
 have V9 := Lh v9
 clear u9 v9
 have u10 := (blk_cell O0.out 10).trans (show (CV x L)[10]? = some (.slice L.A10 x.f10.length L.c10) from rfl)
 have v10 := (blk_cell O1.out 10).trans (show (CV y M)[10]? = some (.slice M.A10 y.f10.length M.c10) from rfl)
 have U10 := Lh u10
 have V10 := Lh v10
 clear u10 v10
 have u11 := (blk_cell O0.out 11).trans (show (CV x L)[11]? = some (.slice L.A11 x.f11.length L.c11) from rfl)
 have v11 := (blk_cell O1.out 11).trans (show (CV y M)[11]? = some (.slice M.A11 y.f11.length M.c11) from rfl)
 have U11 := Lh u11
 have V11 := Lh v11
 clear u11 v11
 have u12 := (blk_cell O0.out 12).trans (show (CV x L)[12]? = some (.slice L.A12 x.f12.length L.c12) from rfl)
 have v12 := (blk_cell O1.out 12).trans (show (CV y M)[12]? = some (.slice M.A12 y.f12.length M.c12) from rfl)
 have U12 := Lh u12
 have V12 := Lh v12
 clear u12 v12
 have u13 := (blk_cell O0.out 13).trans (show (CV x L)[13]? = some (.slice L.A13 x.f13.length L.c13) from rfl)
 have v13 := (blk_cell O1.out 13).trans (show (CV y M)[13]? = some (.slice M.A13 y.f13.length M.c13) from rfl)
 have U13 := Lh u13
 have V13 := Lh v13
 clear u13 v13
 have u14 := (blk_cell O0.out 14).trans (show (CV x L)[14]? = some (.slice L.A14 x.f14.length L.c14) from rfl)
 have v14 := (blk_cell O1.out 14).trans (show (CV y M)[14]? = some (.slice M.A14 y.f14.length M.c14) from rfl)
 have U14 := Lh u14
 have V14 := Lh v14
 clear u14 v14
 clear O0 O1
 have HL := Lh (show decide (x.f12 = y.f12) = (decide (x.f12.length = y.f12.length) && decide (x.f12 = y.f12)) by by_cases h : x.f12 = y.f12 <;> simp [h])
 generalize x.f12 = l0 at *
 generalize y.f12 = l1 at *
 generalize decide (x.f10 = y.f10) = r10 at *
 generalize decide (x.f11 = y.f11) = r11 at *
 generalize decide (x.f14 = y.f14) = r14 at *
 generalize strOfNums x.f13 = s0 at *
 generalize strOfNums y.f13 = s1 at *
 generalize decide (x.f13 = y.f13) = r13 at *
 generalize x.f10.length = n10 at *
 generalize y.f10.length = m10 at *
 generalize x.f11.length = n11 at *
 generalize y.f11.length = m11 at *
 generalize x.f13.length = n13 at *
 generalize y.f13.length = m13 at *
 generalize x.f14.length = n14 at *
 generalize y.f14.length = m14 at *
 generalize x.f0 = a0 at *
 generalize y.f0 = b0 at *
 generalize x.f1 = a1 at *
 generalize y.f1 = b1 at *
 generalize x.f2 = a2 at *
 generalize y.f2 = b2 at *
 generalize x.f3 = a3 at *
 generalize y.f3 = b3 at *
 generalize x.f4 = a4 at *
 generalize y.f4 = b4 at *
 generalize x.f5 = a5 at *
 generalize y.f5 = b5 at *
 generalize x.f6 = a6 at *
 generalize y.f6 = b6 at *
 generalize x.f7 = a7 at *
 generalize y.f7 = b7 at *
 generalize x.f8 = a8 at *
 generalize y.f8 = b8 at *
 generalize x.f9 = a9 at *
 generalize y.f9 = b9 at *
 have Q0 := Lh (show (a0 != b0) = !(a0 == b0) from rfl)
 have Q1 := Lh (show (a1 != b1) = !(a1 == b1) from rfl)
 have Q2 := Lh (show (a2 != b2) = !(a2 == b2) from rfl)
 have Q3 := Lh (show (a3 != b3) = !(a3 == b3) from rfl)
 have Q4 := Lh (show (a4 != b4) = !(a4 == b4) from rfl)
 have Q5 := Lh (show (a5 != b5) = !(a5 == b5) from rfl)
 have Q6 := Lh (show (a6 != b6) = !(a6 == b6) from rfl)
 have Q7 := Lh (show (a7 != b7) = !(a7 == b7) from rfl)
 have Q8 := Lh (show (a8 != b8) = !(a8 == b8) from rfl)
 have Q9 := Lh (show (a9 != b9) = !(a9 == b9) from rfl)
 generalize (!(a0 == b0)) = r0 at *
 generalize (!(a1 == b1)) = r1 at *
 generalize (!(a2 == b2)) = r2 at *
 generalize (!(a3 == b3)) = r3 at *
 generalize (!(a4 == b4)) = r4 at *
 generalize (!(a5 == b5)) = r5 at *
 generalize (!(a6 == b6)) = r6 at *
 generalize (!(a7 == b7)) = r7 at *
 generalize (!(a8 == b8)) = r8 at *
 generalize (!(a9 == b9)) = r9 at *
 generalize ((((((((((a0 == b0) && (a1 == b1)) && (a2 == b2)) && (a3 == b3)) && (a4 == b4)) && (a5 == b5)) && (a6 == b6)) && (a7 == b7)) && (a8 == b8)) && (a9 == b9)) = E at *
 generalize CV x L = CX at *
 generalize CV y M = CY at *
 generalize L.A12 = P0 at *
 generalize M.A12 = P1 at *
 go_enter Tryd.func32, Tryd.ntmps32
 go_upto_region 1 with (fail)
 generalize (w.alloc (.cells CX 41)).alloc (.cells CY 41) = W at *
 refine wp_region_lit ?_
 (try simp only [List.cons_append, List.nil_append])
 refine link_first (N := 129) (s := 6) (X := .pointer (some ⟨w.heap.size, 0, none⟩)) (Y := .pointer (some ⟨w.heap.size + 1, 0, none⟩)) (v0 := .pointer (some ⟨w.heap.size, 0, none⟩)) (v1 := .int .u8 a0) (v2 := .pointer (some ⟨w.heap.size + 1, 0, none⟩)) (v3 := .int .u8 b0) (q := r0) (by rfl) rfl (by rfl) (by rfl) (by omega) (by omega) rfl rfl rfl rfl rfl rfl rfl rfl rfl rfl rfl rfl (fun a h => by go_simp) (fun a h => by have u := U0.out; go_simp) (fun a h => by go_simp) (fun a h => by have u := V0.out; go_simp) (fun a h h' => by have q := Q0.out; go_simp) (fun a b h => by go_simp) (fun a0_ h0 => ?_)
 refine link (N := 129) (s := 12) (m := 18) (p := 11) (j := 5) (X := .pointer (some ⟨w.heap.size, 0, none⟩)) (Y := .pointer (some ⟨w.heap.size + 1, 0, none⟩)) (v0 := .pointer (some ⟨w.heap.size, 1, none⟩)) (v1 := .int .u8 a1) (v2 := .pointer (some ⟨w.heap.size + 1, 1, none⟩)) (v3 := .int .u8 b1) (want := false) (r := r0) (q := r1) h0 (by omega) (by omega) (by omega) (by omega) (by omega) (by omega) rfl rfl rfl rfl rfl rfl rfl rfl rfl rfl rfl rfl rfl rfl rfl (fun a h => by go_simp) (fun a h => by have u := U1.out; go_simp) (fun a h => by go_simp) (fun a h => by have u := V1.out; go_simp) (fun a h h' => by have q := Q1.out; go_simp) (fun a h h' => by go_simp) (fun a h => by go_simp) (fun a b h => by go_simp) (fun a1_ h1 => ?_)
 rw [cmb_false] at h1
 refine link (N := 129) (s := 19) (m := 25) (p := 18) (j := 12) (X := .pointer (some ⟨w.heap.size, 0, none⟩)) (Y := .pointer (some ⟨w.heap.size + 1, 0, none⟩)) (v0 := .pointer (some ⟨w.heap.size, 2, none⟩)) (v1 := .int .u32 a2) (v2 := .pointer (some ⟨w.heap.size + 1, 2, none⟩)) (v3 := .int .u32 b2) (want := false) (r := (r0 || r1)) (q := r2) h1 (by omega) (by omega) (by omega) (by omega) (by omega) (by omega) rfl rfl rfl rfl rfl rfl rfl rfl rfl rfl rfl rfl rfl rfl rfl (fun a h => by go_simp) (fun a h => by have u := U2.out; go_simp) (fun a h => by go_simp) (fun a h => by have u := V2.out; go_simp) (fun a h h' => by have q := Q2.out; go_simp) (fun a h h' => by go_simp) (fun a h => by go_simp) (fun a b h => by go_simp) (fun a2_ h2 => ?_)
 rw [cmb_false] at h2
 refine link (N := 129) (s := 26) (m := 32) (p := 25) (j := 19) (X := .pointer (some ⟨w.heap.size, 0, none⟩)) (Y := .pointer (some ⟨w.heap.size + 1, 0, none⟩)) (v0 := .pointer (some ⟨w.heap.size, 3, none⟩)) (v1 := .int .u16 a3) (v2 := .pointer (some ⟨w.heap.size + 1, 3, none⟩)) (v3 := .int .u16 b3) (want := false) (r := ((r0 || r1) || r2)) (q := r3) h2 (by omega) (by omega) (by omega) (by omega) (by omega) (by omega) rfl rfl rfl rfl rfl rfl rfl rfl rfl rfl rfl rfl rfl rfl rfl (fun a h => by go_simp) (fun a h => by have u := U3.out; go_simp) (fun a h => by go_simp) (fun a h => by have u := V3.out; go_simp) (fun a h h' => by have q := Q3.out; go_simp) (fun a h h' => by go_simp) (fun a h => by go_simp) (fun a b h => by go_simp) (fun a3_ h3 => ?_)
 rw [cmb_false] at h3
 refine link (N := 129) (s := 33) (m := 39) (p := 32) (j := 26) (X := .pointer (some ⟨w.heap.size, 0, none⟩)) (Y := .pointer (some ⟨w.heap.size + 1, 0, none⟩)) (v0 := .pointer (some ⟨w.heap.size, 4, none⟩)) (v1 := .int .u16 a4) (v2 := .pointer (some ⟨w.heap.size + 1, 4, none⟩)) (v3 := .int .u16 b4) (want := false) (r := (((r0 || r1) || r2) || r3)) (q := r4) h3 (by omega) (by omega) (by omega) (by omega) (by omega) (by omega) rfl rfl rfl rfl rfl rfl rfl rfl rfl rfl rfl rfl rfl rfl rfl (fun a h => by go_simp) (fun a h => by have u := U4.out; go_simp) (fun a h => by go_simp) (fun a h => by have u := V4.out; go_simp) (fun a h h' => by have q := Q4.out; go_simp) (fun a h h' => by go_simp) (fun a h => by go_simp) (fun a b h => by go_simp) (fun a4_ h4 => ?_)
 rw [cmb_false] at h4
 refine link (N := 129) (s := 40) (m := 46) (p := 39) (j := 33) (X := .pointer (some ⟨w.heap.size, 0, none⟩)) (Y := .pointer (some ⟨w.heap.size + 1, 0, none⟩)) (v0 := .pointer (some ⟨w.heap.size, 5, none⟩)) (v1 := .int .u32 a5) (v2 := .pointer (some ⟨w.heap.size + 1, 5, none⟩)) (v3 := .int .u32 b5) (want := false) (r := ((((r0 || r1) || r2) || r3) || r4)) (q := r5) h4 (by omega) (by omega) (by omega) (by omega) (by omega) (by omega) rfl rfl rfl rfl rfl rfl rfl rfl rfl rfl rfl rfl rfl rfl rfl (fun a h => by go_simp) (fun a h => by have u := U5.out; go_simp) (fun a h => by go_simp) (fun a h => by have u := V5.out; go_simp) (fun a h h' => by have q := Q5.out; go_simp) (fun a h h' => by go_simp) (fun a h => by go_simp) (fun a b h => by go_simp) (fun a5_ h5 => ?_)
 rw [cmb_false] at h5
 refine link (N := 129) (s := 47) (m := 53) (p := 46) (j := 40) (X := .pointer (some ⟨w.heap.size, 0, none⟩)) (Y := .pointer (some ⟨w.heap.size + 1, 0, none⟩)) (v0 := .pointer (some ⟨w.heap.size, 6, none⟩)) (v1 := .int .u32 a6) (v2 := .pointer (some ⟨w.heap.size + 1, 6, none⟩)) (v3 := .int .u32 b6) (want := false) (r := (((((r0 || r1) || r2) || r3) || r4) || r5)) (q := r6) h5 (by omega) (by omega) (by omega) (by omega) (by omega) (by omega) rfl rfl rfl rfl rfl rfl rfl rfl rfl rfl rfl rfl rfl rfl rfl (fun a h => by go_simp) (fun a h => by have u := U6.out; go_simp) (fun a h => by go_simp) (fun a h => by have u := V6.out; go_simp) (fun a h h' => by have q := Q6.out; go_simp) (fun a h h' => by go_simp) (fun a h => by go_simp) (fun a b h => by go_simp) (fun a6_ h6 => ?_)
 rw [cmb_false] at h6
 refine link (N := 129) (s := 54) (m := 60) (p := 53) (j := 47) (X := .pointer (some ⟨w.heap.size, 0, none⟩)) (Y := .pointer (some ⟨w.heap.size + 1, 0, none⟩)) (v0 := .pointer (some ⟨w.heap.size, 7, none⟩)) (v1 := .int .u32 a7) (v2 := .pointer (some ⟨w.heap.size + 1, 7, none⟩)) (v3 := .int .u32 b7) (want := false) (r := ((((((r0 || r1) || r2) || r3) || r4) || r5) || r6)) (q := r7) h6 (by omega) (by omega) (by omega) (by omega) (by omega) (by omega) rfl rfl rfl rfl rfl rfl rfl rfl rfl rfl rfl rfl rfl rfl rfl (fun a h => by go_simp) (fun a h => by have u := U7.out; go_simp) (fun a h => by go_simp) (fun a h => by have u := V7.out; go_simp) (fun a h h' => by have q := Q7.out; go_simp) (fun a h h' => by go_simp) (fun a h => by go_simp) (fun a b h => by go_simp) (fun a7_ h7 => ?_)
 rw [cmb_false] at h7
 refine link (N := 129) (s := 61) (m := 67) (p := 60) (j := 54) (X := .pointer (some ⟨w.heap.size, 0, none⟩)) (Y := .pointer (some ⟨w.heap.size + 1, 0, none⟩)) (v0 := .pointer (some ⟨w.heap.size, 8, none⟩)) (v1 := .int .u16 a8) (v2 := .pointer (some ⟨w.heap.size + 1, 8, none⟩)) (v3 := .int .u16 b8) (want := false) (r := (((((((r0 || r1) || r2) || r3) || r4) || r5) || r6) || r7)) (q := r8) h7 (by omega) (by omega) (by omega) (by omega) (by omega) (by omega) rfl rfl rfl rfl rfl rfl rfl rfl rfl rfl rfl rfl rfl rfl rfl (fun a h => by go_simp) (fun a h => by have u := U8.out; go_simp) (fun a h => by go_simp) (fun a h => by have u := V8.out; go_simp) (fun a h h' => by have q := Q8.out; go_simp) (fun a h h' => by go_simp) (fun a h => by go_simp) (fun a b h => by go_simp) (fun a8_ h8 => ?_)
 rw [cmb_false] at h8
 refine link6 (N := 129) (s := 68) (p := 67) (j := 61) (X := .pointer (some ⟨w.heap.size, 0, none⟩)) (Y := .pointer (some ⟨w.heap.size + 1, 0, none⟩)) (v0 := .pointer (some ⟨w.heap.size, 9, none⟩)) (v1 := .int .u16 a9) (v2 := .pointer (some ⟨w.heap.size + 1, 9, none⟩)) (v3 := .int .u16 b9) (want := false) (r := ((((((((r0 || r1) || r2) || r3) || r4) || r5) || r6) || r7) || r8)) (q := r9) h8 (by omega) (by omega) (by omega) rfl rfl rfl rfl rfl rfl rfl rfl rfl rfl rfl rfl rfl (fun a h => by go_simp) (fun a h => by have u := U9.out; go_simp) (fun a h => by go_simp) (fun a h => by have u := V9.out; go_simp) (fun a h h' => by have q := Q9.out; go_simp) (fun a h h' => by go_simp) (fun a h => by go_simp) (fun a9_ h9 => ?_)
 rw [cmb_false] at h9
 rw [HD.out] at h9
 clear HD h0 h1 h2 h3 h4 h5 h6 h7 h8
 refine wpList_nil ?_
 obtain ⟨f, hf, ha⟩ := act_lit h9.size h9.defers
 have f2 := hf _ _ h9.x
 have f3 := hf _ _ h9.y
 have f73 := hf _ _ h9.r
 clear h9 hf
 subst ha
 rw [show ((List.range 129).map f).toArray = #[f 0, f 1, f 2, f 3, f 4, f 5, f 6, f 7, f 8, f 9, f 10, f 11, f 12, f 13, f 14, f 15, f 16, f 17, f 18, f 19, f 20, f 21, f 22, f 23, f 24, f 25, f 26, f 27, f 28, f 29, f 30, f 31, f 32, f 33, f 34, f 35, f 36, f 37, f 38, f 39, f 40, f 41, f 42, f 43, f 44, f 45, f 46, f 47, f 48, f 49, f 50, f 51, f 52, f 53, f 54, f 55, f 56, f 57, f 58, f 59, f 60, f 61, f 62, f 63, f 64, f 65, f 66, f 67, f 68, f 69, f 70, f 71, f 72, f 73, f 74, f 75, f 76, f 77, f 78, f 79, f 80, f 81, f 82, f 83, f 84, f 85, f 86, f 87, f 88, f 89, f 90, f 91, f 92, f 93, f 94, f 95, f 96, f 97, f 98, f 99, f 100, f 101, f 102, f 103, f 104, f 105, f 106, f 107, f 108, f 109, f 110, f 111, f 112, f 113, f 114, f 115, f 116, f 117, f 118, f 119, f 120, f 121, f 122, f 123, f 124, f 125, f 126, f 127, f 128] from rfl, f2, f3, f73]
 rename_i K1 hK1
 refine hK1 _ _ ?_
 have u10 := U10.out
 have v10 := V10.out
 have u11 := U11.out
 have v11 := V11.out
 have u12 := U12.out
 have v12 := V12.out
 have u13 := U13.out
 have v13 := V13.out
 have u14 := U14.out
 have v14 := V14.out
 clear f2 f3 f73 hK1 U0 V0 U1 V1 U2 V2 U3 V3 U4 V4 U5 V5 U6 V6 U7 V7 U8 V8 U9 V9 U10 V10 U11 V11 U12 V12 U13 V13 U14 V14 Q0 Q1 Q2 Q3 Q4 Q5 Q6 Q7 Q8 Q9
 have HB0 := Lh (fun n => pw_below_drewN HB.out n)
 cases E with
 | false =>
  have t : (!false) = true := rfl
  go_wp2
  go_ret
  exact ⟨rfl, HB.out⟩
 | true =>
  have t : (!true) = false := rfl
  rw [t]
  go_wp2_with fail
  refine (H10.out _ HB.out).mono ?_
  rintro e w1 ⟨rfl, ⟨k1, rfl⟩⟩
  cases r10 with
  | false =>
   go_wp2
   go_ret
   exact ⟨rfl, HB0.out _⟩
  | true =>
   go_wp2_with fail
   refine (H11.out _ (HB0.out _)).mono ?_
   rintro e w1 ⟨rfl, ⟨k2, rfl⟩⟩
   rw [World.drewN_drewN]
   cases r11 with
   | false =>
    go_wp2
    go_ret
    exact ⟨rfl, HB0.out _⟩
   | true =>
    by_cases hl : l0.length = l1.length
    ·have ht : (((l0.length : Nat) : Int) != ((l1.length : Nat) : Int)) = false := by simp [hl]
     have c1 := H13.out _ (HB0.out (k1 + k2))
     have c2 := G13.out _ (HB0.out (k1 + k2))
     have hs := HS.out
     clear HS
     cases r13 with
     | false =>
      go_wp2
      go_ret
      exact ⟨by simp, HB0.out _⟩
     | true =>
      have HLE := Lh hl
      have ht2 : ¬ ((l0.length : Nat) : Int) ≠ ((l1.length : Nat) : Int) := by omega
      clear hl
      go_wp2
      go_loopw [5] (fun v5 w' => ∃ i : Nat, i ≤ l0.length ∧ v5 = .int .i64 i ∧ Hid (decide (l0 = l1) = decide (l0.drop i = l1.drop i)) ∧ Hid (Drawn0 (W.drewN (k1 + k2)) w')) (fun v5 _ => l0.length - (intOf v5).toNat)
      case atStart => exact ⟨0, by omega, rfl, rfl, Drawn0.refl _⟩
      case round =>
       obtain ⟨i, hi, rfl, HE, HDR⟩ := hrel
       obtain ⟨k3, rfl⟩ := HDR.out
       rw [World.drewN_drewN]
       by_cases hlt : i < l0.length
       ·have hlt' : i < l1.length := by rw [← HLE.out]; exact hlt
        obtain ⟨ad, e0, x0⟩ := int_at (H12.out W HB.out) i hlt
        obtain ⟨ad', e1, x1⟩ := int_at (G12.out W HB.out) i hlt'
        have hd := HE.out
        rw [u32_drop l0 i hlt, u32_drop l1 i hlt'] at hd
        have g0 : l0.getD i 0 = rd l0 (i : Int) := rfl
        have g1 : l1.getD i 0 = rd l1 (i : Int) := rfl
        rw [g0] at x0
        rw [g1] at x1
        generalize rd l0 (i : Int) = p at *
        generalize rd l1 (i : Int) = q at *
        have s2 : (p :: l0.drop (i + 1) = q :: l1.drop (i + 1)) = (p = q ∧ l0.drop (i + 1) = l1.drop (i + 1)) := by simp
        by_cases hp : p = q
        ·have HD := Lh (show decide (l0 = l1) = decide (l0.drop (i + 1) = l1.drop (i + 1)) by rw [hd]; exact decide_eq_decide.2 (by rw [s2]; simp [hp]))
         have hpq : (p != q) = false := by simp [hp]
         subst e0 e1
         clear hd s2
         go_wp2
         go_quiet (fail)
         go_wp2
         go_roundw
         case rel => exact ⟨i + 1, by omega, by go_num, HD, drawn_le _ _ _ (by omega)⟩
         case measure => simp [intOf]; omega
        ·have HD := Lh (show decide (l0 = l1) = false by rw [hd]; exact decide_eq_false (fun e => hp (s2.mp e).1))
         have hpq : (p != q) = true := by simp [hp]
         subst e0 e1
         clear hd s2
         go_wp2
         go_quiet (fail)
         go_wp2
         go_ret
         exact ⟨by rw [HD.out]; simp, by first | exact HB0.out _ | (simp only [World.drewN_drewN]; exact HB0.out _)⟩
       ·obtain rfl : i = l0.length := by omega
        have HD := Lh (show decide (l0 = l1) = true by rw [HE.out, List.drop_length, HLE.out, List.drop_length]; rfl)
        have h14 := H14.out _ (HB0.out (k1 + k2 + k3))
        go_wp2_with fail
        refine h14.mono ?_
        rintro e w4 ⟨rfl, ⟨k4, rfl⟩⟩
        go_wp2
        go_ret
        exact ⟨by rw [HD.out]; simp, HB0.out _⟩
    ·have ht : (((l0.length : Nat) : Int) != ((l1.length : Nat) : Int)) = true := by rw [bne_iff_ne]; omega
     have hd : decide (l0 = l1) = false := decide_eq_false (fun e => hl (congrArg List.length e))
     go_wp2
     go_ret
     exact ⟨by rw [hd]; simp, HB0.out _⟩
end Go.Proofs.YtdlamomabonkjaaDoor.Ch
end
section
namespace Go.Proofs.YtdlamomabonkjaaDoor.Ch
open Go.RowKit YtdlamomabonkjaaDoorW.PrintWords YtdlamomabonkjaaDoorW.PrintLast YtdlamomabonkjaaDoorW.PrintMore Base PCh ParDec
attribute [local go_sem] max2_int max_two max_three
def listsD (nr : Bool) (v : List UInt8) : Except Int (Nat × Nat × List GapS × List GapS × List Int) :=
 if v.length < (if nr then 16 else 12) then .error 61
 else if 4096 < be ((v.drop 8).take 2) ∨ 4096 < (if nr then be ((v.drop 10).take 2) else 0) ∨ 4096 < be ((v.drop (if nr then 12 else 10)).take 2) then .error 3
 else if v.length ≠ (if nr then 16 else 12) + 4 * (be ((v.drop 8).take 2) + (if nr then be ((v.drop 10).take 2) else 0) + be ((v.drop (if nr then 12 else 10)).take 2)) then .error 61
 else .ok (be (v.take 4), be ((v.drop 4).take 4), gapsD (be ((v.drop 8).take 2)) (v.drop (if nr then 16 else 12)), gapsD (if nr then be ((v.drop 10).take 2) else 0) (v.drop ((if nr then 16 else 12) + 4 * be ((v.drop 8).take 2))),
  dupsD (be ((v.drop (if nr then 12 else 10)).take 2)) (v.drop ((if nr then 16 else 12) + 4 * (be ((v.drop 8).take 2) + (if nr then be ((v.drop 10).take 2) else 0)))))
theorem only_then3 {S : Nat → Prop} {w W W' : World} (h : Only S w W) (hb : Below w.heap.size W W') : Only S w W' := Only.then_ h hb
def listsT14 : Bool × List (List Nat × List Nat) := (true, [([], []), ([], []), ([1], [1]), ([2], [2]), ([3], [3]), ([], []), ([5], [5]), ([6], [6]), ([4, 7, 6], [4, 7]), ([0, 0, 1, 2, 3, 4, 5, 6, 7, 8], [0]), ([9, 0, 1, 2, 3, 4, 5, 6, 7, 8], [9]), ([10, 8, 8, 0, 1, 2, 3, 4, 5, 6, 7, 8], [8, 10])])
def listsB14 : List Nat := [0, 0, 2, 6, 14, 0, 32, 96, 254, 511, 1023, 2047]
theorem liststab14 : Go.Proofs.YtdlamomabonkjaaDoorW.PrintLast.rtab .any (Go.Proofs.YtdlamomabonkjaaDoorW.PrintLast.opsOf Tryd.f100 14) = listsT14 := by kernel_rfl
theorem listsbits14 : Go.Proofs.YtdlamomabonkjaaDoorW.PrintLast.waitsOk listsT14.2 listsB14 = true := by kernel_rfl
theorem be_two_lt (l : List UInt8) : be (l.take 2) < 65536 := by
 match l with
 | [] => simp [be]
 | [a] => have := a.toNat_lt; simp [be]; omega
 | a :: b :: r => have := a.toNat_lt; have := b.toNat_lt; simp [be]; omega
def ListP (w0 w : World) (g gc : Nat) (kd fl : Int) (r : Except Int (Nat × Nat × List GapS × List GapS × List Int)) (e : Ending) (w' : World) : Prop :=
 match r with
 | .error code => e = errE code ∧ (∃ x0, w'.heap[gc]? = some (.cells x0 41 (0, 0)) ∧ x0.size = 15) ∧ Only (fun k => k = g ∨ k = gc) w w'
 | .ok (t1, t2, G, N, D) => e = .returned (.tuple #[]) ∧ ∃ vg vn vd, w'.heap[gc]? = some (.cells #[.int .u8 kd, .int .u8 fl, .int .u32 (t1 : Int), .int .u16 0, .int .u16 0, .int .u32 0, .int .u32 0, .int .u32 (t2 : Int), .int .u16 0, .int .u16 0, vg, vn, vd, .slice none 0 0, .slice none 0 0] 41 (0, 0)) ∧ Kd.R k117 117 w' w.heap.size (fun _ => True) vg G ∧ Kd.R k117 117 w' w.heap.size (fun _ => True) vn N ∧ (Kd.int .u32).R 23 w' w.heap.size (fun _ => True) vd D ∧ RS w0 w' g [] ∧ Only (fun k => k = g ∨ k = gc) w w'
set_option maxHeartbeats 4000000 in
theorem lists_sack (w0 w : World) (g gc : Nat) (v : List UInt8) (fl : Int) (hs : RS w0 w g v) (hc : w.heap[gc]? = some (.cells #[.int .u8 3, .int .u8 fl, .int .u32 0, .int .u16 0, .int .u16 0, .int .u32 0, .int .u32 0, .int .u32 0, .int .u16 0, .int .u16 0, .slice none 0 0, .slice none 0 0, .slice none 0 0, .slice none 0 0, .slice none 0 0] 41 (0, 0))) (hB : Below w0.heap.size w0 w) (hg : w0.heap.size ≤ g) (hgc : w0.heap.size ≤ gc) (hne : g ≠ gc) (hv : v.length ≤ 140737488355328) :
  Calls Tryd.prog 100 #[.pointer (some ⟨g, 0, none⟩), .pointer (some ⟨gc, 0, none⟩)] w (ListP w0 w g gc 3 fl (listsD false v)) := by
 have HGL := Lh (show g < w.heap.size ∧ gc < w.heap.size from ⟨hs.lt, blk_lt hc⟩)
 have HBW := Lh (fun (W : World) (h : Only (fun k => k = g ∨ k = gc) w W) => hB.trans (h.below hB.size (fun k hk => by omega)))
 have HNE := Lh (show ¬ gc = g from fun e => hne e.symm)
 have HNE2 := Lh (show ¬ g = gc from hne)
 have HF := Lh (fun (W : World) (u : List UInt8) (h : RS w0 W g u) (hO : Only (fun k => k = g ∨ k = gc) w W) (h4 : 4 ≤ u.length) (hu : u.length ≤ 140737488355328) => four_ok w0 W g u h (HBW.out W hO) hg h4 hu)
 have HFB := Lh (fun (W : World) (u : List UInt8) (h : RS w0 W g u) (hO : Only (fun k => k = g ∨ k = gc) w W) (h4 : u.length < 4) (hu : u.length ≤ 140737488355328) => four_bad w0 W g u h (HBW.out W hO) hg h4 hu)
 have HC := Lh (fun (W : World) (u : List UInt8) (h : RS w0 W g u) (hO : Only (fun k => k = g ∨ k = gc) w W) (hu : u.length ≤ 140737488355328) => counts_calls w0 W g u 2 (by decide) h (HBW.out W hO) hg hu)
 have HGP := Lh (fun (W : World) (u : List UInt8) (k : Nat) (h : RS w0 W g u) (hO : Only (fun k => k = g ∨ k = gc) w W) (hu : u.length ≤ 140737488355328) (hk : k ≤ 4096) (hl : 4 * k ≤ u.length) => rgaps_ok w0 W g u k hk h (HBW.out W hO) hg hu hl)
 have HS := Lh hs
 have HCC := Lh hc
 have hwg : w0.heap.size ≤ g := hg
 unfold CntP errE at HC
 unfold errE at HFB
 clear hs hc hB hg hgc hne
 by_cases h4 : 4 ≤ v.length
 ·have H1 := Lh (HF.out w v HS.out (Only.refl _ _) h4 hv)
  by_cases h8 : 8 ≤ v.length
  ·have H2 := Lh (fun (W : World) (h : RS w0 W g (v.drop 4)) (hO : Only (· = g) w W) => HF.out W (v.drop 4) h (hO.mono (fun k _ h => Or.inl h)) (by rw [List.length_drop]; omega) (by rw [List.length_drop]; omega))
   have H3 := Lh (fun (W : World) (h : RS w0 W g (v.drop 8)) (hO : Only (fun k => k = g ∨ k = gc) w W) => HC.out W (v.drop 8) h hO (by rw [List.length_drop]; omega))
   rw [List.drop_drop] at H2
   obtain ⟨t1, ht1⟩ : ∃ t1, be (v.take 4) = t1 := ⟨_, rfl⟩
   obtain ⟨t2, ht2⟩ : ∃ t2, be ((v.drop 4).take 4) = t2 := ⟨_, rfl⟩
   rw [ht1] at H1
   rw [ht2] at H2
   have HT1 := Lh ht1
   have HT2 := Lh ht2
   clear ht1 ht2
   go_enter Tryd.func100, Tryd.ntmps100
   go_wp2_with fail
   refine H1.out.mono ?_
   rintro e w1 ⟨rfl, hRS, hO1⟩
   have HRS := Lh hRS
   have HO1 := Lh hO1
   clear hRS hO1 H1
   go_wp2_with fail
   refine (H2.out w1 HRS.out HO1.out).mono ?_
   rintro e w2 ⟨rfl, hRS, hO2⟩
   have hO12 := HO1.out.trans hO2 (fun k _ h => h)
   have hc2 := hO12.blk HCC.out HNE.out
   have k2 : w2.cell? ⟨gc, 2, none⟩ = some (.int .u32 0) := blk_cell hc2 2
   have k7 : w2.cell? ⟨gc, 7, none⟩ = some (.int .u32 0) := blk_cell hc2 7
   have f2 := blk_frozen hc2 2
   have f7 := blk_frozen hc2 7
   have HC3 := Lh (blk_put (blk_put hc2 2 (.int .u32 (t1 : Int)) rfl) 7 (.int .u32 (t2 : Int)) (show _ = #[.int .u8 3, .int .u8 fl, .int .u32 (t1 : Int), .int .u16 0, .int .u16 0, .int .u32 0, .int .u32 0, .int .u32 (t2 : Int), .int .u16 0, .int .u16 0, .slice none 0 0, .slice none 0 0, .slice none 0 0, .slice none 0 0, .slice none 0 0] from rfl))
   have HO3 := Lh (((hO12.mono (S' := fun k => k = g ∨ k = gc) (fun k _ h => Or.inl h)).setCell (p := ⟨gc, 2, none⟩) (fun _ => Or.inr rfl) (.int .u32 (t1 : Int))).setCell (p := ⟨gc, 7, none⟩) (fun _ => Or.inr rfl) (.int .u32 (t2 : Int)))
   have HRS3 := Lh (hRS.only ((Only.refl (· = gc) w2).setCell (p := ⟨gc, 2, none⟩) (fun _ => rfl) (.int .u32 (t1 : Int)) |>.setCell (p := ⟨gc, 7, none⟩) (fun _ => rfl) (.int .u32 (t2 : Int))) HNE2.out)
   clear hRS hO2 H2 hO12 hc2 HRS HO1
   go_upto_region 1 with (fail)
   clear f2 f7 k2 k7
   generalize (w2.setCell ⟨gc, 2, none⟩ (.int .u32 (t1 : Int))).setCell ⟨gc, 7, none⟩ (.int .u32 (t2 : Int)) = W3 at *
   have k0 := blk_cell HC3.out 0
   replace k0 : W3.cell? ⟨gc, 0, none⟩ = some (.int .u8 3) := k0
   go_wp2_with fail
   refine (H3.out W3 HRS3.out HO3.out).mono ?_
   by_cases h12 : 12 ≤ v.length
   ·rintro e w4 hP
    rw [if_pos (by rw [List.length_drop]; omega)] at hP
    obtain ⟨u, rfl, hU, hRS, hO4⟩ := hP
    have hcnt : cntD 2 (v.drop 8) = [(be ((v.drop 8).take 2) : Int), (be ((v.drop 10).take 2) : Int)] := by simp only [cntD, List.drop_drop]
    rw [hcnt] at hU
    obtain ⟨A4, c4, rfl, hle4, hC4⟩ := Kd.R_reads hU
    rw [List.drop_drop, show 8 + 2 * 2 = 12 from rfl] at hRS
    have HO4 := Lh (HO3.out.trans (hO4.mono (S' := fun k => k = g ∨ k = gc) (fun k _ h => Or.inl h)) (fun k _ h => h))
    have HC4 := Lh (hO4.blk HC3.out HNE.out)
    have HRS4 := Lh hRS
    obtain ⟨Ar, cr, hbr, hcr, hCr⟩ := hRS
    have kr : w4.cell? ⟨g, 0, none⟩ = some (.slice Ar (v.drop 12).length cr) := blk_cell hbr 0
    obtain ⟨ad, rfl, x0⟩ := int_at hC4 0 (by simp)
    obtain ⟨ad', e', x1⟩ := int_at hC4 1 (by simp)
    cases e'
    replace x0 : w4.cell? ad = some (.int .u16 (be ((v.drop 8).take 2) : Int)) := x0
    replace x1 : w4.cell? ⟨ad.block, ad.off + 1, none⟩ = some (.int .u16 (be ((v.drop 10).take 2) : Int)) := by
     rw [show ad.add 1 = ad.add (0 + 1) from rfl, add_field _ _ 1 (by omega)] at x1
     exact x1
    have hlen : (v.drop 12).length = v.length - 12 := List.length_drop
    have ba := be_two_lt (v.drop 8)
    have bd := be_two_lt (v.drop 10)
    rw [show [(be ((v.drop 8).take 2) : Int), (be ((v.drop 10).take 2) : Int)].length = 2 from rfl] at hle4 hC4 ⊢
    have HLD := Lh (show listsD false v = _ from by unfold listsD; rw [if_neg (by simp; omega)])
    simp only [if_true, if_false, Bool.false_eq_true] at HLD
    clear hU hcnt hO4 HC3 HO3 HRS3 hbr hcr hCr hC4 k0 H3
    generalize be ((v.drop 8).take 2) = a at *
    generalize be ((v.drop 10).take 2) = d at *
    generalize hL : (v.drop 12).length = LL at *
    by_cases hbig : 4096 < a ∨ 4096 < 0 ∨ 4096 < d
    ·rw [if_pos hbig] at HLD
     clear kr HGP HF HFB HC HRS4 hlen
     go_wp2
     go_quiet (fail)
     go_wp2
     all_goals (first | (exfalso; omega) | (refine ⟨rfl, ?_⟩; unfold ListP; rw [HLD.out]; exact ⟨rfl, ⟨_, by first | exact blk_drewN HC4.out _ | exact HC4.out, rfl⟩, by first | exact HO4.out.drewN _ | exact HO4.out⟩))
    ·rw [if_neg hbig] at HLD
     have hb1 : ¬ (4096 : Int) < (a : Int) := by omega
     have hb2 : ¬ (4096 : Int) < (d : Int) := by omega
     by_cases hlen2 : v.length ≠ 12 + 4 * (a + 0 + d)
     ·rw [if_pos hlen2] at HLD
      clear HGP HF HFB HC HRS4
      go_wp2
      go_quiet (fail)
      go_wp2
      all_goals (first | (exfalso; omega) | (refine ⟨rfl, ?_⟩; unfold ListP; rw [HLD.out]; exact ⟨rfl, ⟨_, by first | exact blk_drewN HC4.out _ | exact HC4.out, rfl⟩, by first | exact HO4.out.drewN _ | exact HO4.out⟩))
     ·rw [if_neg hlen2] at HLD
      have hlen3 : v.length = 12 + 4 * (a + 0 + d) := Decidable.byContradiction fun h => hlen2 h
      have HLL := Lh hL
      have HL3 := Lh hlen3
      obtain ⟨m2, hm2, hb5⟩ : ∃ m2 : Int, (if a < d then (d : Int) else (a : Int)) = m2 ∧ m2 ≤ 4096 := ⟨_, rfl, by split <;> omega⟩
      have hm3 : ¬ 4096 < m2 := by omega
      have hLL : (4 : Int) * ((a : Int) + (d : Int)) = (LL : Int) := by omega
      have HRS4' := Lh (fun n : Nat => RS.only HRS4.out ((Only.refl (fun _ => False) w4).drewN n) id)
      have HO4' := Lh (fun n : Nat => HO4.out.drewN n)
      have HC4' := Lh (fun n : Nat => blk_drewN HC4.out n)
      clear HRS4 HO4 HC4 hlen3 hlen2 hL hbig hlen hv
      go_wp2
      go_quiet (fail)
      go_wp2_with fail
      refine (HGP.out (w4.drewN nq) (v.drop 12) a (HRS4'.out nq) (HO4'.out nq) (by have := HL3.out; have := HLL.out; omega) (by omega) (by have := HL3.out; have := HLL.out; rw [List.length_drop]; omega)).mono ?_
      rintro e w5 ⟨vg, rfl, hG, hRS, hO⟩
      have HO5 := Lh ((HO4'.out nq).trans (hO.mono (S' := fun k => k = g ∨ k = gc) (fun k _ h => Or.inl h)) (fun k _ h => h))
      have HC5 := Lh (hO.blk (HC4'.out nq) HNE.out)
      have HG5 := Lh (Kd.R_lower hG (HO4'.out nq).size)
      have HRS5 := Lh hRS
      rw [List.drop_drop] at HRS5
      clear hG hRS hO HRS4' HO4' HC4' kr x0 x1
      generalize w4.drewN nq = W4 at *
      go_wp2_with fail
      refine (HGP.out w5 (v.drop (12 + 4 * a)) 0 HRS5.out HO5.out (by have := HL3.out; rw [List.length_drop]; omega) (by omega) (by have := HL3.out; rw [List.length_drop]; omega)).mono ?_
      rintro e w6 ⟨vn, rfl, hN, hRS, hO⟩
      have hO6 := HO5.out.trans (hO.mono (S' := fun k => k = g ∨ k = gc) (fun k _ h => Or.inl h)) (fun k _ h => h)
      have hc6 := hO.blk HC5.out HNE.out
      have hG6 := R_only HG5.out hO (fun k hk _ e => by have := HGL.out.1; omega)
      have hN6 := Kd.R_lower hN HO5.out.size
      rw [List.drop_drop] at hRS
      obtain ⟨Ag, cg, hvg⟩ := Kd.R_slice hG6
      obtain ⟨An, cn, hvn⟩ := Kd.R_slice hN6
      have k10 : w6.cell? ⟨gc, 10, none⟩ = some (.slice none 0 0) := blk_cell hc6 10
      have k11 : w6.cell? ⟨gc, 11, none⟩ = some (.slice none 0 0) := blk_cell hc6 11
      have f10 := blk_frozen hc6 10
      have f11 := blk_frozen hc6 11
      have HC7 := Lh (blk_put (blk_put hc6 10 vg rfl) 11 vn (show _ = #[.int .u8 3, .int .u8 fl, .int .u32 (t1 : Int), .int .u16 0, .int .u16 0, .int .u32 0, .int .u32 0, .int .u32 (t2 : Int), .int .u16 0, .int .u16 0, vg, vn, .slice none 0 0, .slice none 0 0, .slice none 0 0] from rfl))
      have HO7 := Lh ((hO6.setCell (p := ⟨gc, 10, none⟩) (fun _ => Or.inr rfl) vg).setCell (p := ⟨gc, 11, none⟩) (fun _ => Or.inr rfl) vn)
      have hfar := ((Only.refl (· = gc) w6).setCell (p := ⟨gc, 10, none⟩) (fun _ => rfl) vg).setCell (p := ⟨gc, 11, none⟩) (fun _ => rfl) vn
      have HRS7 := Lh (hRS.only hfar HNE2.out)
      have HG7 := Lh (R_only hG6 hfar (fun k hk _ e => by have := HGL.out.2; omega))
      have HN7 := Lh (R_only hN6 hfar (fun k hk _ e => by have := HGL.out.2; omega))
      clear hN hRS hO hO6 hc6 hG6 hN6 hfar HO5 HC5 HG5 HRS5
      generalize (gapsD a (v.drop 12)).length = gl at hvg
      generalize (gapsD 0 (v.drop (12 + 4 * a))).length = nl at hvn
      subst hvg hvn
      go_upto_region 12 with (fail)
      clear f10 f11 k10 k11 HGP
      generalize Value.slice Ag gl cg = vg at *
      generalize Value.slice An nl cn = vn at *
      generalize (w6.setCell ⟨gc, 10, none⟩ vg).setCell ⟨gc, 11, none⟩ vn = W0 at *
      have hvv : (v.drop (12 + 4 * a + 4 * 0)) = v.drop (12 + 4 * (a + 0)) := by first | rfl | (congr 1; omega)
      rw [hvv] at HRS7
      clear hvv
      have hvl : (v.drop (12 + 4 * (a + 0))).length = 4 * d := by have := HL3.out; rw [List.length_drop]; omega
      generalize v.drop (12 + 4 * (a + 0)) = vv0 at *
      have HGL0 := Lh (show ∀ k, w.heap.size ≤ k → (k = g ∨ k = gc) → False from fun k hk e => by have := HGL.out; omega)
      have HGL2 := Lh (show g < W0.heap.size ∧ gc < W0.heap.size from ⟨by have := HGL.out; have := HO7.out.size; omega, by have := HGL.out; have := HO7.out.size; omega⟩)
      have HFW := Lh (fun (W : World) (u : List UInt8) (h : RS w0 W g u) (hO : Only (fun k => k = g ∨ k = gc) W0 W) (h4 : 4 ≤ u.length) (hu : u.length ≤ 140737488355328) => HF.out W u h (HO7.out.trans hO (fun k _ h => h)) h4 hu)
      replace HGL := Lh (show ∀ k, W0.heap.size ≤ k → (k = g ∨ k = gc) → False from fun k hk e => by have := HGL2.out; omega)
      clear HF HFB HC HBW hb1 hb2 hb5 hm3 hLL
      go_wp2
      go_loopw [79] (fun v79 wr => ∃ (i : Nat) (xs : List Int) (vd : Value), i ≤ d ∧ v79 = .int .u16 (i : Int) ∧ Hid ((Kd.int .u32).R 23 wr W0.heap.size (fun _ => True) vd xs) ∧ Hid (xs ++ dupsD (d - i) (vv0.drop (4 * i)) = dupsD d vv0) ∧ Hid (RS w0 wr g (vv0.drop (4 * i))) ∧ Hid (wr.heap[gc]? = some (.cells #[.int .u8 3, .int .u8 fl, .int .u32 (t1 : Int), .int .u16 0, .int .u16 0, .int .u32 0, .int .u32 0, .int .u32 (t2 : Int), .int .u16 0, .int .u16 0, vg, vn, vd, .slice none 0 0, .slice none 0 0] 41 (0, 0))) ∧ Hid (Only (fun k => k = g ∨ k = gc) W0 wr)) (fun v79 _ => d - (intOf v79).toNat)
      case atStart => exact ⟨0, [], .slice none 0 0, Nat.zero_le _, rfl, Kd.R_nil _ _ _ _ _, rfl, HRS7.out, HC7.out, Only.refl _ _⟩
      case round =>
       obtain ⟨i, xs, vd, hi, rfl, HR, HE, HRS, HC, HO⟩ := hrel
       obtain ⟨Av, cv, rfl⟩ := Kd.R_slice HR.out
       have hxl : xs.length ≤ 4096 := by
        have := congrArg List.length HE.out
        rw [List.length_append, dupsD_length, dupsD_length] at this
        omega
       have HXL := Lh hxl
       by_cases hlt : i < d
       ·have hE := HE.out
        rw [show d - i = (d - (i + 1)) + 1 by omega, dupsD] at hE
        have e4 : (vv0.drop (4 * i)).drop 4 = vv0.drop (4 * (i + 1)) := by rw [List.drop_drop]; congr 1
        have hE2 : (xs ++ [(be ((vv0.drop (4 * i)).take 4) : Int)]) ++ dupsD (d - (i + 1)) (vv0.drop (4 * (i + 1))) = dupsD d vv0 := by rw [List.append_assoc, ← e4]; exact hE
        have HF := Lh (fun (W : World) (h : RS w0 W g (vv0.drop (4 * i))) (hO : Only (fun k => k = g ∨ k = gc) W0 W) => HFW.out W (vv0.drop (4 * i)) h hO (by rw [List.length_drop]; omega) (by rw [List.length_drop]; omega))
        have hw : IntKind.u16.wrap ((i : Int) + 1) = ((i + 1 : Nat) : Int) := by simp [IntKind.wrap, IntKind.bits, IntKind.signed]; omega
        generalize be ((vv0.drop (4 * i)).take 4) = q at *
        have HE2 := Lh hE2
        have HE4 := Lh e4
        have HW := Lh hw
        generalize vv0.drop (4 * i) = vv at *
        clear hE hE2 e4 HE hw HFW hvl hxl
        go_upto_region 14 with (fail)
        have B := True.intro
        have C := True.intro
        have R := True.intro
        have D := True.intro
        refine start_ (n := 12) (S := fun w' => True) (ds := []) #[false, false, false, false, false, false, false, false, false, false, false, false] (by kernel_rfl) rfl rfl trivial (fun hHeld => ?_)
        refine with_tabW liststab14 listsbits14 (fun HT_ HW_ => ?_)
        refine pu 0 81 ?_ rfl rfl (any_of HT_.out (by kernel_rfl)) (fun _ _ _ h => h) (by rfl) ?_ ?_ ?_ ?_
        rotate_left
        ·intro w'
         go_simp
         with_reducible rfl
        rotate_left
        ·simp only [sL]
         rfl
        refine pu 1 82 ?_ rfl rfl (any_of HT_.out (by kernel_rfl)) (fun _ _ _ h => h) (by rfl) ?_ ?_ ?_ ?_
        rotate_left
        ·intro w'
         go_simp
         with_reducible rfl
        rotate_left
        ·simp only [sL]
         rfl
        refine pu 5 86 ?_ rfl rfl (any_of HT_.out (by kernel_rfl)) (fun _ _ _ h => h) (by rfl) ?_ ?_ ?_ ?_
        rotate_left
        ·intro w'
         go_simp
         with_reducible rfl
        rotate_left
        ·simp only [sL]
         rfl
        refine inv_at [2, 3, 4, 6, 7, 8, 9, 10, 11] (fun a0_ b a w' => ∃ (g9 : Nat) (v9 : Value) (m7_ : Value), a = putSel a0_ b [(2, 83, .pointer (some ⟨gc, 0, none⟩)), (3, 84, .pointer (some ⟨gc, 12, none⟩)), (4, 85, .slice Av xs.length cv), (6, 87, .int .u32 (q : Int)), (7, 88, m7_), (8, 89, v9), (9, 90, .pointer (some ⟨gc, 0, none⟩)), (10, 91, .pointer (some ⟨gc, 12, none⟩))] ∧ (b 8 = false → Only (fun k => k = g ∨ k = gc) W0 w') ∧ (b 8 = false → w'.heap[gc]? = some (.cells #[.int .u8 3, .int .u8 fl, .int .u32 (t1 : Int), .int .u16 0, .int .u16 0, .int .u32 0, .int .u32 0, .int .u32 (t2 : Int), .int .u16 0, .int .u16 0, vg, vn, .slice Av xs.length cv, .slice none 0 0, .slice none 0 0] 41 (0, 0))) ∧ (b 8 = false → (Kd.int .u32).R 23 w' W0.heap.size (fun _ => True) (.slice Av xs.length cv) xs) ∧ (b 6 = false → RS w0 w' g vv) ∧ (b 6 = true → b 8 = false → RS w0 w' g (vv.drop 4)) ∧ (b 7 = true → b 8 = false → ∃ w2, w' = w2.alloc (.cells #[.int .u32 (q : Int)] 23) ∧ g9 = w2.heap.size ∧ Only (fun k => k = g ∨ k = gc) W0 w2 ∧ w2.heap[gc]? = some (.cells #[.int .u8 3, .int .u8 fl, .int .u32 (t1 : Int), .int .u16 0, .int .u16 0, .int .u32 0, .int .u32 0, .int .u32 (t2 : Int), .int .u16 0, .int .u16 0, vg, vn, .slice Av xs.length cv, .slice none 0 0, .slice none 0 0] 41 (0, 0)) ∧ (Kd.int .u32).R 23 w2 W0.heap.size (fun _ => True) (.slice Av xs.length cv) xs ∧ RS w0 w2 g (vv.drop 4)) ∧ (b 8 = true → b 11 = false → (Kd.int .u32).R 23 w' W0.heap.size (fun _ => True) v9 (xs ++ [(q : Int)]) ∧ w'.heap[gc]? = some (.cells #[.int .u8 3, .int .u8 fl, .int .u32 (t1 : Int), .int .u16 0, .int .u16 0, .int .u32 0, .int .u32 0, .int .u32 (t2 : Int), .int .u16 0, .int .u16 0, vg, vn, .slice Av xs.length cv, .slice none 0 0, .slice none 0 0] 41 (0, 0)) ∧ RS w0 w' g (vv.drop 4) ∧ Only (fun k => k = g ∨ k = gc) W0 w') ∧ (b 11 = true → (Kd.int .u32).R 23 w' W0.heap.size (fun _ => True) v9 (xs ++ [(q : Int)]) ∧ w'.heap[gc]? = some (.cells #[.int .u8 3, .int .u8 fl, .int .u32 (t1 : Int), .int .u16 0, .int .u16 0, .int .u32 0, .int .u32 0, .int .u32 (t2 : Int), .int .u16 0, .int .u16 0, vg, vn, v9, .slice none 0 0, .slice none 0 0] 41 (0, 0)) ∧ RS w0 w' g (vv.drop 4) ∧ Only (fun k => k = g ∨ k = gc) W0 w') ∧ (b 7 = true → (m7_ : Value) = .slice (some ⟨g9, 0, none⟩) 1 1)) HT_.out HW_.out (by kernel_rfl) (by kernel_rfl) ?_ ?_ ?_
        ·exact ⟨0, undef, .bool false, by simp only [putSel, Bool.false_eq_true, if_false], fun _ => HO.out.drew, fun _ => HC.out, fun _ => HR.out, fun _ => HRS.out, fun h_ => absurd h_ (by decide), fun h_ => absurd h_ (by decide), fun h_ => absurd h_ (by decide), fun h_ => absurd h_ (by decide), fun h_ => absurd h_ (by decide)⟩
        ·skip
         clear B C D R
         refine sc rfl ?_ ?_
         ·rintro b a w' ⟨g9, v9, m7_, ha, Q_B, Q_C, Q_R, Q_D, Q_E, Q_W2, Q_S1, Q_S2, Q_X7_⟩ hb_ hon hoff K hK
          have e82 : a.tmps[82]? = some (.pointer (some ⟨gc, 0, none⟩)) := by rw [ha]; exact (putSel_off rfl).trans rfl
          replace ha := Am ha
          refine value_ (w1 := w') (v := .pointer (some ⟨gc, 0, none⟩)) (by rfl) rfl ?_ ?_
          ·go_simp
           (try simp only [i64_w])
           try rfl
          refine hK.out _ _ ⟨g9, v9, m7_, (puk ha 0 hb_ rfl rfl rfl), Q_B, Q_C, Q_R, Q_D, Q_E, Q_W2, fun h0_ _ => hof (hoff 8 (by kernel_rfl)) h0_, fun h0_ => hof (hoff 11 (by kernel_rfl)) h0_, Q_X7_⟩
         refine sc rfl ?_ ?_
         ·rintro b a w' ⟨g9, v9, m7_, ha, Q_B, Q_C, Q_R, Q_D, Q_E, Q_W2, Q_S1, Q_S2, Q_X7_⟩ hb_ hon hoff K hK
          have e83 := psn ha 0 rfl rfl (hon 2 (by kernel_rfl)) rfl
          replace ha := Am ha
          refine value_ (w1 := w') (v := .pointer (some ⟨gc, 12, none⟩)) (by rfl) rfl ?_ ?_
          ·go_simp
           (try simp only [i64_w])
           try rfl
          refine hK.out _ _ ⟨g9, v9, m7_, (puk ha 1 hb_ rfl rfl rfl), Q_B, Q_C, Q_R, Q_D, Q_E, Q_W2, fun h0_ _ => hof (hoff 8 (by kernel_rfl)) h0_, fun h0_ => hof (hoff 11 (by kernel_rfl)) h0_, Q_X7_⟩
         refine sc rfl ?_ ?_
         ·rintro b a w' ⟨g9, v9, m7_, ha, Q_B, Q_C, Q_R, Q_D, Q_E, Q_W2, Q_S1, Q_S2, Q_X7_⟩ hb_ hon hoff K hK
          have e84 := psn ha 1 rfl rfl (hon 3 (by kernel_rfl)) rfl
          replace ha := Am ha
          have C := Am (Q_C (hoff 8 (by kernel_rfl)))
          have hs := blk_cell C.out 12
          refine value_ (w1 := w') (v := .slice Av xs.length cv) (by rfl) rfl ?_ ?_
          ·go_simp
           (try simp only [i64_w])
           try rfl
          refine hK.out _ _ ⟨g9, v9, m7_, (puk ha 2 hb_ rfl rfl rfl), Q_B, Q_C, Q_R, Q_D, Q_E, Q_W2, fun h0_ _ => hof (hoff 8 (by kernel_rfl)) h0_, fun h0_ => hof (hoff 11 (by kernel_rfl)) h0_, Q_X7_⟩
         refine sc rfl ?_ ?_
         ·rintro b a w' ⟨g9, v9, m7_, ha, Q_B, Q_C, Q_R, Q_D, Q_E, Q_W2, Q_S1, Q_S2, Q_X7_⟩ hb_ hon hoff K hK
          have e86 : a.tmps[86]? = some (.pointer (some ⟨g, 0, none⟩)) := by rw [ha]; exact (putSel_off rfl).trans rfl
          replace ha := Am ha
          have B := Am (Q_B (hoff 8 (by kernel_rfl)))
          have C := Am (Q_C (hoff 8 (by kernel_rfl)))
          have R := Am (Q_R (hoff 8 (by kernel_rfl)))
          have D := Am (Q_D hb_)
          refine goes_ Tryd.func96 (by kernel_rfl) rfl #[.pointer (some ⟨g, 0, none⟩)] (by rfl) rfl rfl (by first | (simp only [List.map_toArray, List.map_cons, List.map_nil, Act.eval, Array.getD_eq_getD_getElem?, Option.getD_some, e86]; done) | (simp only [List.map_toArray, List.map_cons, List.map_nil, Act.eval, Array.getD_eq_getD_getElem?, Option.getD_some, e86]; rfl)) ?_
          refine (HF.out w' D.out B.out).mono ?_
          rintro e w1 ⟨rfl, hRS1, hO1⟩
          refine ⟨_, rfl, ?_⟩
          refine hK.out _ _ ⟨g9, v9, m7_, (puk ha 3 hb_ rfl rfl rfl), fun _ => B.out.trans hO1 (fun k _ h => Or.inl h), fun _ => hO1.blk C.out HNE.out, fun _ => R_only R.out hO1 (fun k hk _ e => HGL.out k hk (Or.inl e)), fun h0_ => absurd ((up_self b 6).symm.trans h0_) (by decide), fun _ _ => hRS1, fun h0_ _ => hof (hoff 7 (by kernel_rfl)) h0_, fun h0_ _ => hof (hoff 8 (by kernel_rfl)) h0_, fun h0_ => hof (hoff 11 (by kernel_rfl)) h0_, fun h0_ => hof (hoff 7 (by kernel_rfl)) h0_⟩
         refine sc rfl ?_ ?_
         ·rintro b a w' ⟨g9, v9, m7_, ha, Q_B, Q_C, Q_R, Q_D, Q_E, Q_W2, Q_S1, Q_S2, Q_X7_⟩ hb_ hon hoff K hK
          have e87 := psn ha 3 rfl rfl (hon 6 (by kernel_rfl)) rfl
          replace ha := Am ha
          have B := Am (Q_B (hoff 8 (by kernel_rfl)))
          have C := Am (Q_C (hoff 8 (by kernel_rfl)))
          have R := Am (Q_R (hoff 8 (by kernel_rfl)))
          have E := Am (Q_E (hon 6 (by kernel_rfl)) (hoff 8 (by kernel_rfl)))
          refine value_ (w1 := w'.alloc (.cells #[.int .u32 (q : Int)] 23)) (v := .slice (some ⟨w'.heap.size, 0, none⟩) 1 1) (by rfl) rfl (by go_simp; try rfl) ?_
          refine hK.out _ _ ⟨w'.heap.size, v9, (.slice (some ⟨w'.heap.size, 0, none⟩) 1 1), (puk ha 4 hb_ rfl rfl rfl), fun _ => B.out.alloc _, fun _ => blk_alloc C.out _, fun _ => Kd.R_alloc R.out _, fun h0_ => absurd ((hon 6 (by kernel_rfl)).symm.trans h0_) (by decide), fun _ _ => E.out.only ((Only.refl (fun _ => False) _).alloc _) id, fun _ _ => ⟨w', rfl, rfl, B.out, C.out, R.out, E.out⟩, fun h0_ _ => hof (hoff 8 (by kernel_rfl)) h0_, fun h0_ => hof (hoff 11 (by kernel_rfl)) h0_, fun _ => rfl⟩
         refine sc rfl ?_ ?_
         ·rintro b a w' ⟨g9, v9, m7_, ha, Q_B, Q_C, Q_R, Q_D, Q_E, Q_W2, Q_S1, Q_S2, Q_X7_⟩ hb_ hon hoff K hK
          have e85 := psn ha 2 rfl rfl (hon 4 (by kernel_rfl)) rfl
          have e88 := psn ha 4 rfl rfl (hon 7 (by kernel_rfl)) rfl
          rw [Q_X7_ (hon 7 (by kernel_rfl))] at e88
          replace ha := Am ha
          have W2 := Am (Q_W2 (hon 7 (by kernel_rfl)) hb_)
          obtain ⟨w2, rfl, hg9, hB2, hC2, hR2, hE2⟩ := W2.out
          rw [hg9] at e88
          refine Kd.R_append_step (Kd.int .u32) (w0 := w2) (W := w2) W0.heap.size (by rfl) _ _ 38 23 _ 4 rfl Tryd.underlying38 info23 rfl (by decide) (by decide) (.slice Av xs.length cv) xs (q : Int) [.int .u32 (q : Int)] (fun _ => True) (fun _ => False) (by simp [Act.eval, Array.getD_eq_getD_getElem?, e85]) (by simp [Act.eval, Array.getD_eq_getD_getElem?, e88]) rfl (fun _ h => h.elim) (fun _ _ => trivial) hR2 (Below.refl _ _) hB2.size (by have := HXL.out; omega) ?_
          intro v1 w1 hR1 hB1 hG1 hat1
          have hC3 := (hB1.block gc (HGL2.out.2)).trans hC2
          have hE3 := hE2.below hB1 HGL2.out.1
          have hO3 := only_then3 hB2 hB1
          refine hK.out _ _ ⟨g9, v1, m7_, (puk ha 5 hb_ rfl rfl rfl), fun h0_ => absurd ((up_self b 8).symm.trans h0_) (by decide), fun h0_ => absurd ((up_self b 8).symm.trans h0_) (by decide), fun h0_ => absurd ((up_self b 8).symm.trans h0_) (by decide), fun h0_ => absurd ((hon 6 (by kernel_rfl)).symm.trans h0_) (by decide), fun _ h1_ => absurd ((up_self b 8).symm.trans h1_) (by decide), fun _ h1_ => absurd ((up_self b 8).symm.trans h1_) (by decide), fun _ _ => ⟨hR1, hC3, hE3, hO3⟩, fun h0_ => hof (hoff 11 (by kernel_rfl)) h0_, Q_X7_⟩
         refine sc rfl ?_ ?_
         ·rintro b a w' ⟨g9, v9, m7_, ha, Q_B, Q_C, Q_R, Q_D, Q_E, Q_W2, Q_S1, Q_S2, Q_X7_⟩ hb_ hon hoff K hK
          have e81 : a.tmps[81]? = some (.pointer (some ⟨gc, 0, none⟩)) := by rw [ha]; exact (putSel_off rfl).trans rfl
          replace ha := Am ha
          refine value_ (w1 := w') (v := .pointer (some ⟨gc, 0, none⟩)) (by rfl) rfl ?_ ?_
          ·go_simp
           (try simp only [i64_w])
           try rfl
          refine hK.out _ _ ⟨g9, v9, m7_, (puk ha 6 hb_ rfl rfl rfl), fun h0_ => absurd ((hon 8 (by kernel_rfl)).symm.trans h0_) (by decide), fun h0_ => absurd ((hon 8 (by kernel_rfl)).symm.trans h0_) (by decide), fun h0_ => absurd ((hon 8 (by kernel_rfl)).symm.trans h0_) (by decide), fun h0_ => absurd ((hon 6 (by kernel_rfl)).symm.trans h0_) (by decide), fun _ h1_ => absurd ((hon 8 (by kernel_rfl)).symm.trans h1_) (by decide), fun _ h1_ => absurd ((hon 8 (by kernel_rfl)).symm.trans h1_) (by decide), Q_S1, fun h0_ => hof (hoff 11 (by kernel_rfl)) h0_, Q_X7_⟩
         refine sc rfl ?_ ?_
         ·rintro b a w' ⟨g9, v9, m7_, ha, Q_B, Q_C, Q_R, Q_D, Q_E, Q_W2, Q_S1, Q_S2, Q_X7_⟩ hb_ hon hoff K hK
          have e90 := psn ha 6 rfl rfl (hon 9 (by kernel_rfl)) rfl
          replace ha := Am ha
          refine value_ (w1 := w') (v := .pointer (some ⟨gc, 12, none⟩)) (by rfl) rfl ?_ ?_
          ·go_simp
           (try simp only [i64_w])
           try rfl
          refine hK.out _ _ ⟨g9, v9, m7_, (puk ha 7 hb_ rfl rfl rfl), fun h0_ => absurd ((hon 8 (by kernel_rfl)).symm.trans h0_) (by decide), fun h0_ => absurd ((hon 8 (by kernel_rfl)).symm.trans h0_) (by decide), fun h0_ => absurd ((hon 8 (by kernel_rfl)).symm.trans h0_) (by decide), fun h0_ => absurd ((hon 6 (by kernel_rfl)).symm.trans h0_) (by decide), fun _ h1_ => absurd ((hon 8 (by kernel_rfl)).symm.trans h1_) (by decide), fun _ h1_ => absurd ((hon 8 (by kernel_rfl)).symm.trans h1_) (by decide), Q_S1, fun h0_ => hof (hoff 11 (by kernel_rfl)) h0_, Q_X7_⟩
         refine sc rfl ?_ ?_
         ·rintro b a w' ⟨g9, v9, m7_, ha, Q_B, Q_C, Q_R, Q_D, Q_E, Q_W2, Q_S1, Q_S2, Q_X7_⟩ hb_ hon hoff K hK
          have e91 := psn ha 7 rfl rfl (hon 10 (by kernel_rfl)) rfl
          have e89 := psn ha 5 rfl rfl (hon 8 (by kernel_rfl)) rfl
          replace ha := Am ha
          have S1 := Am (Q_S1 (hon 8 (by kernel_rfl)) hb_)
          obtain ⟨hR1, hC1, hE1, hO1⟩ := S1.out
          obtain ⟨A7, c7, hv9⟩ := Kd.R_slice hR1
          have hs := blk_cell hC1 12
          have hf := blk_frozen hC1 12
          refine skip_ (w1 := w'.setCell ⟨gc, 12, none⟩ v9) (by rfl) rfl (by generalize (xs ++ [(q : Int)]).length = zl at hv9; rw [hv9] at e89 ⊢; go_simp; try rfl) ?_
          refine hK.out _ _ ⟨g9, v9, m7_, (by rw [ha.out]; exact putSel_none (v := undef) rfl), fun h0_ => absurd ((hon 8 (by kernel_rfl)).symm.trans h0_) (by decide), fun h0_ => absurd ((hon 8 (by kernel_rfl)).symm.trans h0_) (by decide), fun h0_ => absurd ((hon 8 (by kernel_rfl)).symm.trans h0_) (by decide), fun h0_ => absurd ((hon 6 (by kernel_rfl)).symm.trans h0_) (by decide), fun _ h1_ => absurd ((hon 8 (by kernel_rfl)).symm.trans h1_) (by decide), fun _ h1_ => absurd ((hon 8 (by kernel_rfl)).symm.trans h1_) (by decide), fun _ h1_ => absurd ((up_self b 11).symm.trans h1_) (by decide), fun _ => ⟨R_only hR1 ((Only.refl (· = gc) w').setCell (fun _ => rfl) v9) (fun k hk _ e => HGL.out k hk (Or.inr e)), blk_put hC1 12 v9 rfl, hE1.only ((Only.refl (· = gc) w').setCell (fun _ => rfl) v9) HNE2.out, hO1.setCell (fun _ => Or.inr rfl) v9⟩, Q_X7_⟩
         exact steps_nil
        rintro b a w' hall ⟨g9, v9, m7_, ha, Q_B, Q_C, Q_R, Q_D, Q_E, Q_W2, Q_S1, Q_S2, Q_X7_⟩
        clear B C D R
        have hb2_ := hall 2 (by kernel_rfl)
        have hb3_ := hall 3 (by kernel_rfl)
        have hb4_ := hall 4 (by kernel_rfl)
        have hb6_ := hall 6 (by kernel_rfl)
        have hb7_ := hall 7 (by kernel_rfl)
        have hb8_ := hall 8 (by kernel_rfl)
        have hb9_ := hall 9 (by kernel_rfl)
        have hb10_ := hall 10 (by kernel_rfl)
        have hb11_ := hall 11 (by kernel_rfl)
        subst ha
        obtain rfl := Q_X7_ hb7_
        simp only [putSel, hb2_, hb3_, hb4_, hb6_, hb7_, hb8_, hb9_, hb10_, hb11_, if_true, Act.put, List.setIfInBounds_toArray, List.set_cons_zero, List.set_cons_succ]
        clear Q_B
        clear Q_C
        clear Q_R
        clear Q_D
        clear Q_E
        clear Q_W2
        clear Q_S1
        have S2 := Am (Q_S2 hb11_)
        clear Q_S2
        clear hall hb2_ hb3_ hb4_ hb6_ hb7_ hb8_ hb9_ hb10_ hb11_
        obtain ⟨hR9, hC9, hE9, hO9⟩ := S2.out
        have HR9 := Lh hR9
        have HC9 := Lh hC9
        have HE9 := Lh hE9
        have HO9 := Lh hO9
        clear hR9 hC9 hE9 hO9 S2
        rw [HE4.out] at HE9
        have hw := HW.out
        clear HW HE4 HF HRS HC HO HR
        go_wp2
        go_roundw
        case rel => exact ⟨i + 1, xs ++ [(q : Int)], v9, by omega, by first | go_num | exact congrArg _ hw, HR9, HE2, HE9, HC9, HO9⟩
        case measure => simp [intOf]; omega
       ·obtain rfl : i = d := by omega
        have hE := HE.out
        rw [Nat.sub_self, dupsD, List.append_nil] at hE
        have HE2 := Lh hE
        have hv4 : vv0.drop (4 * i) = [] := List.drop_eq_nil_of_le (by omega)
        rw [hv4] at HRS
        clear hE HE hv4 HFW
        go_wp2
        go_end0
        unfold ListP
        rw [HLD.out]
        refine ⟨rfl, vg, vn, _, by rw [HT1.out, HT2.out]; exact HC.out, R_only HG7.out HO.out (fun k hk _ e => HGL0.out k hk e), R_only HN7.out HO.out (fun k hk _ e => HGL0.out k hk e), ?_, HRS.out, HO7.out.trans HO.out (fun k _ h => h)⟩
        rw [← HE2.out]
        exact Kd.R_lower HR.out HO7.out.size
   ·rintro e w4 hP
    rw [if_neg (by rw [List.length_drop]; omega)] at hP
    obtain ⟨rfl, hO4⟩ := hP
    have hE : listsD false v = .error 61 := by unfold listsD; rw [if_pos (by simp; omega)]
    refine ⟨rfl, ?_⟩
    unfold ListP
    rw [hE]
    exact ⟨rfl, ⟨_, hO4.blk HC3.out HNE.out, rfl⟩, HO3.out.trans (hO4.mono (S' := fun k => k = g ∨ k = gc) (fun k _ h => Or.inl h)) (fun k _ h => h)⟩
  ·have H2 := Lh (fun (W : World) (h : RS w0 W g (v.drop 4)) (hO : Only (· = g) w W) => HFB.out W (v.drop 4) h (hO.mono (fun k _ h => Or.inl h)) (by rw [List.length_drop]; omega) (by rw [List.length_drop]; omega))
   have hE : listsD false v = .error 61 := by unfold listsD; rw [if_pos (by simp; omega)]
   rw [hE]
   unfold ListP errE
   generalize be (v.take 4) = t1 at *
   go_enter Tryd.func100, Tryd.ntmps100
   go_wp2_with fail
   refine H1.out.mono ?_
   rintro e w1 ⟨rfl, hRS, hO1⟩
   have HRS := Lh hRS
   have HO1 := Lh hO1
   clear hRS hO1 H1
   go_wp2_with fail
   refine (H2.out w1 HRS.out HO1.out).mono ?_
   rintro e w2 ⟨rfl, hO2⟩
   exact ⟨rfl, rfl, ⟨_, (HO1.out.trans hO2 (fun k _ h => h)).blk HCC.out HNE.out, rfl⟩, (HO1.out.trans hO2 (fun k _ h => h)).mono (fun k _ h => Or.inl h)⟩
 ·have H1 := Lh (HFB.out w v HS.out (Only.refl _ _) (by omega) hv)
  have hE : listsD false v = .error 61 := by unfold listsD; rw [if_pos (by simp; omega)]
  rw [hE]
  unfold ListP errE
  go_enter Tryd.func100, Tryd.ntmps100
  go_wp2_with fail
  refine H1.out.mono ?_
  rintro e w1 ⟨rfl, hO1⟩
  exact ⟨rfl, rfl, ⟨_, hO1.blk HCC.out HNE.out, rfl⟩, hO1.mono (fun k _ h => Or.inl h)⟩
set_option maxHeartbeats 4000000 in
theorem lists_nr (w0 w : World) (g gc : Nat) (v : List UInt8) (fl : Int) (hs : RS w0 w g v) (hc : w.heap[gc]? = some (.cells #[.int .u8 16, .int .u8 fl, .int .u32 0, .int .u16 0, .int .u16 0, .int .u32 0, .int .u32 0, .int .u32 0, .int .u16 0, .int .u16 0, .slice none 0 0, .slice none 0 0, .slice none 0 0, .slice none 0 0, .slice none 0 0] 41 (0, 0))) (hB : Below w0.heap.size w0 w) (hg : w0.heap.size ≤ g) (hgc : w0.heap.size ≤ gc) (hne : g ≠ gc) (hv : v.length ≤ 140737488355328) :
  Calls Tryd.prog 100 #[.pointer (some ⟨g, 0, none⟩), .pointer (some ⟨gc, 0, none⟩)] w (ListP w0 w g gc 16 fl (listsD true v)) := by
 have HGL := Lh (show g < w.heap.size ∧ gc < w.heap.size from ⟨hs.lt, blk_lt hc⟩)
 have HBW := Lh (fun (W : World) (h : Only (fun k => k = g ∨ k = gc) w W) => hB.trans (h.below hB.size (fun k hk => by omega)))
 have HNE := Lh (show ¬ gc = g from fun e => hne e.symm)
 have HNE2 := Lh (show ¬ g = gc from hne)
 have HF := Lh (fun (W : World) (u : List UInt8) (h : RS w0 W g u) (hO : Only (fun k => k = g ∨ k = gc) w W) (h4 : 4 ≤ u.length) (hu : u.length ≤ 140737488355328) => four_ok w0 W g u h (HBW.out W hO) hg h4 hu)
 have HFB := Lh (fun (W : World) (u : List UInt8) (h : RS w0 W g u) (hO : Only (fun k => k = g ∨ k = gc) w W) (h4 : u.length < 4) (hu : u.length ≤ 140737488355328) => four_bad w0 W g u h (HBW.out W hO) hg h4 hu)
 have HC := Lh (fun (W : World) (u : List UInt8) (h : RS w0 W g u) (hO : Only (fun k => k = g ∨ k = gc) w W) (hu : u.length ≤ 140737488355328) => counts_calls w0 W g u 4 (by decide) h (HBW.out W hO) hg hu)
 have HGP := Lh (fun (W : World) (u : List UInt8) (k : Nat) (h : RS w0 W g u) (hO : Only (fun k => k = g ∨ k = gc) w W) (hu : u.length ≤ 140737488355328) (hk : k ≤ 4096) (hl : 4 * k ≤ u.length) => rgaps_ok w0 W g u k hk h (HBW.out W hO) hg hu hl)
 have HS := Lh hs
 have HCC := Lh hc
 have hwg : w0.heap.size ≤ g := hg
 unfold CntP errE at HC
 unfold errE at HFB
 clear hs hc hB hg hgc hne
 by_cases h4 : 4 ≤ v.length
 ·have H1 := Lh (HF.out w v HS.out (Only.refl _ _) h4 hv)
  by_cases h8 : 8 ≤ v.length
  ·have H2 := Lh (fun (W : World) (h : RS w0 W g (v.drop 4)) (hO : Only (· = g) w W) => HF.out W (v.drop 4) h (hO.mono (fun k _ h => Or.inl h)) (by rw [List.length_drop]; omega) (by rw [List.length_drop]; omega))
   have H3 := Lh (fun (W : World) (h : RS w0 W g (v.drop 8)) (hO : Only (fun k => k = g ∨ k = gc) w W) => HC.out W (v.drop 8) h hO (by rw [List.length_drop]; omega))
   rw [List.drop_drop] at H2
   obtain ⟨t1, ht1⟩ : ∃ t1, be (v.take 4) = t1 := ⟨_, rfl⟩
   obtain ⟨t2, ht2⟩ : ∃ t2, be ((v.drop 4).take 4) = t2 := ⟨_, rfl⟩
   rw [ht1] at H1
   rw [ht2] at H2
   have HT1 := Lh ht1
   have HT2 := Lh ht2
   clear ht1 ht2
   go_enter Tryd.func100, Tryd.ntmps100
   go_wp2_with fail
   refine H1.out.mono ?_
   rintro e w1 ⟨rfl, hRS, hO1⟩
   have HRS := Lh hRS
   have HO1 := Lh hO1
   clear hRS hO1 H1
   go_wp2_with fail
   refine (H2.out w1 HRS.out HO1.out).mono ?_
   rintro e w2 ⟨rfl, hRS, hO2⟩
   have hO12 := HO1.out.trans hO2 (fun k _ h => h)
   have hc2 := hO12.blk HCC.out HNE.out
   have k2 : w2.cell? ⟨gc, 2, none⟩ = some (.int .u32 0) := blk_cell hc2 2
   have k7 : w2.cell? ⟨gc, 7, none⟩ = some (.int .u32 0) := blk_cell hc2 7
   have f2 := blk_frozen hc2 2
   have f7 := blk_frozen hc2 7
   have HC3 := Lh (blk_put (blk_put hc2 2 (.int .u32 (t1 : Int)) rfl) 7 (.int .u32 (t2 : Int)) (show _ = #[.int .u8 16, .int .u8 fl, .int .u32 (t1 : Int), .int .u16 0, .int .u16 0, .int .u32 0, .int .u32 0, .int .u32 (t2 : Int), .int .u16 0, .int .u16 0, .slice none 0 0, .slice none 0 0, .slice none 0 0, .slice none 0 0, .slice none 0 0] from rfl))
   have HO3 := Lh (((hO12.mono (S' := fun k => k = g ∨ k = gc) (fun k _ h => Or.inl h)).setCell (p := ⟨gc, 2, none⟩) (fun _ => Or.inr rfl) (.int .u32 (t1 : Int))).setCell (p := ⟨gc, 7, none⟩) (fun _ => Or.inr rfl) (.int .u32 (t2 : Int)))
   have HRS3 := Lh (hRS.only ((Only.refl (· = gc) w2).setCell (p := ⟨gc, 2, none⟩) (fun _ => rfl) (.int .u32 (t1 : Int)) |>.setCell (p := ⟨gc, 7, none⟩) (fun _ => rfl) (.int .u32 (t2 : Int))) HNE2.out)
   clear hRS hO2 H2 hO12 hc2 HRS HO1
   go_upto_region 1 with (fail)
   clear f2 f7 k2 k7
   generalize (w2.setCell ⟨gc, 2, none⟩ (.int .u32 (t1 : Int))).setCell ⟨gc, 7, none⟩ (.int .u32 (t2 : Int)) = W3 at *
   have k0 := blk_cell HC3.out 0
   replace k0 : W3.cell? ⟨gc, 0, none⟩ = some (.int .u8 16) := k0
   go_wp2_with fail
   refine (H3.out W3 HRS3.out HO3.out).mono ?_
   by_cases h12 : 16 ≤ v.length
   ·rintro e w4 hP
    rw [if_pos (by rw [List.length_drop]; omega)] at hP
    obtain ⟨u, rfl, hU, hRS, hO4⟩ := hP
    have hcnt : cntD 4 (v.drop 8) = [(be ((v.drop 8).take 2) : Int), (be ((v.drop 10).take 2) : Int), (be ((v.drop 12).take 2) : Int), (be ((v.drop 14).take 2) : Int)] := by simp only [cntD, List.drop_drop]
    rw [hcnt] at hU
    obtain ⟨A4, c4, rfl, hle4, hC4⟩ := Kd.R_reads hU
    rw [List.drop_drop, show 8 + 2 * 4 = 16 from rfl] at hRS
    have HO4 := Lh (HO3.out.trans (hO4.mono (S' := fun k => k = g ∨ k = gc) (fun k _ h => Or.inl h)) (fun k _ h => h))
    have HC4 := Lh (hO4.blk HC3.out HNE.out)
    have HRS4 := Lh hRS
    obtain ⟨Ar, cr, hbr, hcr, hCr⟩ := hRS
    have kr : w4.cell? ⟨g, 0, none⟩ = some (.slice Ar (v.drop 16).length cr) := blk_cell hbr 0
    obtain ⟨ad, rfl, x0⟩ := int_at hC4 0 (by simp)
    obtain ⟨ad', e', x1⟩ := int_at hC4 1 (by simp)
    cases e'
    obtain ⟨ad', e', x2⟩ := int_at hC4 2 (by simp)
    cases e'
    replace x2 : w4.cell? ⟨ad.block, ad.off + 2, none⟩ = some (.int .u16 (be ((v.drop 12).take 2) : Int)) := by
     rw [show ad.add 2 = ad.add (0 + 2) from rfl, add_field _ _ 2 (by omega)] at x2
     exact x2
    replace x0 : w4.cell? ad = some (.int .u16 (be ((v.drop 8).take 2) : Int)) := x0
    replace x1 : w4.cell? ⟨ad.block, ad.off + 1, none⟩ = some (.int .u16 (be ((v.drop 10).take 2) : Int)) := by
     rw [show ad.add 1 = ad.add (0 + 1) from rfl, add_field _ _ 1 (by omega)] at x1
     exact x1
    have hlen : (v.drop 16).length = v.length - 16 := List.length_drop
    have ba := be_two_lt (v.drop 8)
    have bd := be_two_lt (v.drop 12)
    have bn := be_two_lt (v.drop 10)
    rw [show [(be ((v.drop 8).take 2) : Int), (be ((v.drop 10).take 2) : Int), (be ((v.drop 12).take 2) : Int), (be ((v.drop 14).take 2) : Int)].length = 4 from rfl] at hle4 hC4 ⊢
    have HLD := Lh (show listsD true v = _ from by unfold listsD; rw [if_neg (by simp; omega)])
    simp only [if_true, if_false, Bool.false_eq_true] at HLD
    clear hU hcnt hO4 HC3 HO3 HRS3 hbr hcr hCr hC4 k0 H3
    generalize be ((v.drop 8).take 2) = a at *
    generalize be ((v.drop 12).take 2) = d at *
    generalize be ((v.drop 10).take 2) = n at *
    generalize hL : (v.drop 16).length = LL at *
    by_cases hbig : 4096 < a ∨ 4096 < n ∨ 4096 < d
    ·rw [if_pos hbig] at HLD
     clear kr HGP HF HFB HC HRS4 hlen
     go_wp2
     go_quiet (fail)
     go_wp2
     all_goals (first | (exfalso; omega) | (refine ⟨rfl, ?_⟩; unfold ListP; rw [HLD.out]; exact ⟨rfl, ⟨_, by first | exact blk_drewN HC4.out _ | exact HC4.out, rfl⟩, by first | exact HO4.out.drewN _ | exact HO4.out⟩))
    ·rw [if_neg hbig] at HLD
     have hb1 : ¬ (4096 : Int) < (a : Int) := by omega
     have hb2 : ¬ (4096 : Int) < (d : Int) := by omega
     have hb3 : ¬ (4096 : Int) < (n : Int) := by omega
     by_cases hlen2 : v.length ≠ 16 + 4 * (a + n + d)
     ·rw [if_pos hlen2] at HLD
      clear HGP HF HFB HC HRS4
      go_wp2
      go_quiet (fail)
      go_wp2
      all_goals (first | (exfalso; omega) | (refine ⟨rfl, ?_⟩; unfold ListP; rw [HLD.out]; exact ⟨rfl, ⟨_, by first | exact blk_drewN HC4.out _ | exact HC4.out, rfl⟩, by first | exact HO4.out.drewN _ | exact HO4.out⟩))
     ·rw [if_neg hlen2] at HLD
      have hlen3 : v.length = 16 + 4 * (a + n + d) := Decidable.byContradiction fun h => hlen2 h
      have HLL := Lh hL
      have HL3 := Lh hlen3
      obtain ⟨m1, hm1, hb4⟩ : ∃ m1 : Int, (if a < n then (n : Int) else (a : Int)) = m1 ∧ m1 ≤ 4096 := ⟨_, rfl, by split <;> omega⟩
      obtain ⟨m2, hm2, hb5⟩ : ∃ m2 : Int, (if m1 < (d : Int) then (d : Int) else m1) = m2 ∧ m2 ≤ 4096 := ⟨_, rfl, by split <;> omega⟩
      have hm3 : ¬ 4096 < m2 := by omega
      have hLL : (4 : Int) * ((a : Int) + (n : Int) + (d : Int)) = (LL : Int) := by omega
      have HRS4' := Lh (fun n : Nat => RS.only HRS4.out ((Only.refl (fun _ => False) w4).drewN n) id)
      have HO4' := Lh (fun n : Nat => HO4.out.drewN n)
      have HC4' := Lh (fun n : Nat => blk_drewN HC4.out n)
      clear HRS4 HO4 HC4 hlen3 hlen2 hL hbig hlen hv
      go_wp2
      go_quiet (fail)
      go_wp2_with fail
      refine (HGP.out (w4.drewN nq) (v.drop 16) a (HRS4'.out nq) (HO4'.out nq) (by have := HL3.out; have := HLL.out; omega) (by omega) (by have := HL3.out; have := HLL.out; rw [List.length_drop]; omega)).mono ?_
      rintro e w5 ⟨vg, rfl, hG, hRS, hO⟩
      have HO5 := Lh ((HO4'.out nq).trans (hO.mono (S' := fun k => k = g ∨ k = gc) (fun k _ h => Or.inl h)) (fun k _ h => h))
      have HC5 := Lh (hO.blk (HC4'.out nq) HNE.out)
      have HG5 := Lh (Kd.R_lower hG (HO4'.out nq).size)
      have HRS5 := Lh hRS
      rw [List.drop_drop] at HRS5
      clear hG hRS hO HRS4' HO4' HC4' kr x0 x1 x2
      generalize w4.drewN nq = W4 at *
      go_wp2_with fail
      refine (HGP.out w5 (v.drop (16 + 4 * a)) n HRS5.out HO5.out (by have := HL3.out; rw [List.length_drop]; omega) (by omega) (by have := HL3.out; rw [List.length_drop]; omega)).mono ?_
      rintro e w6 ⟨vn, rfl, hN, hRS, hO⟩
      have hO6 := HO5.out.trans (hO.mono (S' := fun k => k = g ∨ k = gc) (fun k _ h => Or.inl h)) (fun k _ h => h)
      have hc6 := hO.blk HC5.out HNE.out
      have hG6 := R_only HG5.out hO (fun k hk _ e => by have := HGL.out.1; omega)
      have hN6 := Kd.R_lower hN HO5.out.size
      rw [List.drop_drop] at hRS
      obtain ⟨Ag, cg, hvg⟩ := Kd.R_slice hG6
      obtain ⟨An, cn, hvn⟩ := Kd.R_slice hN6
      have k10 : w6.cell? ⟨gc, 10, none⟩ = some (.slice none 0 0) := blk_cell hc6 10
      have k11 : w6.cell? ⟨gc, 11, none⟩ = some (.slice none 0 0) := blk_cell hc6 11
      have f10 := blk_frozen hc6 10
      have f11 := blk_frozen hc6 11
      have HC7 := Lh (blk_put (blk_put hc6 10 vg rfl) 11 vn (show _ = #[.int .u8 16, .int .u8 fl, .int .u32 (t1 : Int), .int .u16 0, .int .u16 0, .int .u32 0, .int .u32 0, .int .u32 (t2 : Int), .int .u16 0, .int .u16 0, vg, vn, .slice none 0 0, .slice none 0 0, .slice none 0 0] from rfl))
      have HO7 := Lh ((hO6.setCell (p := ⟨gc, 10, none⟩) (fun _ => Or.inr rfl) vg).setCell (p := ⟨gc, 11, none⟩) (fun _ => Or.inr rfl) vn)
      have hfar := ((Only.refl (· = gc) w6).setCell (p := ⟨gc, 10, none⟩) (fun _ => rfl) vg).setCell (p := ⟨gc, 11, none⟩) (fun _ => rfl) vn
      have HRS7 := Lh (hRS.only hfar HNE2.out)
      have HG7 := Lh (R_only hG6 hfar (fun k hk _ e => by have := HGL.out.2; omega))
      have HN7 := Lh (R_only hN6 hfar (fun k hk _ e => by have := HGL.out.2; omega))
      clear hN hRS hO hO6 hc6 hG6 hN6 hfar HO5 HC5 HG5 HRS5
      generalize (gapsD a (v.drop 16)).length = gl at hvg
      generalize (gapsD n (v.drop (16 + 4 * a))).length = nl at hvn
      subst hvg hvn
      go_upto_region 12 with (fail)
      clear f10 f11 k10 k11 HGP
      generalize Value.slice Ag gl cg = vg at *
      generalize Value.slice An nl cn = vn at *
      generalize (w6.setCell ⟨gc, 10, none⟩ vg).setCell ⟨gc, 11, none⟩ vn = W0 at *
      have hvv : (v.drop (16 + 4 * a + 4 * n)) = v.drop (16 + 4 * (a + n)) := by first | rfl | (congr 1; omega)
      rw [hvv] at HRS7
      clear hvv
      have hvl : (v.drop (16 + 4 * (a + n))).length = 4 * d := by have := HL3.out; rw [List.length_drop]; omega
      generalize v.drop (16 + 4 * (a + n)) = vv0 at *
      have HGL0 := Lh (show ∀ k, w.heap.size ≤ k → (k = g ∨ k = gc) → False from fun k hk e => by have := HGL.out; omega)
      have HGL2 := Lh (show g < W0.heap.size ∧ gc < W0.heap.size from ⟨by have := HGL.out; have := HO7.out.size; omega, by have := HGL.out; have := HO7.out.size; omega⟩)
      have HFW := Lh (fun (W : World) (u : List UInt8) (h : RS w0 W g u) (hO : Only (fun k => k = g ∨ k = gc) W0 W) (h4 : 4 ≤ u.length) (hu : u.length ≤ 140737488355328) => HF.out W u h (HO7.out.trans hO (fun k _ h => h)) h4 hu)
      replace HGL := Lh (show ∀ k, W0.heap.size ≤ k → (k = g ∨ k = gc) → False from fun k hk e => by have := HGL2.out; omega)
      clear HF HFB HC HBW hb1 hb2 hb5 hm3 hLL
      go_wp2
      go_loopw [79] (fun v79 wr => ∃ (i : Nat) (xs : List Int) (vd : Value), i ≤ d ∧ v79 = .int .u16 (i : Int) ∧ Hid ((Kd.int .u32).R 23 wr W0.heap.size (fun _ => True) vd xs) ∧ Hid (xs ++ dupsD (d - i) (vv0.drop (4 * i)) = dupsD d vv0) ∧ Hid (RS w0 wr g (vv0.drop (4 * i))) ∧ Hid (wr.heap[gc]? = some (.cells #[.int .u8 16, .int .u8 fl, .int .u32 (t1 : Int), .int .u16 0, .int .u16 0, .int .u32 0, .int .u32 0, .int .u32 (t2 : Int), .int .u16 0, .int .u16 0, vg, vn, vd, .slice none 0 0, .slice none 0 0] 41 (0, 0))) ∧ Hid (Only (fun k => k = g ∨ k = gc) W0 wr)) (fun v79 _ => d - (intOf v79).toNat)
      case atStart => exact ⟨0, [], .slice none 0 0, Nat.zero_le _, rfl, Kd.R_nil _ _ _ _ _, rfl, HRS7.out, HC7.out, Only.refl _ _⟩
      case round =>
       obtain ⟨i, xs, vd, hi, rfl, HR, HE, HRS, HC, HO⟩ := hrel
       obtain ⟨Av, cv, rfl⟩ := Kd.R_slice HR.out
       have hxl : xs.length ≤ 4096 := by
        have := congrArg List.length HE.out
        rw [List.length_append, dupsD_length, dupsD_length] at this
        omega
       have HXL := Lh hxl
       by_cases hlt : i < d
       ·have hE := HE.out
        rw [show d - i = (d - (i + 1)) + 1 by omega, dupsD] at hE
        have e4 : (vv0.drop (4 * i)).drop 4 = vv0.drop (4 * (i + 1)) := by rw [List.drop_drop]; congr 1
        have hE2 : (xs ++ [(be ((vv0.drop (4 * i)).take 4) : Int)]) ++ dupsD (d - (i + 1)) (vv0.drop (4 * (i + 1))) = dupsD d vv0 := by rw [List.append_assoc, ← e4]; exact hE
        have HF := Lh (fun (W : World) (h : RS w0 W g (vv0.drop (4 * i))) (hO : Only (fun k => k = g ∨ k = gc) W0 W) => HFW.out W (vv0.drop (4 * i)) h hO (by rw [List.length_drop]; omega) (by rw [List.length_drop]; omega))
        have hw : IntKind.u16.wrap ((i : Int) + 1) = ((i + 1 : Nat) : Int) := by simp [IntKind.wrap, IntKind.bits, IntKind.signed]; omega
        generalize be ((vv0.drop (4 * i)).take 4) = q at *
        have HE2 := Lh hE2
        have HE4 := Lh e4
        have HW := Lh hw
        generalize vv0.drop (4 * i) = vv at *
        clear hE hE2 e4 HE hw HFW hvl hxl
        go_upto_region 14 with (fail)
        have B := True.intro
        have C := True.intro
        have R := True.intro
        have D := True.intro
        refine start_ (n := 12) (S := fun w' => True) (ds := []) #[false, false, false, false, false, false, false, false, false, false, false, false] (by kernel_rfl) rfl rfl trivial (fun hHeld => ?_)
        refine with_tabW liststab14 listsbits14 (fun HT_ HW_ => ?_)
        refine pu 0 81 ?_ rfl rfl (any_of HT_.out (by kernel_rfl)) (fun _ _ _ h => h) (by rfl) ?_ ?_ ?_ ?_
        rotate_left
        ·intro w'
         go_simp
         with_reducible rfl
        rotate_left
        ·simp only [sL]
         rfl
        refine pu 1 82 ?_ rfl rfl (any_of HT_.out (by kernel_rfl)) (fun _ _ _ h => h) (by rfl) ?_ ?_ ?_ ?_
        rotate_left
        ·intro w'
         go_simp
         with_reducible rfl
        rotate_left
        ·simp only [sL]
         rfl
        refine pu 5 86 ?_ rfl rfl (any_of HT_.out (by kernel_rfl)) (fun _ _ _ h => h) (by rfl) ?_ ?_ ?_ ?_
        rotate_left
        ·intro w'
         go_simp
         with_reducible rfl
        rotate_left
        ·simp only [sL]
         rfl
        refine inv_at [2, 3, 4, 6, 7, 8, 9, 10, 11] (fun a0_ b a w' => ∃ (g9 : Nat) (v9 : Value) (m7_ : Value), a = putSel a0_ b [(2, 83, .pointer (some ⟨gc, 0, none⟩)), (3, 84, .pointer (some ⟨gc, 12, none⟩)), (4, 85, .slice Av xs.length cv), (6, 87, .int .u32 (q : Int)), (7, 88, m7_), (8, 89, v9), (9, 90, .pointer (some ⟨gc, 0, none⟩)), (10, 91, .pointer (some ⟨gc, 12, none⟩))] ∧ (b 8 = false → Only (fun k => k = g ∨ k = gc) W0 w') ∧ (b 8 = false → w'.heap[gc]? = some (.cells #[.int .u8 16, .int .u8 fl, .int .u32 (t1 : Int), .int .u16 0, .int .u16 0, .int .u32 0, .int .u32 0, .int .u32 (t2 : Int), .int .u16 0, .int .u16 0, vg, vn, .slice Av xs.length cv, .slice none 0 0, .slice none 0 0] 41 (0, 0))) ∧ (b 8 = false → (Kd.int .u32).R 23 w' W0.heap.size (fun _ => True) (.slice Av xs.length cv) xs) ∧ (b 6 = false → RS w0 w' g vv) ∧ (b 6 = true → b 8 = false → RS w0 w' g (vv.drop 4)) ∧ (b 7 = true → b 8 = false → ∃ w2, w' = w2.alloc (.cells #[.int .u32 (q : Int)] 23) ∧ g9 = w2.heap.size ∧ Only (fun k => k = g ∨ k = gc) W0 w2 ∧ w2.heap[gc]? = some (.cells #[.int .u8 16, .int .u8 fl, .int .u32 (t1 : Int), .int .u16 0, .int .u16 0, .int .u32 0, .int .u32 0, .int .u32 (t2 : Int), .int .u16 0, .int .u16 0, vg, vn, .slice Av xs.length cv, .slice none 0 0, .slice none 0 0] 41 (0, 0)) ∧ (Kd.int .u32).R 23 w2 W0.heap.size (fun _ => True) (.slice Av xs.length cv) xs ∧ RS w0 w2 g (vv.drop 4)) ∧ (b 8 = true → b 11 = false → (Kd.int .u32).R 23 w' W0.heap.size (fun _ => True) v9 (xs ++ [(q : Int)]) ∧ w'.heap[gc]? = some (.cells #[.int .u8 16, .int .u8 fl, .int .u32 (t1 : Int), .int .u16 0, .int .u16 0, .int .u32 0, .int .u32 0, .int .u32 (t2 : Int), .int .u16 0, .int .u16 0, vg, vn, .slice Av xs.length cv, .slice none 0 0, .slice none 0 0] 41 (0, 0)) ∧ RS w0 w' g (vv.drop 4) ∧ Only (fun k => k = g ∨ k = gc) W0 w') ∧ (b 11 = true → (Kd.int .u32).R 23 w' W0.heap.size (fun _ => True) v9 (xs ++ [(q : Int)]) ∧ w'.heap[gc]? = some (.cells #[.int .u8 16, .int .u8 fl, .int .u32 (t1 : Int), .int .u16 0, .int .u16 0, .int .u32 0, .int .u32 0, .int .u32 (t2 : Int), .int .u16 0, .int .u16 0, vg, vn, v9, .slice none 0 0, .slice none 0 0] 41 (0, 0)) ∧ RS w0 w' g (vv.drop 4) ∧ Only (fun k => k = g ∨ k = gc) W0 w') ∧ (b 7 = true → (m7_ : Value) = .slice (some ⟨g9, 0, none⟩) 1 1)) HT_.out HW_.out (by kernel_rfl) (by kernel_rfl) ?_ ?_ ?_
        ·exact ⟨0, undef, .bool false, by simp only [putSel, Bool.false_eq_true, if_false], fun _ => HO.out.drew, fun _ => HC.out, fun _ => HR.out, fun _ => HRS.out, fun h_ => absurd h_ (by decide), fun h_ => absurd h_ (by decide), fun h_ => absurd h_ (by decide), fun h_ => absurd h_ (by decide), fun h_ => absurd h_ (by decide)⟩
        ·skip
         clear B C D R
         refine sc rfl ?_ ?_
         ·rintro b a w' ⟨g9, v9, m7_, ha, Q_B, Q_C, Q_R, Q_D, Q_E, Q_W2, Q_S1, Q_S2, Q_X7_⟩ hb_ hon hoff K hK
          have e82 : a.tmps[82]? = some (.pointer (some ⟨gc, 0, none⟩)) := by rw [ha]; exact (putSel_off rfl).trans rfl
          replace ha := Am ha
          refine value_ (w1 := w') (v := .pointer (some ⟨gc, 0, none⟩)) (by rfl) rfl ?_ ?_
          ·go_simp
           (try simp only [i64_w])
           try rfl
          refine hK.out _ _ ⟨g9, v9, m7_, (puk ha 0 hb_ rfl rfl rfl), Q_B, Q_C, Q_R, Q_D, Q_E, Q_W2, fun h0_ _ => hof (hoff 8 (by kernel_rfl)) h0_, fun h0_ => hof (hoff 11 (by kernel_rfl)) h0_, Q_X7_⟩
         refine sc rfl ?_ ?_
         ·rintro b a w' ⟨g9, v9, m7_, ha, Q_B, Q_C, Q_R, Q_D, Q_E, Q_W2, Q_S1, Q_S2, Q_X7_⟩ hb_ hon hoff K hK
          have e83 := psn ha 0 rfl rfl (hon 2 (by kernel_rfl)) rfl
          replace ha := Am ha
          refine value_ (w1 := w') (v := .pointer (some ⟨gc, 12, none⟩)) (by rfl) rfl ?_ ?_
          ·go_simp
           (try simp only [i64_w])
           try rfl
          refine hK.out _ _ ⟨g9, v9, m7_, (puk ha 1 hb_ rfl rfl rfl), Q_B, Q_C, Q_R, Q_D, Q_E, Q_W2, fun h0_ _ => hof (hoff 8 (by kernel_rfl)) h0_, fun h0_ => hof (hoff 11 (by kernel_rfl)) h0_, Q_X7_⟩
         refine sc rfl ?_ ?_
         ·rintro b a w' ⟨g9, v9, m7_, ha, Q_B, Q_C, Q_R, Q_D, Q_E, Q_W2, Q_S1, Q_S2, Q_X7_⟩ hb_ hon hoff K hK
          have e84 := psn ha 1 rfl rfl (hon 3 (by kernel_rfl)) rfl
          replace ha := Am ha
          have C := Am (Q_C (hoff 8 (by kernel_rfl)))
          have hs := blk_cell C.out 12
          refine value_ (w1 := w') (v := .slice Av xs.length cv) (by rfl) rfl ?_ ?_
          ·go_simp
           (try simp only [i64_w])
           try rfl
          refine hK.out _ _ ⟨g9, v9, m7_, (puk ha 2 hb_ rfl rfl rfl), Q_B, Q_C, Q_R, Q_D, Q_E, Q_W2, fun h0_ _ => hof (hoff 8 (by kernel_rfl)) h0_, fun h0_ => hof (hoff 11 (by kernel_rfl)) h0_, Q_X7_⟩
         refine sc rfl ?_ ?_
         ·rintro b a w' ⟨g9, v9, m7_, ha, Q_B, Q_C, Q_R, Q_D, Q_E, Q_W2, Q_S1, Q_S2, Q_X7_⟩ hb_ hon hoff K hK
          have e86 : a.tmps[86]? = some (.pointer (some ⟨g, 0, none⟩)) := by rw [ha]; exact (putSel_off rfl).trans rfl
          replace ha := Am ha
          have B := Am (Q_B (hoff 8 (by kernel_rfl)))
          have C := Am (Q_C (hoff 8 (by kernel_rfl)))
          have R := Am (Q_R (hoff 8 (by kernel_rfl)))
          have D := Am (Q_D hb_)
          refine goes_ Tryd.func96 (by kernel_rfl) rfl #[.pointer (some ⟨g, 0, none⟩)] (by rfl) rfl rfl (by first | (simp only [List.map_toArray, List.map_cons, List.map_nil, Act.eval, Array.getD_eq_getD_getElem?, Option.getD_some, e86]; done) | (simp only [List.map_toArray, List.map_cons, List.map_nil, Act.eval, Array.getD_eq_getD_getElem?, Option.getD_some, e86]; rfl)) ?_
          refine (HF.out w' D.out B.out).mono ?_
          rintro e w1 ⟨rfl, hRS1, hO1⟩
          refine ⟨_, rfl, ?_⟩
          refine hK.out _ _ ⟨g9, v9, m7_, (puk ha 3 hb_ rfl rfl rfl), fun _ => B.out.trans hO1 (fun k _ h => Or.inl h), fun _ => hO1.blk C.out HNE.out, fun _ => R_only R.out hO1 (fun k hk _ e => HGL.out k hk (Or.inl e)), fun h0_ => absurd ((up_self b 6).symm.trans h0_) (by decide), fun _ _ => hRS1, fun h0_ _ => hof (hoff 7 (by kernel_rfl)) h0_, fun h0_ _ => hof (hoff 8 (by kernel_rfl)) h0_, fun h0_ => hof (hoff 11 (by kernel_rfl)) h0_, fun h0_ => hof (hoff 7 (by kernel_rfl)) h0_⟩
         refine sc rfl ?_ ?_
         ·rintro b a w' ⟨g9, v9, m7_, ha, Q_B, Q_C, Q_R, Q_D, Q_E, Q_W2, Q_S1, Q_S2, Q_X7_⟩ hb_ hon hoff K hK
          have e87 := psn ha 3 rfl rfl (hon 6 (by kernel_rfl)) rfl
          replace ha := Am ha
          have B := Am (Q_B (hoff 8 (by kernel_rfl)))
          have C := Am (Q_C (hoff 8 (by kernel_rfl)))
          have R := Am (Q_R (hoff 8 (by kernel_rfl)))
          have E := Am (Q_E (hon 6 (by kernel_rfl)) (hoff 8 (by kernel_rfl)))
          refine value_ (w1 := w'.alloc (.cells #[.int .u32 (q : Int)] 23)) (v := .slice (some ⟨w'.heap.size, 0, none⟩) 1 1) (by rfl) rfl (by go_simp; try rfl) ?_
          refine hK.out _ _ ⟨w'.heap.size, v9, (.slice (some ⟨w'.heap.size, 0, none⟩) 1 1), (puk ha 4 hb_ rfl rfl rfl), fun _ => B.out.alloc _, fun _ => blk_alloc C.out _, fun _ => Kd.R_alloc R.out _, fun h0_ => absurd ((hon 6 (by kernel_rfl)).symm.trans h0_) (by decide), fun _ _ => E.out.only ((Only.refl (fun _ => False) _).alloc _) id, fun _ _ => ⟨w', rfl, rfl, B.out, C.out, R.out, E.out⟩, fun h0_ _ => hof (hoff 8 (by kernel_rfl)) h0_, fun h0_ => hof (hoff 11 (by kernel_rfl)) h0_, fun _ => rfl⟩
         refine sc rfl ?_ ?_
         ·rintro b a w' ⟨g9, v9, m7_, ha, Q_B, Q_C, Q_R, Q_D, Q_E, Q_W2, Q_S1, Q_S2, Q_X7_⟩ hb_ hon hoff K hK
          have e85 := psn ha 2 rfl rfl (hon 4 (by kernel_rfl)) rfl
          have e88 := psn ha 4 rfl rfl (hon 7 (by kernel_rfl)) rfl
          rw [Q_X7_ (hon 7 (by kernel_rfl))] at e88
          replace ha := Am ha
          have W2 := Am (Q_W2 (hon 7 (by kernel_rfl)) hb_)
          obtain ⟨w2, rfl, hg9, hB2, hC2, hR2, hE2⟩ := W2.out
          rw [hg9] at e88
          refine Kd.R_append_step (Kd.int .u32) (w0 := w2) (W := w2) W0.heap.size (by rfl) _ _ 38 23 _ 4 rfl Tryd.underlying38 info23 rfl (by decide) (by decide) (.slice Av xs.length cv) xs (q : Int) [.int .u32 (q : Int)] (fun _ => True) (fun _ => False) (by simp [Act.eval, Array.getD_eq_getD_getElem?, e85]) (by simp [Act.eval, Array.getD_eq_getD_getElem?, e88]) rfl (fun _ h => h.elim) (fun _ _ => trivial) hR2 (Below.refl _ _) hB2.size (by have := HXL.out; omega) ?_
          intro v1 w1 hR1 hB1 hG1 hat1
          have hC3 := (hB1.block gc (HGL2.out.2)).trans hC2
          have hE3 := hE2.below hB1 HGL2.out.1
          have hO3 := only_then3 hB2 hB1
          refine hK.out _ _ ⟨g9, v1, m7_, (puk ha 5 hb_ rfl rfl rfl), fun h0_ => absurd ((up_self b 8).symm.trans h0_) (by decide), fun h0_ => absurd ((up_self b 8).symm.trans h0_) (by decide), fun h0_ => absurd ((up_self b 8).symm.trans h0_) (by decide), fun h0_ => absurd ((hon 6 (by kernel_rfl)).symm.trans h0_) (by decide), fun _ h1_ => absurd ((up_self b 8).symm.trans h1_) (by decide), fun _ h1_ => absurd ((up_self b 8).symm.trans h1_) (by decide), fun _ _ => ⟨hR1, hC3, hE3, hO3⟩, fun h0_ => hof (hoff 11 (by kernel_rfl)) h0_, Q_X7_⟩
         refine sc rfl ?_ ?_
         ·rintro b a w' ⟨g9, v9, m7_, ha, Q_B, Q_C, Q_R, Q_D, Q_E, Q_W2, Q_S1, Q_S2, Q_X7_⟩ hb_ hon hoff K hK
          have e81 : a.tmps[81]? = some (.pointer (some ⟨gc, 0, none⟩)) := by rw [ha]; exact (putSel_off rfl).trans rfl
          replace ha := Am ha
          refine value_ (w1 := w') (v := .pointer (some ⟨gc, 0, none⟩)) (by rfl) rfl ?_ ?_
          ·go_simp
           (try simp only [i64_w])
           try rfl
          refine hK.out _ _ ⟨g9, v9, m7_, (puk ha 6 hb_ rfl rfl rfl), fun h0_ => absurd ((hon 8 (by kernel_rfl)).symm.trans h0_) (by decide), fun h0_ => absurd ((hon 8 (by kernel_rfl)).symm.trans h0_) (by decide), fun h0_ => absurd ((hon 8 (by kernel_rfl)).symm.trans h0_) (by decide), fun h0_ => absurd ((hon 6 (by kernel_rfl)).symm.trans h0_) (by decide), fun _ h1_ => absurd ((hon 8 (by kernel_rfl)).symm.trans h1_) (by decide), fun _ h1_ => absurd ((hon 8 (by kernel_rfl)).symm.trans h1_) (by decide), Q_S1, fun h0_ => hof (hoff 11 (by kernel_rfl)) h0_, Q_X7_⟩
         refine sc rfl ?_ ?_
         ·rintro b a w' ⟨g9, v9, m7_, ha, Q_B, Q_C, Q_R, Q_D, Q_E, Q_W2, Q_S1, Q_S2, Q_X7_⟩ hb_ hon hoff K hK
          have e90 := psn ha 6 rfl rfl (hon 9 (by kernel_rfl)) rfl
          replace ha := Am ha
          refine value_ (w1 := w') (v := .pointer (some ⟨gc, 12, none⟩)) (by rfl) rfl ?_ ?_
          ·go_simp
           (try simp only [i64_w])
           try rfl
          refine hK.out _ _ ⟨g9, v9, m7_, (puk ha 7 hb_ rfl rfl rfl), fun h0_ => absurd ((hon 8 (by kernel_rfl)).symm.trans h0_) (by decide), fun h0_ => absurd ((hon 8 (by kernel_rfl)).symm.trans h0_) (by decide), fun h0_ => absurd ((hon 8 (by kernel_rfl)).symm.trans h0_) (by decide), fun h0_ => absurd ((hon 6 (by kernel_rfl)).symm.trans h0_) (by decide), fun _ h1_ => absurd ((hon 8 (by kernel_rfl)).symm.trans h1_) (by decide), fun _ h1_ => absurd ((hon 8 (by kernel_rfl)).symm.trans h1_) (by decide), Q_S1, fun h0_ => hof (hoff 11 (by kernel_rfl)) h0_, Q_X7_⟩
         refine sc rfl ?_ ?_
         ·rintro b a w' ⟨g9, v9, m7_, ha, Q_B, Q_C, Q_R, Q_D, Q_E, Q_W2, Q_S1, Q_S2, Q_X7_⟩ hb_ hon hoff K hK
          have e91 := psn ha 7 rfl rfl (hon 10 (by kernel_rfl)) rfl
          have e89 := psn ha 5 rfl rfl (hon 8 (by kernel_rfl)) rfl
          replace ha := Am ha
          have S1 := Am (Q_S1 (hon 8 (by kernel_rfl)) hb_)
          obtain ⟨hR1, hC1, hE1, hO1⟩ := S1.out
          obtain ⟨A7, c7, hv9⟩ := Kd.R_slice hR1
          have hs := blk_cell hC1 12
          have hf := blk_frozen hC1 12
          refine skip_ (w1 := w'.setCell ⟨gc, 12, none⟩ v9) (by rfl) rfl (by generalize (xs ++ [(q : Int)]).length = zl at hv9; rw [hv9] at e89 ⊢; go_simp; try rfl) ?_
          refine hK.out _ _ ⟨g9, v9, m7_, (by rw [ha.out]; exact putSel_none (v := undef) rfl), fun h0_ => absurd ((hon 8 (by kernel_rfl)).symm.trans h0_) (by decide), fun h0_ => absurd ((hon 8 (by kernel_rfl)).symm.trans h0_) (by decide), fun h0_ => absurd ((hon 8 (by kernel_rfl)).symm.trans h0_) (by decide), fun h0_ => absurd ((hon 6 (by kernel_rfl)).symm.trans h0_) (by decide), fun _ h1_ => absurd ((hon 8 (by kernel_rfl)).symm.trans h1_) (by decide), fun _ h1_ => absurd ((hon 8 (by kernel_rfl)).symm.trans h1_) (by decide), fun _ h1_ => absurd ((up_self b 11).symm.trans h1_) (by decide), fun _ => ⟨R_only hR1 ((Only.refl (· = gc) w').setCell (fun _ => rfl) v9) (fun k hk _ e => HGL.out k hk (Or.inr e)), blk_put hC1 12 v9 rfl, hE1.only ((Only.refl (· = gc) w').setCell (fun _ => rfl) v9) HNE2.out, hO1.setCell (fun _ => Or.inr rfl) v9⟩, Q_X7_⟩
         exact steps_nil
        rintro b a w' hall ⟨g9, v9, m7_, ha, Q_B, Q_C, Q_R, Q_D, Q_E, Q_W2, Q_S1, Q_S2, Q_X7_⟩
        clear B C D R
        have hb2_ := hall 2 (by kernel_rfl)
        have hb3_ := hall 3 (by kernel_rfl)
        have hb4_ := hall 4 (by kernel_rfl)
        have hb6_ := hall 6 (by kernel_rfl)
        have hb7_ := hall 7 (by kernel_rfl)
        have hb8_ := hall 8 (by kernel_rfl)
        have hb9_ := hall 9 (by kernel_rfl)
        have hb10_ := hall 10 (by kernel_rfl)
        have hb11_ := hall 11 (by kernel_rfl)
        subst ha
        obtain rfl := Q_X7_ hb7_
        simp only [putSel, hb2_, hb3_, hb4_, hb6_, hb7_, hb8_, hb9_, hb10_, hb11_, if_true, Act.put, List.setIfInBounds_toArray, List.set_cons_zero, List.set_cons_succ]
        clear Q_B
        clear Q_C
        clear Q_R
        clear Q_D
        clear Q_E
        clear Q_W2
        clear Q_S1
        have S2 := Am (Q_S2 hb11_)
        clear Q_S2
        clear hall hb2_ hb3_ hb4_ hb6_ hb7_ hb8_ hb9_ hb10_ hb11_
        obtain ⟨hR9, hC9, hE9, hO9⟩ := S2.out
        have HR9 := Lh hR9
        have HC9 := Lh hC9
        have HE9 := Lh hE9
        have HO9 := Lh hO9
        clear hR9 hC9 hE9 hO9 S2
        rw [HE4.out] at HE9
        have hw := HW.out
        clear HW HE4 HF HRS HC HO HR
        go_wp2
        go_roundw
        case rel => exact ⟨i + 1, xs ++ [(q : Int)], v9, by omega, by first | go_num | exact congrArg _ hw, HR9, HE2, HE9, HC9, HO9⟩
        case measure => simp [intOf]; omega
       ·obtain rfl : i = d := by omega
        have hE := HE.out
        rw [Nat.sub_self, dupsD, List.append_nil] at hE
        have HE2 := Lh hE
        have hv4 : vv0.drop (4 * i) = [] := List.drop_eq_nil_of_le (by omega)
        rw [hv4] at HRS
        clear hE HE hv4 HFW
        go_wp2
        go_end0
        unfold ListP
        rw [HLD.out]
        refine ⟨rfl, vg, vn, _, by rw [HT1.out, HT2.out]; exact HC.out, R_only HG7.out HO.out (fun k hk _ e => HGL0.out k hk e), R_only HN7.out HO.out (fun k hk _ e => HGL0.out k hk e), ?_, HRS.out, HO7.out.trans HO.out (fun k _ h => h)⟩
        rw [← HE2.out]
        exact Kd.R_lower HR.out HO7.out.size
   ·rintro e w4 hP
    rw [if_neg (by rw [List.length_drop]; omega)] at hP
    obtain ⟨rfl, hO4⟩ := hP
    have hE : listsD true v = .error 61 := by unfold listsD; rw [if_pos (by simp; omega)]
    refine ⟨rfl, ?_⟩
    unfold ListP
    rw [hE]
    exact ⟨rfl, ⟨_, hO4.blk HC3.out HNE.out, rfl⟩, HO3.out.trans (hO4.mono (S' := fun k => k = g ∨ k = gc) (fun k _ h => Or.inl h)) (fun k _ h => h)⟩
  ·have H2 := Lh (fun (W : World) (h : RS w0 W g (v.drop 4)) (hO : Only (· = g) w W) => HFB.out W (v.drop 4) h (hO.mono (fun k _ h => Or.inl h)) (by rw [List.length_drop]; omega) (by rw [List.length_drop]; omega))
   have hE : listsD true v = .error 61 := by unfold listsD; rw [if_pos (by simp; omega)]
   rw [hE]
   unfold ListP errE
   generalize be (v.take 4) = t1 at *
   go_enter Tryd.func100, Tryd.ntmps100
   go_wp2_with fail
   refine H1.out.mono ?_
   rintro e w1 ⟨rfl, hRS, hO1⟩
   have HRS := Lh hRS
   have HO1 := Lh hO1
   clear hRS hO1 H1
   go_wp2_with fail
   refine (H2.out w1 HRS.out HO1.out).mono ?_
   rintro e w2 ⟨rfl, hO2⟩
   exact ⟨rfl, rfl, ⟨_, (HO1.out.trans hO2 (fun k _ h => h)).blk HCC.out HNE.out, rfl⟩, (HO1.out.trans hO2 (fun k _ h => h)).mono (fun k _ h => Or.inl h)⟩
 ·have H1 := Lh (HFB.out w v HS.out (Only.refl _ _) (by omega) hv)
  have hE : listsD true v = .error 61 := by unfold listsD; rw [if_pos (by simp; omega)]
  rw [hE]
  unfold ListP errE
  go_enter Tryd.func100, Tryd.ntmps100
  go_wp2_with fail
  refine H1.out.mono ?_
  rintro e w1 ⟨rfl, hO1⟩
  exact ⟨rfl, rfl, ⟨_, hO1.blk HCC.out HNE.out, rfl⟩, hO1.mono (fun k _ h => Or.inl h)⟩
end Go.Proofs.YtdlamomabonkjaaDoor.Ch
end
section
namespace Go.Proofs.YtdlamomabonkjaaDoor.Ch
open Go.RowKit YtdlamomabonkjaaDoorW.PrintWords Base PCh ParDec
def intsL (l : List UInt8) : List Int := l.map fun b => (b.toNat : Int)
def chk0 (kd fl : Int) : Chk := ⟨kd, fl, 0, 0, 0, 0, 0, 0, 0, 0, [], [], [], [], []⟩
def prmsD (v : List UInt8) : Except Int (List PrmS) := if (decD v).2.2 = 0 then .ok (decD v).1 else .error (decD v).2.2
def beatB (ps : List PrmS) : Bool := match ps with
 | [p] => decide (p.f0 = 1)
 | _ => false
def readData (kd fl : Int) (v : List UInt8) : Except Int Chk :=
 if v.length < 12 then .error 61 else if v.length = 12 then .error 62 else .ok ⟨kd, fl, (be (v.take 4) : Nat), (be ((v.drop 4).take 2) : Nat), (be ((v.drop 6).take 2) : Nat), (be ((v.drop 8).take 4) : Nat), 0, 0, 0, 0, [], [], [], intsL (v.drop 12), []⟩
def readInit (kd fl : Int) (v : List UInt8) : Except Int Chk :=
 if v.length < 16 then .error 61 else match prmsD (v.drop 16) with
 | .error c => .error c
 | .ok ps => .ok ⟨kd, fl, (be ((v.drop 12).take 4) : Nat), 0, 0, 0, (be (v.take 4) : Nat), (be ((v.drop 4).take 4) : Nat), (be ((v.drop 8).take 2) : Nat), (be ((v.drop 10).take 2) : Nat), [], [], [], [], ps⟩
def readLists (nr : Bool) (kd fl : Int) (v : List UInt8) : Except Int Chk :=
 match listsD nr v with
 | .error c => .error c
 | .ok (t1, t2, G, N, D) => .ok ⟨kd, fl, (t1 : Nat), 0, 0, 0, 0, (t2 : Nat), 0, 0, G, N, D, [], []⟩
def readPrms (beat : Bool) (kd fl : Int) (v : List UInt8) : Except Int Chk :=
 match prmsD v with
 | .error c => .error c
 | .ok ps => if beat && !beatB ps then .error 61 else .ok ⟨kd, fl, 0, 0, 0, 0, 0, 0, 0, 0, [], [], [], [], ps⟩
def readShut (kd fl : Int) (v : List UInt8) : Except Int Chk := if v.length = 4 then .ok ⟨kd, fl, (be v : Nat), 0, 0, 0, 0, 0, 0, 0, [], [], [], [], []⟩ else .error 61
def readNone (kd fl : Int) (v : List UInt8) : Except Int Chk := if v.length = 0 then .ok (chk0 kd fl) else .error 61
def readBody (kd fl : Int) (v : List UInt8) : Except Int Chk := .ok ⟨kd, fl, 0, 0, 0, 0, 0, 0, 0, 0, [], [], [], intsL v, []⟩
def readD (kd fl : Int) (v : List UInt8) : Except Int Chk :=
 if kd = 0 then readData kd fl v
 else if kd = 1 ∨ kd = 2 then readInit kd fl v
 else if kd = 3 then readLists false kd fl v
 else if kd = 16 then readLists true kd fl v
 else if kd = 4 ∨ kd = 5 then readPrms true kd fl v
 else if kd = 6 ∨ kd = 9 then readPrms false kd fl v
 else if kd = 7 then readShut kd fl v
 else if kd = 8 ∨ kd = 11 ∨ kd = 14 then readNone kd fl v
 else readBody kd fl v
def freshV (kd fl : Int) : Array Value := #[.int .u8 kd, .int .u8 fl, .int .u32 0, .int .u16 0, .int .u16 0, .int .u32 0, .int .u32 0, .int .u32 0, .int .u16 0, .int .u16 0, .slice none 0 0, .slice none 0 0, .slice none 0 0, .slice none 0 0, .slice none 0 0]
def ReadP (w : World) (g gc : Nat) (r : Except Int Chk) (e : Ending) (w' : World) : Prop :=
 match r with
 | .error code => e = errE code ∧ (∃ x0, w'.heap[gc]? = some (.cells x0 41 (0, 0)) ∧ x0.size = 15) ∧ Only (fun k => k = g ∨ k = gc) w w'
 | .ok d => e = .returned (.tuple #[]) ∧ ∃ cs, w'.heap[gc]? = some (.cells cs 41 (0, 0)) ∧ k41.M w' w.heap.size (fun _ => True) d cs.toList ∧ Only (fun k => k = g ∨ k = gc) w w'
theorem ReadP.bad {w : World} {g gc : Nat} {r : Except Int Chk} {code : Int} {w' : World} {x0 : Array Value} (h : r = .error code) (hc : w'.heap[gc]? = some (.cells x0 41 (0, 0))) (hx : x0.size = 15) (ho : Only (fun k => k = g ∨ k = gc) w w') : ReadP w g gc r (errE code) w' := by
 rw [h]
 exact ⟨rfl, ⟨_, hc, hx⟩, ho⟩
theorem ReadP.good {w : World} {g gc : Nat} {r : Except Int Chk} {d : Chk} {cs : Array Value} {w' : World} (h : r = .ok d) (hc : w'.heap[gc]? = some (.cells cs 41 (0, 0))) (hm : k41.M w' w.heap.size (fun _ => True) d cs.toList) (ho : Only (fun k => k = g ∨ k = gc) w w') : ReadP w g gc r (.returned (.tuple #[])) w' := by
 rw [h]
 exact ⟨rfl, cs, hc, hm, ho⟩
theorem int_of_byte' {w : World} {base : Nat} {ok : Nat → Prop} {u : Value} {l : List UInt8} (h : byte.R 5 w base ok u l) : (Kd.int .u8).R 5 w base ok u (intsL l) := int_of_byte h
end Go.Proofs.YtdlamomabonkjaaDoor.Ch
end
