/- The texts of one proof, merged: part 3. -/
import Derived.Test.YtdlamomabonkjaaDoorUf2
import Derived.Test.YtdlamomabonkjaaDoorProg
import Derived.Deep.LoopGhost
import Derived.Deep.QuietTactic
import Derived.BigQuiet
import Derived.Laws.BitsLemmas
import Derived.Lib.Hide
import Derived.Outline
import Derived.Test.YtdlamomabonkjaaDoorRows
import Derived.WalkKit
import Derived.ProofKit
import Derived.OpenShut
import Derived.ShutString
import Derived.ChangeOld
import Derived.SizedLaws
import Derived.Deep.Slices
import Derived.Deep.DeepHandedRow
import Derived.Lib.LaidTab
import Derived.LaidMore
import Derived.WalkSpells
import Derived.Laws.Rows
import Derived.WalkLawsBesides
import Derived.Defers
import Derived.Recover
import Derived.Laws.Pointers
import Derived.StillTailTactics
import Derived.Deep.RegionWith
import Derived.Laws.Tables
set_option maxRecDepth 100000
set_option linter.unusedVariables false
set_option linter.unusedSimpArgs false
section
namespace Go.Proofs.YtdlamomabonkjaaDoor.Base
open Go.RowKit YtdlamomabonkjaaDoorW.PrintWords
theorem ret_bool {a b : Bool} (h : a = b) : Ending.returned (.bool a) = .returned (.bool b) := by rw [h]
theorem drawn2 {w w' : World} (h : ∃ n, w' = w.drewN n) : Drawn0 w w' := ⟨h⟩
theorem info_u8 : (Tryd.prog.info? 5).map (fun i => (i.zero, i.size, i.bytes)) = some (some (.int .u8 0), 1, 1) := by kernel_rfl
theorem getD_lt {α : Type} (l : List α) (d : α) (i : Nat) (h : i < l.length) : l.getD i d = l[i] := by simp [List.getD_eq_getElem?_getD, h]
structure Only (S : Nat → Prop) (w w' : World) : Prop where
 os : w'.os = w.os
 tape : w'.tape = w.tape
 output : w'.output = w.output
 size : w.heap.size ≤ w'.heap.size
 block : ∀ k, k < w.heap.size → ¬ S k → w'.heap[k]? = w.heap[k]?
theorem Only.refl (S : Nat → Prop) (w : World) : Only S w w := ⟨rfl, rfl, rfl, Nat.le_refl _, fun _ _ _ => rfl⟩
theorem Only.mono {S S' : Nat → Prop} {w w' : World} (h : Only S w w') (hs : ∀ k, k < w.heap.size → S k → S' k) : Only S' w w' := ⟨h.os, h.tape, h.output, h.size, fun k hk hn => h.block k hk (fun hx => hn (hs k hk hx))⟩
theorem Only.trans {S S' : Nat → Prop} {a b c : World} (h : Only S a b) (k : Only S' b c) (hs : ∀ k, k < a.heap.size → S' k → S k) : Only S a c :=
 ⟨k.os.trans h.os, k.tape.trans h.tape, k.output.trans h.output, Nat.le_trans h.size k.size, fun i hi hn => (k.block i (Nat.lt_of_lt_of_le hi h.size) (fun hx => hn (hs i hi hx))).trans (h.block i hi hn)⟩
theorem Only.of_below {S : Nat → Prop} {w w' : World} (h : Below w.heap.size w w') : Only S w w' := ⟨h.os, h.tape, h.output, h.size, fun k hk _ => h.block k hk⟩
theorem Only.below {S : Nat → Prop} {B : Nat} {w w' : World} (h : Only S w w') (hB : B ≤ w.heap.size) (hs : ∀ k, S k → B ≤ k) : Below B w w' :=
 ⟨h.os, h.tape, h.output, h.size, fun k hk => h.block k (by omega) (fun hx => by have := hs k hx; omega)⟩
theorem Only.drew {S : Nat → Prop} {a w : World} (h : Only S a w) : Only S a w.drew := ⟨h.os, h.tape, h.output, h.size, h.block⟩
theorem Only.drewN {S : Nat → Prop} {a w : World} (h : Only S a w) (n : Nat) : Only S a (w.drewN n) := ⟨h.os, h.tape, h.output, h.size, h.block⟩
theorem Only.alloc {S : Nat → Prop} {a w : World} (h : Only S a w) (o : Obj) : Only S a (w.alloc o) := h.trans (.of_below (below_alloc (Below.refl _ _) o)) (S' := fun _ => False) (fun _ _ hf => hf.elim)
theorem Only.setCell {S : Nat → Prop} {a w : World} (h : Only S a w) {p : Addr} (hp : p.block < a.heap.size → S p.block) (u : Value) : Only S a (w.setCell p u) :=
 ⟨h.os, h.tape, h.output, by simpa [World.setCell] using h.size, fun k hk hn => (Below.heap_setCell w p u k (fun e => hn (by subst e; exact hp hk))).trans (h.block k hk hn)⟩
theorem Only.blk {S : Nat → Prop} {w w' : World} (h : Only S w w') {g : Nat} {o : Obj} (hb : w.heap[g]? = some o) (hg : ¬ S g) : w'.heap[g]? = some o := (h.block g (blk_lt hb) hg).trans hb
theorem Only.cell {S : Nat → Prop} {w w' : World} (h : Only S w w') {a : Addr} {v : Value} (hc : w.cell? a = some v) (hg : ¬ S a.block) : w'.cell? a = some v := by
 have := h.block a.block (World.block_lt_of_cell? w a hc) hg
 simpa [World.cell?, this] using hc
def byte : Kd UInt8 := Kd.scalar (fun b => .int .u8 (b.toNat : Int)) (fun _ => rfl)
theorem byte_at {w : World} {A : Option Addr} {n : Nat} {xs : List UInt8} (h : byte.C w A n xs) (i : Nat) (hi : i < n) : ∃ ad, A = some ad ∧ w.cell? (ad.add i) = some (.int .u8 ((xs.getD i 0).toNat : Int)) := by
 obtain ⟨ad, c, e, _, hK, hc0⟩ := Kd.C_get h (0 : UInt8) (i : Int) (by omega) (by omega)
 obtain rfl : c = [_] := hK
 have := hc0 0 _ rfl
 exact ⟨ad, e, by simpa [byte, Kd.scalar] using this⟩
def bytesK : Kd (List UInt8) := Kd.slice 5 byte
theorem bytes_at {w : World} {A : Option Addr} {n : Nat} {xs : List (List UInt8)} (h : bytesK.C w A n xs) (i : Nat) (hi : i < n) : ∃ ad A0 c0, A = some ad ∧ w.cell? (ad.add i) = some (.slice A0 (xs.getD i []).length c0) ∧ (xs.getD i []).length ≤ c0 ∧ byte.C w A0 (xs.getD i []).length (xs.getD i []) := by
 obtain ⟨ad, c, e, _, hK, hc0⟩ := Kd.C_get h ([] : List UInt8) (i : Int) (by omega) (by omega)
 obtain ⟨A0, c0, rfl, l0, g0⟩ := hK
 have := hc0 0 _ rfl
 exact ⟨ad, A0, c0, e, by simpa [bytesK, Kd.slice] using this, by simpa using l0, by simpa using g0⟩
theorem take_bytes {w : World} {A : Option Addr} {c : Nat} {l : List UInt8} (hb : byte.C w A l.length l) (hc : l.length ≤ c) (m : Nat) (j : Int) (hj : j = m) (hm : m ≤ l.length) :
  (∀ W : World, (Instr.slice 27 (.slice A l.length c) none (some (.int .i64 j)) none).run Tryd.prog W = .ok (.slice A (l.take m).length c) W) ∧ byte.C w A (l.take m).length (l.take m) ∧ (l.take m).length ≤ c := by
 subst hj
 obtain ⟨i, hi, h1, h2, h3⟩ := info_parts info_u8
 have hl : (l.take m).length = m := by rw [List.length_take]; omega
 refine ⟨fun W => ?_, Kd.C_take hb hm, by omega⟩
 have := cut_to (P := Tryd.prog) 27 5 .i64 Tryd.underlying27 hi A l.length c (m : Int) (by omega) (by omega) hc W
 rw [this, hl]
 rfl
theorem drop_bytes {w : World} {A : Option Addr} {c : Nat} {l : List UInt8} (hb : byte.C w A l.length l) (hc : l.length ≤ c) (m : Nat) (j : Int) (hj : j = m) (hm : m ≤ l.length) :
  ∃ A', (∀ W : World, (Instr.slice 27 (.slice A l.length c) (some (.int .i64 j)) none none).run Tryd.prog W = .ok (.slice A' (l.drop m).length (c - m)) W) ∧ byte.C w A' (l.drop m).length (l.drop m) ∧ (l.drop m).length ≤ c - m := by
 subst hj
 obtain ⟨i, hi, h1, h2, h3⟩ := info_parts info_u8
 have hl : (l.drop m).length = l.length - m := List.length_drop
 refine ⟨_, fun W => ?_, Kd.C_drop hb hm hc, by omega⟩
 have := cut_from (P := Tryd.prog) 27 5 .i64 Tryd.underlying27 hi 1 h2 A l.length c (m : Int) (by omega) (by omega) W
 rw [this, hl]
 rfl
theorem row_lit {α : Type} (d : Kd α) (hd : d.sz = 1) (W : World) (e : TypeId) (vs : List Value) (ps : List α) (hl : vs.length = ps.length) (hm : ps.length ≤ 9223372036854775807)
  (h : ∀ (j : Nat) (v : Value) (p : α), vs[j]? = some v → ps[j]? = some p → d.K W p [v]) (fr : Nat × Nat := (0, 0)) : d.C (W.alloc (.cells vs.toArray e fr)) (some ⟨W.heap.size, 0, none⟩) ps.length ps := by
 refine ⟨rfl, hm, fun _ => ⟨_, rfl, fun j p hj => ?_⟩⟩
 have hjl : j < ps.length := (List.getElem?_eq_some_iff.1 hj).1
 obtain ⟨v, hv⟩ : ∃ v, vs[j]? = some v := ⟨vs[j]'(by omega), List.getElem?_eq_getElem (by omega)⟩
 refine ⟨[v], by rw [hd]; rfl, d.K_below (below_alloc (Below.refl _ _) _) (h j v p hv hj), fun i u hu => ?_⟩
 cases i with
 | zero =>
  obtain rfl : v = u := by simpa using hu
  rw [hd, add_plain, Nat.mul_one, Nat.add_zero]
  rw [cell_of_row _ _ _ _ _ _ (heap_alloc_new W _)]
  simpa using hv
 | succ i => simp at hu
theorem byte_cell {W : World} {base g n cap t : Nat} {ok : Nat → Prop} {xs : List UInt8} (h : byte.R t W base ok (.slice (some ⟨g, 0, none⟩) n cap) xs) (i : Nat) (hi : i < n) :
  W.cell? ⟨g, i, none⟩ = some (.int .u8 ((xs.getD i 0).toNat : Int)) ∧ W.frozen? ⟨g, i, none⟩ = false := by
 have := Kd.R_celln (0 : UInt8) h (i : Int) (by omega) (by omega)
 simpa [rdOf] using this
theorem byte_put {W : World} {base g n cap t : Nat} {ok : Nat → Prop} {xs : List UInt8} (h : byte.R t W base ok (.slice (some ⟨g, 0, none⟩) n cap) xs) (i : Nat) (z : Int) (x : UInt8) (hz : z = (x.toNat : Int)) :
  byte.R t (W.setCell ⟨g, i, none⟩ (.int .u8 z)) base ok (.slice (some ⟨g, 0, none⟩) n cap) (xs.set i x) := by
 have := Kd.R_putn h (i : Int) x
 rw [Int.toNat_natCast] at this
 rw [hz]
 exact this
def bstr (l : List UInt8) : ByteArray := ⟨l.toArray⟩
theorem bstr_toList (l : List UInt8) : (bstr l).toList = l := by
 rw [bstr, ByteArray.toList_mk]
theorem bstr_eq (l l' : List UInt8) : ((bstr l).toList == (bstr l').toList) = decide (l = l') := by
 rw [bstr_toList, bstr_toList]
 by_cases h : l = l' <;> simp [h]
theorem nums_bstr (l : List UInt8) : strOfNums (l.map fun b => (b.toNat : Int)) = bstr l := by
 unfold strOfNums bstr
 rw [List.map_map]
 have : (List.map ((fun n : Int => UInt8.ofNat n.toNat) ∘ fun b : UInt8 => (b.toNat : Int)) l) = l := by
  conv => rhs; rw [← List.map_id l]
  exact List.map_congr_left fun b _ => by simp
 rw [this]
attribute [irreducible] bstr
theorem lit_byte (w : World) (l : List UInt8) {vs : List Value} (h : vs = l.map fun b => .int .u8 (b.toNat : Int)) : ∀ (j : Nat) (v : Value) (p : UInt8), vs[j]? = some v → l[j]? = some p → byte.K w p [v] := by
 subst h
 intro j v p hv hp
 rw [List.getElem?_map, hp] at hv
 obtain rfl := Option.some.inj hv
 rfl
theorem K_bytes {w : World} {A : Option Addr} {c : Nat} {l : List UInt8} (h : byte.C w A l.length l) (hc : l.length ≤ c) : bytesK.K w l [.slice A l.length c] := ⟨A, c, rfl, hc, h⟩
end Go.Proofs.YtdlamomabonkjaaDoor.Base
end
section
namespace Go.Proofs.YtdlamomabonkjaaDoor.Base
open Go.ChangeShapes Go.WideShapes Go.ChangeAt Go.RowKit YtdlamomabonkjaaDoorW.PrintWords
open Go.ChangeMaps (open_string shut_string)
theorem own : ownKnob Tryd.prog.godebug = none := by kernel_rfl
theorem laidOut : laidOutB Tryd.prog = true := by kernel_rfl
theorem cells_u8 : Tryd.prog.cellsOf 5 = 1 := by kernel_rfl
theorem bytes_u8 : Tryd.prog.bytesOf 5 = 1 := by kernel_rfl
theorem u8_of_wf {n : Int} (h : (Lit.int .u8 n).wf = true) : ((UInt8.ofNat n.toNat).toNat : Int) = n := by
 have := bounds_u8 h
 rw [UInt8.toNat_ofNat']
 omega
end Go.Proofs.YtdlamomabonkjaaDoor.Base
end
section
namespace Go.Proofs.YtdlamomabonkjaaDoor.Base
open Go.RowKit YtdlamomabonkjaaDoorW.PrintWords
def RetR {α : Type} (d : Kd α) (t : Nat) (xs : List α) (w : World) (e : Ending) (w' : World) : Prop := ∃ v, e = .returned v ∧ d.R t w' w.heap.size (fun _ => True) v xs ∧ Below w.heap.size w w'
end Go.Proofs.YtdlamomabonkjaaDoor.Base
end
section
namespace Go.Proofs.YtdlamomabonkjaaDoor.Ch
open Go.RowKit YtdlamomabonkjaaDoorW.PrintWords Base PCh
abbrev Chk := S41
abbrev GapS := S117
abbrev PrmS := S72
noncomputable instance : DecidableEq GapS := fun _ _ => Classical.propDecidable _
noncomputable instance : DecidableEq PrmS := fun _ _ => Classical.propDecidable _
noncomputable instance : DecidableEq Chk := fun _ _ => Classical.propDecidable _
structure Lay where
 A10 : Option Addr
 c10 : Nat
 A11 : Option Addr
 c11 : Nat
 A12 : Option Addr
 c12 : Nat
 A13 : Option Addr
 c13 : Nat
 A14 : Option Addr
 c14 : Nat
def CV (x : Chk) (L : Lay) : Array Value := #[.int .u8 x.f0, .int .u8 x.f1, .int .u32 x.f2, .int .u16 x.f3, .int .u16 x.f4, .int .u32 x.f5, .int .u32 x.f6, .int .u32 x.f7, .int .u16 x.f8, .int .u16 x.f9, .slice L.A10 x.f10.length L.c10, .slice L.A11 x.f11.length L.c11, .slice L.A12 x.f12.length L.c12, .slice L.A13 x.f13.length L.c13, .slice L.A14 x.f14.length L.c14]
structure CR (w : World) (x : Chk) (L : Lay) : Prop where
 l10 : x.f10.length ≤ L.c10
 h10 : Kd.C k117 w L.A10 x.f10.length x.f10
 l11 : x.f11.length ≤ L.c11
 h11 : Kd.C k117 w L.A11 x.f11.length x.f11
 l12 : x.f12.length ≤ L.c12
 h12 : Kd.C (Kd.int .u32) w L.A12 x.f12.length x.f12
 l13 : x.f13.length ≤ L.c13
 h13 : Kd.C (Kd.int .u8) w L.A13 x.f13.length x.f13
 l14 : x.f14.length ≤ L.c14
 h14 : Kd.C k72 w L.A14 x.f14.length x.f14
theorem CR.below {w w' : World} {x : Chk} {L : Lay} (h : CR w x L) (hb : Below w.heap.size w w') : CR w' x L := ⟨h.l10, Kd.C_below h.h10 hb, h.l11, Kd.C_below h.h11 hb, h.l12, Kd.C_below h.h12 hb, h.l13, Kd.C_below h.h13 hb, h.l14, Kd.C_below h.h14 hb⟩
theorem CR.drewN {w : World} {x : Chk} {L : Lay} (h : CR w x L) (n : Nat) : CR (w.drewN n) x L := ⟨h.l10, Kd.C_drewN h.h10 n, h.l11, Kd.C_drewN h.h11 n, h.l12, Kd.C_drewN h.h12 n, h.l13, Kd.C_drewN h.h13 n, h.l14, Kd.C_drewN h.h14 n⟩
theorem CR.K {w : World} {x : Chk} {L : Lay} (h : CR w x L) : k41.K w x (CV x L).toList := k41_mk w x h.l10 h.h10 h.l11 h.h11 h.l12 h.h12 h.l13 h.h13 h.l14 h.h14
theorem CR.of_K {w : World} {x : Chk} {cs : List Value} (h : k41.K w x cs) : ∃ L, cs = (CV x L).toList ∧ CR w x L := by
 obtain ⟨A10, c10, A11, c11, A12, c12, A13, c13, A14, c14, rfl, l10, g10, l11, g11, l12, g12, l13, g13, l14, g14⟩ := k41_open h
 exact ⟨⟨A10, c10, A11, c11, A12, c12, A13, c13, A14, c14⟩, rfl, ⟨l10, g10, l11, g11, l12, g12, l13, g13, l14, g14⟩⟩
theorem chk_ext {x y : Chk} (h0 : x.f0 = y.f0) (h1 : x.f1 = y.f1) (h2 : x.f2 = y.f2) (h3 : x.f3 = y.f3) (h4 : x.f4 = y.f4) (h5 : x.f5 = y.f5) (h6 : x.f6 = y.f6) (h7 : x.f7 = y.f7) (h8 : x.f8 = y.f8) (h9 : x.f9 = y.f9) (h10 : x.f10 = y.f10) (h11 : x.f11 = y.f11) (h12 : x.f12 = y.f12) (h13 : x.f13 = y.f13) (h14 : x.f14 = y.f14) : x = y := by
 cases x; cases y; simp_all
theorem gap_ext {a b : GapS} (h0 : a.f0 = b.f0) (h1 : a.f1 = b.f1) : a = b := by
 cases a; cases b; simp_all
theorem max_len {α : Type} {d : Kd α} {w : World} {A : Option Addr} {xs : List α} (h : d.C w A xs.length xs) : xs.length ≤ 9223372036854775807 := by
 have := h.2.1
 omega
theorem gap_drop (l : List S117) (i : Nat) (h : i < l.length) : l.drop i = rd_T117 l (i : Int) :: l.drop (i + 1) := by
 rw [List.drop_eq_getElem_cons h]
 have e : rd_T117 l (i : Int) = l[i] := by
  simp [rd_T117, List.getD_eq_getElem?_getD, h]
 rw [e]
theorem gap_run (l0 l1 : List S117) (hl : l0.length = l1.length) (hm : l0.length ≤ 9223372036854775807) (m i : Nat) (hi : i + m = l0.length) : ∃ k, api_Gap.l0 k l0 l1 (l0.length : Int) (i : Int) = some (decide (l0.drop i = l1.drop i)) := by
 induction m generalizing i with
 | zero =>
  refine ⟨1, ?_⟩
  unfold api_Gap.l0
  rw [if_neg (by omega), show i = l0.length by omega, List.drop_length, hl, List.drop_length]
  rfl
 | succ m ih =>
  obtain ⟨k, hk⟩ := ih (i + 1) (by omega)
  refine ⟨k + 1, ?_⟩
  unfold api_Gap.l0
  rw [if_pos (by omega), if_pos (by omega), if_pos (by omega), if_pos (by omega), gap_drop l0 i (by omega), gap_drop l1 i (by omega), show wrap64 ((i : Int) + 1) = ((i + 1 : Nat) : Int) by unfold wrap64; omega, hk]
  by_cases h : rd_T117 l0 (i : Int) = rd_T117 l1 (i : Int)
  ·rw [h]
   simp
  ·have hc : (!((rd_T117 l0 (i : Int)).f0 == (rd_T117 l1 (i : Int)).f0) || (!((rd_T117 l0 (i : Int)).f1 == (rd_T117 l1 (i : Int)).f1))) = true := by
    by_cases h0 : (rd_T117 l0 (i : Int)).f0 = (rd_T117 l1 (i : Int)).f0
    ·by_cases h1 : (rd_T117 l0 (i : Int)).f1 = (rd_T117 l1 (i : Int)).f1
     ·exact absurd (gap_ext h0 h1) h
     ·simp [h1]
    ·simp [h0]
   rw [if_pos hc, decide_eq_false (fun e => h (List.cons.inj e).1)]
theorem gap_f (l0 l1 : List S117) (hm : l0.length ≤ 9223372036854775807) : ∃ k, api_Gap.f k l0 l1 = some (decide (l0 = l1)) := by
 by_cases hl : l0.length = l1.length
 ·obtain ⟨k, hk⟩ := gap_run l0 l1 hl hm l0.length 0 (by omega)
  refine ⟨k, ?_⟩
  unfold api_Gap.f
  rw [if_pos (by omega)]
  exact hk
 ·refine ⟨0, ?_⟩
  unfold api_Gap.f
  rw [if_neg (by omega), decide_eq_false (fun e => hl (congrArg List.length e))]
theorem u32_drop (l : List Int) (i : Nat) (h : i < l.length) : l.drop i = rd l (i : Int) :: l.drop (i + 1) := by
 rw [List.drop_eq_getElem_cons h]
 have e : rd l (i : Int) = l[i] := by
  simp [rd, List.getD_eq_getElem?_getD, h]
 rw [e]
theorem u32_run (l0 l1 : List Int) (hl : l0.length = l1.length) (hm : l0.length ≤ 9223372036854775807) (m i : Nat) (hi : i + m = l0.length) : ∃ k, slices_Equal_uint32_uint32.l0 k l0 l1 (l0.length : Int) (i : Int) = some (decide (l0.drop i = l1.drop i)) := by
 induction m generalizing i with
 | zero =>
  refine ⟨1, ?_⟩
  unfold slices_Equal_uint32_uint32.l0
  rw [if_neg (by omega), show i = l0.length by omega, List.drop_length, hl, List.drop_length]
  rfl
 | succ m ih =>
  obtain ⟨k, hk⟩ := ih (i + 1) (by omega)
  refine ⟨k + 1, ?_⟩
  unfold slices_Equal_uint32_uint32.l0
  rw [if_pos (by omega), if_pos (by omega), if_pos (by omega), if_pos (by omega), u32_drop l0 i (by omega), u32_drop l1 i (by omega), show wrap64 ((i : Int) + 1) = ((i + 1 : Nat) : Int) by unfold wrap64; omega, hk]
  by_cases h : rd l0 (i : Int) = rd l1 (i : Int)
  ·rw [if_pos h, h]
   simp
  ·rw [if_neg h, decide_eq_false (fun e => h (List.cons.inj e).1)]
theorem u32_f (l0 l1 : List Int) (hm : l0.length ≤ 9223372036854775807) : ∃ k, slices_Equal_uint32_uint32.f k l0 l1 = some (decide (l0 = l1)) := by
 by_cases hl : l0.length = l1.length
 ·obtain ⟨k, hk⟩ := u32_run l0 l1 hl hm l0.length 0 (by omega)
  refine ⟨k, ?_⟩
  unfold slices_Equal_uint32_uint32.f
  rw [if_pos (by omega)]
  exact hk
 ·refine ⟨0, ?_⟩
  unfold slices_Equal_uint32_uint32.f
  rw [if_neg (by omega), decide_eq_false (fun e => hl (congrArg List.length e))]
theorem byt_drop (l : List Int) (i : Nat) (h : i < l.length) : l.drop i = rd l (i : Int) :: l.drop (i + 1) := by
 rw [List.drop_eq_getElem_cons h]
 have e : rd l (i : Int) = l[i] := by
  simp [rd, List.getD_eq_getElem?_getD, h]
 rw [e]
theorem byt_run (l0 l1 : List Int) (hl : l0.length = l1.length) (hm : l0.length ≤ 9223372036854775807) (m i : Nat) (hi : i + m = l0.length) : ∃ k, slices_Equal_byte_byte.l0 k l0 l1 (l0.length : Int) (i : Int) = some (decide (l0.drop i = l1.drop i)) := by
 induction m generalizing i with
 | zero =>
  refine ⟨1, ?_⟩
  unfold slices_Equal_byte_byte.l0
  rw [if_neg (by omega), show i = l0.length by omega, List.drop_length, hl, List.drop_length]
  rfl
 | succ m ih =>
  obtain ⟨k, hk⟩ := ih (i + 1) (by omega)
  refine ⟨k + 1, ?_⟩
  unfold slices_Equal_byte_byte.l0
  rw [if_pos (by omega), if_pos (by omega), if_pos (by omega), if_pos (by omega), byt_drop l0 i (by omega), byt_drop l1 i (by omega), show wrap64 ((i : Int) + 1) = ((i + 1 : Nat) : Int) by unfold wrap64; omega, hk]
  by_cases h : rd l0 (i : Int) = rd l1 (i : Int)
  ·rw [if_pos h, h]
   simp
  ·rw [if_neg h, decide_eq_false (fun e => h (List.cons.inj e).1)]
theorem byt_f (l0 l1 : List Int) (hm : l0.length ≤ 9223372036854775807) : ∃ k, slices_Equal_byte_byte.f k l0 l1 = some (decide (l0 = l1)) := by
 by_cases hl : l0.length = l1.length
 ·obtain ⟨k, hk⟩ := byt_run l0 l1 hl hm l0.length 0 (by omega)
  refine ⟨k, ?_⟩
  unfold slices_Equal_byte_byte.f
  rw [if_pos (by omega)]
  exact hk
 ·refine ⟨0, ?_⟩
  unfold slices_Equal_byte_byte.f
  rw [if_neg (by omega), decide_eq_false (fun e => hl (congrArg List.length e))]
theorem dups_calls (w : World) (A0 A1 : Option Addr) (c0 c1 : Nat) (l0 l1 : List Int) (h0 : Kd.C (Kd.int .u32) w A0 l0.length l0) (g0 : l0.length ≤ c0) (h1 : Kd.C (Kd.int .u32) w A1 l1.length l1) (g1 : l1.length ≤ c1) :
  Calls Tryd.prog 66 #[.slice A0 l0.length c0, .slice A1 l1.length c1] w fun e w' => e = .returned (.bool (decide (l0 = l1))) ∧ Drawn0 w w' := by
 obtain ⟨k, hk⟩ := u32_f l0 l1 (max_len h0)
 exact slices_Equal_uint32_uint32.calls k A0 c0 l0 A1 c1 l1 _ w h0 g0 h1 g1 hk
theorem bodies_calls (w : World) (A0 A1 : Option Addr) (c0 c1 : Nat) (l0 l1 : List Int) (h0 : Kd.C (Kd.int .u8) w A0 l0.length l0) (g0 : l0.length ≤ c0) (h1 : Kd.C (Kd.int .u8) w A1 l1.length l1) (g1 : l1.length ≤ c1) :
  Calls Tryd.prog 67 #[.slice A0 l0.length c0, .slice A1 l1.length c1] w fun e w' => e = .returned (.bool (decide (l0 = l1))) ∧ Drawn0 w w' := by
 obtain ⟨k, hk⟩ := byt_f l0 l1 (max_len h0)
 exact slices_Equal_byte_byte.calls k A0 c0 l0 A1 c1 l1 _ w h0 g0 h1 g1 hk
theorem gaps_calls (w : World) (A0 A1 : Option Addr) (c0 c1 : Nat) (l0 l1 : List GapS) (h0 : Kd.C k117 w A0 l0.length l0) (g0 : l0.length ≤ c0) (h1 : Kd.C k117 w A1 l1.length l1) (g1 : l1.length ≤ c1) :
  Calls Tryd.prog 65 #[.slice A0 l0.length c0, .slice A1 l1.length c1] w fun e w' => e = .returned (.bool (decide (l0 = l1))) ∧ Drawn0 w w' := by
 obtain ⟨k, hk⟩ := gap_f l0 l1 (max_len h0)
 exact chunk_sameGaps.calls k A0 c0 l0 A1 c1 l1 _ w h0 g0 h1 g1 (by unfold chunk_sameGaps.f; rw [hk]; rfl)
def prmV (q : PrmS) (B : Option Addr) (d : Nat) : Value := .agg #[.int .u16 q.f0, .slice B q.f1.length d]
theorem prm_ext {p q : PrmS} (h0 : p.f0 = q.f0) (h1 : p.f1 = q.f1) : p = q := by
 cases p; cases q; simp_all
theorem same1_calls (p q : PrmS) (B B' : Option Addr) (d d' : Nat) (w : World) (hb : (Kd.int .u8).C w B p.f1.length p.f1) (gb : p.f1.length ≤ d) (hb' : (Kd.int .u8).C w B' q.f1.length q.f1) (gb' : q.f1.length ≤ d') :
  Calls Tryd.prog 84 #[prmV p B d, prmV q B' d'] w fun e w' => e = .returned (.bool (decide (p = q))) ∧ Below w.heap.size w w' := by
 have HB := Lh hb
 have HB' := Lh hb'
 clear hb hb'
 unfold prmV
 by_cases h : p.f0 = q.f0
 ·have hq : decide (p = q) = decide (p.f1 = q.f1) := by
   by_cases h2 : p.f1 = q.f1
   ·rw [decide_eq_true (prm_ext h h2), decide_eq_true h2]
   ·rw [decide_eq_false (fun e => h2 (congrArg S72.f1 e)), decide_eq_false h2]
  rw [hq, h]
  have HE := Lh (fun (W : World) (g : (Kd.int .u8).C W B p.f1.length p.f1) (g' : (Kd.int .u8).C W B' q.f1.length q.f1) => bodies_calls W B B' d d' p.f1 q.f1 g gb g' gb')
  clear h hq
  generalize q.f0 = t at *
  generalize decide (p.f1 = q.f1) = r at *
  generalize p.f1.length = n at *
  generalize q.f1.length = n' at *
  go_enter Tryd.func84, Tryd.ntmps84
  go_wp2_with fail
  refine (HE.out _ (Kd.C_alloc (Kd.C_alloc HB.out _) _) (Kd.C_alloc (Kd.C_alloc HB'.out _) _)).mono ?_
  rintro e w1 ⟨rfl, ⟨m, rfl⟩⟩
  go_wp2
  go_ret
  exact ⟨rfl, pw_below_drewN (below_alloc (below_alloc (Below.refl _ _) _) _) m⟩
 ·have hq : decide (p = q) = false := decide_eq_false (fun e => h (congrArg S72.f0 e))
  have ht : (p.f0 == q.f0) = false := by simpa using h
  rw [hq]
  clear h hq
  generalize p.f0 = t at *
  generalize q.f0 = t' at *
  generalize p.f1.length = n at *
  generalize q.f1.length = n' at *
  go_enter Tryd.func84, Tryd.ntmps84
  go_wp2
  go_ret
  exact ⟨rfl, below_alloc (below_alloc (Below.refl _ _) _) _⟩
theorem prm_drop (qs : List PrmS) (i : Nat) (h : i < qs.length) : qs.drop i = rd_T72 qs (i : Int) :: qs.drop (i + 1) := by
 rw [List.drop_eq_getElem_cons h]
 congr 1
 simp [rd_T72, List.getD_eq_getElem?_getD, h]
theorem equalF_calls (w : World) (A A' : Option Addr) (c c' : Nat) (qs rs : List PrmS) (h : Kd.C k72 w A qs.length qs) (h' : Kd.C k72 w A' rs.length rs) :
  Calls Tryd.prog 83 #[.slice A qs.length c, .slice A' rs.length c', .func (.func 84) #[] #[]] w fun e w' => e = .returned (.bool (decide (qs = rs))) ∧ Below w.heap.size w w' := by
 have hm := h.2.1
 have hm' := h'.2.1
 have H := Lh h
 have H' := Lh h'
 clear h h'
 by_cases hL : qs.length = rs.length
 ·have hne : (((qs.length : Nat) : Int) != ((rs.length : Nat) : Int)) = false := by simp [hL]
  have HL := Lh hL
  clear hL
  go_enter Tryd.func83, Tryd.ntmps83
  go_wp2
  go_loopw [17] (fun v17 w' => ∃ i : Nat, i ≤ qs.length ∧ v17 = .int .i64 i ∧ Hid (decide (qs = rs) = decide (qs.drop i = rs.drop i)) ∧ Hid (Below w.heap.size w w')) (fun v17 _ => qs.length - (intOf v17).toNat)
  case atStart => exact ⟨0, by omega, rfl, rfl, Below.refl _ _⟩
  case round =>
   obtain ⟨i, hi, rfl, HS, HB⟩ := hrel
   by_cases hlt : i < qs.length
   ·have hlt' : i < rs.length := by rw [← HL.out]; exact hlt
    obtain ⟨ad, B, d, rfl, x0, y0, z0, b0⟩ := at_T72 (Kd.C_below H.out HB.out) (i : Int) (by omega) (by omega)
    obtain ⟨ad', B', d', rfl, x1, y1, z1, b1⟩ := at_T72 (Kd.C_below H'.out HB.out) (i : Int) (by omega) (by omega)
    rw [Int.toNat_natCast] at x0 y0 x1 y1
    have hd := HS.out
    rw [prm_drop qs i hlt, prm_drop rs i hlt'] at hd
    generalize rd_T72 qs (i : Int) = p at *
    generalize rd_T72 rs (i : Int) = q at *
    have HF := Lh (fun (W : World) (hb : Below wr.heap.size wr W) => same1_calls p q B B' d d' W (Kd.C_below b0 hb) z0 (Kd.C_below b1 hb) z1)
    have s0 : ∀ o, (wr.alloc o).cell? (ad'.add (i * 2)) = _ := fun o => pw_cell_below (below_alloc (Below.refl _ _) o) x1
    have s1 : ∀ o, (wr.alloc o).cell? ⟨(ad'.add (i * 2)).block, (ad'.add (i * 2)).off + 1, none⟩ = _ := fun o => pw_cell_below (below_alloc (Below.refl _ _) o) y1
    have s2 : (p :: qs.drop (i + 1) = q :: rs.drop (i + 1)) = (p = q ∧ qs.drop (i + 1) = rs.drop (i + 1)) := by simp
    clear b0 b1 x1 y1
    unfold prmV at HF
    by_cases hk : p = q
    ·have HD := Lh (show decide (qs = rs) = decide (qs.drop (i + 1) = rs.drop (i + 1)) by rw [hd]; exact decide_eq_decide.2 (by rw [s2]; simp [hk]))
     rw [decide_eq_true hk] at HF
     clear hd hk s2
     generalize p.f1.length = n at *
     generalize p.f0 = t at *
     generalize q.f1.length = n' at *
     generalize q.f0 = t' at *
     go_wp2_with fail
     refine (HF.out _ (below_alloc (below_alloc (Below.refl _ _) _) _)).mono ?_
     rintro e w1 ⟨rfl, hB1⟩
     have HB1 := Lh (below_then HB.out HB.out.size (below_then (below_alloc (below_alloc (Below.refl wr.heap.size wr) _) _) (by simp; omega) hB1))
     clear hB1
     go_wp2
     go_roundw
     case rel => exact ⟨i + 1, by omega, by go_num, HD, HB1⟩
     case measure => simp [intOf]; omega
    ·have HD := Lh (show decide (qs = rs) = false by rw [hd]; exact decide_eq_false (fun e => hk (s2.mp e).1))
     rw [decide_eq_false hk] at HF
     clear hd hk s2
     generalize p.f1.length = n at *
     generalize p.f0 = t at *
     generalize q.f1.length = n' at *
     generalize q.f0 = t' at *
     go_wp2_with fail
     refine (HF.out _ (below_alloc (below_alloc (Below.refl _ _) _) _)).mono ?_
     rintro e w1 ⟨rfl, hB1⟩
     have HB1 := Lh (below_then HB.out HB.out.size (below_then (below_alloc (below_alloc (Below.refl wr.heap.size wr) _) _) (by simp; omega) hB1))
     clear hB1
     go_wp2
     go_ret
     exact ⟨by rw [HD.out]; rfl, HB1.out⟩
   ·obtain rfl : i = qs.length := by omega
    have HD := Lh (show decide (qs = rs) = true by rw [HS.out, List.drop_length, HL.out, List.drop_length]; rfl)
    go_wp2
    go_ret
    exact ⟨by rw [HD.out]; rfl, HB.out⟩
 ·have HD := Lh (show decide (qs = rs) = false from decide_eq_false (fun e => hL (congrArg List.length e)))
  have hl2 : ¬ (qs.length : Int) = (rs.length : Int) := by omega
  go_enter Tryd.func83, Tryd.ntmps83
  go_wp2
  go_ret
  exact ⟨by rw [HD.out]; rfl, Below.refl _ _⟩
theorem sameF_calls (w : World) (A A' : Option Addr) (c c' : Nat) (qs rs : List PrmS) (h : Kd.C k72 w A qs.length qs) (h' : Kd.C k72 w A' rs.length rs) :
  Calls Tryd.prog 68 #[.slice A qs.length c, .slice A' rs.length c'] w fun e w' => e = .returned (.bool (decide (qs = rs))) ∧ Below w.heap.size w w' := by
 have HE := Lh (equalF_calls w A A' c c' qs rs h h')
 clear h h'
 generalize decide (qs = rs) = r at *
 go_enter Tryd.func68, Tryd.ntmps68
 go_wp2_with fail
 refine HE.out.mono ?_
 rintro e w1 ⟨rfl, hB1⟩
 go_wp2
 go_ret
 exact ⟨rfl, hB1⟩
end Go.Proofs.YtdlamomabonkjaaDoor.Ch
end
section
namespace Go.Proofs.YtdlamomabonkjaaDoor.Base
open Go.RowKit YtdlamomabonkjaaDoorW.PrintWords
theorem exec_load_row {P : Program} {o : Oper} {a : Act} {w : World} (ty : TypeId) (x : Operand) (ho : o.op = .load ty x) {g : Nat} (hx : a.eval x = .pointer (some ⟨g, 0, none⟩)) {t : TypeId} {cs : Array Value} {fr : Nat × Nat} {d : TypeDesc} (hg : w.heap[g]? = some (.cells cs t fr))
  (hu : P.underlying ty = some d) (hd : (match d with | .struct _ | .array _ _ => true | _ => false) = true) (hi : (P.info? ty).map (·.size) = some cs.size) : (execOp a.eval o).run P w = .ok (.value (.agg cs)) w := by
 unfold execOp
 simp only [ho, hx, Instr.loadAt, Instr.sureAddr, Sem.run_bind, Sem.run_pure, Result.andThen_ok, run_loadVar_row w g t ty cs fr d hg hu hd hi]
end Go.Proofs.YtdlamomabonkjaaDoor.Base
end
section
namespace Go.Proofs.YtdlamomabonkjaaDoor.ParCauses
open Go.RowKit YtdlamomabonkjaaDoorW.PrintWords PCh Base
def sameQ (p q : S72) : Bool := decide (p.f0 = q.f0) && ((strOfNums p.f1).toList == (strOfNums q.f1).toList)
def sameP : List S72 → List S72 → Bool
 | [], [] => true
 | p :: ps, q :: qs => sameQ p q && sameP ps qs
 | _, _ => false
theorem sameP_length : ∀ (ps qs : List S72), ps.length ≠ qs.length → sameP ps qs = false
 | [], [], h => absurd rfl h
 | [], _ :: _, _ => rfl
 | _ :: _, [], _ => rfl
 | p :: ps, q :: qs, h => by
  unfold sameP
  rw [sameP_length ps qs (by simpa using h), Bool.and_false]
theorem rd_drop (ps : List S72) (i : Nat) (h : i < ps.length) : ps.drop i = rd_T72 ps (i : Int) :: ps.drop (i + 1) := by
 rw [List.drop_eq_getElem_cons h]
 unfold rd_T72
 rw [Int.toNat_natCast]
 simp [List.getD_eq_getElem?_getD, h]
theorem refSame_calls (w : World) (A0 : Option Addr) (c0 : Nat) (l0 : List S72) (A1 : Option Addr) (c1 : Nat) (l1 : List S72) (h0 : Kd.C k72 w A0 l0.length l0) (h1 : Kd.C k72 w A1 l1.length l1) :
  Calls Tryd.prog 62 #[.slice A0 l0.length c0, .slice A1 l1.length c1] w fun e w' => e = .returned (.bool (sameP l0 l1)) ∧ Drawn0 w w' := by
 have m0 := h0.2.1
 by_cases hl : l0.length = l1.length
 ·go_enter Tryd.func62, Tryd.ntmps62
  go_wp2
  go_loopw [5] (fun v5 w' => ∃ i : Nat, i ≤ l0.length ∧ v5 = .int .i64 i ∧ Hid (sameP l0 l1 = sameP (l0.drop i) (l1.drop i)) ∧ Drawn0 w w') (fun v5 _ => l0.length - (intOf v5).toNat)
  case atStart => exact ⟨0, by omega, rfl, rfl, Drawn0.refl _⟩
  case round =>
   obtain ⟨i, hi, rfl, HS, ⟨m, rfl⟩⟩ := hrel
   by_cases hlt : i < l0.length
   ·obtain ⟨ad0, B0, d0, rfl, x0, y0, z0, b0⟩ := at_T72 h0 (i : Int) (by omega) (by omega)
    obtain ⟨ad1, B1, d1, rfl, x1, y1, z1, b1⟩ := at_T72 h1 (i : Int) (by omega) (by omega)
    rw [Int.toNat_natCast] at x0 y0 x1 y1
    have hd := HS.out
    rw [rd_drop l0 i hlt, rd_drop l1 i (by omega)] at hd
    generalize rd_T72 l0 (i : Int) = p at *
    generalize rd_T72 l1 (i : Int) = q at *
    have r0 := fun n => Kd.C_string (P := Tryd.prog) (c := d0) Tryd.underlying27 Tryd.underlying5 Tryd.underlying9 (Kd.C_drewN b0 n)
    have r1 := fun n => Kd.C_string (P := Tryd.prog) (c := d1) Tryd.underlying27 Tryd.underlying5 Tryd.underlying9 (Kd.C_drewN b1 n)
    by_cases hf : p.f0 = q.f0
    ·have hf1 : (p.f0 != q.f0) = false := by simp [hf]
     cases hb : ((strOfNums p.f1).toList == (strOfNums q.f1).toList) with
     | true =>
      have hb1 : ((strOfNums p.f1).toList != (strOfNums q.f1).toList) = false := by simpa using hb
      have HD := Lh (show sameP l0 l1 = sameP (l0.drop (i + 1)) (l1.drop (i + 1)) by rw [hd]; simp [sameP, sameQ, hf, hb])
      clear hd
      go_wp2
      go_quiet (fail)
      go_wp2
      go_roundw
      case rel => exact ⟨i + 1, by omega, by go_num, HD, drawn2 (by first | exact ⟨_, rfl⟩ | exact ⟨_, World.drewN_drewN ..⟩)⟩
      case measure => simp [intOf]; omega
     | false =>
      have hb1 : ((strOfNums p.f1).toList != (strOfNums q.f1).toList) = true := by simp [bne, hb]
      have HD := Lh (show sameP l0 l1 = false by rw [hd]; simp [sameP, sameQ, hf, hb])
      clear hd
      go_wp2
      go_quiet (fail)
      go_wp2
      go_ret
      exact ⟨by rw [HD.out]; rfl, drawn2 (by first | exact ⟨_, rfl⟩ | exact ⟨_, World.drewN_drewN ..⟩)⟩
    ·have hf1 : (p.f0 != q.f0) = true := by simp [hf]
     have HD := Lh (show sameP l0 l1 = false by rw [hd]; simp [sameP, sameQ, hf])
     clear hd
     go_wp2
     go_quiet (fail)
     go_wp2
     go_ret
     exact ⟨by rw [HD.out]; rfl, drawn2 (by first | exact ⟨_, rfl⟩ | exact ⟨_, World.drewN_drewN ..⟩)⟩
   ·obtain rfl : i = l0.length := by omega
    have HD := Lh (show sameP l0 l1 = true by rw [HS.out, List.drop_length, hl, List.drop_length]; rfl)
    go_wp2
    go_ret
    exact ⟨by rw [HD.out]; rfl, drawn2 ⟨_, rfl⟩⟩
 ·have HD := Lh (sameP_length l0 l1 hl)
  have hl2 : ¬ (l0.length : Int) = (l1.length : Int) := by omega
  go_enter Tryd.func62, Tryd.ntmps62
  go_wp2
  go_ret
  exact ⟨by rw [HD.out]; rfl, Drawn0.refl _⟩
end Go.Proofs.YtdlamomabonkjaaDoor.ParCauses
end
section
namespace Go.Proofs.YtdlamomabonkjaaDoor.ParDec
open Go.RowKit YtdlamomabonkjaaDoorW.PrintWords YtdlamomabonkjaaDoorW.PrintLast YtdlamomabonkjaaDoorW.PrintMore PCh ParCauses Base
attribute [local go_sem] min2_int min_two
theorem or_bytes (x y : UInt8) : bits .or .i64 ((x.toNat : Int) * 256) (y.toNat : Int) = ((x.toNat * 256 + y.toNat : Nat) : Int) := by
 have hx : x.toNat < 256 := x.toNat_lt
 have hy : y.toNat < 256 := y.toNat_lt
 have h := (bits_nat .i64 16 (by decide) (fun n h0 h1 => by rw [IntKind.wrap_i64]; omega) (x.toNat * 256) y.toNat (by omega) (by omega)).2
 have e : x.toNat * 256 ||| y.toNat = x.toNat * 256 + y.toNat := by
  have := Nat.shiftLeft_add_eq_or_of_lt (i := 8) (b := y.toNat) (by omega) x.toNat
  rw [Nat.shiftLeft_eq] at this
  exact this.symm
 rw [e] at h
 rw [show ((x.toNat : Int) * 256) = ((x.toNat * 256 : Nat) : Int) from (Int.natCast_mul x.toNat 256).symm]
 exact h
structure LS (w : World) (g : Nat) (A : Option Addr) (n c p : Nat) (v : Value) : Prop where mk :: (out : w.heap[g]? = some (.cells #[.slice A n c, .int .i64 (p : Int), v] 157 (0, 0)))
theorem drawn_below {w w' : World} (h : Drawn0 w w') : Below w.heap.size w w' := by
 obtain ⟨n, rfl⟩ := h
 exact pw_below_drewN (Below.refl _ _) n
theorem drawn_trans {a b c : World} (h : Drawn0 a b) (k : Drawn0 b c) : Drawn0 a c := by
 obtain ⟨n, rfl⟩ := h
 obtain ⟨m, rfl⟩ := k
 exact ⟨n + m, by rw [World.drewN_drewN]⟩
end Go.Proofs.YtdlamomabonkjaaDoor.ParDec
end
section
namespace Go.Proofs.YtdlamomabonkjaaDoor.Base
open Go.RowKit YtdlamomabonkjaaDoorW.PrintWords
theorem clone_calls (A : Option Addr) (c : Nat) (l : List UInt8) (w : World) (hb : byte.C w A l.length l) (hm : l.length ≤ 140737488355328) :
  Calls Tryd.prog 55 #[.slice A l.length c] w (RetR byte 5 l w) := by
 cases A with
 | none =>
  have hl : l = [] := by
   rcases Nat.eq_zero_or_pos l.length with h | h
   ·exact List.eq_nil_of_length_eq_zero h
   ·obtain ⟨ad, e, _⟩ := hb.2.2 h
    cases e
  subst hl
  have he := fun (W : World) => Lib.run_eql_slice_nil (P := Tryd.prog) W 27 5 none 0 c 0 0 Tryd.underlying27
  go_enter Tryd.func55, Tryd.ntmps55
  go_wp2
  go_ret
  exact ⟨_, rfl, Kd.R_nil _ _ _ _ _, Below.refl _ _⟩
 | some ad =>
  have he := fun (W : World) => Lib.run_eql_slice_nil (P := Tryd.prog) W 27 5 (some ad) l.length c 0 0 Tryd.underlying27
  have hO : byte.R 5 (w.alloc (.cells #[] 5)) w.heap.size (fun _ => True) (.slice (some ⟨w.heap.size, 0, none⟩) 0 0) [] := Kd.R_of_own (own_lit_of (enc := fun b : UInt8 => Value.int .u8 (b.toNat : Int)) w w.heap.size 5 [] (Nat.le_refl _) (by simp)) (fun _ _ => trivial)
  have HO := Lh hO
  clear hO
  go_enter Tryd.func55, Tryd.ntmps55
  go_wp2_with (at_builtin; go_must (refine Kd.R_append_row (fun b : UInt8 => .int .u8 (b.toNat : Int)) (0 : UInt8) (w0 := w) w.heap.size rfl _ _ 27 5 _ 1 rfl Tryd.underlying27 info_u8 rfl (by decide) _ [] l (some ad) l.length c (fun _ => True) rfl rfl (fun _ _ => trivial) HO.out (Kd.C_alloc hb _) ((Below.refl _ _).alloc (Nat.le_refl _) _) (by simp) (by simpa using hm) ?_); intro v1 w1 hR1 hB1 _ _; clear hb he)
  go_ret
  exact ⟨_, rfl, hR1, hB1⟩
end Go.Proofs.YtdlamomabonkjaaDoor.Base
end
section
namespace Go.Proofs.YtdlamomabonkjaaDoor.ParDec
open Go.RowKit YtdlamomabonkjaaDoorW.PrintWords PCh ParCauses Base
def nI (l : List UInt8) (p : Nat) : Nat := (l.getD p 0).toNat * 256 + (l.getD (p + 1) 0).toNat
def stepD (l : List UInt8) (p m : Nat) : Except Int (S72 × Nat) :=
 if m = 256 then .error 3
 else if l.length - p < 4 then .error 50
 else if nI l (p + 2) < 4 ∨ l.length - p < nI l (p + 2) then .error 50
 else .ok (⟨(nI l p : Int), ((l.drop (p + 4)).take (nI l (p + 2) - 4)).map fun b => (b.toNat : Int)⟩, p + min ((nI l (p + 2) + 3) / 4 * 4) (l.length - p))
end Go.Proofs.YtdlamomabonkjaaDoor.ParDec
end
section
namespace Go.Proofs.YtdlamomabonkjaaDoor.ParDec
open Go.RowKit YtdlamomabonkjaaDoorW.PrintWords YtdlamomabonkjaaDoorW.PrintLast PCh ParCauses Base
theorem mid_bytes {w : World} {A : Option Addr} {c : Nat} {l : List UInt8} (hb : byte.C w A l.length l) (hc : l.length ≤ c) (lo hi : Nat) (h1 : lo ≤ hi) (h2 : hi ≤ l.length) :
  ∃ A', (∀ W : World, (Instr.slice 27 (.slice A l.length c) (some (.int .i64 (lo : Int))) (some (.int .i64 (hi : Int))) none).run Tryd.prog W = .ok (.slice A' ((l.take hi).drop lo).length (c - lo)) W) ∧ byte.C w A' ((l.take hi).drop lo).length ((l.take hi).drop lo) ∧ ((l.take hi).drop lo).length ≤ c - lo := by
 obtain ⟨i, hi', e1, e2, e3⟩ := info_parts info_u8
 have hl : ((l.take hi).drop lo).length = hi - lo := by rw [List.length_drop, List.length_take]; omega
 refine ⟨_, fun W => ?_, Kd.C_mid hb h1 h2 hc, by omega⟩
 have := cut_mid (P := Tryd.prog) 27 5 .i64 .i64 Tryd.underlying27 hi' 1 e2 A l.length c (lo : Int) (hi : Int) (by omega) (by omega) (by omega) hc W
 rw [this, hl]
 rfl
end Go.Proofs.YtdlamomabonkjaaDoor.ParDec
end
section
namespace Go.Proofs.YtdlamomabonkjaaDoor.ParDec
open Go.RowKit YtdlamomabonkjaaDoorW.PrintWords PCh ParCauses Base
theorem catch_idle (a b c : Addr) (w : World) :
  CallsD Tryd.prog 107 #[.pointer (some a), .pointer (some b), .pointer (some c)] .returning w fun e u' w' => e = .returned (.tuple #[]) ∧ u' = .returning ∧ w' = w := by
 refine callsD_of_wpS Tryd.func107 rfl fun c₀ cs hu => ?_
 apply wpS_seq
 apply wpS_region
 simp [wpOpsS, go_sem, recoverD, hu, Tryd.ntmps107, Exit.thenS]
 have ht : (#[Value.pointer (some a), Value.pointer (some b), Value.pointer (some c)] ++ ((Array.replicate 18 undef).setIfInBounds 3 Value.nilIface).setIfInBounds 0 Value.nilIface) = #[.pointer (some a), .pointer (some b), .pointer (some c), .nilIface, undef, undef, .nilIface, undef, undef, undef, undef, undef, undef, undef, undef, undef, undef, undef, undef, undef, undef] := by kernel_rfl
 rw [ht]
 refine wpS_of_wp ?_
 go_wp2
 cases c₀
 simp_all [bodyPostS, results, Tryd.results107]
end Go.Proofs.YtdlamomabonkjaaDoor.ParDec
end
section
namespace Go.Proofs.YtdlamomabonkjaaDoor.ParDec
open Go.RowKit YtdlamomabonkjaaDoorW.PrintWords PCh ParCauses Base
def runD (l : List UInt8) : Nat → Nat → List S72 → Except (Nat × Int) (List S72)
 | 0, _, ps => .ok ps
 | n + 1, p, ps =>
  if p < l.length then
   match stepD l p ps.length with
   | .error c => .error (p, c)
   | .ok (q, p') => runD l n p' (ps ++ [q])
  else .ok ps
def decD (l : List UInt8) : List S72 × Int × Int :=
 match runD l (l.length + 1) 0 [] with
 | .ok ps => (ps, 0, 0)
 | .error (p, c) => ([], (p : Int), c)
def w3 (w : World) : World := (((w.alloc (.cells #[.slice none 0 0] 39)).alloc (.cells #[.int .i64 0] 3)).alloc (.cells #[.int .i64 0] 28))
theorem decD_ok {l : List UInt8} {ps : List S72} (h : runD l (l.length + 1) 0 [] = .ok ps) : decD l = (ps, 0, 0) := by unfold decD; rw [h]
end Go.Proofs.YtdlamomabonkjaaDoor.ParDec
end
section
namespace Go.Proofs.YtdlamomabonkjaaDoor.ParEnc
open Go.RowKit YtdlamomabonkjaaDoorW.PrintWords PCh
def padL (x : List Int) : List Int := x ++ List.replicate ((4 - x.length % 4) % 4) 0
def twoI (a : Int) : List Int := [(a / 256) % 256, a % 256]
def stepB (b : List Int) (p : S72) : List Int := padL b ++ twoI p.f0 ++ twoI (IntKind.u16.wrap (wrap64 (4 + (p.f1.length : Int)))) ++ p.f1
def runB : List Int → List S72 → List Int × Int
 | b, [] => (b, 0)
 | b, p :: r => if (p.f1.length : Int) > 65531 then ([], 2) else runB (stepB b p) r
theorem padL_le (x : List Int) : (padL x).length ≤ x.length + 3 := by
 unfold padL
 rw [List.length_append, List.length_replicate]
 omega
theorem stepB_le (b : List Int) (p : S72) (h : (p.f1.length : Int) ≤ 65531) : (stepB b p).length ≤ b.length + 65538 := by
 have := padL_le b
 unfold stepB twoI
 simp only [List.length_append, List.length_cons, List.length_nil]
 omega
theorem pad_step (x : List Int) (h : ¬ x.length % 4 = 0) : padL (x ++ [0]) = padL x := by
 unfold padL
 rw [List.length_append, List.length_singleton]
 obtain ⟨m, hm⟩ : ∃ m, (4 - x.length % 4) % 4 = m + 1 := ⟨(4 - x.length % 4) % 4 - 1, by omega⟩
 have h2 : (4 - (x.length + 1) % 4) % 4 = m := by omega
 rw [hm, h2, List.replicate_succ, List.append_assoc]
 rfl
theorem pad_done (x : List Int) (h : x.length % 4 = 0) : padL x = x := by
 unfold padL
 rw [h]
 simp
theorem l1_pads (n : Nat) (k : Nat) (x4 : List Int) (x10 : List S72) (x11 x12 a : Int) (q : List Int) (r : List Int × Int) (hb : x4.length + n ≤ 100000000) (hq : (q.length : Int) ≤ 65531) (hn : (4 - x4.length % 4) % 4 = n)
  (hr : param_Encode.l0 k (padL x4 ++ twoI a ++ twoI (IntKind.u16.wrap (wrap64 (4 + (q.length : Int)))) ++ q) x10 x11 (wrap64 (x12 + 1)) = some r) : param_Encode.l1 (k + n + 1) x4 x10 x11 x12 a q = some r := by
 induction n generalizing x4 with
 | zero =>
  have h0 : x4.length % 4 = 0 := by omega
  rw [pad_done x4 h0] at hr
  unfold param_Encode.l1
  have h1 : ¬ ((x4.length : Int) % 4 > 0) := by omega
  rw [if_neg h1]
  have e1 : param_two.f x4 a = some (x4 ++ twoI a) := by
   unfold param_two.f twoI
   simp only [Option.bind_some]
   rw [if_pos (by simp only [List.length_cons, List.length_nil]; omega)]
  rw [e1, Option.bind_some]
  have e2 : param_two.f (x4 ++ twoI a) (IntKind.u16.wrap (wrap64 (4 + (q.length : Int)))) = some (x4 ++ twoI a ++ twoI (IntKind.u16.wrap (wrap64 (4 + (q.length : Int))))) := by
   unfold param_two.f
   simp only [Option.bind_some]
   rw [if_pos (by simp only [List.length_append, twoI, List.length_cons, List.length_nil]; omega)]
   rfl
  rw [e2, Option.bind_some, if_pos (by simp only [List.length_append, twoI, List.length_cons, List.length_nil]; omega)]
  exact hr
 | succ n ih =>
  have h0 : ¬ x4.length % 4 = 0 := by omega
  unfold param_Encode.l1
  rw [if_pos (by omega), if_pos (by omega)]
  rw [← pad_step x4 h0] at hr
  exact ih (x4 ++ [0]) (by rw [List.length_append, List.length_singleton]; omega) (by rw [List.length_append, List.length_singleton]; omega) hr
theorem rd_drop (ps : List S72) (i : Nat) (h : i < ps.length) : ps.drop i = rd_T72 ps (i : Int) :: ps.drop (i + 1) := by
 rw [List.drop_eq_getElem_cons h]
 unfold rd_T72
 rw [Int.toNat_natCast]
 simp [List.getD_eq_getElem?_getD, h]
theorem wrap64_nat (n : Nat) (h : n ≤ 1000000) : wrap64 ((n : Int) + 1) = ((n + 1 : Nat) : Int) := by unfold wrap64; omega
theorem l0_run (ps : List S72) (hps : ps.length ≤ 256) (m i : Nat) (hm : ps.length - i = m) (hi : i ≤ ps.length) (b : List Int) (hb : b.length ≤ 65538 * i) : ∃ k, param_Encode.l0 k b ps (ps.length : Int) (i : Int) = some (runB b (ps.drop i)) := by
 induction m generalizing i b with
 | zero =>
  obtain rfl : i = ps.length := by omega
  refine ⟨1, ?_⟩
  unfold param_Encode.l0
  rw [if_neg (by omega), List.drop_length]
  rfl
 | succ m ih =>
  have hlt : i < ps.length := by omega
  rw [rd_drop ps i hlt]
  by_cases h : ((rd_T72 ps (i : Int)).f1.length : Int) > 65531
  ·refine ⟨1, ?_⟩
   unfold param_Encode.l0
   rw [if_pos (by omega), if_pos (by omega), if_pos (by omega), if_pos h]
   unfold runB
   rw [if_pos h]
  ·have hsb := stepB_le b (rd_T72 ps (i : Int)) (by omega)
   obtain ⟨k, hk⟩ := ih (i + 1) (by omega) (by omega) (stepB b (rd_T72 ps (i : Int))) (by omega)
   refine ⟨k + (4 - b.length % 4) % 4 + 1 + 1, ?_⟩
   unfold param_Encode.l0
   rw [if_pos (by omega), if_pos (by omega), if_pos (by omega), if_neg h]
   have hr : runB b (rd_T72 ps (i : Int) :: ps.drop (i + 1)) = runB (stepB b (rd_T72 ps (i : Int))) (ps.drop (i + 1)) := by
    conv => lhs; unfold runB
    rw [if_neg h]
   rw [hr]
   refine l1_pads _ k b ps _ _ _ _ _ (by omega) (by omega) rfl ?_
   rw [wrap64_nat i (by omega)]
   exact hk
theorem encode_run (ps : List S72) : ∃ k, param_Encode.f k ps = some (if ps.length > 256 then ([], 3) else runB [] ps) := by
 by_cases h : ps.length > 256
 ·refine ⟨0, ?_⟩
  unfold param_Encode.f
  rw [if_pos (by omega), if_pos h]
 ·obtain ⟨k, hk⟩ := l0_run ps (by omega) _ 0 rfl (by omega) [] (by simp)
  refine ⟨k, ?_⟩
  unfold param_Encode.f
  rw [if_neg (by omega), if_neg h]
  rw [List.drop_zero] at hk
  exact hk
def foldB : List Int → List S72 → List Int
 | b, [] => b
 | b, p :: r => foldB (stepB b p) r
def allShort (ps : List S72) : Prop := ∀ p ∈ ps, ¬ (p.f1.length : Int) > 65531
theorem runB_short (ps : List S72) (h : allShort ps) (b : List Int) : runB b ps = (foldB b ps, 0) := by
 induction ps generalizing b with
 | nil => rfl
 | cons p r ih =>
  unfold runB foldB
  rw [if_neg (h p (List.mem_cons_self ..)), ih (fun q hq => h q (List.mem_cons_of_mem _ hq))]
theorem runB_long (ps : List S72) (h : ¬ allShort ps) (b : List Int) : runB b ps = ([], 2) := by
 induction ps generalizing b with
 | nil => exact absurd (fun p hp => by cases hp) h
 | cons p r ih =>
  unfold runB
  by_cases hp : (p.f1.length : Int) > 65531
  ·rw [if_pos hp]
  ·rw [if_neg hp]
   refine ih (fun hr => h (fun q hq => ?_)) _
   rcases List.mem_cons.1 hq with rfl | hq
   ·exact hp
   ·exact hr q hq
end Go.Proofs.YtdlamomabonkjaaDoor.ParEnc
end
section
namespace Go.Proofs.YtdlamomabonkjaaDoor.Base
open Go.RowKit YtdlamomabonkjaaDoorW.PrintWords
section
variable {P : Program} {ops : Array Oper} {Q : Exit → Act → World → Prop} {rest : List Oper} {a : Act} {W : World}
theorem step_off {o : Oper} (h : Region.wanted o (yielded ops a.tmps) = false) (k : wpList P ops Q rest (a.put o.dst undef) W) : wpList P ops Q (o :: rest) a W := by
 unfold wpList
 rw [if_neg (by rw [h]; decide)]
 exact k
theorem step_on {o : Oper} {v : Value} {w1 : World} (h : Region.wanted o (yielded ops a.tmps) = true) (hr : (execOp a.eval o).run P W = .ok (.value v) w1) (k : wpList P ops Q rest (a.put o.dst v) w1) : wpList P ops Q (o :: rest) a W := by
 unfold wpList
 rw [if_pos h]
 refine Or.inl ?_
 unfold Oper.wp
 rw [hr]
 exact k
theorem step_in {o : Oper} {f : FuncId} {args : Array Value} {R : World → Prop} {v : Value} (h : Region.wanted o (yielded ops a.tmps) = true) (hr : (execOp a.eval o).run P W = .ok (.enter f args) W) (hc : Calls P f args W fun e w' => e = .returned v ∧ R w') (k : ∀ w', R w' → wpList P ops Q rest (a.put o.dst v) w') : wpList P ops Q (o :: rest) a W := by
 unfold wpList
 rw [if_pos h]
 refine Or.inl ?_
 unfold Oper.wp
 rw [hr, Oper.upon_enter]
 refine hc.mono ?_
 rintro e w' ⟨rfl, hw⟩
 exact k w' hw
theorem wanted_none {o : Oper} (h : o.guard = none) : Region.wanted o (yielded ops a.tmps) = true := by unfold Region.wanted; rw [h]
theorem wanted_on_ {o : Oper} {j p : Nat} {b : Bool} (h : o.guard = some (j, b)) (hj : (ops[j]?).bind (·.dst) = some p) (hp : a.tmps[p]? = some (.bool b)) : Region.wanted o (yielded ops a.tmps) = true := by
 unfold Region.wanted yielded
 rw [h]
 simp [hj, hp]
theorem wanted_off_ {o : Oper} {j p : Nat} {b r : Bool} (h : o.guard = some (j, b)) (hj : (ops[j]?).bind (·.dst) = some p) (hp : a.tmps[p]? = some (.bool r)) (hr : r ≠ b) : Region.wanted o (yielded ops a.tmps) = false := by
 unfold Region.wanted yielded
 rw [h]
 simp [hj, hp, hr]
structure St (a : Act) (N : Nat) (X Y : Value) (p : Nat) (r : Bool) : Prop where
 size : a.tmps.size = N
 defers : a.defers = []
 x : a.tmps[2]? = some X
 y : a.tmps[3]? = some Y
 r : a.tmps[p]? = some (.bool r)
theorem put_get {a : Act} {d k : Nat} {v : Value} (hd : d < a.tmps.size) : (a.put (some d) v).tmps[k]? = if d = k then some v else a.tmps[k]? := by
 simp only [Act.put, Array.getElem?_setIfInBounds]
 split
 ·rfl
 ·rfl
theorem put_size {a : Act} {d : Nat} {v : Value} : (a.put (some d) v).tmps.size = a.tmps.size := by simp [Act.put]
theorem St.put {N : Nat} {X Y : Value} {p d : Nat} {r : Bool} {v : Value} (h : St a N X Y p r) (h3 : 3 < d) (hp : d ≠ p) (hN : d < N) : St (a.put (some d) v) N X Y p r :=
 ⟨put_size.trans h.size, h.defers, by rw [put_get (by rw [h.size]; exact hN), if_neg (by omega)]; exact h.x, by rw [put_get (by rw [h.size]; exact hN), if_neg (by omega)]; exact h.y, by rw [put_get (by rw [h.size]; exact hN), if_neg hp]; exact h.r⟩
theorem St.put_r {N : Nat} {X Y : Value} {p d : Nat} {r b : Bool} (h : St a N X Y p r) (h3 : 3 < d) (hN : d < N) : St (a.put (some d) (.bool b)) N X Y d b :=
 ⟨put_size.trans h.size, h.defers, by rw [put_get (by rw [h.size]; exact hN), if_neg (by omega)]; exact h.x, by rw [put_get (by rw [h.size]; exact hN), if_neg (by omega)]; exact h.y, by rw [put_get (by rw [h.size]; exact hN), if_pos rfl]⟩
theorem St.at {N : Nat} {X Y : Value} {p d : Nat} {r : Bool} {v : Value} (h : St a N X Y p r) (hN : d < N) : (a.put (some d) v).tmps[d]? = some v := by
 rw [put_get (by rw [h.size]; exact hN), if_pos rfl]
theorem St.keep {N : Nat} {X Y : Value} {p d k : Nat} {r : Bool} {v u : Value} (h : St a N X Y p r) (hN : d < N) (hk : d ≠ k) (hu : a.tmps[k]? = some u) : (a.put (some d) v).tmps[k]? = some u := by
 rw [put_get (by rw [h.size]; exact hN), if_neg hk]
 exact hu
def cmb (want r q : Bool) : Bool := if r = want then q else r
theorem link {N s m p j : Nat} {X Y v0 v1 v2 v3 : Value} {want r q : Bool} {o0 o1 o2 o3 o4 o5 o6 : Oper} (h : St a N X Y p r) (h3 : 3 < s) (hps : p < s) (hm3 : 3 < m) (hms : m ≠ s + 5) (hN : s + 5 < N) (hm : m < N)
  (d0 : o0.dst = some s) (d1 : o1.dst = some (s + 1)) (d2 : o2.dst = some (s + 2)) (d3 : o3.dst = some (s + 3)) (d4 : o4.dst = some (s + 4)) (d5 : o5.dst = some (s + 5)) (d6 : o6.dst = some m)
  (g0 : o0.guard = some (j, want)) (g1 : o1.guard = some (j, want)) (g2 : o2.guard = some (j, want)) (g3 : o3.guard = some (j, want)) (g4 : o4.guard = some (j, want)) (g5 : o5.guard = none) (g6 : o6.guard = none)
  (hj : (ops[j]?).bind (·.dst) = some p)
  (r0 : ∀ a : Act, a.tmps[2]? = some X → (execOp a.eval o0).run P W = .ok (.value v0) W)
  (r1 : ∀ a : Act, a.tmps[s]? = some v0 → (execOp a.eval o1).run P W = .ok (.value v1) W)
  (r2 : ∀ a : Act, a.tmps[3]? = some Y → (execOp a.eval o2).run P W = .ok (.value v2) W)
  (r3 : ∀ a : Act, a.tmps[s + 2]? = some v2 → (execOp a.eval o3).run P W = .ok (.value v3) W)
  (r4 : ∀ a : Act, a.tmps[s + 1]? = some v1 → a.tmps[s + 3]? = some v3 → (execOp a.eval o4).run P W = .ok (.value (.bool q)) W)
  (r5 : ∀ a : Act, a.tmps[p]? = some (.bool want) → a.tmps[s + 4]? = some (.bool q) → (execOp a.eval o5).run P W = .ok (.value (.bool q)) W)
  (r5' : ∀ a : Act, a.tmps[p]? = some (.bool (!want)) → (execOp a.eval o5).run P W = .ok (.value (.bool (!want))) W)
  (r6 : ∀ (a : Act) (b : Bool), a.tmps[s + 5]? = some (.bool b) → (execOp a.eval o6).run P W = .ok (.value (.bool b)) W)
  (k : ∀ a', St a' N X Y m (cmb want r q) → wpList P ops Q rest a' W) : wpList P ops Q (o0 :: o1 :: o2 :: o3 :: o4 :: o5 :: o6 :: rest) a W := by
 by_cases hr : r = want
 ·subst hr
  have e : cmb r r q = q := if_pos rfl
  rw [e] at k
  refine step_on (wanted_on_ g0 hj h.r) (r0 _ h.x) ?_
  rw [d0]
  have h0 := h.put (v := v0) h3 (by omega) (by omega : s < N)
  have t0 := h.at (v := v0) (by omega : s < N)
  refine step_on (wanted_on_ g1 hj h0.r) (r1 _ t0) ?_
  rw [d1]
  have h1 := h0.put (d := s + 1) (v := v1) (by omega) (by omega) (by omega)
  have t1 := h0.at (d := s + 1) (v := v1) (by omega)
  refine step_on (wanted_on_ g2 hj h1.r) (r2 _ h1.y) ?_
  rw [d2]
  have h2 := h1.put (d := s + 2) (v := v2) (by omega) (by omega) (by omega)
  have t2 := h1.at (d := s + 2) (v := v2) (by omega)
  have t1 := h1.keep (d := s + 2) (v := v2) (by omega) (by omega) t1
  refine step_on (wanted_on_ g3 hj h2.r) (r3 _ t2) ?_
  rw [d3]
  have h4 := h2.put (d := s + 3) (v := v3) (by omega) (by omega) (by omega)
  have t3 := h2.at (d := s + 3) (v := v3) (by omega)
  have t1 := h2.keep (d := s + 3) (v := v3) (by omega) (by omega) t1
  refine step_on (wanted_on_ g4 hj h4.r) (r4 _ t1 t3) ?_
  rw [d4]
  have h5 := h4.put (d := s + 4) (v := .bool q) (by omega) (by omega) (by omega)
  have t4 := h4.at (d := s + 4) (v := .bool q) (by omega)
  refine step_on (wanted_none g5) (r5 _ h5.r t4) ?_
  rw [d5]
  have h6 := h5.put_r (d := s + 5) (b := q) (by omega) (by omega)
  refine step_on (wanted_none g6) (r6 _ _ h6.r) ?_
  rw [d6]
  exact k _ (h6.put_r hm3 hm)
 ·have e : cmb want r q = r := if_neg hr
  have hn : r = !want := by cases r <;> cases want <;> simp_all
  rw [e] at k
  refine step_off (wanted_off_ g0 hj h.r hr) ?_
  rw [d0]
  have h0 := h.put (v := undef) h3 (by omega) (by omega : s < N)
  refine step_off (wanted_off_ g1 hj h0.r hr) ?_
  rw [d1]
  have h1 := h0.put (d := s + 1) (v := undef) (by omega) (by omega) (by omega)
  refine step_off (wanted_off_ g2 hj h1.r hr) ?_
  rw [d2]
  have h2 := h1.put (d := s + 2) (v := undef) (by omega) (by omega) (by omega)
  refine step_off (wanted_off_ g3 hj h2.r hr) ?_
  rw [d3]
  have h4 := h2.put (d := s + 3) (v := undef) (by omega) (by omega) (by omega)
  refine step_off (wanted_off_ g4 hj h4.r hr) ?_
  rw [d4]
  have h5 := h4.put (d := s + 4) (v := undef) (by omega) (by omega) (by omega)
  subst hn
  refine step_on (wanted_none g5) (r5' _ h5.r) ?_
  rw [d5]
  have h6 := h5.put_r (d := s + 5) (b := !want) (by omega) (by omega)
  refine step_on (wanted_none g6) (r6 _ _ h6.r) ?_
  rw [d6]
  exact k _ (h6.put_r hm3 hm)
theorem link6 {N s p j : Nat} {X Y v0 v1 v2 v3 : Value} {want r q : Bool} {o0 o1 o2 o3 o4 o5 : Oper} (h : St a N X Y p r) (h3 : 3 < s) (hps : p < s) (hN : s + 5 < N)
  (d0 : o0.dst = some s) (d1 : o1.dst = some (s + 1)) (d2 : o2.dst = some (s + 2)) (d3 : o3.dst = some (s + 3)) (d4 : o4.dst = some (s + 4)) (d5 : o5.dst = some (s + 5))
  (g0 : o0.guard = some (j, want)) (g1 : o1.guard = some (j, want)) (g2 : o2.guard = some (j, want)) (g3 : o3.guard = some (j, want)) (g4 : o4.guard = some (j, want)) (g5 : o5.guard = none)
  (hj : (ops[j]?).bind (·.dst) = some p)
  (r0 : ∀ a : Act, a.tmps[2]? = some X → (execOp a.eval o0).run P W = .ok (.value v0) W)
  (r1 : ∀ a : Act, a.tmps[s]? = some v0 → (execOp a.eval o1).run P W = .ok (.value v1) W)
  (r2 : ∀ a : Act, a.tmps[3]? = some Y → (execOp a.eval o2).run P W = .ok (.value v2) W)
  (r3 : ∀ a : Act, a.tmps[s + 2]? = some v2 → (execOp a.eval o3).run P W = .ok (.value v3) W)
  (r4 : ∀ a : Act, a.tmps[s + 1]? = some v1 → a.tmps[s + 3]? = some v3 → (execOp a.eval o4).run P W = .ok (.value (.bool q)) W)
  (r5 : ∀ a : Act, a.tmps[p]? = some (.bool want) → a.tmps[s + 4]? = some (.bool q) → (execOp a.eval o5).run P W = .ok (.value (.bool q)) W)
  (r5' : ∀ a : Act, a.tmps[p]? = some (.bool (!want)) → (execOp a.eval o5).run P W = .ok (.value (.bool (!want))) W)
  (k : ∀ a', St a' N X Y (s + 5) (cmb want r q) → wpList P ops Q rest a' W) : wpList P ops Q (o0 :: o1 :: o2 :: o3 :: o4 :: o5 :: rest) a W := by
 by_cases hr : r = want
 ·subst hr
  have e : cmb r r q = q := if_pos rfl
  rw [e] at k
  refine step_on (wanted_on_ g0 hj h.r) (r0 _ h.x) ?_
  rw [d0]
  have h0 := h.put (v := v0) h3 (by omega) (by omega : s < N)
  have t0 := h.at (v := v0) (by omega : s < N)
  refine step_on (wanted_on_ g1 hj h0.r) (r1 _ t0) ?_
  rw [d1]
  have h1 := h0.put (d := s + 1) (v := v1) (by omega) (by omega) (by omega)
  have t1 := h0.at (d := s + 1) (v := v1) (by omega)
  refine step_on (wanted_on_ g2 hj h1.r) (r2 _ h1.y) ?_
  rw [d2]
  have h2 := h1.put (d := s + 2) (v := v2) (by omega) (by omega) (by omega)
  have t2 := h1.at (d := s + 2) (v := v2) (by omega)
  have t1 := h1.keep (d := s + 2) (v := v2) (by omega) (by omega) t1
  refine step_on (wanted_on_ g3 hj h2.r) (r3 _ t2) ?_
  rw [d3]
  have h4 := h2.put (d := s + 3) (v := v3) (by omega) (by omega) (by omega)
  have t3 := h2.at (d := s + 3) (v := v3) (by omega)
  have t1 := h2.keep (d := s + 3) (v := v3) (by omega) (by omega) t1
  refine step_on (wanted_on_ g4 hj h4.r) (r4 _ t1 t3) ?_
  rw [d4]
  have h5 := h4.put (d := s + 4) (v := .bool q) (by omega) (by omega) (by omega)
  have t4 := h4.at (d := s + 4) (v := .bool q) (by omega)
  refine step_on (wanted_none g5) (r5 _ h5.r t4) ?_
  rw [d5]
  have h6 := h5.put_r (d := s + 5) (b := q) (by omega) (by omega)
  exact k _ h6
 ·have e : cmb want r q = r := if_neg hr
  have hn : r = !want := by cases r <;> cases want <;> simp_all
  rw [e] at k
  refine step_off (wanted_off_ g0 hj h.r hr) ?_
  rw [d0]
  have h0 := h.put (v := undef) h3 (by omega) (by omega : s < N)
  refine step_off (wanted_off_ g1 hj h0.r hr) ?_
  rw [d1]
  have h1 := h0.put (d := s + 1) (v := undef) (by omega) (by omega) (by omega)
  refine step_off (wanted_off_ g2 hj h1.r hr) ?_
  rw [d2]
  have h2 := h1.put (d := s + 2) (v := undef) (by omega) (by omega) (by omega)
  refine step_off (wanted_off_ g3 hj h2.r hr) ?_
  rw [d3]
  have h4 := h2.put (d := s + 3) (v := undef) (by omega) (by omega) (by omega)
  refine step_off (wanted_off_ g4 hj h4.r hr) ?_
  rw [d4]
  have h5 := h4.put (d := s + 4) (v := undef) (by omega) (by omega) (by omega)
  subst hn
  refine step_on (wanted_none g5) (r5' _ h5.r) ?_
  rw [d5]
  have h6 := h5.put_r (d := s + 5) (b := !want) (by omega) (by omega)
  exact k _ h6
theorem link_call {N s m p j : Nat} {X Y v0 v1 v2 v3 : Value} {want r q : Bool} {f : FuncId} {args : Array Value} {R : World → Prop} {o0 o1 o2 o3 o4 o5 o6 : Oper} (h : St a N X Y p r) (h3 : 3 < s) (hps : p < s) (hm3 : 3 < m) (hms : m ≠ s + 5) (hN : s + 5 < N) (hm : m < N)
  (d0 : o0.dst = some s) (d1 : o1.dst = some (s + 1)) (d2 : o2.dst = some (s + 2)) (d3 : o3.dst = some (s + 3)) (d4 : o4.dst = some (s + 4)) (d5 : o5.dst = some (s + 5)) (d6 : o6.dst = some m)
  (g0 : o0.guard = some (j, want)) (g1 : o1.guard = some (j, want)) (g2 : o2.guard = some (j, want)) (g3 : o3.guard = some (j, want)) (g4 : o4.guard = some (j, want)) (g5 : o5.guard = none) (g6 : o6.guard = none)
  (hj : (ops[j]?).bind (·.dst) = some p)
  (r0 : ∀ a : Act, a.tmps[2]? = some X → (execOp a.eval o0).run P W = .ok (.value v0) W)
  (r1 : ∀ a : Act, a.tmps[s]? = some v0 → (execOp a.eval o1).run P W = .ok (.value v1) W)
  (r2 : ∀ a : Act, a.tmps[3]? = some Y → (execOp a.eval o2).run P W = .ok (.value v2) W)
  (r3 : ∀ a : Act, a.tmps[s + 2]? = some v2 → (execOp a.eval o3).run P W = .ok (.value v3) W)
  (r4 : ∀ a : Act, a.tmps[s + 1]? = some v1 → a.tmps[s + 3]? = some v3 → (execOp a.eval o4).run P W = .ok (.enter f args) W)
  (hc : Calls P f args W fun e w' => e = .returned (.bool q) ∧ R w') (hR : R W)
  (r5 : ∀ (a : Act) (W : World), a.tmps[p]? = some (.bool want) → a.tmps[s + 4]? = some (.bool q) → (execOp a.eval o5).run P W = .ok (.value (.bool q)) W)
  (r5' : ∀ a : Act, a.tmps[p]? = some (.bool (!want)) → (execOp a.eval o5).run P W = .ok (.value (.bool (!want))) W)
  (r6 : ∀ (a : Act) (W : World) (b : Bool), a.tmps[s + 5]? = some (.bool b) → (execOp a.eval o6).run P W = .ok (.value (.bool b)) W)
  (k : ∀ a' w', R w' → St a' N X Y m (cmb want r q) → wpList P ops Q rest a' w') : wpList P ops Q (o0 :: o1 :: o2 :: o3 :: o4 :: o5 :: o6 :: rest) a W := by
 by_cases hr : r = want
 ·subst hr
  have e : cmb r r q = q := if_pos rfl
  rw [e] at k
  refine step_on (wanted_on_ g0 hj h.r) (r0 _ h.x) ?_
  rw [d0]
  have h0 := h.put (v := v0) h3 (by omega) (by omega : s < N)
  have t0 := h.at (v := v0) (by omega : s < N)
  refine step_on (wanted_on_ g1 hj h0.r) (r1 _ t0) ?_
  rw [d1]
  have h1 := h0.put (d := s + 1) (v := v1) (by omega) (by omega) (by omega)
  have t1 := h0.at (d := s + 1) (v := v1) (by omega)
  refine step_on (wanted_on_ g2 hj h1.r) (r2 _ h1.y) ?_
  rw [d2]
  have h2 := h1.put (d := s + 2) (v := v2) (by omega) (by omega) (by omega)
  have t2 := h1.at (d := s + 2) (v := v2) (by omega)
  have t1 := h1.keep (d := s + 2) (v := v2) (by omega) (by omega) t1
  refine step_on (wanted_on_ g3 hj h2.r) (r3 _ t2) ?_
  rw [d3]
  have h4 := h2.put (d := s + 3) (v := v3) (by omega) (by omega) (by omega)
  have t3 := h2.at (d := s + 3) (v := v3) (by omega)
  have t1 := h2.keep (d := s + 3) (v := v3) (by omega) (by omega) t1
  refine step_in (wanted_on_ g4 hj h4.r) (r4 _ t1 t3) hc fun w' hw => ?_
  rw [d4]
  have h5 := h4.put (d := s + 4) (v := .bool q) (by omega) (by omega) (by omega)
  have t4 := h4.at (d := s + 4) (v := .bool q) (by omega)
  refine step_on (wanted_none g5) (r5 _ _ h5.r t4) ?_
  rw [d5]
  have h6 := h5.put_r (d := s + 5) (b := q) (by omega) (by omega)
  refine step_on (wanted_none g6) (r6 _ _ _ h6.r) ?_
  rw [d6]
  exact k _ _ hw (h6.put_r hm3 hm)
 ·have e : cmb want r q = r := if_neg hr
  have hn : r = !want := by cases r <;> cases want <;> simp_all
  rw [e] at k
  refine step_off (wanted_off_ g0 hj h.r hr) ?_
  rw [d0]
  have h0 := h.put (v := undef) h3 (by omega) (by omega : s < N)
  refine step_off (wanted_off_ g1 hj h0.r hr) ?_
  rw [d1]
  have h1 := h0.put (d := s + 1) (v := undef) (by omega) (by omega) (by omega)
  refine step_off (wanted_off_ g2 hj h1.r hr) ?_
  rw [d2]
  have h2 := h1.put (d := s + 2) (v := undef) (by omega) (by omega) (by omega)
  refine step_off (wanted_off_ g3 hj h2.r hr) ?_
  rw [d3]
  have h4 := h2.put (d := s + 3) (v := undef) (by omega) (by omega) (by omega)
  refine step_off (wanted_off_ g4 hj h4.r hr) ?_
  rw [d4]
  have h5 := h4.put (d := s + 4) (v := undef) (by omega) (by omega) (by omega)
  subst hn
  refine step_on (wanted_none g5) (r5' _ h5.r) ?_
  rw [d5]
  have h6 := h5.put_r (d := s + 5) (b := !want) (by omega) (by omega)
  refine step_on (wanted_none g6) (r6 _ _ _ h6.r) ?_
  rw [d6]
  exact k _ _ hR (h6.put_r hm3 hm)
theorem link_first {N s : Nat} {X Y v0 v1 v2 v3 : Value} {q : Bool} {o0 o1 o2 o3 o4 o5 : Oper} (hsz : a.tmps.size = N) (hdf : a.defers = []) (hx : a.tmps[2]? = some X) (hy : a.tmps[3]? = some Y) (h3 : 3 < s) (hN : s + 5 < N)
  (d0 : o0.dst = some s) (d1 : o1.dst = some (s + 1)) (d2 : o2.dst = some (s + 2)) (d3 : o3.dst = some (s + 3)) (d4 : o4.dst = some (s + 4)) (d5 : o5.dst = some (s + 5))
  (g0 : o0.guard = none) (g1 : o1.guard = none) (g2 : o2.guard = none) (g3 : o3.guard = none) (g4 : o4.guard = none) (g5 : o5.guard = none)
  (r0 : ∀ a : Act, a.tmps[2]? = some X → (execOp a.eval o0).run P W = .ok (.value v0) W)
  (r1 : ∀ a : Act, a.tmps[s]? = some v0 → (execOp a.eval o1).run P W = .ok (.value v1) W)
  (r2 : ∀ a : Act, a.tmps[3]? = some Y → (execOp a.eval o2).run P W = .ok (.value v2) W)
  (r3 : ∀ a : Act, a.tmps[s + 2]? = some v2 → (execOp a.eval o3).run P W = .ok (.value v3) W)
  (r4 : ∀ a : Act, a.tmps[s + 1]? = some v1 → a.tmps[s + 3]? = some v3 → (execOp a.eval o4).run P W = .ok (.value (.bool q)) W)
  (r5 : ∀ (a : Act) (b : Bool), a.tmps[s + 4]? = some (.bool b) → (execOp a.eval o5).run P W = .ok (.value (.bool b)) W)
  (k : ∀ a', St a' N X Y (s + 5) q → wpList P ops Q rest a' W) : wpList P ops Q (o0 :: o1 :: o2 :: o3 :: o4 :: o5 :: rest) a W := by
 refine step_on (wanted_none g0) (r0 _ hx) ?_
 rw [d0]
 have z0 : (a.put (some s) v0).tmps.size = N := put_size.trans hsz
 have x0 : (a.put (some s) v0).tmps[2]? = some X := by rw [put_get (by omega), if_neg (by omega)]; exact hx
 have y0 : (a.put (some s) v0).tmps[3]? = some Y := by rw [put_get (by omega), if_neg (by omega)]; exact hy
 have t0 : (a.put (some s) v0).tmps[s]? = some v0 := by rw [put_get (by omega), if_pos rfl]
 have f0 : (a.put (some s) v0).defers = [] := hdf
 generalize a.put (some s) v0 = a at *
 refine step_on (wanted_none g1) (r1 _ t0) ?_
 rw [d1]
 have z1 : (a.put (some (s + 1)) v1).tmps.size = N := put_size.trans z0
 have x1 : (a.put (some (s + 1)) v1).tmps[2]? = some X := by rw [put_get (by omega), if_neg (by omega)]; exact x0
 have y1 : (a.put (some (s + 1)) v1).tmps[3]? = some Y := by rw [put_get (by omega), if_neg (by omega)]; exact y0
 have t1 : (a.put (some (s + 1)) v1).tmps[s + 1]? = some v1 := by rw [put_get (by omega), if_pos rfl]
 have f1 : (a.put (some (s + 1)) v1).defers = [] := f0
 clear z0 x0 y0 t0 f0
 generalize a.put (some (s + 1)) v1 = a at *
 refine step_on (wanted_none g2) (r2 _ y1) ?_
 rw [d2]
 have z2 : (a.put (some (s + 2)) v2).tmps.size = N := put_size.trans z1
 have x2 : (a.put (some (s + 2)) v2).tmps[2]? = some X := by rw [put_get (by omega), if_neg (by omega)]; exact x1
 have y2 : (a.put (some (s + 2)) v2).tmps[3]? = some Y := by rw [put_get (by omega), if_neg (by omega)]; exact y1
 have t2 : (a.put (some (s + 2)) v2).tmps[s + 2]? = some v2 := by rw [put_get (by omega), if_pos rfl]
 have u2 : (a.put (some (s + 2)) v2).tmps[s + 1]? = some v1 := by rw [put_get (by omega), if_neg (by omega)]; exact t1
 have f2 : (a.put (some (s + 2)) v2).defers = [] := f1
 clear z1 x1 y1 t1 f1
 generalize a.put (some (s + 2)) v2 = a at *
 refine step_on (wanted_none g3) (r3 _ t2) ?_
 rw [d3]
 have z3 : (a.put (some (s + 3)) v3).tmps.size = N := put_size.trans z2
 have x3 : (a.put (some (s + 3)) v3).tmps[2]? = some X := by rw [put_get (by omega), if_neg (by omega)]; exact x2
 have y3 : (a.put (some (s + 3)) v3).tmps[3]? = some Y := by rw [put_get (by omega), if_neg (by omega)]; exact y2
 have t3 : (a.put (some (s + 3)) v3).tmps[s + 3]? = some v3 := by rw [put_get (by omega), if_pos rfl]
 have u3 : (a.put (some (s + 3)) v3).tmps[s + 1]? = some v1 := by rw [put_get (by omega), if_neg (by omega)]; exact u2
 have f3 : (a.put (some (s + 3)) v3).defers = [] := f2
 clear z2 x2 y2 t2 f2 u2
 generalize a.put (some (s + 3)) v3 = a at *
 refine step_on (wanted_none g4) (r4 _ u3 t3) ?_
 rw [d4]
 have h4 : St (a.put (some (s + 4)) (.bool q)) N X Y (s + 4) q := ⟨put_size.trans z3, f3, by rw [put_get (by omega), if_neg (by omega)]; exact x3, by rw [put_get (by omega), if_neg (by omega)]; exact y3, by rw [put_get (by omega), if_pos rfl]⟩
 refine step_on (wanted_none g5) (r5 _ _ h4.r) ?_
 rw [d5]
 exact k _ (h4.put_r (by omega) (by omega))
theorem act_lit {N : Nat} (hs : a.tmps.size = N) (hd : a.defers = []) : ∃ f : Nat → Value, (∀ k v, a.tmps[k]? = some v → f k = v) ∧ a = ⟨((List.range N).map f).toArray, []⟩ := by
 refine ⟨fun i => a.tmps.getD i undef, fun k v h => by show a.tmps.getD k undef = v; rw [Array.getD_eq_getD_getElem?, h]; rfl, ?_⟩
 obtain ⟨t, d⟩ := a
 simp only at hs hd
 subst hd
 congr 1
 apply Array.ext
 ·simp [hs]
 ·intro i h1 h2
  simp only [List.getElem_toArray, List.getElem_map, List.getElem_range, Array.getD_eq_getD_getElem?]
  rw [Array.getElem?_eq_getElem h1]
  rfl
end
end Go.Proofs.YtdlamomabonkjaaDoor.Base
end
section
namespace Go.Proofs.YtdlamomabonkjaaDoor.Ch
open Go.RowKit YtdlamomabonkjaaDoorW.PrintWords Base PCh
theorem chk_decide (x y : Chk) : decide (x = y) = ((((((((((((((((x.f0 == y.f0) && (x.f1 == y.f1)) && (x.f2 == y.f2)) && (x.f3 == y.f3)) && (x.f4 == y.f4)) && (x.f5 == y.f5)) && (x.f6 == y.f6)) && (x.f7 == y.f7)) && (x.f8 == y.f8)) && (x.f9 == y.f9)) && decide (x.f10 = y.f10)) && decide (x.f11 = y.f11)) && decide (x.f12 = y.f12)) && decide (x.f13 = y.f13)) && decide (x.f14 = y.f14))) := by
 by_cases h : x = y
 ·subst h
  simp
 ·rw [decide_eq_false h]
  symm
  rw [Bool.eq_false_iff]
  intro hb
  simp only [Bool.and_eq_true, beq_iff_eq, decide_eq_true_eq] at hb
  exact h (chk_ext hb.1.1.1.1.1.1.1.1.1.1.1.1.1.1 hb.1.1.1.1.1.1.1.1.1.1.1.1.1.2 hb.1.1.1.1.1.1.1.1.1.1.1.1.2 hb.1.1.1.1.1.1.1.1.1.1.1.2 hb.1.1.1.1.1.1.1.1.1.1.2 hb.1.1.1.1.1.1.1.1.1.2 hb.1.1.1.1.1.1.1.1.2 hb.1.1.1.1.1.1.1.2 hb.1.1.1.1.1.1.2 hb.1.1.1.1.1.2 hb.1.1.1.1.2 hb.1.1.1.2 hb.1.1.2 hb.1.2 hb.2)
theorem cmb_true (r q : Bool) : cmb true r q = (r && q) := by cases r <;> cases q <;> rfl
theorem cmb_false (r q : Bool) : cmb false r q = (r || q) := by cases r <;> cases q <;> rfl
set_option maxHeartbeats 4000000 in
theorem same_calls (w : World) (x y : Chk) (L M : Lay) (hx : CR w x L) (hy : CR w y M) :
  Calls Tryd.prog 38 #[.agg (CV x L), .agg (CV y M)] w fun e w' => e = .returned (.bool (decide (x = y))) ∧ Below w.heap.size w w' := by
 rw [chk_decide]
 have H10 := Lh (fun (W : World) (hb : Below w.heap.size w W) => gaps_calls W L.A10 M.A10 L.c10 M.c10 x.f10 y.f10 (Kd.C_below hx.h10 hb) hx.l10 (Kd.C_below hy.h10 hb) hy.l10)
 have H11 := Lh (fun (W : World) (hb : Below w.heap.size w W) => gaps_calls W L.A11 M.A11 L.c11 M.c11 x.f11 y.f11 (Kd.C_below hx.h11 hb) hx.l11 (Kd.C_below hy.h11 hb) hy.l11)
 have H12 := Lh (fun (W : World) (hb : Below w.heap.size w W) => dups_calls W L.A12 M.A12 L.c12 M.c12 x.f12 y.f12 (Kd.C_below hx.h12 hb) hx.l12 (Kd.C_below hy.h12 hb) hy.l12)
 have H13 := Lh (fun (W : World) (hb : Below w.heap.size w W) => bodies_calls W L.A13 M.A13 L.c13 M.c13 x.f13 y.f13 (Kd.C_below hx.h13 hb) hx.l13 (Kd.C_below hy.h13 hb) hy.l13)
 have H14 := Lh (fun (W : World) (hb : Below w.heap.size w W) => sameF_calls W L.A14 M.A14 L.c14 M.c14 x.f14 y.f14 (Kd.C_below hx.h14 hb) (Kd.C_below hy.h14 hb))
 clear hx hy
 have HB := Lh (below_alloc (below_alloc (Below.refl w.heap.size w) (.cells (CV x L) 41)) (.cells (CV y M) 41))
 have O0 := Lh (show ((w.alloc (.cells (CV x L) 41)).alloc (.cells (CV y M) 41)).heap[w.heap.size]? = some (.cells (CV x L) 41 (0, 0)) from blk_alloc (blk_new _ _) _)
 have O1 := Lh (show ((w.alloc (.cells (CV x L) 41)).alloc (.cells (CV y M) 41)).heap[w.heap.size + 1]? = some (.cells (CV y M) 41 (0, 0)) by have h := blk_new (w.alloc (.cells (CV x L) 41)) (.cells (CV y M) 41); rw [World.size_alloc] at h; exact h)
 have u0 := (blk_cell O0.out 0).trans (show (CV x L)[0]? = some (.int .u8 x.f0) from rfl)
 have v0 := (blk_cell O1.out 0).trans (show (CV y M)[0]? = some (.int .u8 y.f0) from rfl)
 have U0 := Lh u0
 have V0 := Lh v0
 clear u0 v0
 have u1 := (blk_cell O0.out 1).trans (show (CV x L)[1]? = some (.int .u8 x.f1) from rfl)
 have v1 := (blk_cell O1.out 1).trans (show (CV y M)[1]? = some (.int .u8 y.f1) from rfl)
 have U1 := Lh u1
 have V1 := Lh v1
 clear u1 v1
 have u2 := (blk_cell O0.out 2).trans (show (CV x L)[2]? = some (.int .u32 x.f2) from rfl)
 have v2 := (blk_cell O1.out 2).trans (show (CV y M)[2]? = some (.int .u32 y.f2) from rfl)
 have U2 := Lh u2
 have V2 := Lh v2
 clear u2 v2
 have u3 := (blk_cell O0.out 3).trans (show (CV x L)[3]? = some (.int .u16 x.f3) from rfl)
 have v3 := (blk_cell O1.out 3).trans (show (CV y M)[3]? = some (.int .u16 y.f3) from rfl)
 have U3 := Lh u3
 have V3 := Lh v3
 clear u3 v3
 have u4 := (blk_cell O0.out 4).trans (show (CV x L)[4]? = some (.int .u16 x.f4) from rfl)
 have v4 := (blk_cell O1.out 4).trans (show (CV y M)[4]? = some (.int .u16 y.f4) from rfl)
 have U4 := Lh u4
 have V4 := Lh v4
 clear u4 v4
 have u5 := (blk_cell O0.out 5).trans (show (CV x L)[5]? = some (.int .u32 x.f5) from rfl)
 have v5 := (blk_cell O1.out 5).trans (show (CV y M)[5]? = some (.int .u32 y.f5) from rfl)
 have U5 := Lh u5
 have V5 := Lh v5
 clear u5 v5
 have u6 := (blk_cell O0.out 6).trans (show (CV x L)[6]? = some (.int .u32 x.f6) from rfl)
 have v6 := (blk_cell O1.out 6).trans (show (CV y M)[6]? = some (.int .u32 y.f6) from rfl)
 have U6 := Lh u6
 have V6 := Lh v6
 clear u6 v6
 have u7 := (blk_cell O0.out 7).trans (show (CV x L)[7]? = some (.int .u32 x.f7) from rfl)
 have v7 := (blk_cell O1.out 7).trans (show (CV y M)[7]? = some (.int .u32 y.f7) from rfl)
 have U7 := Lh u7
 have V7 := Lh v7
 clear u7 v7
 have u8 := (blk_cell O0.out 8).trans (show (CV x L)[8]? = some (.int .u16 x.f8) from rfl)
 have v8 := (blk_cell O1.out 8).trans (show (CV y M)[8]? = some (.int .u16 y.f8) from rfl)
 have U8 := Lh u8
 have V8 := Lh v8
 clear u8 v8
 have u9 := (blk_cell O0.out 9).trans (show (CV x L)[9]? = some (.int .u16 x.f9) from rfl)
 have v9 := (blk_cell O1.out 9).trans (show (CV y M)[9]? = some (.int .u16 y.f9) from rfl)
 have U9 := Lh u9
 have V9 := Lh v9
 clear u9 v9
 have u10 := (blk_cell O0.out 10).trans (show (CV x L)[10]? = some (.slice L.A10 x.f10.length L.c10) from rfl)
 have v10 := (blk_cell O1.out 10).trans (show (CV y M)[10]? = some (.slice M.A10 y.f10.length M.c10) from rfl)
 have U10 := Lh u10
 have V10 := Lh v10
 clear u10 v10
 have u11 := (blk_cell O0.out 11).trans (show (CV x L)[11]? = some (.slice L.A11 x.f11.length L.c11) from rfl)
 have v11 := (blk_cell O1.out 11).trans (show (CV y M)[11]? = some (.slice M.A11 y.f11.length M.c11) from rfl)
 have U11 := Lh u11
 have V11 := Lh v11
 clear u11 v11
 have u12 := (blk_cell O0.out 12).trans (show (CV x L)[12]? = some (.slice L.A12 x.f12.length L.c12) from rfl)
 have v12 := (blk_cell O1.out 12).trans (show (CV y M)[12]? = some (.slice M.A12 y.f12.length M.c12) from rfl)
 have U12 := Lh u12
 have V12 := Lh v12
 clear u12 v12
 have u13 := (blk_cell O0.out 13).trans (show (CV x L)[13]? = some (.slice L.A13 x.f13.length L.c13) from rfl)
 have v13 := (blk_cell O1.out 13).trans (show (CV y M)[13]? = some (.slice M.A13 y.f13.length M.c13) from rfl)
 have U13 := Lh u13
 have V13 := Lh v13
 clear u13 v13
 have u14 := (blk_cell O0.out 14).trans (show (CV x L)[14]? = some (.slice L.A14 x.f14.length L.c14) from rfl)
 have v14 := (blk_cell O1.out 14).trans (show (CV y M)[14]? = some (.slice M.A14 y.f14.length M.c14) from rfl)
 have U14 := Lh u14
 have V14 := Lh v14
 clear u14 v14
 clear O0 O1
 generalize decide (x.f10 = y.f10) = r10 at *
 generalize decide (x.f11 = y.f11) = r11 at *
 generalize decide (x.f12 = y.f12) = r12 at *
 generalize decide (x.f13 = y.f13) = r13 at *
 generalize decide (x.f14 = y.f14) = r14 at *
 generalize x.f10.length = n10 at *
 generalize y.f10.length = m10 at *
 generalize x.f11.length = n11 at *
 generalize y.f11.length = m11 at *
 generalize x.f12.length = n12 at *
 generalize y.f12.length = m12 at *
 generalize x.f13.length = n13 at *
 generalize y.f13.length = m13 at *
 generalize x.f14.length = n14 at *
 generalize y.f14.length = m14 at *
 generalize x.f0 = a0 at *
 generalize y.f0 = b0 at *
 generalize x.f1 = a1 at *
 generalize y.f1 = b1 at *
 generalize x.f2 = a2 at *
 generalize y.f2 = b2 at *
 generalize x.f3 = a3 at *
 generalize y.f3 = b3 at *
 generalize x.f4 = a4 at *
 generalize y.f4 = b4 at *
 generalize x.f5 = a5 at *
 generalize y.f5 = b5 at *
 generalize x.f6 = a6 at *
 generalize y.f6 = b6 at *
 generalize x.f7 = a7 at *
 generalize y.f7 = b7 at *
 generalize x.f8 = a8 at *
 generalize y.f8 = b8 at *
 generalize x.f9 = a9 at *
 generalize y.f9 = b9 at *
 generalize q0 : (a0 == b0) = r0 at *
 generalize q1 : (a1 == b1) = r1 at *
 generalize q2 : (a2 == b2) = r2 at *
 generalize q3 : (a3 == b3) = r3 at *
 generalize q4 : (a4 == b4) = r4 at *
 generalize q5 : (a5 == b5) = r5 at *
 generalize q6 : (a6 == b6) = r6 at *
 generalize q7 : (a7 == b7) = r7 at *
 generalize q8 : (a8 == b8) = r8 at *
 generalize q9 : (a9 == b9) = r9 at *
 have Q0 := Lh q0
 clear q0
 have Q1 := Lh q1
 clear q1
 have Q2 := Lh q2
 clear q2
 have Q3 := Lh q3
 clear q3
 have Q4 := Lh q4
 clear q4
 have Q5 := Lh q5
 clear q5
 have Q6 := Lh q6
 clear q6
 have Q7 := Lh q7
 clear q7
 have Q8 := Lh q8
 clear q8
 have Q9 := Lh q9
 clear q9
 generalize CV x L = CX at *
 generalize CV y M = CY at *
 go_enter Tryd.func38, Tryd.ntmps38
 go_upto_region 1 with (fail)
 generalize (w.alloc (.cells CX 41)).alloc (.cells CY 41) = W at *
 refine wp_region_lit ?_
 (try simp only [List.cons_append, List.nil_append])
 refine link_first (N := 108) (s := 5) (X := .pointer (some ⟨w.heap.size, 0, none⟩)) (Y := .pointer (some ⟨w.heap.size + 1, 0, none⟩)) (v0 := .pointer (some ⟨w.heap.size, 0, none⟩)) (v1 := .int .u8 a0) (v2 := .pointer (some ⟨w.heap.size + 1, 0, none⟩)) (v3 := .int .u8 b0) (q := r0) (by rfl) rfl (by rfl) (by rfl) (by omega) (by omega) rfl rfl rfl rfl rfl rfl rfl rfl rfl rfl rfl rfl (fun a h => by go_simp) (fun a h => by have u := U0.out; go_simp) (fun a h => by go_simp) (fun a h => by have u := V0.out; go_simp) (fun a h h' => by have q := Q0.out; go_simp) (fun a b h => by go_simp) (fun a0_ h0 => ?_)
 refine link (N := 108) (s := 11) (m := 17) (p := 10) (j := 5) (X := .pointer (some ⟨w.heap.size, 0, none⟩)) (Y := .pointer (some ⟨w.heap.size + 1, 0, none⟩)) (v0 := .pointer (some ⟨w.heap.size, 1, none⟩)) (v1 := .int .u8 a1) (v2 := .pointer (some ⟨w.heap.size + 1, 1, none⟩)) (v3 := .int .u8 b1) (want := true) (r := r0) (q := r1) h0 (by omega) (by omega) (by omega) (by omega) (by omega) (by omega) rfl rfl rfl rfl rfl rfl rfl rfl rfl rfl rfl rfl rfl rfl rfl (fun a h => by go_simp) (fun a h => by have u := U1.out; go_simp) (fun a h => by go_simp) (fun a h => by have u := V1.out; go_simp) (fun a h h' => by have q := Q1.out; go_simp) (fun a h h' => by go_simp) (fun a h => by go_simp) (fun a b h => by go_simp) (fun a1_ h1 => ?_)
 rw [cmb_true] at h1
 refine link (N := 108) (s := 18) (m := 24) (p := 17) (j := 12) (X := .pointer (some ⟨w.heap.size, 0, none⟩)) (Y := .pointer (some ⟨w.heap.size + 1, 0, none⟩)) (v0 := .pointer (some ⟨w.heap.size, 2, none⟩)) (v1 := .int .u32 a2) (v2 := .pointer (some ⟨w.heap.size + 1, 2, none⟩)) (v3 := .int .u32 b2) (want := true) (r := (r0 && r1)) (q := r2) h1 (by omega) (by omega) (by omega) (by omega) (by omega) (by omega) rfl rfl rfl rfl rfl rfl rfl rfl rfl rfl rfl rfl rfl rfl rfl (fun a h => by go_simp) (fun a h => by have u := U2.out; go_simp) (fun a h => by go_simp) (fun a h => by have u := V2.out; go_simp) (fun a h h' => by have q := Q2.out; go_simp) (fun a h h' => by go_simp) (fun a h => by go_simp) (fun a b h => by go_simp) (fun a2_ h2 => ?_)
 rw [cmb_true] at h2
 refine link (N := 108) (s := 25) (m := 31) (p := 24) (j := 19) (X := .pointer (some ⟨w.heap.size, 0, none⟩)) (Y := .pointer (some ⟨w.heap.size + 1, 0, none⟩)) (v0 := .pointer (some ⟨w.heap.size, 3, none⟩)) (v1 := .int .u16 a3) (v2 := .pointer (some ⟨w.heap.size + 1, 3, none⟩)) (v3 := .int .u16 b3) (want := true) (r := ((r0 && r1) && r2)) (q := r3) h2 (by omega) (by omega) (by omega) (by omega) (by omega) (by omega) rfl rfl rfl rfl rfl rfl rfl rfl rfl rfl rfl rfl rfl rfl rfl (fun a h => by go_simp) (fun a h => by have u := U3.out; go_simp) (fun a h => by go_simp) (fun a h => by have u := V3.out; go_simp) (fun a h h' => by have q := Q3.out; go_simp) (fun a h h' => by go_simp) (fun a h => by go_simp) (fun a b h => by go_simp) (fun a3_ h3 => ?_)
 rw [cmb_true] at h3
 refine link (N := 108) (s := 32) (m := 38) (p := 31) (j := 26) (X := .pointer (some ⟨w.heap.size, 0, none⟩)) (Y := .pointer (some ⟨w.heap.size + 1, 0, none⟩)) (v0 := .pointer (some ⟨w.heap.size, 4, none⟩)) (v1 := .int .u16 a4) (v2 := .pointer (some ⟨w.heap.size + 1, 4, none⟩)) (v3 := .int .u16 b4) (want := true) (r := (((r0 && r1) && r2) && r3)) (q := r4) h3 (by omega) (by omega) (by omega) (by omega) (by omega) (by omega) rfl rfl rfl rfl rfl rfl rfl rfl rfl rfl rfl rfl rfl rfl rfl (fun a h => by go_simp) (fun a h => by have u := U4.out; go_simp) (fun a h => by go_simp) (fun a h => by have u := V4.out; go_simp) (fun a h h' => by have q := Q4.out; go_simp) (fun a h h' => by go_simp) (fun a h => by go_simp) (fun a b h => by go_simp) (fun a4_ h4 => ?_)
 rw [cmb_true] at h4
 refine link (N := 108) (s := 39) (m := 45) (p := 38) (j := 33) (X := .pointer (some ⟨w.heap.size, 0, none⟩)) (Y := .pointer (some ⟨w.heap.size + 1, 0, none⟩)) (v0 := .pointer (some ⟨w.heap.size, 5, none⟩)) (v1 := .int .u32 a5) (v2 := .pointer (some ⟨w.heap.size + 1, 5, none⟩)) (v3 := .int .u32 b5) (want := true) (r := ((((r0 && r1) && r2) && r3) && r4)) (q := r5) h4 (by omega) (by omega) (by omega) (by omega) (by omega) (by omega) rfl rfl rfl rfl rfl rfl rfl rfl rfl rfl rfl rfl rfl rfl rfl (fun a h => by go_simp) (fun a h => by have u := U5.out; go_simp) (fun a h => by go_simp) (fun a h => by have u := V5.out; go_simp) (fun a h h' => by have q := Q5.out; go_simp) (fun a h h' => by go_simp) (fun a h => by go_simp) (fun a b h => by go_simp) (fun a5_ h5 => ?_)
 rw [cmb_true] at h5
 refine link (N := 108) (s := 46) (m := 52) (p := 45) (j := 40) (X := .pointer (some ⟨w.heap.size, 0, none⟩)) (Y := .pointer (some ⟨w.heap.size + 1, 0, none⟩)) (v0 := .pointer (some ⟨w.heap.size, 6, none⟩)) (v1 := .int .u32 a6) (v2 := .pointer (some ⟨w.heap.size + 1, 6, none⟩)) (v3 := .int .u32 b6) (want := true) (r := (((((r0 && r1) && r2) && r3) && r4) && r5)) (q := r6) h5 (by omega) (by omega) (by omega) (by omega) (by omega) (by omega) rfl rfl rfl rfl rfl rfl rfl rfl rfl rfl rfl rfl rfl rfl rfl (fun a h => by go_simp) (fun a h => by have u := U6.out; go_simp) (fun a h => by go_simp) (fun a h => by have u := V6.out; go_simp) (fun a h h' => by have q := Q6.out; go_simp) (fun a h h' => by go_simp) (fun a h => by go_simp) (fun a b h => by go_simp) (fun a6_ h6 => ?_)
 rw [cmb_true] at h6
 refine link (N := 108) (s := 53) (m := 59) (p := 52) (j := 47) (X := .pointer (some ⟨w.heap.size, 0, none⟩)) (Y := .pointer (some ⟨w.heap.size + 1, 0, none⟩)) (v0 := .pointer (some ⟨w.heap.size, 7, none⟩)) (v1 := .int .u32 a7) (v2 := .pointer (some ⟨w.heap.size + 1, 7, none⟩)) (v3 := .int .u32 b7) (want := true) (r := ((((((r0 && r1) && r2) && r3) && r4) && r5) && r6)) (q := r7) h6 (by omega) (by omega) (by omega) (by omega) (by omega) (by omega) rfl rfl rfl rfl rfl rfl rfl rfl rfl rfl rfl rfl rfl rfl rfl (fun a h => by go_simp) (fun a h => by have u := U7.out; go_simp) (fun a h => by go_simp) (fun a h => by have u := V7.out; go_simp) (fun a h h' => by have q := Q7.out; go_simp) (fun a h h' => by go_simp) (fun a h => by go_simp) (fun a b h => by go_simp) (fun a7_ h7 => ?_)
 rw [cmb_true] at h7
 refine link (N := 108) (s := 60) (m := 66) (p := 59) (j := 54) (X := .pointer (some ⟨w.heap.size, 0, none⟩)) (Y := .pointer (some ⟨w.heap.size + 1, 0, none⟩)) (v0 := .pointer (some ⟨w.heap.size, 8, none⟩)) (v1 := .int .u16 a8) (v2 := .pointer (some ⟨w.heap.size + 1, 8, none⟩)) (v3 := .int .u16 b8) (want := true) (r := (((((((r0 && r1) && r2) && r3) && r4) && r5) && r6) && r7)) (q := r8) h7 (by omega) (by omega) (by omega) (by omega) (by omega) (by omega) rfl rfl rfl rfl rfl rfl rfl rfl rfl rfl rfl rfl rfl rfl rfl (fun a h => by go_simp) (fun a h => by have u := U8.out; go_simp) (fun a h => by go_simp) (fun a h => by have u := V8.out; go_simp) (fun a h h' => by have q := Q8.out; go_simp) (fun a h h' => by go_simp) (fun a h => by go_simp) (fun a b h => by go_simp) (fun a8_ h8 => ?_)
 rw [cmb_true] at h8
 refine link (N := 108) (s := 67) (m := 73) (p := 66) (j := 61) (X := .pointer (some ⟨w.heap.size, 0, none⟩)) (Y := .pointer (some ⟨w.heap.size + 1, 0, none⟩)) (v0 := .pointer (some ⟨w.heap.size, 9, none⟩)) (v1 := .int .u16 a9) (v2 := .pointer (some ⟨w.heap.size + 1, 9, none⟩)) (v3 := .int .u16 b9) (want := true) (r := ((((((((r0 && r1) && r2) && r3) && r4) && r5) && r6) && r7) && r8)) (q := r9) h8 (by omega) (by omega) (by omega) (by omega) (by omega) (by omega) rfl rfl rfl rfl rfl rfl rfl rfl rfl rfl rfl rfl rfl rfl rfl (fun a h => by go_simp) (fun a h => by have u := U9.out; go_simp) (fun a h => by go_simp) (fun a h => by have u := V9.out; go_simp) (fun a h h' => by have q := Q9.out; go_simp) (fun a h h' => by go_simp) (fun a h => by go_simp) (fun a b h => by go_simp) (fun a9_ h9 => ?_)
 rw [cmb_true] at h9
 clear h0 h1 h2 h3 h4 h5 h6 h7 h8
 refine link_call (N := 108) (s := 74) (m := 80) (p := 73) (j := 68) (X := .pointer (some ⟨w.heap.size, 0, none⟩)) (Y := .pointer (some ⟨w.heap.size + 1, 0, none⟩)) (v0 := .pointer (some ⟨w.heap.size, 10, none⟩)) (v1 := .slice L.A10 n10 L.c10) (v2 := .pointer (some ⟨w.heap.size + 1, 10, none⟩)) (v3 := .slice M.A10 m10 M.c10) (want := true) (r := (((((((((r0 && r1) && r2) && r3) && r4) && r5) && r6) && r7) && r8) && r9)) (q := r10) (R := (fun w' => Drawn0 (W) w')) h9 (by omega) (by omega) (by omega) (by omega) (by omega) (by omega) rfl rfl rfl rfl rfl rfl rfl rfl rfl rfl rfl rfl rfl rfl rfl (fun a h => by go_simp) (fun a h => by have u := U10.out; go_simp) (fun a h => by go_simp) (fun a h => by have u := V10.out; go_simp) (fun a h h' => by go_simp) (H10.out _ HB.out) (Drawn0.refl _) (fun a W h h' => by go_simp) (fun a h => by go_simp) (fun a W b h => by go_simp) (fun a10_ W10 g10 h10 => ?_)
 rw [cmb_true] at h10
 obtain ⟨k10, rfl⟩ := g10
 refine link_call (N := 108) (s := 81) (m := 87) (p := 80) (j := 75) (X := .pointer (some ⟨w.heap.size, 0, none⟩)) (Y := .pointer (some ⟨w.heap.size + 1, 0, none⟩)) (v0 := .pointer (some ⟨w.heap.size, 11, none⟩)) (v1 := .slice L.A11 n11 L.c11) (v2 := .pointer (some ⟨w.heap.size + 1, 11, none⟩)) (v3 := .slice M.A11 m11 M.c11) (want := true) (r := ((((((((((r0 && r1) && r2) && r3) && r4) && r5) && r6) && r7) && r8) && r9) && r10)) (q := r11) (R := (fun w' => Drawn0 (W.drewN k10) w')) h10 (by omega) (by omega) (by omega) (by omega) (by omega) (by omega) rfl rfl rfl rfl rfl rfl rfl rfl rfl rfl rfl rfl rfl rfl rfl (fun a h => by go_simp) (fun a h => by have u := U11.out; go_simp) (fun a h => by go_simp) (fun a h => by have u := V11.out; go_simp) (fun a h h' => by go_simp) (H11.out _ (pw_below_drewN HB.out _)) (Drawn0.refl _) (fun a W h h' => by go_simp) (fun a h => by go_simp) (fun a W b h => by go_simp) (fun a11_ W11 g11 h11 => ?_)
 rw [cmb_true] at h11
 obtain ⟨k11, rfl⟩ := g11
 rw [World.drewN_drewN]
 refine link_call (N := 108) (s := 88) (m := 94) (p := 87) (j := 82) (X := .pointer (some ⟨w.heap.size, 0, none⟩)) (Y := .pointer (some ⟨w.heap.size + 1, 0, none⟩)) (v0 := .pointer (some ⟨w.heap.size, 12, none⟩)) (v1 := .slice L.A12 n12 L.c12) (v2 := .pointer (some ⟨w.heap.size + 1, 12, none⟩)) (v3 := .slice M.A12 m12 M.c12) (want := true) (r := (((((((((((r0 && r1) && r2) && r3) && r4) && r5) && r6) && r7) && r8) && r9) && r10) && r11)) (q := r12) (R := (fun w' => Drawn0 (W.drewN (k10 + k11)) w')) h11 (by omega) (by omega) (by omega) (by omega) (by omega) (by omega) rfl rfl rfl rfl rfl rfl rfl rfl rfl rfl rfl rfl rfl rfl rfl (fun a h => by go_simp) (fun a h => by have u := U12.out; go_simp) (fun a h => by go_simp) (fun a h => by have u := V12.out; go_simp) (fun a h h' => by go_simp) (H12.out _ (pw_below_drewN HB.out _)) (Drawn0.refl _) (fun a W h h' => by go_simp) (fun a h => by go_simp) (fun a W b h => by go_simp) (fun a12_ W12 g12 h12 => ?_)
 rw [cmb_true] at h12
 obtain ⟨k12, rfl⟩ := g12
 rw [World.drewN_drewN]
 refine link_call (N := 108) (s := 95) (m := 101) (p := 94) (j := 89) (X := .pointer (some ⟨w.heap.size, 0, none⟩)) (Y := .pointer (some ⟨w.heap.size + 1, 0, none⟩)) (v0 := .pointer (some ⟨w.heap.size, 13, none⟩)) (v1 := .slice L.A13 n13 L.c13) (v2 := .pointer (some ⟨w.heap.size + 1, 13, none⟩)) (v3 := .slice M.A13 m13 M.c13) (want := true) (r := ((((((((((((r0 && r1) && r2) && r3) && r4) && r5) && r6) && r7) && r8) && r9) && r10) && r11) && r12)) (q := r13) (R := (fun w' => Drawn0 (W.drewN (k10 + k11 + k12)) w')) h12 (by omega) (by omega) (by omega) (by omega) (by omega) (by omega) rfl rfl rfl rfl rfl rfl rfl rfl rfl rfl rfl rfl rfl rfl rfl (fun a h => by go_simp) (fun a h => by have u := U13.out; go_simp) (fun a h => by go_simp) (fun a h => by have u := V13.out; go_simp) (fun a h h' => by go_simp) (H13.out _ (pw_below_drewN HB.out _)) (Drawn0.refl _) (fun a W h h' => by go_simp) (fun a h => by go_simp) (fun a W b h => by go_simp) (fun a13_ W13 g13 h13 => ?_)
 rw [cmb_true] at h13
 obtain ⟨k13, rfl⟩ := g13
 rw [World.drewN_drewN]
 refine link_call (N := 108) (s := 102) (m := 4) (p := 101) (j := 96) (X := .pointer (some ⟨w.heap.size, 0, none⟩)) (Y := .pointer (some ⟨w.heap.size + 1, 0, none⟩)) (v0 := .pointer (some ⟨w.heap.size, 14, none⟩)) (v1 := .slice L.A14 n14 L.c14) (v2 := .pointer (some ⟨w.heap.size + 1, 14, none⟩)) (v3 := .slice M.A14 m14 M.c14) (want := true) (r := (((((((((((((r0 && r1) && r2) && r3) && r4) && r5) && r6) && r7) && r8) && r9) && r10) && r11) && r12) && r13)) (q := r14) (R := (fun w' => Below w.heap.size w w')) h13 (by omega) (by omega) (by omega) (by omega) (by omega) (by omega) rfl rfl rfl rfl rfl rfl rfl rfl rfl rfl rfl rfl rfl rfl rfl (fun a h => by go_simp) (fun a h => by have u := U14.out; go_simp) (fun a h => by go_simp) (fun a h => by have u := V14.out; go_simp) (fun a h h' => by go_simp) ((H14.out _ (pw_below_drewN HB.out _)).mono (fun e w' h => ⟨h.1, below_then (pw_below_drewN HB.out _) (pw_below_drewN HB.out _).size h.2⟩)) (pw_below_drewN HB.out _) (fun a W h h' => by go_simp) (fun a h => by go_simp) (fun a W b h => by go_simp) (fun a14_ W14 g14 h14 => ?_)
 rw [cmb_true] at h14
 refine wpList_nil ?_
 rename_i Q1 K1 hK1
 refine hK1 _ _ ?_
 apply wp_ret
 refine bodyPost_ret (results_tmp rfl _ _ _) h14.defers ⟨?_, g14⟩
 rw [Array.getD_eq_getD_getElem?, h14.r]
 rfl
end Go.Proofs.YtdlamomabonkjaaDoor.Ch
end
section
namespace Go.Proofs.YtdlamomabonkjaaDoor.ParDec
open Go.RowKit YtdlamomabonkjaaDoorW.PrintWords PCh ParCauses Base
def vc (x : S72) : PCh.S72 := ⟨x.f0, x.f1⟩
def ints (l : List UInt8) : List Int := l.map fun b => (b.toNat : Int)
theorem ints_length (l : List UInt8) : (ints l).length = l.length := List.length_map ..
theorem w64 (a : Int) (h0 : -9223372036854775808 ≤ a) (h1 : a < 9223372036854775808) : wrap64 a = a := by unfold wrap64; omega
theorem u16n (n : Int) : IntKind.u16.wrap n = n % 65536 := by simp [IntKind.wrap, IntKind.bits, IntKind.signed]
end Go.Proofs.YtdlamomabonkjaaDoor.ParDec
end
section
namespace Go.Proofs.YtdlamomabonkjaaDoor.ParDec
open Go.RowKit YtdlamomabonkjaaDoorW.PrintWords PCh ParEnc
def okP (q : S72) : Prop := 0 ≤ q.f0 ∧ q.f0 < 65536 ∧ q.f1.length ≤ 65531 ∧ ∀ x ∈ q.f1, 0 ≤ x ∧ x < 256
def item (p : S72) : List Int := twoI p.f0 ++ twoI (IntKind.u16.wrap (wrap64 (4 + (p.f1.length : Int)))) ++ p.f1
def encL : List S72 → List Int
 | [] => []
 | [p] => item p
 | p :: q :: r => padL (item p) ++ encL (q :: r)
theorem stepB_item (b : List Int) (p : S72) : stepB b p = padL b ++ item p := by unfold stepB item; simp only [List.append_assoc]
theorem padL_mod (x : List Int) : (padL x).length % 4 = 0 := by unfold padL; rw [List.length_append, List.length_replicate]; omega
theorem padL_app (b x : List Int) (h : b.length % 4 = 0) : padL (b ++ x) = b ++ padL x := by
 unfold padL
 rw [List.append_assoc, List.length_append, show (4 - (b.length + x.length) % 4) % 4 = (4 - x.length % 4) % 4 by omega]
theorem foldB_enc (r : List S72) (p : S72) (b : List Int) : foldB b (p :: r) = padL b ++ encL (p :: r) := by
 induction r generalizing p b with
 | nil => exact stepB_item b p
 | cons q r ih =>
  show foldB (stepB b p) (q :: r) = _
  rw [ih q, stepB_item, padL_app _ _ (padL_mod b), List.append_assoc]
  rfl
theorem foldB_nil (ps : List S72) : foldB [] ps = encL ps := by
 cases ps with
 | nil => rfl
 | cons p r => exact foldB_enc r p []
theorem len16 (p : S72) (h : p.f1.length ≤ 65531) : IntKind.u16.wrap (wrap64 (4 + (p.f1.length : Int))) = ((4 + p.f1.length : Nat) : Int) := by
 rw [u16n, w64 _ (by omega) (by omega)]
 omega
theorem item_len (p : S72) : (item p).length = 4 + p.f1.length := by
 unfold item twoI
 simp only [List.length_append, List.length_cons, List.length_nil]
def tailL (p : S72) : List S72 → List Int
 | [] => []
 | q :: r => List.replicate ((4 - (item p).length % 4) % 4) 0 ++ encL (q :: r)
theorem enc_tail (p : S72) (r : List S72) : encL (p :: r) = item p ++ tailL p r := by
 cases r with
 | nil => exact (List.append_nil _).symm
 | cons q r =>
  show padL (item p) ++ encL (q :: r) = _
  unfold padL tailL
  rw [List.append_assoc]
theorem geti (l : List UInt8) (p i : Nat) : ((l.getD (p + i) 0).toNat : Int) = (ints (l.drop p)).getD i 0 := by
 unfold ints
 rw [List.getD_eq_getElem?_getD, List.getD_eq_getElem?_getD, List.getElem?_map, List.getElem?_drop]
 cases l[p + i]? <;> rfl
theorem ints_drop (l : List UInt8) (p m : Nat) : ints (l.drop (p + m)) = (ints (l.drop p)).drop m := by
 unfold ints
 rw [← List.map_drop, List.drop_drop]
theorem getD_four (a b c d : Int) (t : List Int) : (a :: b :: c :: d :: t).getD 0 0 = a ∧ (a :: b :: c :: d :: t).getD 1 0 = b ∧ (a :: b :: c :: d :: t).getD 2 0 = c ∧ (a :: b :: c :: d :: t).getD 3 0 = d := ⟨rfl, rfl, rfl, rfl⟩
theorem run_enc (l : List UInt8) (ps : List S72) : ∀ (n p : Nat) (acc : List S72), ints (l.drop p) = encL ps → p ≤ l.length → l.length < n + p → acc.length + ps.length ≤ 256 → (∀ q ∈ ps, okP q) → runD l n p acc = .ok (acc ++ ps) := by
 induction ps with
 | nil =>
  intro n p acc h hp hn hl hok
  have h1 : (ints (l.drop p)).length = 0 := by rw [h]; rfl
  rw [ints_length, List.length_drop] at h1
  obtain ⟨m, rfl⟩ : ∃ m, n = m + 1 := ⟨n - 1, by omega⟩
  unfold runD
  rw [if_neg (by omega), List.append_nil]
 | cons q r ih =>
  intro n p acc h hp hn hl hok
  obtain ⟨hq0, hq1, hq2, hq3⟩ := hok q (List.mem_cons_self ..)
  rw [enc_tail] at h
  have h1 : (ints (l.drop p)).length = 4 + q.f1.length + (tailL q r).length := by rw [h, List.length_append, item_len]
  rw [ints_length, List.length_drop] at h1
  obtain ⟨m, rfl⟩ : ∃ m, n = m + 1 := ⟨n - 1, by omega⟩
  have hf : ints (l.drop p) = (q.f0 / 256) % 256 :: q.f0 % 256 :: (((4 + q.f1.length : Nat) : Int) / 256) % 256 :: ((4 + q.f1.length : Nat) : Int) % 256 :: (q.f1 ++ tailL q r) := by
   rw [h]
   unfold item
   rw [len16 q hq2]
   rfl
  have g0 := geti l p 0
  have g1 := geti l p 1
  have g2 := geti l p 2
  have g3 := geti l p 3
  rw [hf] at g0 g1 g2 g3
  obtain ⟨e0, e1, e2, e3⟩ := getD_four ((q.f0 / 256) % 256) (q.f0 % 256) ((((4 + q.f1.length : Nat) : Int) / 256) % 256) (((4 + q.f1.length : Nat) : Int) % 256) (q.f1 ++ tailL q r)
  rw [e0] at g0
  rw [e1] at g1
  rw [e2] at g2
  rw [e3] at g3
  have n0 : ((nI l p : Nat) : Int) = q.f0 := by
   unfold nI
   rw [Nat.add_zero] at g0
   omega
  have n2 : nI l (p + 2) = 4 + q.f1.length := by
   unfold nI
   rw [show p + 2 + 1 = p + 3 from rfl]
   omega
  have hst : stepD l p acc.length = .ok (q, p + min ((4 + q.f1.length + 3) / 4 * 4) (l.length - p)) := by
   unfold stepD
   rw [List.length_cons] at hl
   rw [n2, if_neg (by omega), if_neg (by omega), if_neg (by omega), n0]
   congr 2
   have hb : ((l.drop (p + 4)).take (4 + q.f1.length - 4)).map (fun b => (b.toNat : Int)) = q.f1 := by
    have := ints_drop l p 4
    rw [hf] at this
    rw [List.map_take, show (l.drop (p + 4)).map (fun b => (b.toNat : Int)) = ints (l.drop (p + 4)) from rfl, this]
    show ((q.f1 ++ tailL q r).take _) = _
    rw [show 4 + q.f1.length - 4 = q.f1.length by omega, List.take_left]
   rw [hb]
  unfold runD
  rw [if_pos (by omega), hst]
  show runD l m (p + min ((4 + q.f1.length + 3) / 4 * 4) (l.length - p)) (acc ++ [q]) = _
  rw [List.length_cons] at hl
  have hgo : ints (l.drop (p + min ((4 + q.f1.length + 3) / 4 * 4) (l.length - p))) = encL r := by
   rw [ints_drop, h, h1]
   cases r with
   | nil =>
    rw [show tailL q [] = [] from rfl, List.append_nil]
    refine List.drop_eq_nil_of_le ?_
    rw [item_len, List.length_nil]
    omega
   | cons q2 r2 =>
    have ht : (tailL q (q2 :: r2)).length = (4 - (4 + q.f1.length) % 4) % 4 + (encL (q2 :: r2)).length := by
     unfold tailL
     rw [List.length_append, List.length_replicate, item_len]
    have hm : min ((4 + q.f1.length + 3) / 4 * 4) (4 + q.f1.length + (tailL q (q2 :: r2)).length) = (item q).length + (4 - (4 + q.f1.length) % 4) % 4 := by rw [ht, item_len]; omega
    rw [hm, ← List.drop_drop, List.drop_left]
    unfold tailL
    rw [item_len, List.drop_left' (by rw [List.length_replicate])]
  have := ih m (p + min ((4 + q.f1.length + 3) / 4 * 4) (l.length - p)) (acc ++ [q]) hgo (by omega) (by omega) (by rw [List.length_append, List.length_singleton]; omega) (fun x hx => hok x (List.mem_cons_of_mem _ hx))
  rw [this, List.append_assoc]
  rfl
def inB (x : Int) : Prop := 0 ≤ x ∧ x < 256
theorem two_in (a : Int) : ∀ x ∈ twoI a, inB x := by
 intro x hx
 unfold twoI at hx
 rcases List.mem_cons.1 hx with rfl | hx
 ·unfold inB; omega
 ·rw [List.mem_singleton.1 hx]
  unfold inB; omega
theorem step_in {b : List Int} {q : S72} (hb : ∀ x ∈ b, inB x) (hq : okP q) : ∀ x ∈ stepB b q, inB x := by
 intro x hx
 unfold stepB padL at hx
 simp only [List.mem_append] at hx
 rcases hx with (((hx | hx) | hx) | hx) | hx
 ·exact hb x hx
 ·rw [(List.mem_replicate.1 hx).2]
  unfold inB; omega
 ·exact two_in _ x hx
 ·exact two_in _ x hx
 ·exact hq.2.2.2 x hx
theorem fold_in (ps : List S72) : ∀ (b : List Int), (∀ x ∈ b, inB x) → (∀ q ∈ ps, okP q) → ∀ x ∈ foldB b ps, inB x := by
 induction ps with
 | nil => intro b hb _; exact hb
 | cons q r ih => intro b hb hq; exact ih (stepB b q) (step_in hb (hq q (List.mem_cons_self ..))) (fun x hx => hq x (List.mem_cons_of_mem _ hx))
def bytesOf (l : List Int) : List UInt8 := l.map fun x => UInt8.ofNat x.toNat
theorem ints_bytesOf (l : List Int) (h : ∀ x ∈ l, inB x) : ints (bytesOf l) = l := by
 unfold ints bytesOf
 rw [List.map_map]
 conv => rhs; rw [← List.map_id l]
 refine List.map_congr_left fun x hx => ?_
 have := h x hx
 unfold inB at this
 show ((UInt8.ofNat x.toNat).toNat : Int) = x
 rw [UInt8.toNat_ofNat']
 omega
theorem back_dec (ps : List S72) (hl : ps.length ≤ 256) (hok : ∀ q ∈ ps, okP q) : decD (bytesOf (foldB [] ps)) = (ps, 0, 0) := by
 refine decD_ok ?_
 have h1 := ints_bytesOf (foldB [] ps) (fold_in ps [] (fun x hx => by cases hx) hok)
 have := run_enc (bytesOf (foldB [] ps)) ps ((bytesOf (foldB [] ps)).length + 1) 0 [] (by rw [List.drop_zero, h1, foldB_nil]) (Nat.zero_le _) (by omega) (by simpa using hl) hok
 rw [this, List.nil_append]
end Go.Proofs.YtdlamomabonkjaaDoor.ParDec
end
section
namespace Go.Proofs.YtdlamomabonkjaaDoor.Ch
open Go.RowKit YtdlamomabonkjaaDoorW.PrintWords Base PCh ParEnc ParDec ParCauses
structure OkB (x : Chk) : Prop where
 body : ∀ b ∈ x.f13, inB b
 prm : ∀ p ∈ x.f14, ∀ b ∈ p.f1, inB b
theorem str_eq {l l' : List Int} (h : ∀ b ∈ l, inB b) (h' : ∀ b ∈ l', inB b) : ((strOfNums l).toList == (strOfNums l').toList) = decide (l = l') := by
 have e := ints_bytesOf l h
 have e' := ints_bytesOf l' h'
 have n : strOfNums l = bstr (bytesOf l) := by rw [← nums_bstr]; exact congrArg strOfNums e.symm
 have n' : strOfNums l' = bstr (bytesOf l') := by rw [← nums_bstr]; exact congrArg strOfNums e'.symm
 rw [n, n', bstr_eq]
 exact decide_eq_decide.2 ⟨fun hb => by rw [← e, ← e', hb], fun hl => by rw [hl]⟩
theorem sameP_eq (ps qs : List PrmS) (h : ∀ p ∈ ps, ∀ b ∈ p.f1, inB b) (h' : ∀ p ∈ qs, ∀ b ∈ p.f1, inB b) : sameP ps qs = decide (ps = qs) := by
 induction ps generalizing qs with
 | nil => cases qs with
  | nil => simp [sameP]
  | cons q qs => simp [sameP]
 | cons p ps ih =>
  cases qs with
  | nil => simp [sameP]
  | cons q qs =>
   unfold sameP sameQ
   rw [ih qs (fun r hr => h r (List.mem_cons_of_mem _ hr)) (fun r hr => h' r (List.mem_cons_of_mem _ hr)), str_eq (h p (List.mem_cons_self ..)) (h' q (List.mem_cons_self ..))]
   by_cases e0 : p.f0 = q.f0
   ·by_cases e1 : p.f1 = q.f1
    ·obtain rfl := prm_ext e0 e1
     simp
    ·have : p ≠ q := fun e => e1 (congrArg _ e)
     simp [e1, this]
   ·have : p ≠ q := fun e => e0 (congrArg _ e)
    simp [e0, this]
theorem rgap_run (l0 l1 : List GapS) (hl : l0.length = l1.length) (hm : l0.length ≤ 9223372036854775807) (m i : Nat) (hi : i + m = l0.length) : ∃ k, ropewalkref06_sameGaps.l0 k l0 l1 (i : Int) = some (decide (l0.drop i = l1.drop i)) := by
 induction m generalizing i with
 | zero =>
  refine ⟨1, ?_⟩
  unfold ropewalkref06_sameGaps.l0
  rw [if_neg (by omega), show i = l0.length by omega, List.drop_length, hl, List.drop_length]
  rfl
 | succ m ih =>
  obtain ⟨k, hk⟩ := ih (i + 1) (by omega)
  refine ⟨k + 1, ?_⟩
  unfold ropewalkref06_sameGaps.l0
  rw [if_pos (by omega), if_pos (by omega), if_pos (by omega), gap_drop l0 i (by omega), gap_drop l1 i (by omega), show wrap64 ((i : Int) + 1) = ((i + 1 : Nat) : Int) by unfold wrap64; omega, hk]
  by_cases h : rd_T117 l0 (i : Int) = rd_T117 l1 (i : Int)
  ·rw [h]
   simp
  ·have hc : (!((rd_T117 l0 (i : Int)).f0 == (rd_T117 l1 (i : Int)).f0) || (!((rd_T117 l0 (i : Int)).f1 == (rd_T117 l1 (i : Int)).f1))) = true := by
    by_cases h0 : (rd_T117 l0 (i : Int)).f0 = (rd_T117 l1 (i : Int)).f0
    ·by_cases h1 : (rd_T117 l0 (i : Int)).f1 = (rd_T117 l1 (i : Int)).f1
     ·exact absurd (gap_ext h0 h1) h
     ·simp [h1]
    ·simp [h0]
   rw [if_pos hc, decide_eq_false (fun e => h (List.cons.inj e).1)]
theorem rgaps_calls (w : World) (A0 A1 : Option Addr) (c0 c1 : Nat) (l0 l1 : List GapS) (h0 : Kd.C k117 w A0 l0.length l0) (g0 : l0.length ≤ c0) (h1 : Kd.C k117 w A1 l1.length l1) (g1 : l1.length ≤ c1) :
  Calls Tryd.prog 61 #[.slice A0 l0.length c0, .slice A1 l1.length c1] w fun e w' => e = .returned (.bool (decide (l0 = l1))) ∧ Drawn0 w w' := by
 have hf : ∃ k, ropewalkref06_sameGaps.f k l0 l1 = some (decide (l0 = l1)) := by
  by_cases hl : l0.length = l1.length
  ·obtain ⟨k, hk⟩ := rgap_run l0 l1 hl (max_len h0) l0.length 0 (by omega)
   refine ⟨k, ?_⟩
   unfold ropewalkref06_sameGaps.f
   rw [if_pos (by omega)]
   exact hk
  ·refine ⟨0, ?_⟩
   unfold ropewalkref06_sameGaps.f
   rw [if_neg (by omega), decide_eq_false (fun e => hl (congrArg List.length e))]
 obtain ⟨k, hk⟩ := hf
 exact ropewalkref06_sameGaps.calls k A0 c0 l0 A1 c1 l1 _ w h0 g0 h1 g1 hk
theorem int_at {k : IntKind} {w : World} {A : Option Addr} {n : Nat} {l : List Int} (h : (Kd.int k).C w A n l) (i : Nat) (hi : i < n) : ∃ ad, A = some ad ∧ w.cell? (ad.add i) = some (.int k (l.getD i 0)) := by
 obtain ⟨_, _, h3⟩ := Kd.reads_of_C (enc := Value.int k) (d := (0 : Int)) (h1 := fun _ => rfl) h
 obtain ⟨ad, e, hc⟩ := h3 (by omega)
 exact ⟨ad, e, hc i hi⟩
theorem drawn_le (w : World) (n m : Nat) (h : n ≤ m) : Drawn0 (w.drewN n) (w.drewN m) := by
 refine ⟨m - n, ?_⟩
 rw [World.drewN_drewN]
 congr 1
 omega
theorem neq_chain (a b c d e f g h i j : Bool) : (!a || !b || !c || !d || !e || !f || !g || !h || !i || !j) = !(a && b && c && d && e && f && g && h && i && j) := by
 simp [Bool.not_and]
set_option maxHeartbeats 4000000 in
theorem rsame_calls (w : World) (x y : Chk) (L M : Lay) (hx : CR w x L) (hy : CR w y M) (ox : OkB x) (oy : OkB y) :
  Calls Tryd.prog 32 #[.agg (CV x L), .agg (CV y M)] w fun e w' => e = .returned (.bool (decide (x = y))) ∧ Below w.heap.size w w' := by
 rw [chk_decide]
 have HD := Lh (neq_chain (x.f0 == y.f0) (x.f1 == y.f1) (x.f2 == y.f2) (x.f3 == y.f3) (x.f4 == y.f4) (x.f5 == y.f5) (x.f6 == y.f6) (x.f7 == y.f7) (x.f8 == y.f8) (x.f9 == y.f9))
 have H10 := Lh (fun (W : World) (hb : Below w.heap.size w W) => rgaps_calls W L.A10 M.A10 L.c10 M.c10 x.f10 y.f10 (Kd.C_below hx.h10 hb) hx.l10 (Kd.C_below hy.h10 hb) hy.l10)
 have H11 := Lh (fun (W : World) (hb : Below w.heap.size w W) => rgaps_calls W L.A11 M.A11 L.c11 M.c11 x.f11 y.f11 (Kd.C_below hx.h11 hb) hx.l11 (Kd.C_below hy.h11 hb) hy.l11)
 have H12 := Lh (fun (W : World) (hb : Below w.heap.size w W) => Kd.C_below hx.h12 hb)
 have G12 := Lh (fun (W : World) (hb : Below w.heap.size w W) => Kd.C_below hy.h12 hb)
 have H13 := Lh (fun (W : World) (hb : Below w.heap.size w W) => Kd.C_string (P := Tryd.prog) (c := L.c13) Tryd.underlying27 Tryd.underlying5 Tryd.underlying9 (Kd.C_below hx.h13 hb))
 have G13 := Lh (fun (W : World) (hb : Below w.heap.size w W) => Kd.C_string (P := Tryd.prog) (c := M.c13) Tryd.underlying27 Tryd.underlying5 Tryd.underlying9 (Kd.C_below hy.h13 hb))
 have H14 := Lh (fun (W : World) (hb : Below w.heap.size w W) => refSame_calls W L.A14 L.c14 x.f14 M.A14 M.c14 y.f14 (Kd.C_below hx.h14 hb) (Kd.C_below hy.h14 hb))
 rw [sameP_eq _ _ ox.prm oy.prm] at H14
 have HS := Lh (str_eq ox.body oy.body)
 have z12 := hx.h12.2.1
 have z13 := hy.h12.2.1
 clear hx hy ox oy
 have HB := Lh (below_alloc (below_alloc (Below.refl w.heap.size w) (.cells (CV x L) 41)) (.cells (CV y M) 41))
 have O0 := Lh (show ((w.alloc (.cells (CV x L) 41)).alloc (.cells (CV y M) 41)).heap[w.heap.size]? = some (.cells (CV x L) 41 (0, 0)) from blk_alloc (blk_new _ _) _)
 have O1 := Lh (show ((w.alloc (.cells (CV x L) 41)).alloc (.cells (CV y M) 41)).heap[w.heap.size + 1]? = some (.cells (CV y M) 41 (0, 0)) by have h := blk_new (w.alloc (.cells (CV x L) 41)) (.cells (CV y M) 41); rw [World.size_alloc] at h; exact h)
 have u0 := (blk_cell O0.out 0).trans (show (CV x L)[0]? = some (.int .u8 x.f0) from rfl)
 have v0 := (blk_cell O1.out 0).trans (show (CV y M)[0]? = some (.int .u8 y.f0) from rfl)
 have U0 := Lh u0
 have V0 := Lh v0
 clear u0 v0
 have u1 := (blk_cell O0.out 1).trans (show (CV x L)[1]? = some (.int .u8 x.f1) from rfl)
 have v1 := (blk_cell O1.out 1).trans (show (CV y M)[1]? = some (.int .u8 y.f1) from rfl)
 have U1 := Lh u1
 have V1 := Lh v1
 clear u1 v1
 have u2 := (blk_cell O0.out 2).trans (show (CV x L)[2]? = some (.int .u32 x.f2) from rfl)
 have v2 := (blk_cell O1.out 2).trans (show (CV y M)[2]? = some (.int .u32 y.f2) from rfl)
 have U2 := Lh u2
 have V2 := Lh v2
 clear u2 v2
 have u3 := (blk_cell O0.out 3).trans (show (CV x L)[3]? = some (.int .u16 x.f3) from rfl)
 have v3 := (blk_cell O1.out 3).trans (show (CV y M)[3]? = some (.int .u16 y.f3) from rfl)
 have U3 := Lh u3
 have V3 := Lh v3
 clear u3 v3
 have u4 := (blk_cell O0.out 4).trans (show (CV x L)[4]? = some (.int .u16 x.f4) from rfl)
 have v4 := (blk_cell O1.out 4).trans (show (CV y M)[4]? = some (.int .u16 y.f4) from rfl)
 have U4 := Lh u4
 have V4 := Lh v4
 clear u4 v4
 have u5 := (blk_cell O0.out 5).trans (show (CV x L)[5]? = some (.int .u32 x.f5) from rfl)
 have v5 := (blk_cell O1.out 5).trans (show (CV y M)[5]? = some (.int .u32 y.f5) from rfl)
 have U5 := Lh u5
 have V5 := Lh v5
 clear u5 v5
 have u6 := (blk_cell O0.out 6).trans (show (CV x L)[6]? = some (.int .u32 x.f6) from rfl)
 have v6 := (blk_cell O1.out 6).trans (show (CV y M)[6]? = some (.int .u32 y.f6) from rfl)
 have U6 := Lh u6
 have V6 := Lh v6
 clear u6 v6
 have u7 := (blk_cell O0.out 7).trans (show (CV x L)[7]? = some (.int .u32 x.f7) from rfl)
 have v7 := (blk_cell O1.out 7).trans (show (CV y M)[7]? = some (.int .u32 y.f7) from rfl)
 have U7 := Lh u7
 have V7 := Lh v7
 clear u7 v7
 have u8 := (blk_cell O0.out 8).trans (show (CV x L)[8]? = some (.int .u16 x.f8) from rfl)
 have v8 := (blk_cell O1.out 8).trans (show (CV y M)[8]? = some (.int .u16 y.f8) from rfl)
 have U8 := Lh u8
 have V8 := Lh v8
 clear u8 v8
 have u9 := (blk_cell O0.out 9).trans (show (CV x L)[9]? = some (.int .u16 x.f9) from rfl)
 have v9 := (blk_cell O1.out 9).trans (show (CV y M)[9]? = some (.int .u16 y.f9) from rfl)
 have U9 := Lh u9
 have V9 := Lh v9
 clear u9 v9
 have u10 := (blk_cell O0.out 10).trans (show (CV x L)[10]? = some (.slice L.A10 x.f10.length L.c10) from rfl)
 have v10 := (blk_cell O1.out 10).trans (show (CV y M)[10]? = some (.slice M.A10 y.f10.length M.c10) from rfl)
 have U10 := Lh u10
 have V10 := Lh v10
 clear u10 v10
 have u11 := (blk_cell O0.out 11).trans (show (CV x L)[11]? = some (.slice L.A11 x.f11.length L.c11) from rfl)
 have v11 := (blk_cell O1.out 11).trans (show (CV y M)[11]? = some (.slice M.A11 y.f11.length M.c11) from rfl)
 have U11 := Lh u11
 have V11 := Lh v11
 clear u11 v11
 have u12 := (blk_cell O0.out 12).trans (show (CV x L)[12]? = some (.slice L.A12 x.f12.length L.c12) from rfl)
 have v12 := (blk_cell O1.out 12).trans (show (CV y M)[12]? = some (.slice M.A12 y.f12.length M.c12) from rfl)
 have U12 := Lh u12
 have V12 := Lh v12
 clear u12 v12
 have u13 := (blk_cell O0.out 13).trans (show (CV x L)[13]? = some (.slice L.A13 x.f13.length L.c13) from rfl)
 have v13 := (blk_cell O1.out 13).trans (show (CV y M)[13]? = some (.slice M.A13 y.f13.length M.c13) from rfl)
 have U13 := Lh u13
 have V13 := Lh v13
 clear u13 v13
 have u14 := (blk_cell O0.out 14).trans (show (CV x L)[14]? = some (.slice L.A14 x.f14.length L.c14) from rfl)
 have v14 := (blk_cell O1.out 14).trans (show (CV y M)[14]? = some (.slice M.A14 y.f14.length M.c14) from rfl)
 have U14 := Lh u14
 have V14 := Lh v14
 clear u14 v14
 clear O0 O1
 have HL := Lh (show decide (x.f12 = y.f12) = (decide (x.f12.length = y.f12.length) && decide (x.f12 = y.f12)) by by_cases h : x.f12 = y.f12 <;> simp [h])
 generalize x.f12 = l0 at *
 generalize y.f12 = l1 at *
 generalize decide (x.f10 = y.f10) = r10 at *
 generalize decide (x.f11 = y.f11) = r11 at *
 generalize decide (x.f14 = y.f14) = r14 at *
 generalize strOfNums x.f13 = s0 at *
 generalize strOfNums y.f13 = s1 at *
 generalize decide (x.f13 = y.f13) = r13 at *
 generalize x.f10.length = n10 at *
 generalize y.f10.length = m10 at *
 generalize x.f11.length = n11 at *
 generalize y.f11.length = m11 at *
 generalize x.f13.length = n13 at *
 generalize y.f13.length = m13 at *
 generalize x.f14.length = n14 at *
 generalize y.f14.length = m14 at *
 generalize x.f0 = a0 at *
 generalize y.f0 = b0 at *
 generalize x.f1 = a1 at *
 generalize y.f1 = b1 at *
 generalize x.f2 = a2 at *
 generalize y.f2 = b2 at *
 generalize x.f3 = a3 at *
 generalize y.f3 = b3 at *
 generalize x.f4 = a4 at *
 generalize y.f4 = b4 at *
 generalize x.f5 = a5 at *
 generalize y.f5 = b5 at *
 generalize x.f6 = a6 at *
 generalize y.f6 = b6 at *
 generalize x.f7 = a7 at *
 generalize y.f7 = b7 at *
 generalize x.f8 = a8 at *
 generalize y.f8 = b8 at *
 generalize x.f9 = a9 at *
 generalize y.f9 = b9 at *
 have Q0 := Lh (show (a0 != b0) = !(a0 == b0) from rfl)
 have Q1 := Lh (show (a1 != b1) = !(a1 == b1) from rfl)
 have Q2 := Lh (show (a2 != b2) = !(a2 == b2) from rfl)
 have Q3 := Lh (show (a3 != b3) = !(a3 == b3) from rfl)
 have Q4 := Lh (show (a4 != b4) = !(a4 == b4) from rfl)
 have Q5 := Lh (show (a5 != b5) = !(a5 == b5) from rfl)
 have Q6 := Lh (show (a6 != b6) = !(a6 == b6) from rfl)
 have Q7 := Lh (show (a7 != b7) = !(a7 == b7) from rfl)
 have Q8 := Lh (show (a8 != b8) = !(a8 == b8) from rfl)
 have Q9 := Lh (show (a9 != b9) = !(a9 == b9) from rfl)
 generalize (!(a0 == b0)) = r0 at *
 generalize (!(a1 == b1)) = r1 at *
 generalize (!(a2 == b2)) = r2 at *
 generalize (!(a3 == b3)) = r3 at *
 generalize (!(a4 == b4)) = r4 at *
 generalize (!(a5 == b5)) = r5 at *
 generalize (!(a6 == b6)) = r6 at *
 generalize (!(a7 == b7)) = r7 at *
 generalize (!(a8 == b8)) = r8 at *
 generalize (!(a9 == b9)) = r9 at *
 generalize ((((((((((a0 == b0) && (a1 == b1)) && (a2 == b2)) && (a3 == b3)) && (a4 == b4)) && (a5 == b5)) && (a6 == b6)) && (a7 == b7)) && (a8 == b8)) && (a9 == b9)) = E at *
 generalize CV x L = CX at *
 generalize CV y M = CY at *
 generalize L.A12 = P0 at *
 generalize M.A12 = P1 at *
 go_enter Tryd.func32, Tryd.ntmps32
 go_upto_region 1 with (fail)
 generalize (w.alloc (.cells CX 41)).alloc (.cells CY 41) = W at *
 refine wp_region_lit ?_
 (try simp only [List.cons_append, List.nil_append])
 refine link_first (N := 129) (s := 6) (X := .pointer (some ⟨w.heap.size, 0, none⟩)) (Y := .pointer (some ⟨w.heap.size + 1, 0, none⟩)) (v0 := .pointer (some ⟨w.heap.size, 0, none⟩)) (v1 := .int .u8 a0) (v2 := .pointer (some ⟨w.heap.size + 1, 0, none⟩)) (v3 := .int .u8 b0) (q := r0) (by rfl) rfl (by rfl) (by rfl) (by omega) (by omega) rfl rfl rfl rfl rfl rfl rfl rfl rfl rfl rfl rfl (fun a h => by go_simp) (fun a h => by have u := U0.out; go_simp) (fun a h => by go_simp) (fun a h => by have u := V0.out; go_simp) (fun a h h' => by have q := Q0.out; go_simp) (fun a b h => by go_simp) (fun a0_ h0 => ?_)
 refine link (N := 129) (s := 12) (m := 18) (p := 11) (j := 5) (X := .pointer (some ⟨w.heap.size, 0, none⟩)) (Y := .pointer (some ⟨w.heap.size + 1, 0, none⟩)) (v0 := .pointer (some ⟨w.heap.size, 1, none⟩)) (v1 := .int .u8 a1) (v2 := .pointer (some ⟨w.heap.size + 1, 1, none⟩)) (v3 := .int .u8 b1) (want := false) (r := r0) (q := r1) h0 (by omega) (by omega) (by omega) (by omega) (by omega) (by omega) rfl rfl rfl rfl rfl rfl rfl rfl rfl rfl rfl rfl rfl rfl rfl (fun a h => by go_simp) (fun a h => by have u := U1.out; go_simp) (fun a h => by go_simp) (fun a h => by have u := V1.out; go_simp) (fun a h h' => by have q := Q1.out; go_simp) (fun a h h' => by go_simp) (fun a h => by go_simp) (fun a b h => by go_simp) (fun a1_ h1 => ?_)
 rw [cmb_false] at h1
 refine link (N := 129) (s := 19) (m := 25) (p := 18) (j := 12) (X := .pointer (some ⟨w.heap.size, 0, none⟩)) (Y := .pointer (some ⟨w.heap.size + 1, 0, none⟩)) (v0 := .pointer (some ⟨w.heap.size, 2, none⟩)) (v1 := .int .u32 a2) (v2 := .pointer (some ⟨w.heap.size + 1, 2, none⟩)) (v3 := .int .u32 b2) (want := false) (r := (r0 || r1)) (q := r2) h1 (by omega) (by omega) (by omega) (by omega) (by omega) (by omega) rfl rfl rfl rfl rfl rfl rfl rfl rfl rfl rfl rfl rfl rfl rfl (fun a h => by go_simp) (fun a h => by have u := U2.out; go_simp) (fun a h => by go_simp) (fun a h => by have u := V2.out; go_simp) (fun a h h' => by have q := Q2.out; go_simp) (fun a h h' => by go_simp) (fun a h => by go_simp) (fun a b h => by go_simp) (fun a2_ h2 => ?_)
 rw [cmb_false] at h2
 refine link (N := 129) (s := 26) (m := 32) (p := 25) (j := 19) (X := .pointer (some ⟨w.heap.size, 0, none⟩)) (Y := .pointer (some ⟨w.heap.size + 1, 0, none⟩)) (v0 := .pointer (some ⟨w.heap.size, 3, none⟩)) (v1 := .int .u16 a3) (v2 := .pointer (some ⟨w.heap.size + 1, 3, none⟩)) (v3 := .int .u16 b3) (want := false) (r := ((r0 || r1) || r2)) (q := r3) h2 (by omega) (by omega) (by omega) (by omega) (by omega) (by omega) rfl rfl rfl rfl rfl rfl rfl rfl rfl rfl rfl rfl rfl rfl rfl (fun a h => by go_simp) (fun a h => by have u := U3.out; go_simp) (fun a h => by go_simp) (fun a h => by have u := V3.out; go_simp) (fun a h h' => by have q := Q3.out; go_simp) (fun a h h' => by go_simp) (fun a h => by go_simp) (fun a b h => by go_simp) (fun a3_ h3 => ?_)
 rw [cmb_false] at h3
 refine link (N := 129) (s := 33) (m := 39) (p := 32) (j := 26) (X := .pointer (some ⟨w.heap.size, 0, none⟩)) (Y := .pointer (some ⟨w.heap.size + 1, 0, none⟩)) (v0 := .pointer (some ⟨w.heap.size, 4, none⟩)) (v1 := .int .u16 a4) (v2 := .pointer (some ⟨w.heap.size + 1, 4, none⟩)) (v3 := .int .u16 b4) (want := false) (r := (((r0 || r1) || r2) || r3)) (q := r4) h3 (by omega) (by omega) (by omega) (by omega) (by omega) (by omega) rfl rfl rfl rfl rfl rfl rfl rfl rfl rfl rfl rfl rfl rfl rfl (fun a h => by go_simp) (fun a h => by have u := U4.out; go_simp) (fun a h => by go_simp) (fun a h => by have u := V4.out; go_simp) (fun a h h' => by have q := Q4.out; go_simp) (fun a h h' => by go_simp) (fun a h => by go_simp) (fun a b h => by go_simp) (fun a4_ h4 => ?_)
 rw [cmb_false] at h4
 refine link (N := 129) (s := 40) (m := 46) (p := 39) (j := 33) (X := .pointer (some ⟨w.heap.size, 0, none⟩)) (Y := .pointer (some ⟨w.heap.size + 1, 0, none⟩)) (v0 := .pointer (some ⟨w.heap.size, 5, none⟩)) (v1 := .int .u32 a5) (v2 := .pointer (some ⟨w.heap.size + 1, 5, none⟩)) (v3 := .int .u32 b5) (want := false) (r := ((((r0 || r1) || r2) || r3) || r4)) (q := r5) h4 (by omega) (by omega) (by omega) (by omega) (by omega) (by omega) rfl rfl rfl rfl rfl rfl rfl rfl rfl rfl rfl rfl rfl rfl rfl (fun a h => by go_simp) (fun a h => by have u := U5.out; go_simp) (fun a h => by go_simp) (fun a h => by have u := V5.out; go_simp) (fun a h h' => by have q := Q5.out; go_simp) (fun a h h' => by go_simp) (fun a h => by go_simp) (fun a b h => by go_simp) (fun a5_ h5 => ?_)
 rw [cmb_false] at h5
 refine link (N := 129) (s := 47) (m := 53) (p := 46) (j := 40) (X := .pointer (some ⟨w.heap.size, 0, none⟩)) (Y := .pointer (some ⟨w.heap.size + 1, 0, none⟩)) (v0 := .pointer (some ⟨w.heap.size, 6, none⟩)) (v1 := .int .u32 a6) (v2 := .pointer (some ⟨w.heap.size + 1, 6, none⟩)) (v3 := .int .u32 b6) (want := false) (r := (((((r0 || r1) || r2) || r3) || r4) || r5)) (q := r6) h5 (by omega) (by omega) (by omega) (by omega) (by omega) (by omega) rfl rfl rfl rfl rfl rfl rfl rfl rfl rfl rfl rfl rfl rfl rfl (fun a h => by go_simp) (fun a h => by have u := U6.out; go_simp) (fun a h => by go_simp) (fun a h => by have u := V6.out; go_simp) (fun a h h' => by have q := Q6.out; go_simp) (fun a h h' => by go_simp) (fun a h => by go_simp) (fun a b h => by go_simp) (fun a6_ h6 => ?_)
 rw [cmb_false] at h6
 refine link (N := 129) (s := 54) (m := 60) (p := 53) (j := 47) (X := .pointer (some ⟨w.heap.size, 0, none⟩)) (Y := .pointer (some ⟨w.heap.size + 1, 0, none⟩)) (v0 := .pointer (some ⟨w.heap.size, 7, none⟩)) (v1 := .int .u32 a7) (v2 := .pointer (some ⟨w.heap.size + 1, 7, none⟩)) (v3 := .int .u32 b7) (want := false) (r := ((((((r0 || r1) || r2) || r3) || r4) || r5) || r6)) (q := r7) h6 (by omega) (by omega) (by omega) (by omega) (by omega) (by omega) rfl rfl rfl rfl rfl rfl rfl rfl rfl rfl rfl rfl rfl rfl rfl (fun a h => by go_simp) (fun a h => by have u := U7.out; go_simp) (fun a h => by go_simp) (fun a h => by have u := V7.out; go_simp) (fun a h h' => by have q := Q7.out; go_simp) (fun a h h' => by go_simp) (fun a h => by go_simp) (fun a b h => by go_simp) (fun a7_ h7 => ?_)
 rw [cmb_false] at h7
 refine link (N := 129) (s := 61) (m := 67) (p := 60) (j := 54) (X := .pointer (some ⟨w.heap.size, 0, none⟩)) (Y := .pointer (some ⟨w.heap.size + 1, 0, none⟩)) (v0 := .pointer (some ⟨w.heap.size, 8, none⟩)) (v1 := .int .u16 a8) (v2 := .pointer (some ⟨w.heap.size + 1, 8, none⟩)) (v3 := .int .u16 b8) (want := false) (r := (((((((r0 || r1) || r2) || r3) || r4) || r5) || r6) || r7)) (q := r8) h7 (by omega) (by omega) (by omega) (by omega) (by omega) (by omega) rfl rfl rfl rfl rfl rfl rfl rfl rfl rfl rfl rfl rfl rfl rfl (fun a h => by go_simp) (fun a h => by have u := U8.out; go_simp) (fun a h => by go_simp) (fun a h => by have u := V8.out; go_simp) (fun a h h' => by have q := Q8.out; go_simp) (fun a h h' => by go_simp) (fun a h => by go_simp) (fun a b h => by go_simp) (fun a8_ h8 => ?_)
 rw [cmb_false] at h8
 refine link6 (N := 129) (s := 68) (p := 67) (j := 61) (X := .pointer (some ⟨w.heap.size, 0, none⟩)) (Y := .pointer (some ⟨w.heap.size + 1, 0, none⟩)) (v0 := .pointer (some ⟨w.heap.size, 9, none⟩)) (v1 := .int .u16 a9) (v2 := .pointer (some ⟨w.heap.size + 1, 9, none⟩)) (v3 := .int .u16 b9) (want := false) (r := ((((((((r0 || r1) || r2) || r3) || r4) || r5) || r6) || r7) || r8)) (q := r9) h8 (by omega) (by omega) (by omega) rfl rfl rfl rfl rfl rfl rfl rfl rfl rfl rfl rfl rfl (fun a h => by go_simp) (fun a h => by have u := U9.out; go_simp) (fun a h => by go_simp) (fun a h => by have u := V9.out; go_simp) (fun a h h' => by have q := Q9.out; go_simp) (fun a h h' => by go_simp) (fun a h => by go_simp) (fun a9_ h9 => ?_)
 rw [cmb_false] at h9
 rw [HD.out] at h9
 clear HD h0 h1 h2 h3 h4 h5 h6 h7 h8
 refine wpList_nil ?_
 obtain ⟨f, hf, ha⟩ := act_lit h9.size h9.defers
 have f2 := hf _ _ h9.x
 have f3 := hf _ _ h9.y
 have f73 := hf _ _ h9.r
 clear h9 hf
 subst ha
 rw [show ((List.range 129).map f).toArray = #[f 0, f 1, f 2, f 3, f 4, f 5, f 6, f 7, f 8, f 9, f 10, f 11, f 12, f 13, f 14, f 15, f 16, f 17, f 18, f 19, f 20, f 21, f 22, f 23, f 24, f 25, f 26, f 27, f 28, f 29, f 30, f 31, f 32, f 33, f 34, f 35, f 36, f 37, f 38, f 39, f 40, f 41, f 42, f 43, f 44, f 45, f 46, f 47, f 48, f 49, f 50, f 51, f 52, f 53, f 54, f 55, f 56, f 57, f 58, f 59, f 60, f 61, f 62, f 63, f 64, f 65, f 66, f 67, f 68, f 69, f 70, f 71, f 72, f 73, f 74, f 75, f 76, f 77, f 78, f 79, f 80, f 81, f 82, f 83, f 84, f 85, f 86, f 87, f 88, f 89, f 90, f 91, f 92, f 93, f 94, f 95, f 96, f 97, f 98, f 99, f 100, f 101, f 102, f 103, f 104, f 105, f 106, f 107, f 108, f 109, f 110, f 111, f 112, f 113, f 114, f 115, f 116, f 117, f 118, f 119, f 120, f 121, f 122, f 123, f 124, f 125, f 126, f 127, f 128] from rfl, f2, f3, f73]
 rename_i K1 hK1
 refine hK1 _ _ ?_
 have u10 := U10.out
 have v10 := V10.out
 have u11 := U11.out
 have v11 := V11.out
 have u12 := U12.out
 have v12 := V12.out
 have u13 := U13.out
 have v13 := V13.out
 have u14 := U14.out
 have v14 := V14.out
 clear f2 f3 f73 hK1 U0 V0 U1 V1 U2 V2 U3 V3 U4 V4 U5 V5 U6 V6 U7 V7 U8 V8 U9 V9 U10 V10 U11 V11 U12 V12 U13 V13 U14 V14 Q0 Q1 Q2 Q3 Q4 Q5 Q6 Q7 Q8 Q9
 have HB0 := Lh (fun n => pw_below_drewN HB.out n)
 cases E with
 | false =>
  have t : (!false) = true := rfl
  go_wp2
  go_ret
  exact ⟨rfl, HB.out⟩
 | true =>
  have t : (!true) = false := rfl
  rw [t]
  go_wp2_with fail
  refine (H10.out _ HB.out).mono ?_
  rintro e w1 ⟨rfl, ⟨k1, rfl⟩⟩
  cases r10 with
  | false =>
   go_wp2
   go_ret
   exact ⟨rfl, HB0.out _⟩
  | true =>
   go_wp2_with fail
   refine (H11.out _ (HB0.out _)).mono ?_
   rintro e w1 ⟨rfl, ⟨k2, rfl⟩⟩
   rw [World.drewN_drewN]
   cases r11 with
   | false =>
    go_wp2
    go_ret
    exact ⟨rfl, HB0.out _⟩
   | true =>
    by_cases hl : l0.length = l1.length
    ·have ht : (((l0.length : Nat) : Int) != ((l1.length : Nat) : Int)) = false := by simp [hl]
     have c1 := H13.out _ (HB0.out (k1 + k2))
     have c2 := G13.out _ (HB0.out (k1 + k2))
     have hs := HS.out
     clear HS
     cases r13 with
     | false =>
      go_wp2
      go_ret
      exact ⟨by simp, HB0.out _⟩
     | true =>
      have HLE := Lh hl
      have ht2 : ¬ ((l0.length : Nat) : Int) ≠ ((l1.length : Nat) : Int) := by omega
      clear hl
      go_wp2
      go_loopw [5] (fun v5 w' => ∃ i : Nat, i ≤ l0.length ∧ v5 = .int .i64 i ∧ Hid (decide (l0 = l1) = decide (l0.drop i = l1.drop i)) ∧ Hid (Drawn0 (W.drewN (k1 + k2)) w')) (fun v5 _ => l0.length - (intOf v5).toNat)
      case atStart => exact ⟨0, by omega, rfl, rfl, Drawn0.refl _⟩
      case round =>
       obtain ⟨i, hi, rfl, HE, HDR⟩ := hrel
       obtain ⟨k3, rfl⟩ := HDR.out
       rw [World.drewN_drewN]
       by_cases hlt : i < l0.length
       ·have hlt' : i < l1.length := by rw [← HLE.out]; exact hlt
        obtain ⟨ad, e0, x0⟩ := int_at (H12.out W HB.out) i hlt
        obtain ⟨ad', e1, x1⟩ := int_at (G12.out W HB.out) i hlt'
        have hd := HE.out
        rw [u32_drop l0 i hlt, u32_drop l1 i hlt'] at hd
        have g0 : l0.getD i 0 = rd l0 (i : Int) := rfl
        have g1 : l1.getD i 0 = rd l1 (i : Int) := rfl
        rw [g0] at x0
        rw [g1] at x1
        generalize rd l0 (i : Int) = p at *
        generalize rd l1 (i : Int) = q at *
        have s2 : (p :: l0.drop (i + 1) = q :: l1.drop (i + 1)) = (p = q ∧ l0.drop (i + 1) = l1.drop (i + 1)) := by simp
        by_cases hp : p = q
        ·have HD := Lh (show decide (l0 = l1) = decide (l0.drop (i + 1) = l1.drop (i + 1)) by rw [hd]; exact decide_eq_decide.2 (by rw [s2]; simp [hp]))
         have hpq : (p != q) = false := by simp [hp]
         subst e0 e1
         clear hd s2
         go_wp2
         go_quiet (fail)
         go_wp2
         go_roundw
         case rel => exact ⟨i + 1, by omega, by go_num, HD, drawn_le _ _ _ (by omega)⟩
         case measure => simp [intOf]; omega
        ·have HD := Lh (show decide (l0 = l1) = false by rw [hd]; exact decide_eq_false (fun e => hp (s2.mp e).1))
         have hpq : (p != q) = true := by simp [hp]
         subst e0 e1
         clear hd s2
         go_wp2
         go_quiet (fail)
         go_wp2
         go_ret
         exact ⟨by rw [HD.out]; simp, by first | exact HB0.out _ | (simp only [World.drewN_drewN]; exact HB0.out _)⟩
       ·obtain rfl : i = l0.length := by omega
        have HD := Lh (show decide (l0 = l1) = true by rw [HE.out, List.drop_length, HLE.out, List.drop_length]; rfl)
        have h14 := H14.out _ (HB0.out (k1 + k2 + k3))
        go_wp2_with fail
        refine h14.mono ?_
        rintro e w4 ⟨rfl, ⟨k4, rfl⟩⟩
        go_wp2
        go_ret
        exact ⟨by rw [HD.out]; simp, HB0.out _⟩
    ·have ht : (((l0.length : Nat) : Int) != ((l1.length : Nat) : Int)) = true := by rw [bne_iff_ne]; omega
     have hd : decide (l0 = l1) = false := decide_eq_false (fun e => hl (congrArg List.length e))
     go_wp2
     go_ret
     exact ⟨by rw [hd]; simp, HB0.out _⟩
end Go.Proofs.YtdlamomabonkjaaDoor.Ch
end
section
namespace Go.Proofs.YtdlamomabonkjaaDoor.Ch
open Go.RowKit YtdlamomabonkjaaDoorW.PrintWords Base PCh
def be (l : List UInt8) : Nat := l.foldl (fun a b => a * 256 + b.toNat) 0
def errE (code : Int) : Ending := .panicked [{ v := .iface 28 (.int .i64 code), recovered := false }]
def RS (w0 w : World) (g : Nat) (v : List UInt8) : Prop := ∃ A c, w.heap[g]? = some (.cells #[.slice A v.length c] 133 (0, 0)) ∧ v.length ≤ c ∧ byte.C w0 A v.length v
theorem RS.only {w0 w w' : World} {g : Nat} {v : List UInt8} {S : Nat → Prop} (h : RS w0 w g v) (o : Only S w w') (hg : ¬ S g) : RS w0 w' g v := by
 obtain ⟨A, c, hb, hc, hC⟩ := h
 exact ⟨A, c, o.blk hb hg, hc, hC⟩
theorem RS.lt {w0 w : World} {g : Nat} {v : List UInt8} (h : RS w0 w g v) : g < w.heap.size := by
 obtain ⟨A, c, hb, hc, hC⟩ := h
 exact blk_lt hb
theorem be_two (a b : UInt8) : be [a, b] = a.toNat * 256 + b.toNat := by simp [be]
theorem take_four {v : List UInt8} (h : 4 ≤ v.length) : ∃ a b c d r, v = a :: b :: c :: d :: r := by
 match v, h with
 | a :: b :: c :: d :: r, _ => exact ⟨a, b, c, d, r, rfl⟩
end Go.Proofs.YtdlamomabonkjaaDoor.Ch
end
section
namespace Go.Proofs.YtdlamomabonkjaaDoor.Ch
open Go.RowKit YtdlamomabonkjaaDoorW.PrintWords Base PCh ParDec
theorem R_only {α : Type} {d : Kd α} {e : Nat} {w w' : World} {base : Nat} {ok : Nat → Prop} {v : Value} {xs : List α} {S : Nat → Prop} (h : d.R e w base ok v xs) (o : Only S w w') (hs : ∀ k, base ≤ k → k < w.heap.size → ¬ S k) : d.R e w' base ok v xs :=
 Kd.R_mono (Kd.R_move (Kd.R_bound h) (fun k hk => o.block k hk.2.2.1 (hs k hk.2.1 hk.2.2.1))) (fun k hk => hk.1)
theorem Only.then_ {S : Nat → Prop} {w W W' : World} (h : Only S w W) (hb : Below w.heap.size W W') : Only S w W' :=
 ⟨hb.os.trans h.os, hb.tape.trans h.tape, hb.output.trans h.output, Nat.le_trans h.size hb.size, fun k hk hn => (hb.block k hk).trans (h.block k hk hn)⟩
theorem RS.below {w0 w w' : World} {g B : Nat} {v : List UInt8} (h : RS w0 w g v) (hb : Below B w w') (hg : g < B) : RS w0 w' g v := by
 obtain ⟨A, c, h1, h2, h3⟩ := h
 exact ⟨A, c, (hb.block g hg).trans h1, h2, h3⟩
def gapsD : Nat → List UInt8 → List GapS
 | 0, _ => []
 | n + 1, v => ⟨(be (v.take 2) : Int), (be ((v.drop 2).take 2) : Int)⟩ :: gapsD n (v.drop 4)
def dupsD : Nat → List UInt8 → List Int
 | 0, _ => []
 | n + 1, v => (be (v.take 4) : Int) :: dupsD n (v.drop 4)
end Go.Proofs.YtdlamomabonkjaaDoor.Ch
end
section
namespace Go.Proofs.YtdlamomabonkjaaDoor.Ch
open Go.RowKit YtdlamomabonkjaaDoorW.PrintWords Base PCh
def WS (w : World) (gw : Nat) (xs : List Int) : Prop := ∃ u, w.heap[gw]? = some (.cells #[u] 87 (0, 0)) ∧ (Kd.int .u8).R 5 w (gw + 1) (fun k => k ≠ gw) u xs
structure Fr (gw : Nat) (w W : World) : Prop where
 below : Below gw w W
 kept : ∀ (k : Nat) (cells : Array Value) (t : TypeId), t ≠ 5 → t ≠ 87 → w.heap[k]? = some (Obj.cells cells t (0, 0)) → W.heap[k]? = some (Obj.cells cells t (0, 0))
theorem Fr.refl (gw : Nat) (w : World) : Fr gw w w := ⟨Below.refl _ _, fun _ _ _ _ _ h => h⟩
theorem Fr.trans {gw : Nat} {a b c : World} (h : Fr gw a b) (k : Fr gw b c) : Fr gw a c := ⟨h.below.trans k.below, fun i cells t h1 h2 h3 => k.kept i cells t h1 h2 (h.kept i cells t h1 h2 h3)⟩
theorem Fr.alloc {gw : Nat} {a b : World} (h : Fr gw a b) (hg : gw ≤ b.heap.size) (x : Obj) : Fr gw a (b.alloc x) := ⟨h.below.alloc hg x, fun i cells t h1 h2 h3 => blk_alloc (h.kept i cells t h1 h2 h3) x⟩
theorem Fr.drewN {gw : Nat} {a b : World} (h : Fr gw a b) (n : Nat) : Fr gw a (b.drewN n) := ⟨pw_below_drewN h.below n, fun i cells t h1 h2 h3 => blk_drewN (h.kept i cells t h1 h2 h3) n⟩
theorem Fr.set {gw : Nat} {a b : World} (h : Fr gw a b) {cs : Array Value} (hg : b.heap[gw]? = some (.cells cs 87 (0, 0))) (i : Nat) (u : Value) : Fr gw a (b.setCell ⟨gw, i, none⟩ u) :=
 ⟨h.below.setCell (Nat.le_refl _) u, fun k cells t h1 h2 h3 => blk_far (h.kept k cells t h1 h2 h3) (by
  intro e
  have h4 := h.kept k cells t h1 h2 h3
  dsimp only at e
  subst e
  rw [hg] at h4
  injection h4 with h4
  injection h4 with _ h5 _
  exact h2 h5.symm) u⟩
theorem Fr.grown {gw base : Nat} {a b c : World} {u : Value} {xs : List Int} {ok : Nat → Prop} (h : Fr gw a b) (hR : (Kd.int .u8).R 5 b base ok u xs) (hB : Below gw b c) (hG : b.grownBy c u.ownBlock) : Fr gw a c :=
 ⟨h.below.trans hB, fun k cells t h1 h2 h3 => blk_grown (h.kept k cells t h1 h2 h3) hG (Kd.R_ne hR (h.kept k cells t h1 h2 h3) (fun e => h1 e.symm))⟩
theorem Fr.C_lit {gw g t n : Nat} {w W : World} {cells : Array Value} {kk : IntKind} {ns : List Int} (h : Fr gw w W) (h1 : t ≠ 5) (h2 : t ≠ 87) (hg : w.heap[g]? = some (.cells cells t (0, 0))) (hC : (Kd.int kk).C w (some ⟨g, 0, none⟩) n ns) : (Kd.int kk).C W (some ⟨g, 0, none⟩) n ns := by
 obtain ⟨e1, e2, e3⟩ := hC
 refine ⟨e1, e2, fun hn => ?_⟩
 obtain ⟨ad, e, hc⟩ := e3 hn
 injection e with e
 subst e
 refine ⟨_, rfl, fun j p hj => ?_⟩
 obtain ⟨cs, c1, c2, c3⟩ := hc j p hj
 refine ⟨cs, c1, c2, fun i u hu => ?_⟩
 have := c3 i u hu
 have hb : (Addr.add ⟨g, 0, none⟩ (j * (Kd.int kk).sz + i)).block = g := add_block _ _
 unfold World.cell? at this ⊢
 rw [hb, h.kept g cells t h1 h2 hg]
 rw [hb, hg] at this
 exact this
def twoL : List Int → List Int
 | [] => []
 | n :: r => [n / 256 % 256, n % 256] ++ twoL r
def fourL : List Int → List Int
 | [] => []
 | n :: r => [n / 16777216 % 256, n / 65536 % 256, n / 256 % 256, n % 256] ++ fourL r
theorem twoL_length (l : List Int) : (twoL l).length = 2 * l.length := by
 induction l with
 | nil => rfl
 | cons n r ih => simp only [twoL, List.length_append, List.length_cons, List.length_nil, ih]; omega
theorem fourL_length (l : List Int) : (fourL l).length = 4 * l.length := by
 induction l with
 | nil => rfl
 | cons n r ih => simp only [fourL, List.length_append, List.length_cons, List.length_nil, ih]; omega
set_option maxHeartbeats 2000000 in
theorem wtwo_calls (w : World) (gw : Nat) (xs : List Int) (A : Option Addr) (c : Nat) (ns : List Int) (hs : WS w gw xs) (hA : ∀ W, Fr gw w W → (Kd.int .u16).C W A ns.length ns) (hx : xs.length + 2 * ns.length ≤ 140737488355328) :
  Calls Tryd.prog 53 #[.pointer (some ⟨gw, 0, none⟩), .slice A ns.length c] w fun e w' => e = .returned (.tuple #[]) ∧ WS w' gw (xs ++ twoL ns) ∧ Fr gw w w' := by
 have HS := Lh hs
 have HA := Lh hA
 have hm := (hA w (Fr.refl _ _)).2.1
 clear hs hA
 go_enter Tryd.func53, Tryd.ntmps53
 go_wp2
 go_loopw [5, 8] (fun v5 v8 wr => ∃ (i : Nat) (ys : List Int), i ≤ ns.length ∧ v8 = .int .i64 (i : Int) ∧ Hid (ys.length = xs.length + 2 * i) ∧ Hid (ys ++ twoL (ns.drop i) = xs ++ twoL ns) ∧ Hid (WS wr gw ys) ∧ Hid (Fr gw w wr)) (fun _ v8 _ => ns.length - (intOf v8).toNat)
 case atStart => exact ⟨0, xs, Nat.zero_le _, rfl, (by show _ = _; omega), rfl, HS.out, Fr.refl _ _⟩
 case round =>
  clear HS
  obtain ⟨i, ys, hi, rfl, HYL, HE, HW, HF⟩ := hrel
  by_cases hlt : i < ns.length
  ·obtain ⟨ad, rfl, x0⟩ := int_at (HA.out wr HF.out) i hlt
   obtain ⟨u, hg, hR⟩ := HW.out
   obtain ⟨Au, cu, rfl⟩ := Kd.R_slice hR
   have hE := HE.out
   have hd : ns.drop i = ns.getD i 0 :: ns.drop (i + 1) := by
    rw [List.drop_eq_getElem_cons hlt]
    congr 1
    simp [List.getD_eq_getElem?_getD, hlt]
   rw [hd, twoL] at hE
   generalize ns.getD i 0 = q at *
   have hE2 : (ys ++ [q / 256 % 256, q % 256]) ++ twoL (ns.drop (i + 1)) = xs ++ twoL ns := by rw [List.append_assoc]; exact hE
   have HE2 := Lh hE2
   have HG := Lh hg
   have HR := Lh hR
   have k0 : wr.cell? ⟨gw, 0, none⟩ = some (.slice Au ys.length cu) := blk_cell hg 0
   have HLT := Lh (blk_lt hg)
   clear hE hE2 hd HE HW hg hR
   go_wp2_with (at_builtin; go_must (refine Kd.R_append_row (Value.int .u8) (0 : Int) (w0 := wr.alloc (.cells #[.int .u8 (q / 256 % 256), .int .u8 (q % 256)] 5)) (W := wr.alloc (.cells #[.int .u8 (q / 256 % 256), .int .u8 (q % 256)] 5)) (gw + 1) rfl _ _ 27 5 _ 1 rfl Tryd.underlying27 info_u8 rfl (by decide) (.slice Au ys.length cu) ys [q / 256 % 256, q % 256] (some ⟨wr.heap.size, 0, none⟩) 2 2 (fun k => k ≠ gw) rfl rfl (fun k hk => by have := HLT.out; simp at hk; omega) (Kd.R_alloc HR.out _) (row_lit (Kd.int .u8) rfl wr 5 [.int .u8 (q / 256 % 256), .int .u8 (q % 256)] [q / 256 % 256, q % 256] rfl (by simp) (fun j v p hv hp => by rcases j with _ | _ | j <;> simp at hv hp <;> (subst hv; subst hp; rfl))) (Below.refl _ _) (by have := HLT.out; simp; omega) (by have := HYL.out; omega) ?_); (intro v1 w1 hR1 hB1 hG1 _; have HR1 := Lh hR1; have HB1 := Lh hB1; have HGR := Lh hG1; clear hR1 hB1 hG1; refine RowKit.Hid.out ?_))
   refine Lh ?_
   obtain ⟨A7, c7, hv1⟩ := Kd.R_slice HR1.out
   subst hv1
   have hown : (Value.slice Au ys.length cu).ownBlock ≠ some gw := fun e => (Kd.R_alloc HR.out (.cells #[.int .u8 (q / 256 % 256), .int .u8 (q % 256)] 5)).1 _ e rfl
   have hg1 := blk_grown (blk_alloc HG.out (.cells #[.int .u8 (q / 256 % 256), .int .u8 (q % 256)] 5)) HGR.out (fun e => hown e.symm)
   have hs := blk_cell hg1 0
   have hf := blk_frozen hg1 0
   have HG1 := Lh hg1
   have HF1 := Lh (Fr.grown (HF.out.alloc (Nat.le_of_lt HLT.out) (.cells #[.int .u8 (q / 256 % 256), .int .u8 (q % 256)] 5)) (Kd.R_alloc HR.out _) (HB1.out.mono (Nat.le_succ _)) HGR.out)
   have HR2 := Lh (Kd.R_far HR1.out (p := ⟨gw, 0, none⟩) (fun k hk => hk) (.slice A7 (ys ++ [q / 256 % 256, q % 256]).length c7))
   rw [show (ys ++ [q / 256 % 256, q % 256]).length = ys.length + 2 by simp] at HR2
   clear hg1 HGR HB1 HF HR HG k0
   go_wp2
   go_roundw
   case rel => exact ⟨i + 1, ys ++ [q / 256 % 256, q % 256], by omega, by go_num, (by have := HYL.out; show _ = _; simp only [List.length_append, List.length_cons, List.length_nil]; omega), HE2, ⟨_, blk_put HG1.out 0 _ rfl, HR2.out⟩, HF1.out.set HG1.out 0 _⟩
   case measure => simp [intOf]; omega
  ·obtain rfl : i = ns.length := by omega
   have hE := HE.out
   rw [List.drop_length, twoL, List.append_nil] at hE
   have HE2 := Lh hE
   clear hE HE HA
   go_wp2
   go_end0
   exact ⟨rfl, by rw [← HE2.out]; exact HW.out, HF.out⟩
set_option maxHeartbeats 2000000 in
theorem wfour_calls (w : World) (gw : Nat) (xs : List Int) (A : Option Addr) (c : Nat) (ns : List Int) (hs : WS w gw xs) (hA : ∀ W, Fr gw w W → (Kd.int .u32).C W A ns.length ns) (hx : xs.length + 4 * ns.length ≤ 140737488355328) :
  Calls Tryd.prog 76 #[.pointer (some ⟨gw, 0, none⟩), .slice A ns.length c] w fun e w' => e = .returned (.tuple #[]) ∧ WS w' gw (xs ++ fourL ns) ∧ Fr gw w w' := by
 have HS := Lh hs
 have HA := Lh hA
 have hm := (hA w (Fr.refl _ _)).2.1
 clear hs hA
 go_enter Tryd.func76, Tryd.ntmps76
 go_wp2
 go_loopw [5, 8] (fun v5 v8 wr => ∃ (i : Nat) (ys : List Int), i ≤ ns.length ∧ v8 = .int .i64 (i : Int) ∧ Hid (ys.length = xs.length + 4 * i) ∧ Hid (ys ++ fourL (ns.drop i) = xs ++ fourL ns) ∧ Hid (WS wr gw ys) ∧ Hid (Fr gw w wr)) (fun _ v8 _ => ns.length - (intOf v8).toNat)
 case atStart => exact ⟨0, xs, Nat.zero_le _, rfl, (by show _ = _; omega), rfl, HS.out, Fr.refl _ _⟩
 case round =>
  clear HS
  obtain ⟨i, ys, hi, rfl, HYL, HE, HW, HF⟩ := hrel
  by_cases hlt : i < ns.length
  ·obtain ⟨ad, rfl, x0⟩ := int_at (HA.out wr HF.out) i hlt
   obtain ⟨u, hg, hR⟩ := HW.out
   obtain ⟨Au, cu, rfl⟩ := Kd.R_slice hR
   have hE := HE.out
   have hd : ns.drop i = ns.getD i 0 :: ns.drop (i + 1) := by
    rw [List.drop_eq_getElem_cons hlt]
    congr 1
    simp [List.getD_eq_getElem?_getD, hlt]
   rw [hd, fourL] at hE
   generalize ns.getD i 0 = q at *
   have hE2 : (ys ++ [q / 16777216 % 256, q / 65536 % 256, q / 256 % 256, q % 256]) ++ fourL (ns.drop (i + 1)) = xs ++ fourL ns := by rw [List.append_assoc]; exact hE
   have HE2 := Lh hE2
   have HG := Lh hg
   have HR := Lh hR
   have k0 : wr.cell? ⟨gw, 0, none⟩ = some (.slice Au ys.length cu) := blk_cell hg 0
   have HLT := Lh (blk_lt hg)
   clear hE hE2 hd HE HW hg hR
   go_wp2_with (at_builtin; go_must (refine Kd.R_append_row (Value.int .u8) (0 : Int) (w0 := wr.alloc (.cells #[.int .u8 (q / 16777216 % 256), .int .u8 (q / 65536 % 256), .int .u8 (q / 256 % 256), .int .u8 (q % 256)] 5)) (W := wr.alloc (.cells #[.int .u8 (q / 16777216 % 256), .int .u8 (q / 65536 % 256), .int .u8 (q / 256 % 256), .int .u8 (q % 256)] 5)) (gw + 1) rfl _ _ 27 5 _ 1 rfl Tryd.underlying27 info_u8 rfl (by decide) (.slice Au ys.length cu) ys [q / 16777216 % 256, q / 65536 % 256, q / 256 % 256, q % 256] (some ⟨wr.heap.size, 0, none⟩) 4 4 (fun k => k ≠ gw) rfl rfl (fun k hk => by have := HLT.out; simp at hk; omega) (Kd.R_alloc HR.out _) (row_lit (Kd.int .u8) rfl wr 5 [.int .u8 (q / 16777216 % 256), .int .u8 (q / 65536 % 256), .int .u8 (q / 256 % 256), .int .u8 (q % 256)] [q / 16777216 % 256, q / 65536 % 256, q / 256 % 256, q % 256] rfl (by simp) (fun j v p hv hp => by rcases j with _ | _ | _ | _ | j <;> simp at hv hp <;> (subst hv; subst hp; rfl))) (Below.refl _ _) (by have := HLT.out; simp; omega) (by have := HYL.out; omega) ?_); (intro v1 w1 hR1 hB1 hG1 _; have HR1 := Lh hR1; have HB1 := Lh hB1; have HGR := Lh hG1; clear hR1 hB1 hG1; refine RowKit.Hid.out ?_))
   refine Lh ?_
   obtain ⟨A7, c7, hv1⟩ := Kd.R_slice HR1.out
   subst hv1
   have hown : (Value.slice Au ys.length cu).ownBlock ≠ some gw := fun e => (Kd.R_alloc HR.out (.cells #[.int .u8 (q / 16777216 % 256), .int .u8 (q / 65536 % 256), .int .u8 (q / 256 % 256), .int .u8 (q % 256)] 5)).1 _ e rfl
   have hg1 := blk_grown (blk_alloc HG.out (.cells #[.int .u8 (q / 16777216 % 256), .int .u8 (q / 65536 % 256), .int .u8 (q / 256 % 256), .int .u8 (q % 256)] 5)) HGR.out (fun e => hown e.symm)
   have hs := blk_cell hg1 0
   have hf := blk_frozen hg1 0
   have HG1 := Lh hg1
   have HF1 := Lh (Fr.grown (HF.out.alloc (Nat.le_of_lt HLT.out) (.cells #[.int .u8 (q / 16777216 % 256), .int .u8 (q / 65536 % 256), .int .u8 (q / 256 % 256), .int .u8 (q % 256)] 5)) (Kd.R_alloc HR.out _) (HB1.out.mono (Nat.le_succ _)) HGR.out)
   have HR2 := Lh (Kd.R_far HR1.out (p := ⟨gw, 0, none⟩) (fun k hk => hk) (.slice A7 (ys ++ [q / 16777216 % 256, q / 65536 % 256, q / 256 % 256, q % 256]).length c7))
   rw [show (ys ++ [q / 16777216 % 256, q / 65536 % 256, q / 256 % 256, q % 256]).length = ys.length + 4 by simp] at HR2
   clear hg1 HGR HB1 HF HR HG k0
   go_wp2
   go_roundw
   case rel => exact ⟨i + 1, ys ++ [q / 16777216 % 256, q / 65536 % 256, q / 256 % 256, q % 256], by omega, by go_num, (by have := HYL.out; show _ = _; simp only [List.length_append, List.length_cons, List.length_nil]; omega), HE2, ⟨_, blk_put HG1.out 0 _ rfl, HR2.out⟩, HF1.out.set HG1.out 0 _⟩
   case measure => simp [intOf]; omega
  ·obtain rfl : i = ns.length := by omega
   have hE := HE.out
   rw [List.drop_length, fourL, List.append_nil] at hE
   have HE2 := Lh hE
   clear hE HE HA
   go_wp2
   go_end0
   exact ⟨rfl, by rw [← HE2.out]; exact HW.out, HF.out⟩
end Go.Proofs.YtdlamomabonkjaaDoor.Ch
end
section
namespace Go.Proofs.YtdlamomabonkjaaDoor.Ch
open Go.RowKit YtdlamomabonkjaaDoorW.PrintWords YtdlamomabonkjaaDoorW.PrintLast YtdlamomabonkjaaDoorW.PrintMore Base PCh ParDec
attribute [local go_sem] max2_int max_two max_three
def listsD (nr : Bool) (v : List UInt8) : Except Int (Nat × Nat × List GapS × List GapS × List Int) :=
 if v.length < (if nr then 16 else 12) then .error 61
 else if 4096 < be ((v.drop 8).take 2) ∨ 4096 < (if nr then be ((v.drop 10).take 2) else 0) ∨ 4096 < be ((v.drop (if nr then 12 else 10)).take 2) then .error 3
 else if v.length ≠ (if nr then 16 else 12) + 4 * (be ((v.drop 8).take 2) + (if nr then be ((v.drop 10).take 2) else 0) + be ((v.drop (if nr then 12 else 10)).take 2)) then .error 61
 else .ok (be (v.take 4), be ((v.drop 4).take 4), gapsD (be ((v.drop 8).take 2)) (v.drop (if nr then 16 else 12)), gapsD (if nr then be ((v.drop 10).take 2) else 0) (v.drop ((if nr then 16 else 12) + 4 * be ((v.drop 8).take 2))),
  dupsD (be ((v.drop (if nr then 12 else 10)).take 2)) (v.drop ((if nr then 16 else 12) + 4 * (be ((v.drop 8).take 2) + (if nr then be ((v.drop 10).take 2) else 0)))))
theorem be_two_lt (l : List UInt8) : be (l.take 2) < 65536 := by
 match l with
 | [] => simp [be]
 | [a] => have := a.toNat_lt; simp [be]; omega
 | a :: b :: r => have := a.toNat_lt; have := b.toNat_lt; simp [be]; omega
end Go.Proofs.YtdlamomabonkjaaDoor.Ch
end
section
namespace Go.Proofs.YtdlamomabonkjaaDoor.Ch
open Go.RowKit YtdlamomabonkjaaDoorW.PrintWords Base PCh ParDec
def intsL (l : List UInt8) : List Int := l.map fun b => (b.toNat : Int)
def chk0 (kd fl : Int) : Chk := ⟨kd, fl, 0, 0, 0, 0, 0, 0, 0, 0, [], [], [], [], []⟩
def prmsD (v : List UInt8) : Except Int (List PrmS) := if (decD v).2.2 = 0 then .ok (decD v).1 else .error (decD v).2.2
def beatB (ps : List PrmS) : Bool := match ps with
 | [p] => decide (p.f0 = 1)
 | _ => false
def readData (kd fl : Int) (v : List UInt8) : Except Int Chk :=
 if v.length < 12 then .error 61 else if v.length = 12 then .error 62 else .ok ⟨kd, fl, (be (v.take 4) : Nat), (be ((v.drop 4).take 2) : Nat), (be ((v.drop 6).take 2) : Nat), (be ((v.drop 8).take 4) : Nat), 0, 0, 0, 0, [], [], [], intsL (v.drop 12), []⟩
def readInit (kd fl : Int) (v : List UInt8) : Except Int Chk :=
 if v.length < 16 then .error 61 else match prmsD (v.drop 16) with
 | .error c => .error c
 | .ok ps => .ok ⟨kd, fl, (be ((v.drop 12).take 4) : Nat), 0, 0, 0, (be (v.take 4) : Nat), (be ((v.drop 4).take 4) : Nat), (be ((v.drop 8).take 2) : Nat), (be ((v.drop 10).take 2) : Nat), [], [], [], [], ps⟩
def readLists (nr : Bool) (kd fl : Int) (v : List UInt8) : Except Int Chk :=
 match listsD nr v with
 | .error c => .error c
 | .ok (t1, t2, G, N, D) => .ok ⟨kd, fl, (t1 : Nat), 0, 0, 0, 0, (t2 : Nat), 0, 0, G, N, D, [], []⟩
def readPrms (beat : Bool) (kd fl : Int) (v : List UInt8) : Except Int Chk :=
 match prmsD v with
 | .error c => .error c
 | .ok ps => if beat && !beatB ps then .error 61 else .ok ⟨kd, fl, 0, 0, 0, 0, 0, 0, 0, 0, [], [], [], [], ps⟩
def readShut (kd fl : Int) (v : List UInt8) : Except Int Chk := if v.length = 4 then .ok ⟨kd, fl, (be v : Nat), 0, 0, 0, 0, 0, 0, 0, [], [], [], [], []⟩ else .error 61
def readNone (kd fl : Int) (v : List UInt8) : Except Int Chk := if v.length = 0 then .ok (chk0 kd fl) else .error 61
def readBody (kd fl : Int) (v : List UInt8) : Except Int Chk := .ok ⟨kd, fl, 0, 0, 0, 0, 0, 0, 0, 0, [], [], [], intsL v, []⟩
def readD (kd fl : Int) (v : List UInt8) : Except Int Chk :=
 if kd = 0 then readData kd fl v
 else if kd = 1 ∨ kd = 2 then readInit kd fl v
 else if kd = 3 then readLists false kd fl v
 else if kd = 16 then readLists true kd fl v
 else if kd = 4 ∨ kd = 5 then readPrms true kd fl v
 else if kd = 6 ∨ kd = 9 then readPrms false kd fl v
 else if kd = 7 then readShut kd fl v
 else if kd = 8 ∨ kd = 11 ∨ kd = 14 then readNone kd fl v
 else readBody kd fl v
def freshV (kd fl : Int) : Array Value := #[.int .u8 kd, .int .u8 fl, .int .u32 0, .int .u16 0, .int .u16 0, .int .u32 0, .int .u32 0, .int .u32 0, .int .u16 0, .int .u16 0, .slice none 0 0, .slice none 0 0, .slice none 0 0, .slice none 0 0, .slice none 0 0]
def ReadP (w : World) (g gc : Nat) (r : Except Int Chk) (e : Ending) (w' : World) : Prop :=
 match r with
 | .error code => e = errE code ∧ (∃ x0, w'.heap[gc]? = some (.cells x0 41 (0, 0)) ∧ x0.size = 15) ∧ Only (fun k => k = g ∨ k = gc) w w'
 | .ok d => e = .returned (.tuple #[]) ∧ ∃ cs, w'.heap[gc]? = some (.cells cs 41 (0, 0)) ∧ k41.M w' w.heap.size (fun _ => True) d cs.toList ∧ Only (fun k => k = g ∨ k = gc) w w'
theorem ReadP.bad {w : World} {g gc : Nat} {r : Except Int Chk} {code : Int} {w' : World} {x0 : Array Value} (h : r = .error code) (hc : w'.heap[gc]? = some (.cells x0 41 (0, 0))) (hx : x0.size = 15) (ho : Only (fun k => k = g ∨ k = gc) w w') : ReadP w g gc r (errE code) w' := by
 rw [h]
 exact ⟨rfl, ⟨_, hc, hx⟩, ho⟩
theorem ReadP.good {w : World} {g gc : Nat} {r : Except Int Chk} {d : Chk} {cs : Array Value} {w' : World} (h : r = .ok d) (hc : w'.heap[gc]? = some (.cells cs 41 (0, 0))) (hm : k41.M w' w.heap.size (fun _ => True) d cs.toList) (ho : Only (fun k => k = g ∨ k = gc) w w') : ReadP w g gc r (.returned (.tuple #[])) w' := by
 rw [h]
 exact ⟨rfl, cs, hc, hm, ho⟩
end Go.Proofs.YtdlamomabonkjaaDoor.Ch
end
section
namespace Go.Proofs.YtdlamomabonkjaaDoor.Ch
open Go.RowKit YtdlamomabonkjaaDoorW.PrintWords Base PCh ParDec
theorem beat_f (a0 a1 a2 a3 a4 a5 a6 a7 a8 a9 : Int) (l10 l11 : List GapS) (l12 l13 : List Int) (ps : List PrmS) : chunk_beat.f a0 a1 a2 a3 a4 a5 a6 a7 a8 a9 l10 l11 l12 l13 ps = some (beatB ps) := by
 unfold chunk_beat.f beatB
 match ps with
 | [] => rfl
 | [p] => simp [rd_T72]; rfl
 | p :: q :: r => rw [if_neg (by simp only [List.length_cons]; omega)]
end Go.Proofs.YtdlamomabonkjaaDoor.Ch
end
section
namespace Go.Proofs.YtdlamomabonkjaaDoor.Ch
open Go.RowKit YtdlamomabonkjaaDoorW.PrintWords Base PCh ParDec
set_option maxHeartbeats 4000000 in
theorem read_none (w0 w : World) (g gc : Nat) (v : List UInt8) (kd fl : Int) (hs : RS w0 w g v) (hc : w.heap[gc]? = some (.cells (freshV kd fl) 41 (0, 0))) (hB : Below w0.heap.size w0 w) (hg : w0.heap.size ≤ g) (hgc : w0.heap.size ≤ gc) (hne : g ≠ gc) (hv : v.length ≤ 140737488355328) (hk : kd = 8 ∨ kd = 11 ∨ kd = 14) :
  Calls Tryd.prog 92 #[.pointer (some ⟨g, 0, none⟩), .pointer (some ⟨gc, 0, none⟩)] w (ReadP w g gc (readNone kd fl v)) := by
 have hb : ((kd == 0) = false ∧ (kd == 1) = false ∧ (kd == 2) = false ∧ (kd == 3) = false ∧ (kd == 16) = false ∧ (kd == 4) = false ∧ (kd == 5) = false ∧ (kd == 6) = false ∧ (kd == 9) = false ∧ (kd == 7) = false ∧ (kd == 8) = true) ∨ ((kd == 0) = false ∧ (kd == 1) = false ∧ (kd == 2) = false ∧ (kd == 3) = false ∧ (kd == 16) = false ∧ (kd == 4) = false ∧ (kd == 5) = false ∧ (kd == 6) = false ∧ (kd == 9) = false ∧ (kd == 7) = false ∧ (kd == 8) = false ∧ (kd == 11) = true) ∨ ((kd == 0) = false ∧ (kd == 1) = false ∧ (kd == 2) = false ∧ (kd == 3) = false ∧ (kd == 16) = false ∧ (kd == 4) = false ∧ (kd == 5) = false ∧ (kd == 6) = false ∧ (kd == 9) = false ∧ (kd == 7) = false ∧ (kd == 8) = false ∧ (kd == 11) = false ∧ (kd == 14) = true) := by rcases hk with rfl | rfl | rfl <;> decide
 clear hk
 rcases hb with ⟨b0, b1, b2, b3, b16, b4, b5, b6, b9, b7, b8⟩ | ⟨b0, b1, b2, b3, b16, b4, b5, b6, b9, b7, b8, b11⟩ | ⟨b0, b1, b2, b3, b16, b4, b5, b6, b9, b7, b8, b11, b14⟩
 all_goals
  have HGL := Lh (show g < w.heap.size ∧ gc < w.heap.size from ⟨hs.lt, blk_lt hc⟩)
  have HBW := Lh (fun (W : World) (h : Only (fun k => k = g ∨ k = gc) w W) => hB.trans (h.below hB.size (fun k hk => by omega)))
  have HNE := Lh (show ¬ gc = g from fun e => hne e.symm)
  have HNE2 := Lh (show ¬ g = gc from hne)
  have HG := Lh hg
  have HRS := Lh hs
  unfold freshV at hc
  have HC := Lh hc
  have k0 : w.cell? ⟨gc, 0, none⟩ = some (.int .u8 kd) := blk_cell hc 0
  have HO := Lh (Only.refl (fun k => k = g ∨ k = gc) w)
  clear hs hc hB hg hgc hne
  obtain ⟨Ar, cr, hbr, hcr, hCr⟩ := HRS.out
  have kr : w.cell? ⟨g, 0, none⟩ = some (.slice Ar v.length cr) := blk_cell hbr 0
  clear hbr hcr hCr
  by_cases h0 : v.length = 0
  ·have HR := Lh (show readNone kd fl v = .ok (chk0 kd fl) from by unfold readNone; rw [if_pos h0])
   rw [h0] at kr
   go_enter Tryd.func92, Tryd.ntmps92
   go_wp2
   go_end0
   exact ReadP.good HR.out HC.out (k41_mkM _ _ _ (chk0 kd fl) (Kd.R_nil _ _ _ _ _) (Kd.R_nil _ _ _ _ _) (Kd.R_nil _ _ _ _ _) (Kd.R_nil _ _ _ _ _) (Kd.R_nil _ _ _ _ _)) HO.out
  ·have HR := Lh (show readNone kd fl v = .error 61 from by unfold readNone; rw [if_neg h0])
   have hli : (0 : Int) < (v.length : Int) := by omega
   generalize v.length = nn at *
   go_enter Tryd.func92, Tryd.ntmps92
   go_wp2
   exact ⟨rfl, ReadP.bad HR.out HC.out rfl HO.out⟩
end Go.Proofs.YtdlamomabonkjaaDoor.Ch
end
section
namespace Go.Proofs.YtdlamomabonkjaaDoor.Ch
open Go.RowKit YtdlamomabonkjaaDoorW.PrintWords Base PCh ParDec
def maskD (kd : Int) : Int := if kd = 0 then 7 else if kd = 6 ∨ kd = 14 then 1 else if kd ≤ 11 ∨ kd = 16 then 0 else 255
theorem mask_f (kd : Int) : chunk_mask.f 1 kd = some (maskD kd) := by
 by_cases h0 : kd = 0
 ·simp [chunk_mask.f, maskD, h0]
 by_cases h6 : kd = 6
 ·simp [chunk_mask.f, chunk_mask.j0, maskD, h6, chunk_plain.f]
 by_cases h14 : kd = 14
 ·simp [chunk_mask.f, chunk_mask.j0, maskD, h14]
 by_cases h11 : kd ≤ 11
 ·simp [chunk_mask.f, chunk_mask.j0, maskD, h0, h6, h14, h11, chunk_plain.f]
 by_cases h16 : kd = 16
 ·simp [chunk_mask.f, chunk_mask.j0, maskD, h16, chunk_plain.f]
 ·simp [chunk_mask.f, chunk_mask.j0, maskD, h0, h6, h14, h11, h16, chunk_plain.f]
theorem mask_calls (kd : Int) (w : World) : Calls Tryd.prog 88 #[.int .u8 kd] w fun e w' => e = .returned (.int .u8 (maskD kd)) ∧ Drawn0 w w' := chunk_mask.calls 1 kd _ w (mask_f kd)
theorem padded_calls (n : Nat) (hn : n ≤ 140737488355328) (w : World) : Calls Tryd.prog 54 #[.int .i64 (n : Int)] w fun e w' => e = .returned (.int .i64 (((n + 3) / 4 * 4 : Nat) : Int)) ∧ Drawn0 w w' := by
 refine chunk_padded.calls (n : Int) (((n + 3) / 4 * 4 : Nat) : Int) w ?_
 unfold chunk_padded.f
 congr 1
 have e1 : wrap64 ((n : Int) + 3) = ((n + 3 : Nat) : Int) := by unfold wrap64; omega
 rw [e1, show Int.tdiv ((n + 3 : Nat) : Int) 4 = (((n + 3) / 4 : Nat) : Int) from rfl]
 have e2 : wrap64 (((n + 3) / 4 : Nat) : Int) = (((n + 3) / 4 : Nat) : Int) := by unfold wrap64; omega
 rw [e2]
 have e3 : (((n + 3) / 4 : Nat) : Int) * 4 = (((n + 3) / 4 * 4 : Nat) : Int) := by omega
 rw [e3]
 unfold wrap64
 omega
theorem catch_idle (a b c : Addr) (w : World) :
  CallsD Tryd.prog 91 #[.pointer (some a), .pointer (some b), .pointer (some c)] .returning w fun e u' w' => e = .returned (.tuple #[]) ∧ u' = .returning ∧ w' = w := by
 refine callsD_of_wpS Tryd.func91 rfl fun c₀ cs hu => ?_
 apply wpS_seq
 apply wpS_region
 simp [wpOpsS, go_sem, recoverD, hu, Tryd.ntmps91, Exit.thenS]
 have ht : (#[Value.pointer (some a), Value.pointer (some b), Value.pointer (some c)] ++ ((Array.replicate 16 undef).setIfInBounds 3 Value.nilIface).setIfInBounds 0 Value.nilIface) = #[.pointer (some a), .pointer (some b), .pointer (some c), .nilIface, undef, undef, .nilIface, undef, undef, undef, undef, undef, undef, undef, undef, undef, undef, undef, undef] := by kernel_rfl
 rw [ht]
 refine wpS_of_wp ?_
 go_wp2
 cases c₀
 simp_all [bodyPostS, results, Tryd.results91]
def errV (code : Int) : Value := .iface 28 (.int .i64 code)
theorem catch_err (a b c : Nat) (code : Int) (older : List PanicEntry) (w : World) (x0 : Array Value) (x1 x2 : Value) (t1 t2 : TypeId)
  (h0 : w.heap[a]? = some (.cells x0 41 (0, 0))) (hx0 : x0.size = 15) (h1 : w.heap[b]? = some (.cells #[x1] t1 (0, 0))) (h2 : w.heap[c]? = some (.cells #[x2] t2 (0, 0))) (hab : a ≠ b) (hac : a ≠ c) (hbc : b ≠ c) :
  CallsD Tryd.prog 91 #[.pointer (some ⟨a, 0, none⟩), .pointer (some ⟨b, 0, none⟩), .pointer (some ⟨c, 0, none⟩)] (.panicking ({ v := errV code, recovered := false } :: older)) w fun e u' w' => e = .returned (.tuple #[]) ∧ u' = .panicking ({ v := errV code, recovered := true } :: older) ∧
   w'.heap[a]? = some (.cells (freshV 0 0) 41 (0, 0)) ∧ w'.heap[b]? = some (.cells #[.int .i64 0] t1 (0, 0)) ∧ w'.heap[c]? = some (.cells #[.int .i64 code] t2 (0, 0)) ∧ Only (fun k => k = a ∨ k = b ∨ k = c) w w' := by
 unfold errV freshV
 refine callsD_of_wpS Tryd.func91 rfl fun c₀ cs hu => ?_
 apply wpS_seq
 apply wpS_region
 simp [wpOpsS, go_sem, recoverD, hu, Tryd.ntmps91, Exit.thenS]
 generalize hfv : (Value.iface 28 (.int .i64 code)) = fv at *
 have ht : ∀ fv : Value, (#[Value.pointer (some ⟨a, 0, none⟩), Value.pointer (some ⟨b, 0, none⟩), Value.pointer (some ⟨c, 0, none⟩)] ++ ((Array.replicate 16 undef).setIfInBounds 3 fv).setIfInBounds 0 fv) = #[.pointer (some ⟨a, 0, none⟩), .pointer (some ⟨b, 0, none⟩), .pointer (some ⟨c, 0, none⟩), fv, undef, undef, fv, undef, undef, undef, undef, undef, undef, undef, undef, undef, undef, undef, undef] := fun fv => by kernel_rfl
 rw [ht]
 subst hfv
 have hta : ∀ W : World, (Instr.typeAssert (Value.iface 28 (.int .i64 code)) 20 28 true).run Tryd.prog W = .ok (.tuple #[.int .i64 code, .bool true]) W := fun W => by rfl
 refine wpS_of_wp ?_
 have H0 := Lh h0
 have HX0 := Lh hx0
 have ha : (w.setRow a #[.int .u8 0, .int .u8 0, .int .u32 0, .int .u16 0, .int .u16 0, .int .u32 0, .int .u32 0, .int .u32 0, .int .u16 0, .int .u16 0, .slice none 0 0, .slice none 0 0, .slice none 0 0, .slice none 0 0, .slice none 0 0]).heap[a]? = some (.cells #[.int .u8 0, .int .u8 0, .int .u32 0, .int .u16 0, .int .u16 0, .int .u32 0, .int .u32 0, .int .u32 0, .int .u16 0, .int .u16 0, .slice none 0 0, .slice none 0 0, .slice none 0 0, .slice none 0 0, .slice none 0 0] 41 (0, 0)) := setRow_heap _ _ _ _ _ _ h0
 have hb : (w.setRow a #[.int .u8 0, .int .u8 0, .int .u32 0, .int .u16 0, .int .u16 0, .int .u32 0, .int .u32 0, .int .u32 0, .int .u16 0, .int .u16 0, .slice none 0 0, .slice none 0 0, .slice none 0 0, .slice none 0 0, .slice none 0 0]).heap[b]? = some (.cells #[x1] t1 (0, 0)) := (setRow_other _ _ _ _ (by omega)).trans h1
 have hc : (w.setRow a #[.int .u8 0, .int .u8 0, .int .u32 0, .int .u16 0, .int .u16 0, .int .u32 0, .int .u32 0, .int .u32 0, .int .u16 0, .int .u16 0, .slice none 0 0, .slice none 0 0, .slice none 0 0, .slice none 0 0, .slice none 0 0]).heap[c]? = some (.cells #[x2] t2 (0, 0)) := (setRow_other _ _ _ _ (by omega)).trans h2
 have hc2 := blk_far (p := ⟨b, 0, none⟩) hc (Ne.symm hbc) (.int .i64 0)
 have kb : (w.setRow a #[.int .u8 0, .int .u8 0, .int .u32 0, .int .u16 0, .int .u16 0, .int .u32 0, .int .u32 0, .int .u32 0, .int .u16 0, .int .u16 0, .slice none 0 0, .slice none 0 0, .slice none 0 0, .slice none 0 0, .slice none 0 0]).cell? ⟨b, 0, none⟩ = some x1 := blk_cell hb 0
 have fb := blk_frozen hb 0
 have kc := (blk_cell hc2 0).trans (show (#[x2] : Array Value)[0]? = some x2 from rfl)
 have fc := blk_frozen hc2 0
 have kc1 : (w.setRow a #[.int .u8 0, .int .u8 0, .int .u32 0, .int .u16 0, .int .u16 0, .int .u32 0, .int .u32 0, .int .u32 0, .int .u16 0, .int .u16 0, .slice none 0 0, .slice none 0 0, .slice none 0 0, .slice none 0 0, .slice none 0 0]).cell? ⟨c, 0, none⟩ = some x2 := blk_cell hc 0
 have fc1 := blk_frozen hc 0
 have HA := Lh (blk_far (p := ⟨c, 0, none⟩) (blk_far (p := ⟨b, 0, none⟩) ha hab (.int .i64 0)) hac (.int .i64 code))
 have HB := Lh (blk_far (p := ⟨c, 0, none⟩) (blk_put hb 0 (.int .i64 0) rfl) hbc (.int .i64 code))
 have HC := Lh (blk_put hc2 0 (.int .i64 code) rfl)
 have HO := Lh ((((show Only (fun k => k = a ∨ k = b ∨ k = c) w (w.setRow a #[.int .u8 0, .int .u8 0, .int .u32 0, .int .u16 0, .int .u16 0, .int .u32 0, .int .u32 0, .int .u32 0, .int .u16 0, .int .u16 0, .slice none 0 0, .slice none 0 0, .slice none 0 0, .slice none 0 0, .slice none 0 0]) from ⟨rfl, rfl, rfl, by simp, fun k hk hn => setRow_other _ _ _ _ (fun e => hn (Or.inl e))⟩).setCell (p := ⟨b, 0, none⟩) (fun _ => Or.inr (Or.inl rfl)) (.int .i64 0)).setCell (p := ⟨c, 0, none⟩) (fun _ => Or.inr (Or.inr rfl)) (.int .i64 code)))
 clear h0 h1 h2 ha hb hc hc2
 go_wp2_with (refine wpList_store_row rfl 41 _ _ rfl a #[.int .u8 0, .int .u8 0, .int .u32 0, .int .u16 0, .int .u16 0, .int .u32 0, .int .u32 0, .int .u32 0, .int .u16 0, .int .u16 0, .slice none 0 0, .slice none 0 0, .slice none 0 0, .slice none 0 0, .slice none 0 0] rfl rfl 41 x0 H0.out (by kernel_rfl) HX0.out (by simp [Value.oneCell']) ?_)
 show bodyPostS _ _ _ _ _ _ _ _ _
 cases c₀
 simp only at hu
 subst hu
 exact ⟨rfl, _, rfl, _, results_none rfl _ _ _, rfl, rfl, HA.out, HB.out, HC.out, HO.out⟩
end Go.Proofs.YtdlamomabonkjaaDoor.Ch
end
section
namespace Go.Proofs.YtdlamomabonkjaaDoor.Ch
open Go.RowKit YtdlamomabonkjaaDoorW.PrintWords YtdlamomabonkjaaDoorW.PrintLast YtdlamomabonkjaaDoorW.PrintMore Base PCh ParDec
attribute [local go_sem] min2_int min_two
def decAT8 : Bool × List (List Nat × List Nat) := (true, [([], []), ([0], [0]), ([1], [1]), ([], []), ([3], [3]), ([4], [4]), ([2, 5], [2, 5]), ([0, 1, 2, 3, 4, 5, 6], []), ([7, 6, 5, 0, 1, 2, 3, 4, 5, 6], [6, 7])])
def decAB8 : List Nat := [0, 1, 3, 0, 8, 24, 63, 127, 255]
theorem decAtab8 : Go.Proofs.YtdlamomabonkjaaDoorW.PrintLast.rtab .any (Go.Proofs.YtdlamomabonkjaaDoorW.PrintLast.opsOf Tryd.f81 8) = decAT8 := by kernel_rfl
theorem decAbits8 : Go.Proofs.YtdlamomabonkjaaDoorW.PrintLast.waitsOk decAT8.2 decAB8 = true := by kernel_rfl
def decBT11 : Bool × List (List Nat × List Nat) := (true, [([], []), ([], []), ([1], [1]), ([], []), ([3], [3]), ([2, 4], [2, 4]), ([0, 2, 0, 2], [0]), ([5, 6, 0, 1, 2, 3, 4, 5, 6], [5]), ([7, 0, 1, 2, 3, 4, 5, 6, 7], [])])
def decBB11 : List Nat := [0, 0, 2, 0, 8, 30, 7, 127, 255]
theorem decBtab11 : Go.Proofs.YtdlamomabonkjaaDoorW.PrintLast.rtab .any (Go.Proofs.YtdlamomabonkjaaDoorW.PrintLast.opsOf Tryd.f81 11) = decBT11 := by kernel_rfl
theorem decBbits11 : Go.Proofs.YtdlamomabonkjaaDoorW.PrintLast.waitsOk decBT11.2 decBB11 = true := by kernel_rfl
def calmQ (Q : Exit → Act → World → Prop) : Exit → Act → World → Prop := fun e a w => (match e with | .panic _ => False | _ => True) ∧ Q e a w
theorem calm {P : Program} {c : Code} {Q : Exit → Act → World → Prop} {a : Act} {w : World} (h : c.wp P (calmQ Q) a w) : c.wp P Q a w := Code.wp_mono (fun _ _ _ h => h.2) h
def flD (kd b1 : Int) : Int := bits .and .u8 b1 (maskD kd)
def decC (b : List UInt8) : Chk × Int × Int :=
 if b.length < 4 then (chk0 0 0, 0, 60)
 else if be ((b.drop 2).take 2) < 4 ∨ b.length < be ((b.drop 2).take 2) then (chk0 0 0, 0, 60)
 else match readD ((b.getD 0 0).toNat : Int) (flD ((b.getD 0 0).toNat : Int) ((b.getD 1 0).toNat : Int)) ((b.take (be ((b.drop 2).take 2))).drop 4) with
 | .error c => (chk0 0 0, 0, c)
 | .ok d => (d, (min ((be ((b.drop 2).take 2) + 3) / 4 * 4) b.length : Nat), 0)
def DecCP (b : List UInt8) (w : World) (e : Ending) (w' : World) : Prop :=
 ∃ cs, e = .returned (.tuple #[.agg cs, .int .i64 (decC b).2.1, .int .i64 (decC b).2.2]) ∧ k41.M w' w.heap.size (fun _ => True) (decC b).1 cs.toList ∧ Below w.heap.size w w'
def wc3 (w : World) : World := (((w.alloc (.cells (freshV 0 0) 41)).alloc (.cells #[.int .i64 0] 3)).alloc (.cells #[.int .i64 0] 28))
theorem wc3_size (w : World) : (wc3 w).heap.size = w.heap.size + 3 := by simp [wc3]
theorem wc3_below (w : World) : Below w.heap.size w (wc3 w) := below_alloc (below_alloc (below_alloc (Below.refl _ _) _) _) _
theorem wc3_blk (w : World) : (wc3 w).heap[w.heap.size]? = some (.cells (freshV 0 0) 41 (0, 0)) ∧ (wc3 w).heap[w.heap.size + 1]? = some (.cells #[.int .i64 0] 3 (0, 0)) ∧ (wc3 w).heap[w.heap.size + 1 + 1]? = some (.cells #[.int .i64 0] 28 (0, 0)) := by
 have s1 : (w.alloc (.cells (freshV 0 0) 41)).heap.size = w.heap.size + 1 := by simp
 have s2 : ((w.alloc (.cells (freshV 0 0) 41)).alloc (.cells #[.int .i64 0] 3)).heap.size = w.heap.size + 1 + 1 := by simp
 have h0 := blk_new w (.cells (freshV 0 0) 41)
 have h1 := blk_new (w.alloc (.cells (freshV 0 0) 41)) (.cells #[.int .i64 0] 3)
 have h2 := blk_new ((w.alloc (.cells (freshV 0 0) 41)).alloc (.cells #[.int .i64 0] 3)) (.cells #[.int .i64 0] 28)
 rw [s1] at h1
 rw [s2] at h2
 exact ⟨blk_alloc (blk_alloc h0 _) _, blk_alloc h1 _, h2⟩
theorem decC_results (tmps : Array Value) (w : World) (a b c : Nat) (cs : Array Value) (v1 v2 : Value) (t0 : tmps.getD 2 undef = .pointer (some ⟨a, 0, none⟩)) (t1 : tmps.getD 3 undef = .pointer (some ⟨b, 0, none⟩)) (t2 : tmps.getD 4 undef = .pointer (some ⟨c, 0, none⟩))
  (hcs : cs.size = 15) (h0 : w.heap[a]? = some (.cells cs 41 (0, 0))) (h1 : w.heap[b]? = some (.cells #[v1] 3 (0, 0))) (h2 : w.heap[c]? = some (.cells #[v2] 28 (0, 0))) :
  (results Tryd.f81 tmps).run Tryd.prog w = .ok (.tuple #[.agg cs, v1, v2]) w := by
 have k1 := blk_cell h1 0
 have k2 := blk_cell h2 0
 have hi : (Tryd.prog.info? 41).map (·.size) = some cs.size := by rw [hcs]; kernel_rfl
 have hl := run_loadVar_row w a 41 41 cs (0, 0) _ h0 Tryd.underlying41 rfl hi
 rw [Array.getD_eq_getD_getElem?] at t0 t1 t2
 have l1 : (loadVar 3 ⟨b, 0, none⟩).run Tryd.prog w = .ok v1 w := by simp [go_sem, k1]
 have l2 : (loadVar 28 ⟨c, 0, none⟩).run Tryd.prog w = .ok v2 w := by simp [go_sem, k2]
 simp [results, Tryd.results81, asAddr, t0, t1, t2, hl, l1, l2]
theorem mnil (w : World) (base : Nat) (kd fl : Int) : k41.M w base (fun _ => True) (chk0 kd fl) (freshV kd fl).toList := k41_mkM _ _ _ (chk0 kd fl) (Kd.R_nil _ _ _ _ _) (Kd.R_nil _ _ _ _ _) (Kd.R_nil _ _ _ _ _) (Kd.R_nil _ _ _ _ _) (Kd.R_nil _ _ _ _ _)
theorem M_only {α : Type} {d : Kd α} {w w' : World} {base : Nat} {ok : Nat → Prop} {x : α} {cs : List Value} {S : Nat → Prop} (h : d.M w base ok x cs) (o : Only S w w') (hs : ∀ k, base ≤ k → k < w.heap.size → ¬ S k) : d.M w' base ok x cs :=
 d.M_mono (fun k hk => hk.1) (d.M_move (fun k hk => o.block k hk.2.2.1 (hs k hk.2.1 hk.2.2.1)) (d.M_bound h))
theorem below_setRow {B g : Nat} {a w : World} (h : Below B a w) (hg : B ≤ g) (cs : Array Value) : Below B a (w.setRow g cs) :=
 ⟨h.os, h.tape, h.output, by rw [setRow_size]; exact h.size, fun k hk => (setRow_other _ _ _ _ (by omega)).trans (h.block k hk)⟩
theorem exec_store_row {P : Program} {o : Oper} {a : Act} {w : World} (ty : TypeId) (x y : Operand) (ho : o.op = .store ty x y) {g : Nat} {cells : Array Value} (hx : a.eval x = .pointer (some ⟨g, 0, none⟩)) (hy : a.eval y = .agg cells) {t : TypeId} {old : Array Value} (hg : w.heap[g]? = some (.cells old t (0, 0))) (hi : (P.info? ty).map (·.size) = some cells.size)
  (hold : old.size = cells.size) (h1 : cells.all (·.oneCell') = true) : (execOp a.eval o).run P w = .ok .skip (w.setRow g cells) := by
 unfold execOp
 simp only [ho, hx, hy, Instr.storeAt, Instr.sureAddr, Sem.run_bind, Sem.run_pure, Result.andThen_ok, run_storeVar_row w g t ty old cells hg hi hold h1]
set_option maxHeartbeats 4000000 in
theorem decC_with (w : World) (A : Option Addr) (lb : List UInt8) (c : Nat) (hb : byte.C w A lb.length lb) (hc : lb.length ≤ c) (hn : lb.length ≤ 140737488355328)
  (HRD : 4 ≤ lb.length → ∀ (kd fl : Int) (v : List UInt8), ((lb.getD 0 0).toNat : Int) = kd → v = (lb.take (be ((lb.drop 2).take 2))).drop 4 → ∀ (w0 w : World) (g gc : Nat), RS w0 w g v → w.heap[gc]? = some (.cells (freshV kd fl) 41 (0, 0)) → Below w0.heap.size w0 w → w0.heap.size ≤ g → w0.heap.size ≤ gc → g ≠ gc → v.length ≤ 140737488355328 →
   Calls Tryd.prog 92 #[.pointer (some ⟨g, 0, none⟩), .pointer (some ⟨gc, 0, none⟩)] w (ReadP w g gc (readD kd fl v))) :
  Calls Tryd.prog 81 #[.slice A lb.length c] w (DecCP lb w) := by
 have hmf : ∀ (fn : Fn) (first cap : Array Value) (w : World), (Instr.makeFunc fn first cap).run Tryd.prog w = .ok (.func fn first cap) w := fun _ _ _ _ => rfl
 have HRX := Lh HRD
 clear HRD
 by_cases h4 : lb.length < 4
 ·have HDE := Lh (show decC lb = (chk0 0 0, 0, 60) from by unfold decC; rw [if_pos h4])
  have hl : (lb.length : Int) < 4 := by omega
  clear hb hc
  generalize lb.length = L at *
  go_enter_defers Tryd.func81, Tryd.ntmps81
  go_wp2
  refine leaves_cons (f := 91) (args := #[.pointer (some ⟨w.heap.size, 0, none⟩), .pointer (some ⟨w.heap.size + 1, 0, none⟩), .pointer (some ⟨w.heap.size + 1 + 1, 0, none⟩)]) (by simp) (by simp [go_sem]) ?_
  refine (catch_err w.heap.size (w.heap.size + 1) (w.heap.size + 1 + 1) 60 [] _ _ _ _ _ _ (wc3_blk w).1 rfl (wc3_blk w).2.1 (wc3_blk w).2.2 (by omega) (by omega) (by omega)).mono ?_
  rintro e u' w'' ⟨rfl, rfl, h0, h1, h2, hO⟩
  exact ⟨_, decC_results _ _ _ _ _ _ _ _ rfl rfl rfl rfl h0 h1 h2, freshV 0 0, by rw [HDE.out], by rw [HDE.out]; exact mnil _ _ _ _, (wc3_below w).trans (hO.below (by rw [show _ = (wc3 w).heap.size from rfl, wc3_size]; omega) (fun k hk => by omega))⟩
 ·have hl : ¬ (lb.length : Int) < 4 := by omega
  obtain ⟨ad, rfl, x0⟩ := byte_at hb 0 (by omega)
  obtain ⟨ad', e', x1⟩ := byte_at hb 1 (by omega)
  cases e'
  obtain ⟨ad', e', x2⟩ := byte_at hb 2 (by omega)
  cases e'
  obtain ⟨ad', e', x3⟩ := byte_at hb 3 (by omega)
  cases e'
  have hsz : be ((lb.drop 2).take 2) = (lb.getD 2 0).toNat * 256 + (lb.getD 3 0).toNat := by
   have : ∀ l : List UInt8, 4 ≤ l.length → be ((l.drop 2).take 2) = (l.getD 2 0).toNat * 256 + (l.getD 3 0).toNat := by
    intro l hl
    obtain ⟨b0, b1, b2, b3, r, rfl⟩ := take_four hl
    exact be_two _ _
   exact this lb (by omega)
  have hor := or_bytes (lb.getD 2 0) (lb.getD 3 0)
  have hb2 : (lb.getD 2 0).toNat < 256 := (lb.getD 2 0).toNat_lt
  have hb3 : (lb.getD 3 0).toNat < 256 := (lb.getD 3 0).toNat_lt
  rw [← hsz] at hor
  replace x0 : w.cell? ad = some (.int .u8 ((lb.getD 0 0).toNat : Int)) := x0
  have X1 := Lh (show w.cell? ⟨ad.block, ad.off + 1, none⟩ = some (.int .u8 ((lb.getD 1 0).toNat : Int)) by
   rw [show ad.add 1 = ad.add (0 + 1) from rfl, add_field _ _ 1 (by omega)] at x1
   exact x1)
  replace x2 : w.cell? ⟨ad.block, ad.off + 2, none⟩ = some (.int .u8 ((lb.getD 2 0).toNat : Int)) := by
   rw [show ad.add 2 = ad.add (0 + 2) from rfl, add_field _ _ 2 (by omega)] at x2
   exact x2
  replace x3 : w.cell? ⟨ad.block, ad.off + 3, none⟩ = some (.int .u8 ((lb.getD 3 0).toNat : Int)) := by
   rw [show ad.add 3 = ad.add (0 + 3) from rfl, add_field _ _ 3 (by omega)] at x3
   exact x3
  clear x1
  have hszb : be ((lb.drop 2).take 2) < 65536 := be_two_lt _
  obtain ⟨sz, hs⟩ : ∃ sz, be ((lb.drop 2).take 2) = sz := ⟨_, rfl⟩
  rw [hs] at hor hszb
  have HS := Lh hs
  clear hs hsz
  generalize hy2 : ((lb.getD 2 0).toNat : Int) = y2 at *
  generalize hy3 : ((lb.getD 3 0).toNat : Int) = y3 at *
  obtain ⟨kd, hkd⟩ : ∃ kd : Int, ((lb.getD 0 0).toNat : Int) = kd := ⟨_, rfl⟩
  obtain ⟨b1, hb1⟩ : ∃ b1 : Int, ((lb.getD 1 0).toNat : Int) = b1 := ⟨_, rfl⟩
  rw [hkd] at x0
  rw [hb1] at X1
  have HKD := Lh hkd
  have HB1 := Lh hb1
  clear hkd hb1
  have HB := Lh (show Below w.heap.size w (((w.alloc (.cells #[.int .u8 0, .int .u8 0, .int .u32 0, .int .u16 0, .int .u16 0, .int .u32 0, .int .u32 0, .int .u32 0, .int .u16 0, .int .u16 0, .slice none 0 0, .slice none 0 0, .slice none 0 0, .slice none 0 0, .slice none 0 0] 41)).alloc (.cells #[.int .i64 0] 3)).alloc (.cells #[.int .i64 0] 28)) from wc3_below w)
  have HC := Lh (show (((w.alloc (.cells #[.int .u8 0, .int .u8 0, .int .u32 0, .int .u16 0, .int .u16 0, .int .u32 0, .int .u32 0, .int .u32 0, .int .u16 0, .int .u16 0, .slice none 0 0, .slice none 0 0, .slice none 0 0, .slice none 0 0, .slice none 0 0] 41)).alloc (.cells #[.int .i64 0] 3)).alloc (.cells #[.int .i64 0] 28)).heap[w.heap.size]? = some (.cells #[.int .u8 0, .int .u8 0, .int .u32 0, .int .u16 0, .int .u16 0, .int .u32 0, .int .u32 0, .int .u32 0, .int .u16 0, .int .u16 0, .slice none 0 0, .slice none 0 0, .slice none 0 0, .slice none 0 0, .slice none 0 0] 41 (0, 0)) from (wc3_blk w).1)
  have HN := Lh (show (((w.alloc (.cells #[.int .u8 0, .int .u8 0, .int .u32 0, .int .u16 0, .int .u16 0, .int .u32 0, .int .u32 0, .int .u32 0, .int .u16 0, .int .u16 0, .slice none 0 0, .slice none 0 0, .slice none 0 0, .slice none 0 0, .slice none 0 0] 41)).alloc (.cells #[.int .i64 0] 3)).alloc (.cells #[.int .i64 0] 28)).heap[w.heap.size + 1]? = some (.cells #[.int .i64 0] 3 (0, 0)) from (wc3_blk w).2.1)
  have HE := Lh (show (((w.alloc (.cells #[.int .u8 0, .int .u8 0, .int .u32 0, .int .u16 0, .int .u16 0, .int .u32 0, .int .u32 0, .int .u32 0, .int .u16 0, .int .u16 0, .slice none 0 0, .slice none 0 0, .slice none 0 0, .slice none 0 0, .slice none 0 0] 41)).alloc (.cells #[.int .i64 0] 3)).alloc (.cells #[.int .i64 0] 28)).heap[w.heap.size + 1 + 1]? = some (.cells #[.int .i64 0] 28 (0, 0)) from (wc3_blk w).2.2)
  have HBY := Lh hb
  replace x0 := pw_cell_below HB.out x0
  replace x2 := pw_cell_below HB.out x2
  replace x3 := pw_cell_below HB.out x3
  clear hb
  generalize hL : lb.length = L at *
  go_enter_defers Tryd.func81, Tryd.ntmps81
  go_upto_region 1 with (fail)
  generalize (((w.alloc (.cells #[.int .u8 0, .int .u8 0, .int .u32 0, .int .u16 0, .int .u16 0, .int .u32 0, .int .u32 0, .int .u32 0, .int .u16 0, .int .u16 0, .slice none 0 0, .slice none 0 0, .slice none 0 0, .slice none 0 0, .slice none 0 0] 41)).alloc (.cells #[.int .i64 0] 3)).alloc (.cells #[.int .i64 0] 28)) = W at *
  generalize hge : w.heap.size + 1 + 1 = ge at *
  generalize hgn : w.heap.size + 1 = gn at *
  obtain ⟨gc, hgc⟩ : ∃ gc, w.heap.size = gc := ⟨_, rfl⟩
  rw [hgc]
  rw [hgc] at HC
  have HG := Lh (show w.heap.size = gc ∧ gn = gc + 1 ∧ ge = gc + 2 from ⟨hgc, by omega, by omega⟩)
  clear hge hgn hgc
  by_cases hbad : sz < 4 ∨ L < sz
  ·have HDE := Lh (show decC lb = (chk0 0 0, 0, 60) from by unfold decC; rw [if_neg (by omega), HS.out, if_pos (by omega)])
   by_cases hs4 : sz < 4
   ·have hs4' : (sz : Int) < 4 := by omega
    go_wp2
    go_quiet (fail)
    go_wp2
    refine leaves_cons (f := 91) (args := #[.pointer (some ⟨gc, 0, none⟩), .pointer (some ⟨gn, 0, none⟩), .pointer (some ⟨ge, 0, none⟩)]) (by simp) (by simp [go_sem]) ?_
    refine (catch_err gc gn ge 60 [] _ _ _ _ _ _ (blk_drewN HC.out _) rfl (blk_drewN HN.out _) (blk_drewN HE.out _) (by have := HG.out; omega) (by have := HG.out; omega) (by have := HG.out; omega)).mono ?_
    rintro e u' w'' ⟨rfl, rfl, h0, h1, h2, hO⟩
    exact ⟨_, decC_results _ _ _ _ _ _ _ _ rfl rfl rfl rfl h0 h1 h2, freshV 0 0, by rw [HDE.out], by rw [HDE.out]; exact mnil _ _ _ _, (pw_below_drewN HB.out _).trans (hO.below (pw_below_drewN HB.out _).size (fun k hk => by have := HG.out; omega))⟩
   ·have hs4' : ¬ (sz : Int) < 4 := by omega
    have hs5 : (L : Int) < (sz : Int) := by omega
    go_wp2
    go_quiet (fail)
    go_wp2
    refine leaves_cons (f := 91) (args := #[.pointer (some ⟨gc, 0, none⟩), .pointer (some ⟨gn, 0, none⟩), .pointer (some ⟨ge, 0, none⟩)]) (by simp) (by simp [go_sem]) ?_
    refine (catch_err gc gn ge 60 [] _ _ _ _ _ _ (blk_drewN HC.out _) rfl (blk_drewN HN.out _) (blk_drewN HE.out _) (by have := HG.out; omega) (by have := HG.out; omega) (by have := HG.out; omega)).mono ?_
    rintro e u' w'' ⟨rfl, rfl, h0, h1, h2, hO⟩
    exact ⟨_, decC_results _ _ _ _ _ _ _ _ rfl rfl rfl rfl h0 h1 h2, freshV 0 0, by rw [HDE.out], by rw [HDE.out]; exact mnil _ _ _ _, (pw_below_drewN HB.out _).trans (hO.below (pw_below_drewN HB.out _).size (fun k hk => by have := HG.out; omega))⟩
  ·have hs4 : ¬ (sz : Int) < 4 := by omega
   have hs5 : ¬ (L : Int) < (sz : Int) := by omega
   go_wp2
   go_quiet (fail)
   go_upto_region 8 with (refine wpList_store_row rfl 41 _ _ rfl gc #[.int .u8 kd, .int .u8 0, .int .u32 0, .int .u16 0, .int .u16 0, .int .u32 0, .int .u32 0, .int .u32 0, .int .u16 0, .int .u16 0, .slice none 0 0, .slice none 0 0, .slice none 0 0, .slice none 0 0, .slice none 0 0] rfl rfl 41 #[.int .u8 0, .int .u8 0, .int .u32 0, .int .u16 0, .int .u16 0, .int .u32 0, .int .u32 0, .int .u32 0, .int .u16 0, .int .u16 0, .slice none 0 0, .slice none 0 0, .slice none 0 0, .slice none 0 0, .slice none 0 0] (blk_drewN HC.out _) (by kernel_rfl) rfl (by simp [Value.oneCell']) ?_)
   have HC2 := Lh (setRow_heap _ _ _ #[.int .u8 kd, .int .u8 0, .int .u32 0, .int .u16 0, .int .u16 0, .int .u32 0, .int .u32 0, .int .u32 0, .int .u16 0, .int .u16 0, .slice none 0 0, .slice none 0 0, .slice none 0 0, .slice none 0 0, .slice none 0 0] _ _ (blk_drewN HC.out nq))
   have HN2 := Lh ((setRow_other (W.drewN nq) gc gn #[.int .u8 kd, .int .u8 0, .int .u32 0, .int .u16 0, .int .u16 0, .int .u32 0, .int .u32 0, .int .u32 0, .int .u16 0, .int .u16 0, .slice none 0 0, .slice none 0 0, .slice none 0 0, .slice none 0 0, .slice none 0 0] (by have := HG.out; omega)).trans (blk_drewN HN.out nq))
   have HE2 := Lh ((setRow_other (W.drewN nq) gc ge #[.int .u8 kd, .int .u8 0, .int .u32 0, .int .u16 0, .int .u16 0, .int .u32 0, .int .u32 0, .int .u32 0, .int .u16 0, .int .u16 0, .slice none 0 0, .slice none 0 0, .slice none 0 0, .slice none 0 0, .slice none 0 0] (by have := HG.out; omega)).trans (blk_drewN HE.out nq))
   have HB2 := Lh (below_setRow (pw_below_drewN HB.out nq) (by have := HG.out; omega) #[.int .u8 kd, .int .u8 0, .int .u32 0, .int .u16 0, .int .u16 0, .int .u32 0, .int .u32 0, .int .u32 0, .int .u16 0, .int .u16 0, .slice none 0 0, .slice none 0 0, .slice none 0 0, .slice none 0 0, .slice none 0 0] (g := gc))
   clear HC HN HE HB x0 x2 x3
   generalize (W.drewN nq).setRow gc #[.int .u8 kd, .int .u8 0, .int .u32 0, .int .u16 0, .int .u16 0, .int .u32 0, .int .u32 0, .int .u32 0, .int .u16 0, .int .u16 0, .slice none 0 0, .slice none 0 0, .slice none 0 0, .slice none 0 0, .slice none 0 0] = W at *
   have HC := HC2
   have HN := HN2
   have HE := HE2
   have HB := HB2
   have x1 := Lh (pw_cell_below HB.out X1.out)
   clear HC2 HN2 HE2 HB2
   obtain ⟨fl, hfl⟩ : ∃ fl, flD kd b1 = fl := ⟨_, rfl⟩
   have HFL := Lh (show bits .and .u8 b1 (maskD kd) = fl from hfl)
   have HFL2 := Lh hfl
   clear hfl
   have HL1 := Lh (show ¬ (L : Int) ≤ 1 by omega)
   have B := True.intro
   refine calm ?_
   refine start_ (n := 9) (S := fun w' => True) (ds := []) #[false, false, false, false, false, false, false, false, false] (by kernel_rfl) rfl rfl trivial (fun hHeld => ?_)
   refine with_tabW decAtab8 decAbits8 (fun HT_ HW_ => ?_)
   refine pu 0 35 ?_ rfl rfl (any_of HT_.out (by kernel_rfl)) (fun _ _ _ h => h.1.elim) (by rfl) ?_ ?_ ?_ ?_
   rotate_left
   ·intro w'
    go_simp
    with_reducible rfl
   rotate_left
   ·simp only [sL]
    rfl
   refine inv_at [1, 2, 3, 4, 5, 6, 7, 8] (fun a0_ b a w' => a = putSel a0_ b [(1, 36, .pointer (some ⟨ad.block, ad.off + 1, none⟩)), (2, 37, .int .u8 b1), (3, 38, .pointer (some ⟨gc, 0, none⟩)), (4, 39, .int .u8 kd), (5, 40, .int .u8 (maskD kd)), (6, 41, .int .u8 fl), (7, 42, .pointer (some ⟨gc, 1, none⟩))] ∧ (b 8 = false → Drawn0 W w') ∧ (b 8 = true → ∃ w2, Drawn0 W w2 ∧ w' = w2.setCell ⟨gc, 1, none⟩ (.int .u8 fl))) HT_.out HW_.out (by kernel_rfl) (by kernel_rfl) ?_ ?_ ?_
   ·exact ⟨by simp only [putSel, Bool.false_eq_true, if_false], fun _ => ⟨1, rfl⟩, fun h_ => absurd h_ (by decide)⟩
   ·skip
    clear B
    refine sc rfl ?_ ?_
    ·rintro b a w' ⟨ha, Q_B, Q_S⟩ hb_ hon hoff K hK
     have e35 : a.tmps[35]? = some (.slice (some ad) L c) := by rw [ha]; exact (putSel_off rfl).trans rfl
     replace ha := Am ha
     have hl1 := HL1.out
     refine value_ (w1 := w') (v := .pointer (some ⟨ad.block, ad.off + 1, none⟩)) (by rfl) rfl ?_ ?_
     ·go_simp
      (try simp only [i64_w])
      try rfl
     refine hK.out _ _ ⟨(puk ha 0 hb_ rfl rfl rfl), Q_B, fun h0_ => hof (hoff 8 (by kernel_rfl)) h0_⟩
    refine sc rfl ?_ ?_
    ·rintro b a w' ⟨ha, Q_B, Q_S⟩ hb_ hon hoff K hK
     have e36 := psn ha 0 rfl rfl (hon 1 (by kernel_rfl)) rfl
     replace ha := Am ha
     have B := Am (Q_B (hoff 8 (by kernel_rfl)))
     have hs := pw_cell_below (drawn_below B.out) x1.out
     refine value_ (w1 := w') (v := .int .u8 b1) (by rfl) rfl ?_ ?_
     ·go_simp
      (try simp only [i64_w])
      try rfl
     refine hK.out _ _ ⟨(puk ha 1 hb_ rfl rfl rfl), Q_B, fun h0_ => hof (hoff 8 (by kernel_rfl)) h0_⟩
    refine sc rfl ?_ ?_
    ·rintro b a w' ⟨ha, Q_B, Q_S⟩ hb_ hon hoff K hK
     have e2 : a.tmps[2]? = some (.pointer (some ⟨gc, 0, none⟩)) := by rw [ha]; exact (putSel_off rfl).trans rfl
     replace ha := Am ha
     refine value_ (w1 := w') (v := .pointer (some ⟨gc, 0, none⟩)) (by rfl) rfl ?_ ?_
     ·go_simp
      (try simp only [i64_w])
      try rfl
     refine hK.out _ _ ⟨(puk ha 2 hb_ rfl rfl rfl), Q_B, fun h0_ => hof (hoff 8 (by kernel_rfl)) h0_⟩
    refine sc rfl ?_ ?_
    ·rintro b a w' ⟨ha, Q_B, Q_S⟩ hb_ hon hoff K hK
     have e38 := psn ha 2 rfl rfl (hon 3 (by kernel_rfl)) rfl
     replace ha := Am ha
     have B := Am (Q_B (hoff 8 (by kernel_rfl)))
     have hs : w'.cell? ⟨gc, 0, none⟩ = some (.int .u8 kd) := blk_cell (blk_below HC.out (drawn_below B.out)) 0
     refine value_ (w1 := w') (v := .int .u8 kd) (by rfl) rfl ?_ ?_
     ·go_simp
      (try simp only [i64_w])
      try rfl
     refine hK.out _ _ ⟨(puk ha 3 hb_ rfl rfl rfl), Q_B, fun h0_ => hof (hoff 8 (by kernel_rfl)) h0_⟩
    refine sc rfl ?_ ?_
    ·rintro b a w' ⟨ha, Q_B, Q_S⟩ hb_ hon hoff K hK
     have e39 := psn ha 3 rfl rfl (hon 4 (by kernel_rfl)) rfl
     replace ha := Am ha
     have B := Am (Q_B (hoff 8 (by kernel_rfl)))
     refine goes_ Tryd.func88 (by kernel_rfl) rfl #[.int .u8 kd] (by rfl) rfl rfl (by first | (simp only [List.map_toArray, List.map_cons, List.map_nil, Act.eval, Array.getD_eq_getD_getElem?, Option.getD_some, e39]; done) | (simp only [List.map_toArray, List.map_cons, List.map_nil, Act.eval, Array.getD_eq_getD_getElem?, Option.getD_some, e39]; rfl)) ?_
     refine (mask_calls kd w').mono ?_
     rintro e w1 ⟨rfl, hD1⟩
     refine ⟨_, rfl, ?_⟩
     refine hK.out _ _ ⟨(puk ha 4 hb_ rfl rfl rfl), fun _ => drawn_trans B.out hD1, fun h0_ => hof (hoff 8 (by kernel_rfl)) h0_⟩
    refine sc rfl ?_ ?_
    ·rintro b a w' ⟨ha, Q_B, Q_S⟩ hb_ hon hoff K hK
     have e37 := psn ha 1 rfl rfl (hon 2 (by kernel_rfl)) rfl
     have e40 := psn ha 4 rfl rfl (hon 5 (by kernel_rfl)) rfl
     replace ha := Am ha
     have B := Am (Q_B (hoff 8 (by kernel_rfl)))
     refine value_ (w1 := w') (v := .int .u8 fl) (by rfl) rfl (by go_simp; first | done | exact HFL.out) ?_
     refine hK.out _ _ ⟨(puk ha 5 hb_ rfl rfl rfl), fun _ => B.out, fun h0_ => hof (hoff 8 (by kernel_rfl)) h0_⟩
    refine sc rfl ?_ ?_
    ·rintro b a w' ⟨ha, Q_B, Q_S⟩ hb_ hon hoff K hK
     have e2 : a.tmps[2]? = some (.pointer (some ⟨gc, 0, none⟩)) := by rw [ha]; exact (putSel_off rfl).trans rfl
     replace ha := Am ha
     refine value_ (w1 := w') (v := .pointer (some ⟨gc, 1, none⟩)) (by rfl) rfl ?_ ?_
     ·go_simp
      (try simp only [i64_w])
      try rfl
     refine hK.out _ _ ⟨(puk ha 6 hb_ rfl rfl rfl), Q_B, fun h0_ => hof (hoff 8 (by kernel_rfl)) h0_⟩
    refine sc rfl ?_ ?_
    ·rintro b a w' ⟨ha, Q_B, Q_S⟩ hb_ hon hoff K hK
     have e42 := psn ha 6 rfl rfl (hon 7 (by kernel_rfl)) rfl
     have e41 := psn ha 5 rfl rfl (hon 6 (by kernel_rfl)) rfl
     replace ha := Am ha
     have B := Am (Q_B hb_)
     have hs : w'.cell? ⟨gc, 1, none⟩ = some (.int .u8 0) := blk_cell (blk_below HC.out (drawn_below B.out)) 1
     have hf := blk_frozen (blk_below HC.out (drawn_below B.out)) 1
     refine skip_ (w1 := w'.setCell ⟨gc, 1, none⟩ (.int .u8 fl)) (by rfl) rfl (by go_simp; try rfl) ?_
     refine hK.out _ _ ⟨(by rw [ha.out]; exact putSel_none (v := undef) rfl), fun h0_ => absurd ((up_self b 8).symm.trans h0_) (by decide), fun _ => ⟨w', B.out, rfl⟩⟩
    exact steps_nil
   rintro b a w' hall ⟨ha, Q_B, Q_S⟩
   clear B
   have hb1_ := hall 1 (by kernel_rfl)
   have hb2_ := hall 2 (by kernel_rfl)
   have hb3_ := hall 3 (by kernel_rfl)
   have hb4_ := hall 4 (by kernel_rfl)
   have hb5_ := hall 5 (by kernel_rfl)
   have hb6_ := hall 6 (by kernel_rfl)
   have hb7_ := hall 7 (by kernel_rfl)
   have hb8_ := hall 8 (by kernel_rfl)
   subst ha
   simp only [putSel, hb1_, hb2_, hb3_, hb4_, hb5_, hb6_, hb7_, hb8_, if_true, Act.put, List.setIfInBounds_toArray, List.set_cons_zero, List.set_cons_succ]
   clear Q_B
   have S := Am (Q_S hb8_)
   clear Q_S
   clear hall hb1_ hb2_ hb3_ hb4_ hb5_ hb6_ hb7_ hb8_
   refine ⟨trivial, ?_⟩
   obtain ⟨w2, hD, hw⟩ := S.out
   have hs2 := (drawn_below hD).size
   have HC2 := Lh (blk_put (blk_below HC.out (drawn_below hD)) 1 (.int .u8 fl) (show _ = freshV kd fl from rfl))
   have HN2 := Lh (blk_far (p := ⟨gc, 1, none⟩) (blk_below HN.out (drawn_below hD)) (by have := HG.out; show gn ≠ gc; omega) (.int .u8 fl))
   have HE2 := Lh (blk_far (p := ⟨gc, 1, none⟩) (blk_below HE.out (drawn_below hD)) (by have := HG.out; show ge ≠ gc; omega) (.int .u8 fl))
   have HB2 := Lh ((below_then HB.out HB.out.size (drawn_below hD)).setCell (p := ⟨gc, 1, none⟩) (by have := HG.out; show w.heap.size ≤ gc; omega) (.int .u8 fl))
   rw [← hw] at HC2 HN2 HE2 HB2
   clear HC HN HE HB S x1 hw hD hs2 HFL
   have HC := HC2
   have HN := HN2
   have HE := HE2
   have HB := HB2
   clear HC2 HN2 HE2 HB2
   generalize w' = W at *
   obtain ⟨Av, hcut, hCv, hcl⟩ := mid_bytes (w := w) (A := some ad) (c := c) (l := lb) (by rw [hL]; exact HBY.out) (by omega) 4 sz (by omega) (by omega)
   rw [hL] at hcut
   have hvl : ((lb.take sz).drop 4).length ≤ 65536 := by rw [List.length_drop, List.length_take]; omega
   have HDD := Lh (show ∀ d, readD kd fl ((lb.take sz).drop 4) = .ok d → decC lb = (d, ((min ((sz + 3) / 4 * 4) L : Nat) : Int), 0) from fun d hd => by unfold decC; rw [if_neg (by omega), HS.out, if_neg (by omega), HKD.out, HB1.out, HFL2.out, hd, hL])
   have HDB := Lh (show ∀ code, readD kd fl ((lb.take sz).drop 4) = .error code → decC lb = (chk0 0 0, 0, code) from fun d hd => by unfold decC; rw [if_neg (by omega), HS.out, if_neg (by omega), HKD.out, HB1.out, HFL2.out, hd])
   have HRC := Lh (HRX.out (by omega) kd fl ((lb.take sz).drop 4) HKD.out (by rw [HS.out]))
   clear HRX
   generalize (lb.take sz).drop 4 = v at *
   have hcut2 : ∀ W : World, (Instr.slice 27 (.slice (some ad) L c) (some (.int .i64 4)) (some (.int .i64 (sz : Int))) none).run Tryd.prog W = .ok (.slice Av v.length (c - 4)) W := hcut
   have HR := Lh (fun o : Obj => fun (ho : o = .cells #[.slice Av v.length (c - 4)] 133) => HRC.out w (W.alloc o) W.heap.size gc ⟨Av, c - 4, by rw [ho]; exact blk_new _ _, hcl, hCv⟩ (blk_alloc HC.out _) (HB.out.alloc HB.out.size _) HB.out.size (by have := HG.out; omega) (fun e => by have := blk_lt HC.out; omega) (by omega))
   clear hcut hCv hcl hvl
   generalize v.length = nv at *
   generalize c - 4 = c4 at *
   go_wp2_with fail
   refine (HR.out _ rfl).mono ?_
   intro e W4 hP
   have hgN := blk_lt HN.out
   have hgE := blk_lt HE.out
   have hgC := blk_lt HC.out
   unfold ReadP at hP
   cases hr : readD kd fl v with
   | error code =>
    rw [hr] at hP
    obtain ⟨rfl, ⟨x0', hx0, hxs⟩, hO⟩ := hP
    have HDE := Lh (HDB.out code hr)
    unfold errE
    have hN4 := hO.blk (blk_alloc HN.out _) (fun h => by have := HG.out; omega)
    have hE4 := hO.blk (blk_alloc HE.out _) (fun h => by have := HG.out; omega)
    have hB4 := (HB.out.alloc HB.out.size _).trans (hO.below (by have := HB.out.size; simp; omega) (fun k hk => by have := HG.out; have := HB.out.size; omega))
    go_wp2
    refine leaves_cons (f := 91) (args := #[.pointer (some ⟨gc, 0, none⟩), .pointer (some ⟨gn, 0, none⟩), .pointer (some ⟨ge, 0, none⟩)]) (by simp) (by simp [go_sem]) ?_
    refine (catch_err gc gn ge code [] _ _ _ _ _ _ hx0 hxs hN4 hE4 (by have := HG.out; omega) (by have := HG.out; omega) (by have := HG.out; omega)).mono ?_
    rintro e u' w'' ⟨rfl, rfl, h0, h1, h2, hO2⟩
    exact ⟨_, decC_results _ _ _ _ _ _ _ _ rfl rfl rfl rfl h0 h1 h2, freshV 0 0, by rw [HDE.out], by rw [HDE.out]; exact mnil _ _ _ _, hB4.trans (hO2.below hB4.size (fun k hk => by have := HG.out; omega))⟩
   | ok d =>
    rw [hr] at hP
    obtain ⟨rfl, cs, hc4, hm4, hO⟩ := hP
    have HDE := Lh (HDD.out d hr)
    have HN4 := Lh (hO.blk (blk_alloc HN.out _) (fun h => by have := HG.out; omega))
    have HE4 := Lh (hO.blk (blk_alloc HE.out _) (fun h => by have := HG.out; omega))
    have HB4 := Lh ((HB.out.alloc HB.out.size _).trans (hO.below (by have := HB.out.size; simp; omega) (fun k hk => by have := HG.out; have := HB.out.size; omega)))
    have hcs : cs.size = 15 := by
     have h15 : cs.toList.length = 15 := Kd.K_len _ (Kd.K_of_M _ hm4)
     rw [Array.length_toList] at h15
     exact h15
    have HCI := Lh (show (Tryd.prog.info? 41).map (·.size) = some cs.size by rw [hcs]; kernel_rfl)
    have HC1 := Lh (show cs.all (·.oneCell') = true by
     rw [← Array.all_toList]
     exact List.all_eq_true.2 (fun u hu => Kd.K_one _ (Kd.K_of_M _ hm4) u hu))
    have HM4 := Lh (Kd.M_lower _ (base' := W.heap.size) (by simp) hm4)
    have HBS := Lh HB.out.size
    clear HC HN HE HB hO hm4 HR
    have HGB := Lh (show w.heap.size ≤ W.heap.size from HBS.out)
    generalize W.heap.size = gw at *
    have HC := Lh hc4
    have HN := HN4
    have HE := HE4
    have HB := HB4
    clear hc4 HN4 HE4 HB4
    have HW := Lh (show gw < W4.heap.size ∨ True from Or.inr trivial)
    generalize W4 = W at *
    obtain ⟨pd, hpd⟩ : ∃ pd, (sz + 3) / 4 * 4 = pd := ⟨_, rfl⟩
    have HPD := Lh (fun W : World => padded_calls sz (by omega) W)
    rw [hpd] at HPD HDE
    obtain ⟨mn, hmn⟩ : ∃ mn, min pd L = mn := ⟨_, rfl⟩
    rw [hmn] at HDE
    have hmin : Hid ((if L < pd then (L : Int) else (pd : Int)) = (mn : Int)) := by
     show _ = _
     split <;> omega
    have HCN := Lh (show gc ≠ gn by have := HG.out; omega)
    have HCE := Lh (show gc ≠ ge by have := HG.out; omega)
    have HEN := Lh (show ge ≠ gn by have := HG.out; omega)
    have HNE := Lh (show gn ≠ ge by have := HG.out; omega)
    have HGW := Lh (show gn < gw ∧ ge < gw from ⟨hgN, hgE⟩)
    have HCS := Lh hcs
    clear hpd hmn hgN hgE hgC hcs hr
    go_upto_region 11 with (fail)
    have B := True.intro
    have C := True.intro
    have N := True.intro
    have E := True.intro
    refine calm ?_
    refine start_ (n := 9) (S := fun w' => True) (ds := []) #[false, false, false, false, false, false, false, false, false] (by kernel_rfl) rfl rfl trivial (fun hHeld => ?_)
    refine with_tabW decBtab11 decBbits11 (fun HT_ HW_ => ?_)
    refine pu 1 52 ?_ rfl rfl (any_of HT_.out (by kernel_rfl)) (fun _ _ _ h => h.1.elim) (by rfl) ?_ ?_ ?_ ?_
    rotate_left
    ·intro w'
     go_simp
     with_reducible rfl
    rotate_left
    ·simp only [sL]
     rfl
    refine pu 3 54 ?_ rfl rfl (any_of HT_.out (by kernel_rfl)) (fun _ _ _ h => h.1.elim) (by rfl) ?_ ?_ ?_ ?_
    rotate_left
    ·intro w'
     go_simp
     with_reducible rfl
    rotate_left
    ·simp only [sL]
     rfl
    refine inv_at [0, 2, 4, 5, 6, 7, 8] (fun a0_ b a w' => a = putSel a0_ b [(0, 51, .agg cs), (2, 53, .int .i64 (pd : Int)), (4, 55, .int .i64 (L : Int)), (5, 56, .int .i64 (mn : Int))] ∧ (Only (fun k => k = gn ∨ k = ge) W w') ∧ (w'.heap[gc]? = some (.cells cs 41 (0, 0))) ∧ (b 7 = false → w'.heap[gn]? = some (.cells #[.int .i64 0] 3 (0, 0))) ∧ (b 7 = true → w'.heap[gn]? = some (.cells #[.int .i64 (mn : Int)] 3 (0, 0))) ∧ (w'.heap[ge]? = some (.cells #[.int .i64 0] 28 (0, 0)))) HT_.out HW_.out (by kernel_rfl) (by kernel_rfl) ?_ ?_ ?_
    ·exact ⟨by simp only [putSel, Bool.false_eq_true, if_false], (Only.refl _ _).drew, HC.out, fun _ => HN.out, fun h_ => absurd h_ (by decide), HE.out⟩
    ·skip
     clear B C E N
     refine sc rfl ?_ ?_
     ·rintro b a w' ⟨ha, Q_B, Q_C, Q_N, Q_N2, Q_E⟩ hb_ hon hoff K hK
      have e2 : a.tmps[2]? = some (.pointer (some ⟨gc, 0, none⟩)) := by rw [ha]; exact (putSel_off rfl).trans rfl
      replace ha := Am ha
      have B := Am Q_B
      have C := Am Q_C
      have N := Am (Q_N (hoff 7 (by kernel_rfl)))
      have E := Am Q_E
      refine value_ (w1 := w') (v := .agg cs) (by rfl) rfl (exec_load_row 41 (.tmp 2) rfl (eval_of e2) C.out Tryd.underlying41 rfl HCI.out) ?_
      refine hK.out _ _ ⟨(puk ha 0 hb_ rfl rfl rfl), B.out, C.out, fun _ => N.out, fun h0_ => hof (hoff 7 (by kernel_rfl)) h0_, E.out⟩
     refine sc rfl ?_ ?_
     ·rintro b a w' ⟨ha, Q_B, Q_C, Q_N, Q_N2, Q_E⟩ hb_ hon hoff K hK
      have e52 : a.tmps[52]? = some (.int .i64 (sz : Int)) := by rw [ha]; exact (putSel_off rfl).trans rfl
      replace ha := Am ha
      have B := Am Q_B
      have C := Am Q_C
      have N := Am (Q_N (hoff 7 (by kernel_rfl)))
      have E := Am Q_E
      refine goes_ Tryd.func54 (by kernel_rfl) rfl #[.int .i64 (sz : Int)] (by rfl) rfl rfl (by first | (simp only [List.map_toArray, List.map_cons, List.map_nil, Act.eval, Array.getD_eq_getD_getElem?, Option.getD_some, e52]; done) | (simp only [List.map_toArray, List.map_cons, List.map_nil, Act.eval, Array.getD_eq_getD_getElem?, Option.getD_some, e52]; rfl)) ?_
      refine (HPD.out w').mono ?_
      rintro e w1 ⟨rfl, hD1⟩
      refine ⟨_, rfl, ?_⟩
      refine hK.out _ _ ⟨(puk ha 1 hb_ rfl rfl rfl), B.out.trans (Only.of_below (S := fun _ => False) (drawn_below hD1)) (fun k _ h => h.elim), blk_below C.out (drawn_below hD1), fun _ => blk_below N.out (drawn_below hD1), fun h0_ => hof (hoff 7 (by kernel_rfl)) h0_, blk_below E.out (drawn_below hD1)⟩
     refine sc rfl ?_ ?_
     ·rintro b a w' ⟨ha, Q_B, Q_C, Q_N, Q_N2, Q_E⟩ hb_ hon hoff K hK
      have e54 : a.tmps[54]? = some (.slice (some ad) L c) := by rw [ha]; exact (putSel_off rfl).trans rfl
      replace ha := Am ha
      refine value_ (w1 := w') (v := .int .i64 (L : Int)) (by rfl) rfl ?_ ?_
      ·go_simp
       (try simp only [i64_w])
       try rfl
      refine hK.out _ _ ⟨(puk ha 2 hb_ rfl rfl rfl), Q_B, Q_C, Q_N, fun h0_ => hof (hoff 7 (by kernel_rfl)) h0_, Q_E⟩
     refine sc rfl ?_ ?_
     ·rintro b a w' ⟨ha, Q_B, Q_C, Q_N, Q_N2, Q_E⟩ hb_ hon hoff K hK
      have e53 := psn ha 1 rfl rfl (hon 2 (by kernel_rfl)) rfl
      have e55 := psn ha 2 rfl rfl (hon 4 (by kernel_rfl)) rfl
      replace ha := Am ha
      have B := Am Q_B
      have C := Am Q_C
      have N := Am (Q_N (hoff 7 (by kernel_rfl)))
      have E := Am Q_E
      have hm2 := hmin.out
      refine value_ (w1 := w') (v := .int .i64 (mn : Int)) (by rfl) rfl (by go_simp; first | done | exact hm2 | rw [hm2]) ?_
      refine hK.out _ _ ⟨(puk ha 3 hb_ rfl rfl rfl), B.out, C.out, fun _ => N.out, fun h0_ => hof (hoff 7 (by kernel_rfl)) h0_, E.out⟩
     refine sc rfl ?_ ?_
     ·rintro b a w' ⟨ha, Q_B, Q_C, Q_N, Q_N2, Q_E⟩ hb_ hon hoff K hK
      have e2 : a.tmps[2]? = some (.pointer (some ⟨gc, 0, none⟩)) := by rw [ha]; exact (putSel_off rfl).trans rfl
      have e51 := psn ha 0 rfl rfl (hon 0 (by kernel_rfl)) rfl
      replace ha := Am ha
      have B := Am Q_B
      have C := Am Q_C
      have N := Am (Q_N (hoff 7 (by kernel_rfl)))
      have E := Am Q_E
      refine skip_ (w1 := w'.setRow gc cs) (by rfl) rfl (exec_store_row 41 (.tmp 2) (.tmp 51) rfl (eval_of e2) (eval_of e51) C.out HCI.out rfl HC1.out) ?_
      rw [setRow_self _ _ _ _ _ C.out]
      refine hK.out _ _ ⟨(by rw [ha.out]; exact putSel_none (v := undef) rfl), B.out, C.out, fun _ => N.out, fun h0_ => hof (hoff 7 (by kernel_rfl)) h0_, E.out⟩
     refine sc rfl ?_ ?_
     ·rintro b a w' ⟨ha, Q_B, Q_C, Q_N, Q_N2, Q_E⟩ hb_ hon hoff K hK
      have e3 : a.tmps[3]? = some (.pointer (some ⟨gn, 0, none⟩)) := by rw [ha]; exact (putSel_off rfl).trans rfl
      have e56 := psn ha 3 rfl rfl (hon 5 (by kernel_rfl)) rfl
      replace ha := Am ha
      have B := Am Q_B
      have C := Am Q_C
      have N := Am (Q_N hb_)
      have E := Am Q_E
      have hs : w'.cell? ⟨gn, 0, none⟩ = some (.int .i64 0) := blk_cell N.out 0
      have hf := blk_frozen N.out 0
      refine skip_ (w1 := w'.setCell ⟨gn, 0, none⟩ (.int .i64 (mn : Int))) (by rfl) rfl (by go_simp; try rfl) ?_
      refine hK.out _ _ ⟨(by rw [ha.out]; exact putSel_none (v := undef) rfl), B.out.setCell (fun _ => Or.inl rfl) _, blk_far (p := ⟨gn, 0, none⟩) C.out HCN.out _, fun h0_ => absurd ((up_self b 7).symm.trans h0_) (by decide), fun _ => blk_put N.out 0 (.int .i64 (mn : Int)) rfl, blk_far (p := ⟨gn, 0, none⟩) E.out HEN.out _⟩
     refine sc rfl ?_ ?_
     ·rintro b a w' ⟨ha, Q_B, Q_C, Q_N, Q_N2, Q_E⟩ hb_ hon hoff K hK
      have e4 : a.tmps[4]? = some (.pointer (some ⟨ge, 0, none⟩)) := by rw [ha]; exact (putSel_off rfl).trans rfl
      replace ha := Am ha
      have B := Am Q_B
      have C := Am Q_C
      have N2 := Am (Q_N2 (hon 7 (by kernel_rfl)))
      have E := Am Q_E
      have hs : w'.cell? ⟨ge, 0, none⟩ = some (.int .i64 0) := blk_cell E.out 0
      have hf := blk_frozen E.out 0
      refine skip_ (w1 := w'.setCell ⟨ge, 0, none⟩ (.int .i64 0)) (by rfl) rfl (by go_simp; try rfl) ?_
      refine hK.out _ _ ⟨(by rw [ha.out]; exact putSel_none (v := undef) rfl), B.out.setCell (fun _ => Or.inr rfl) _, blk_far (p := ⟨ge, 0, none⟩) C.out HCE.out _, fun h0_ => absurd ((hon 7 (by kernel_rfl)).symm.trans h0_) (by decide), fun _ => blk_far (p := ⟨ge, 0, none⟩) N2.out HNE.out _, blk_put E.out 0 (.int .i64 0) rfl⟩
     exact steps_nil
    rintro b a w' hall ⟨ha, Q_B, Q_C, Q_N, Q_N2, Q_E⟩
    clear B C E N
    have hb0_ := hall 0 (by kernel_rfl)
    have hb2_ := hall 2 (by kernel_rfl)
    have hb4_ := hall 4 (by kernel_rfl)
    have hb5_ := hall 5 (by kernel_rfl)
    have hb6_ := hall 6 (by kernel_rfl)
    have hb7_ := hall 7 (by kernel_rfl)
    have hb8_ := hall 8 (by kernel_rfl)
    subst ha
    simp only [putSel, hb0_, hb2_, hb4_, hb5_, hb6_, hb7_, hb8_, if_true, Act.put, List.setIfInBounds_toArray, List.set_cons_zero, List.set_cons_succ]
    have B := Am Q_B
    clear Q_B
    have C := Am Q_C
    clear Q_C
    clear Q_N
    have N2 := Am (Q_N2 hb7_)
    clear Q_N2
    have E := Am Q_E
    clear Q_E
    clear hall hb0_ hb2_ hb4_ hb5_ hb6_ hb7_ hb8_
    refine ⟨trivial, ?_⟩
    have HB9 := Lh B.out
    have HC9 := Lh C.out
    have HN9 := Lh N2.out
    have HE9 := Lh E.out
    clear B C N2 E HC HN HE
    go_wp2
    refine leaves_cons (f := 91) (args := #[.pointer (some ⟨gc, 0, none⟩), .pointer (some ⟨gn, 0, none⟩), .pointer (some ⟨ge, 0, none⟩)]) (by simp) (by simp [go_sem]) ?_
    refine (catch_idle _ _ _ _).mono ?_
    rintro e u' w'' ⟨rfl, rfl, rfl⟩
    exact ⟨_, decC_results _ _ _ _ _ _ _ _ rfl rfl rfl HCS.out HC9.out HN9.out HE9.out, cs, by rw [HDE.out], by rw [HDE.out]; exact Kd.M_lower _ HGB.out (M_only HM4.out HB9.out (fun k hk _ h => by have := HGW.out; omega)), HB.out.trans (HB9.out.below HB.out.size (fun k hk => by have := HG.out; omega))⟩
end Go.Proofs.YtdlamomabonkjaaDoor.Ch
end
section
namespace Go.Proofs.YtdlamomabonkjaaDoor.Ch
open Go.RowKit YtdlamomabonkjaaDoorW.PrintWords YtdlamomabonkjaaDoorW.PrintLast Base PCh ParDec
abbrev zerV : Array Value := #[.int .u8 0, .int .u8 0, .int .u32 0, .int .u16 0, .int .u16 0, .int .u32 0, .int .u32 0, .int .u32 0, .int .u16 0, .int .u16 0, .slice none 0 0, .slice none 0 0, .slice none 0 0, .slice none 0 0, .slice none 0 0]
theorem wpList_ret_row {ops : Array Oper} {rest : List Oper} {o1 o2 : Oper} {a : Act} {w : World} {Q : Exit → Act → World → Prop} (n : Tmp) (hd : o1.dst = some n) (h1 : o1.guard = none) (h2 : o2.guard = none) (x y : Operand) (ho1 : o1.op = .load 41 x) (ho2 : o2.op = .store 41 y (.tmp n)) (hd2 : o2.dst = none)
  (g gr : Nat) (cs old : Array Value) (e2 : a.eval x = .pointer (some ⟨g, 0, none⟩)) (e3 : (a.put (some n) (.agg cs)).eval (.tmp n) = .agg cs) (e4 : (a.put (some n) (.agg cs)).eval y = .pointer (some ⟨gr, 0, none⟩)) (hg : w.heap[g]? = some (.cells cs 41 (0, 0))) (hr : w.heap[gr]? = some (.cells old 41 (0, 0))) (hs : cs.size = 15) (hold : old.size = 15) (hone : cs.all (·.oneCell') = true)
  (h : wpList Tryd.prog ops Q rest (a.put (some n) (.agg cs)) (w.setRow gr cs)) : wpList Tryd.prog ops Q (o1 :: o2 :: rest) a w := by
 have hi : (Tryd.prog.info? 41).map (·.size) = some cs.size := by rw [hs]; kernel_rfl
 refine wpList_load_row h1 41 x ho1 g e2 41 cs (0, 0) _ hg Tryd.underlying41 rfl hi ?_
 rw [hd]
 refine wpList_store_row h2 41 y (.tmp n) ho2 gr cs e4 e3 41 old hr hi (by omega) hone ?_
 rw [hd2]
 exact h
theorem wp_gen {P : Program} {c : Code} {Q : Exit → Act → World → Prop} {a : Act} {W0 : World} (Pd : World → Prop) (h0 : Pd W0) (h : ∀ W, Pd W → c.wp P Q a W) : c.wp P Q a W0 := h W0 h0
structure Bx (w : World) (cs : Array Value) (W : World) : Prop where
 x0 : W.heap[w.heap.size]? = some (.cells cs 41 (0, 0))
 x1 : W.heap[w.heap.size + 1]? = some (.cells zerV 41 (0, 0))
 x2 : Below w.heap.size w W
 x3 : w.heap.size + 2 ≤ W.heap.size
theorem Bx.drewN {w W : World} {cs : Array Value} (h : Bx w cs W) (n : Nat) : Bx w cs (W.drewN n) := ⟨blk_drewN h.x0 n, blk_drewN h.x1 n, pw_below_drewN h.x2 n, by have := (pw_below_drewN (Below.refl W.heap.size W) n).size; have := h.x3; omega⟩
theorem Bx.set {w W : World} {cs : Array Value} (h : Bx w cs W) (i : Nat) (v : Value) : Bx w (cs.setIfInBounds i v) (W.setCell ⟨w.heap.size, i, none⟩ v) :=
 ⟨blk_put h.x0 i v rfl, (Below.heap_setCell _ ⟨w.heap.size, i, none⟩ _ _ (Nat.succ_ne_self _)).trans h.x1, h.x2.setCell (p := ⟨w.heap.size, i, none⟩) (Nat.le_refl _) v, by have := h.x3; simp [World.setCell]; exact this⟩
theorem Bx.below {w W W' : World} {cs : Array Value} (h : Bx w cs W) (hb : Below W.heap.size W W') : Bx w cs W' := ⟨blk_below h.x0 hb, blk_below h.x1 hb, below_then h.x2 h.x2.size hb, Nat.le_trans h.x3 hb.size⟩
theorem Bx.cell {w W : World} {cs : Array Value} (h : Bx w cs W) (i : Nat) : W.cell? ⟨w.heap.size, i, none⟩ = cs[i]? := blk_cell h.x0 i
theorem Bx.new (w : World) (cs : Array Value) : Bx w cs ((w.alloc (.cells cs 41)).alloc (.cells zerV 41)) := by
 refine ⟨blk_alloc (blk_new _ _) _, ?_, below_alloc (below_alloc (Below.refl _ _) _) _, by simp⟩
 have h := blk_new (w.alloc (.cells cs 41)) (.cells zerV 41)
 rw [World.size_alloc] at h
 exact h
end Go.Proofs.YtdlamomabonkjaaDoor.Ch
end
section
namespace Go.Proofs.YtdlamomabonkjaaDoor.Base
open Go.RowKit YtdlamomabonkjaaDoorW.PrintWords YtdlamomabonkjaaDoorW.PrintLast
theorem wanted_none0 {ops : Array Oper} {a : Act} {o : Oper} (h : o.guard = none) : Region.wanted o (yielded ops a.tmps) = true := by unfold Region.wanted; rw [h]
theorem set_same {α : Type} {l : List α} {k : Nat} {x : α} (h : l[k]? = some x) : l.set k x = l := by
 obtain ⟨h1, h2⟩ := List.getElem?_eq_some_iff.1 h
 rw [← h2, List.set_getElem_self]
def celSel (CD : Array Value) (b : Nat → Bool) (LS : List (Nat × Tmp × Value)) : Array Value := (putSel ⟨CD, []⟩ b LS).tmps
theorem celSel_size (CD : Array Value) (b : Nat → Bool) (LS : List (Nat × Tmp × Value)) : (celSel CD b LS).size = CD.size := (putSel_size b LS ⟨CD, []⟩).1
theorem putSel_congr {b b' : Nat → Bool} : ∀ {L : List (Nat × Tmp × Value)} {a : Act}, (∀ e ∈ L, b e.1 = b' e.1) → putSel a b L = putSel a b' L
 | [], _, _ => rfl
 | e :: r, a, h => by
  unfold putSel
  rw [h e List.mem_cons_self]
  exact putSel_congr (fun x hx => h x (List.mem_cons_of_mem _ hx))
def CpI (W : World) (gd : Nat) (T : TypeId) (CD : Array Value) (L LS : List (Nat × Tmp × Value)) (a0 : Act) (b : Nat → Bool) (a : Act) (w : World) : Prop :=
 a = putSel a0 b L ∧ Only (· = gd) W w ∧ w.heap[gd]? = some (.cells (celSel CD b LS) T (0, 0))
section
variable {P : Program} {ops : Array Oper} {Q : Exit → Act → World → Prop} {B O : List Nat} {W : World} {gd : Nat} {T : TypeId} {CD : Array Value} {L LS : List (Nat × Tmp × Value)} {a0 : Act}
theorem cp_addr (i k : Nat) (p : Tmp) {t : Tmp} {gq j : Nat} {oi : Oper} (ho : ops[i]? = some oi) (hg : oi.guard = none) (hd : oi.dst = some t) (hL : L[k]? = some (i, t, .pointer (some ⟨gq, j, none⟩)))
  (hdist : ((L.take k ++ L.drop (k + 1)).all fun e => !(e.1 == i) && !(e.2.1 == t)) = true) (hLS : (LS.all fun e => !(e.1 == i)) = true) (hpl : (L.all fun e => !(e.2.1 == p)) = true) (hp : a0.tmps[p]? = some (.pointer (some ⟨gq, 0, none⟩)))
  (hrun : ∀ (a : Act) (w : World), a.tmps[p]? = some (.pointer (some ⟨gq, 0, none⟩)) → (execOp a.eval oi).run P w = .ok (.value (.pointer (some ⟨gq, j, none⟩))) w) : StepAt P ops Q B O (CpI W gd T CD L LS a0) i := by
 rintro b a w ⟨ha, hO, hC⟩ hb hon hoff
 refine ⟨oi, ho, fun K hK => ?_⟩
 rw [hd]
 refine value_ (w1 := w) (v := .pointer (some ⟨gq, j, none⟩)) (wanted_none0 hg) hd (hrun a w (by rw [ha]; exact (putSel_off hpl).trans hp)) (hK.out _ _ ⟨?_, hO, ?_⟩)
 ·rw [ha]
  exact putSel_upk k hb hL (set_same hL) hdist
 ·rw [hC]
  unfold celSel
  rw [putSel_same hLS]
theorem cp_op (i k kp qp : Nat) {t : Tmp} {v : Value} {ep : Nat × Tmp × Value} {oi : Oper} (ho : ops[i]? = some oi) (hg : oi.guard = none) (hd : oi.dst = some t) (hL : L[k]? = some (i, t, v))
  (hdist : ((L.take k ++ L.drop (k + 1)).all fun e => !(e.1 == i) && !(e.2.1 == t)) = true) (hLS : (LS.all fun e => !(e.1 == i)) = true)
  (hP : L[kp]? = some ep) (hPd : ((L.drop (kp + 1)).all fun x => !(x.2.1 == ep.2.1)) = true) (hq : ep.1 = qp) (hon : (O.contains qp && (B.getD i 0).testBit qp) = true) (hsz : Nat.ble (ep.2.1 + 1) a0.tmps.size = true)
  (hrun : ∀ (a : Act) (w : World), Only (· = gd) W w → a.tmps[ep.2.1]? = some ep.2.2 → (execOp a.eval oi).run P w = .ok (.value v) w) : StepAt P ops Q B O (CpI W gd T CD L LS a0) i := by
 rintro b a w ⟨ha, hO, hC⟩ hb hon' hoff
 refine ⟨oi, ho, fun K hK => ?_⟩
 rw [hd]
 refine value_ (w1 := w) (v := v) (wanted_none0 hg) hd (hrun a w hO (by rw [ha]; exact putSel_on kp hP hPd (hon' _ (hq ▸ hon)) hsz)) (hK.out _ _ ⟨?_, hO, ?_⟩)
 ·rw [ha]
  exact putSel_upk k hb hL (set_same hL) hdist
 ·rw [hC]
  unfold celSel
  rw [putSel_same hLS]
theorem cp_store (i k kp kv qp qv : Nat) {j : Nat} {v : Value} {ep ev : Nat × Tmp × Value} {oi : Oper} (ho : ops[i]? = some oi) (hg : oi.guard = none) (hd : oi.dst = none) (hLk : LS[k]? = some (i, j, v))
  (hdist : ((LS.take k ++ LS.drop (k + 1)).all fun e => !(e.1 == i) && !(e.2.1 == j)) = true) (hLi : (L.all fun e => !(e.1 == i)) = true) (hj : j < CD.size)
  (hP : L[kp]? = some ep) (hPd : ((L.drop (kp + 1)).all fun x => !(x.2.1 == ep.2.1)) = true) (hqp : ep.1 = qp) (hPo : (O.contains qp && (B.getD i 0).testBit qp) = true) (hsz : Nat.ble (ep.2.1 + 1) a0.tmps.size = true)
  (hV : L[kv]? = some ev) (hVd : ((L.drop (kv + 1)).all fun x => !(x.2.1 == ev.2.1)) = true) (hqv : ev.1 = qv) (hVo : (O.contains qv && (B.getD i 0).testBit qv) = true) (hvz : Nat.ble (ev.2.1 + 1) a0.tmps.size = true)
  (hrun : ∀ (a : Act) (w : World) (old : Value), a.tmps[ep.2.1]? = some ep.2.2 → a.tmps[ev.2.1]? = some ev.2.2 → w.cell? ⟨gd, j, none⟩ = some old → w.frozen? ⟨gd, j, none⟩ = false → (execOp a.eval oi).run P w = .ok .skip (w.setCell ⟨gd, j, none⟩ v)) : StepAt P ops Q B O (CpI W gd T CD L LS a0) i := by
 rintro b a w ⟨ha, hO, hC⟩ hb hon' hoff
 refine ⟨oi, ho, fun K hK => ?_⟩
 obtain ⟨old, hold⟩ : ∃ old, (celSel CD b LS)[j]? = some old := ⟨_, Array.getElem?_eq_getElem (by rw [celSel_size]; exact hj)⟩
 rw [hd]
 refine skip_ (w1 := w.setCell ⟨gd, j, none⟩ v) (wanted_none0 hg) hd (hrun a w old (by rw [ha]; exact putSel_on kp hP hPd (hon' _ (hqp ▸ hPo)) hsz) (by rw [ha]; exact putSel_on kv hV hVd (hon' _ (hqv ▸ hVo)) hvz) ((blk_cell hC j).trans hold) (blk_frozen hC j)) (hK.out _ _ ⟨?_, hO.setCell (fun _ => rfl) v, ?_⟩)
 ·rw [ha]
  exact (putSel_same hLi).symm
 ·refine blk_put hC j v ?_
  have := congrArg Act.tmps (putSel_upk (a := ⟨CD, []⟩) k hb hLk (set_same hLk) hdist)
  exact this
theorem copy_region {id : Nat} (O L LS : List _) {n : Nat} {l : Array Bool} {Tb : Bool × List (List Nat × List Nat)} (hm : P.follows .mixedOrders = true) (hn : ops.size = n) (hl : Array.replicate n false = l) (hT : rtab .any ops = Tb) (hw : waitsOk Tb.2 B = true) (hk : baseOk Tb.2 O = true) (hl2 : (lof Tb.2.length O (fun _ => false) == l.toList && O.length == n) = true)
  (hLO : (L.all fun e => O.contains e.1) = true) (hSO : (LS.all fun e => O.contains e.1) = true) (hC : W.heap[gd]? = some (.cells CD T (0, 0))) (hs : ∀ i ∈ O, StepAt P ops Q B O (CpI W.drew gd T CD L LS a0) i)
  (hend : ∀ w, Only (· = gd) W w → w.heap[gd]? = some (.cells (celSel CD (fun _ => true) LS) T (0, 0)) → Q .normal (putSel a0 (fun _ => true) L) w) : Code.wp P (Code.region id ops true) Q a0 W := by
 refine start_ (S := fun _ => True) (ds := []) l hm hn hl trivial (fun _ => ?_)
 refine inv_at O (fun a0 => CpI W.drew gd T CD L LS a0) hT hw hk hl2 ⟨?_, Only.refl _ _, ?_⟩ hs ?_
 ·clear hLO hSO hs hC hend
  induction L with
  | nil => rfl
  | cons e r ih => unfold putSel; exact ih
 ·have h0 : celSel CD (fun _ => false) LS = CD := by
   clear hLO hSO hs hend
   unfold celSel
   induction LS with
   | nil => rfl
   | cons e r ih => unfold putSel; exact ih
  rw [h0]
  exact hC
 ·rintro b a w hall ⟨ha, hO, hC'⟩
  have e1 : putSel a0 b L = putSel a0 (fun _ => true) L := putSel_congr (fun e he => hall _ (List.all_eq_true.1 hLO e he))
  have e2 : celSel CD b LS = celSel CD (fun _ => true) LS := congrArg Act.tmps (putSel_congr (fun e he => hall _ (List.all_eq_true.1 hSO e he)))
  rw [ha, e1]
  exact hend w ⟨hO.os, hO.tape, hO.output, hO.size, hO.block⟩ (by rw [hC', e2])
end
end Go.Proofs.YtdlamomabonkjaaDoor.Base
end
section
namespace Go.Proofs.YtdlamomabonkjaaDoor.Ch
open Go.RowKit YtdlamomabonkjaaDoorW.PrintWords YtdlamomabonkjaaDoorW.PrintLast Base PCh ParDec
def hasF (kd : Int) (i : Nat) : Bool :=
 if kd = 0 then i == 2 || i == 3 || i == 4 || i == 5 || i == 13
 else if kd = 1 ∨ kd = 2 then i == 2 || i == 6 || i == 7 || i == 8 || i == 9 || i == 14
 else if kd = 16 then i == 2 || i == 7 || i == 10 || i == 11 || i == 12
 else if kd = 3 then i == 2 || i == 7 || i == 10 || i == 12
 else if kd = 4 ∨ kd = 5 ∨ kd = 6 ∨ kd = 9 then i == 14
 else if kd = 7 then i == 2
 else if kd = 8 ∨ kd = 11 ∨ kd = 14 then false
 else i == 13
def keepF (p : Nat → Bool) (fl : Int) (x : Chk) : Chk := ⟨x.f0, fl, if p 2 then x.f2 else 0, if p 3 then x.f3 else 0, if p 4 then x.f4 else 0, if p 5 then x.f5 else 0, if p 6 then x.f6 else 0, if p 7 then x.f7 else 0, if p 8 then x.f8 else 0, if p 9 then x.f9 else 0, if p 10 then x.f10 else [], if p 11 then x.f11 else [], if p 12 then x.f12 else [], if p 13 then x.f13 else [], if p 14 then x.f14 else []⟩
def keepL (p : Nat → Bool) (L : Lay) : Lay := ⟨if p 10 then L.A10 else none, if p 10 then L.c10 else 0, if p 11 then L.A11 else none, if p 11 then L.c11 else 0, if p 12 then L.A12 else none, if p 12 then L.c12 else 0, if p 13 then L.A13 else none, if p 13 then L.c13 else 0, if p 14 then L.A14 else none, if p 14 then L.c14 else 0⟩
def bareD (x : Chk) : Chk := keepF (hasF x.f0) (flD x.f0 x.f1) x
theorem keep_CR {w : World} {x : Chk} {L : Lay} (h : CR w x L) (p : Nat → Bool) (fl : Int) : CR w (keepF p fl x) (keepL p L) := by
 refine ⟨?_, ?_, ?_, ?_, ?_, ?_, ?_, ?_, ?_, ?_⟩
 all_goals (unfold keepF keepL; dsimp only)
 ·cases p 10
  ·exact Nat.le_refl _
  ·exact h.l10
 ·cases p 10
  ·exact Kd.C_nil _ _
  ·exact h.h10
 ·cases p 11
  ·exact Nat.le_refl _
  ·exact h.l11
 ·cases p 11
  ·exact Kd.C_nil _ _
  ·exact h.h11
 ·cases p 12
  ·exact Nat.le_refl _
  ·exact h.l12
 ·cases p 12
  ·exact Kd.C_nil _ _
  ·exact h.h12
 ·cases p 13
  ·exact Nat.le_refl _
  ·exact h.l13
 ·cases p 13
  ·exact Kd.C_nil _ _
  ·exact h.h13
 ·cases p 14
  ·exact Nat.le_refl _
  ·exact h.l14
 ·cases p 14
  ·exact Kd.C_nil _ _
  ·exact h.h14
def bareT1 : Bool × List (List Nat × List Nat) := (true, [([], []), ([0], [0]), ([], []), ([2], [2]), ([], []), ([4], [4]), ([5], [5]), ([3, 6], [3, 6]), ([1, 7], [1, 7]), ([], []), ([9, 8, 6, 0, 1, 2, 3, 4, 5, 6, 7, 8, 9], [8, 9])])
def bareB1 : List Nat := [0, 1, 0, 4, 0, 16, 48, 124, 255, 0, 1023]
theorem baretab1 : Go.Proofs.YtdlamomabonkjaaDoorW.PrintLast.rtab .any (Go.Proofs.YtdlamomabonkjaaDoorW.PrintLast.opsOf Tryd.f71 1) = bareT1 := by kernel_rfl
theorem barebits1 : Go.Proofs.YtdlamomabonkjaaDoorW.PrintLast.waitsOk bareT1.2 bareB1 = true := by kernel_rfl
def bareT16 : Bool × List (List Nat × List Nat) := (true, [([], []), ([0], [0]), ([], []), ([2], [2]), ([], []), ([4], [4]), ([], []), ([6], [6]), ([], []), ([8], [8]), ([0, 1], []), ([10, 1, 0, 1], [1, 10]), ([0, 1, 2, 3, 10, 11], []), ([12, 3, 11, 0, 1, 2, 3, 10, 11], [3, 12]), ([0, 1, 2, 3, 4, 5, 10, 11, 12, 13], []), ([14, 5, 13, 0, 1, 2, 3, 4, 5, 10, 11, 12, 13], [5, 14]), ([0, 1, 2, 3, 4, 5, 6, 7, 10, 11, 12, 13, 14, 15], []), ([16, 7, 15, 0, 1, 2, 3, 4, 5, 6, 7, 10, 11, 12, 13, 14, 15], [7, 16]), ([0, 1, 2, 3, 4, 5, 6, 7, 8, 9, 10, 11, 12, 13, 14, 15, 16, 17], []), ([18, 9, 17, 0, 1, 2, 3, 4, 5, 6, 7, 8, 9, 10, 11, 12, 13, 14, 15, 16, 17], [9, 18])])
def bareB16 : List Nat := [0, 1, 0, 4, 0, 16, 0, 64, 0, 256, 3, 1027, 3087, 7183, 15423, 31807, 64767, 130303, 262143, 524287]
theorem baretab16 : Go.Proofs.YtdlamomabonkjaaDoorW.PrintLast.rtab .any (Go.Proofs.YtdlamomabonkjaaDoorW.PrintLast.opsOf Tryd.f71 16) = bareT16 := by kernel_rfl
theorem barebits16 : Go.Proofs.YtdlamomabonkjaaDoorW.PrintLast.waitsOk bareT16.2 bareB16 = true := by kernel_rfl
def bareT17 : Bool × List (List Nat × List Nat) := (true, [([], []), ([0], [0]), ([], []), ([2], [2]), ([], []), ([4], [4]), ([], []), ([6], [6]), ([], []), ([8], [8]), ([], []), ([10], [10]), ([0, 1], []), ([12, 1, 0, 1], [1, 12]), ([0, 1, 2, 3, 12, 13], []), ([14, 3, 13, 0, 1, 2, 3, 12, 13], [3, 14]), ([0, 1, 2, 3, 4, 5, 12, 13, 14, 15], []), ([16, 5, 15, 0, 1, 2, 3, 4, 5, 12, 13, 14, 15], [5, 16]), ([0, 1, 2, 3, 4, 5, 6, 7, 12, 13, 14, 15, 16, 17], []), ([18, 7, 17, 0, 1, 2, 3, 4, 5, 6, 7, 12, 13, 14, 15, 16, 17], [7, 18]), ([0, 1, 2, 3, 4, 5, 6, 7, 8, 9, 12, 13, 14, 15, 16, 17, 18, 19], []), ([20, 9, 19, 0, 1, 2, 3, 4, 5, 6, 7, 8, 9, 12, 13, 14, 15, 16, 17, 18, 19], [9, 20]), ([0, 1, 2, 3, 4, 5, 6, 7, 8, 9, 10, 11, 12, 13, 14, 15, 16, 17, 18, 19, 20, 21], []), ([22, 11, 21, 0, 1, 2, 3, 4, 5, 6, 7, 8, 9, 10, 11, 12, 13, 14, 15, 16, 17, 18, 19, 20, 21], [11, 22])])
def bareB17 : List Nat := [0, 1, 0, 4, 0, 16, 0, 64, 0, 256, 0, 1024, 3, 4099, 12303, 28687, 61503, 127039, 258303, 520447, 1045503, 2094079, 4194303, 8388607]
theorem baretab17 : Go.Proofs.YtdlamomabonkjaaDoorW.PrintLast.rtab .any (Go.Proofs.YtdlamomabonkjaaDoorW.PrintLast.opsOf Tryd.f71 17) = bareT17 := by kernel_rfl
theorem barebits17 : Go.Proofs.YtdlamomabonkjaaDoorW.PrintLast.waitsOk bareT17.2 bareB17 = true := by kernel_rfl
def bareT19 : Bool × List (List Nat × List Nat) := (true, [([], []), ([0], [0]), ([], []), ([2], [2]), ([], []), ([4], [4]), ([], []), ([6], [6]), ([0, 1], []), ([8, 1, 0, 1], [1, 8]), ([0, 1, 2, 3, 8, 9], []), ([10, 3, 9, 0, 1, 2, 3, 8, 9], [3, 10]), ([0, 1, 2, 3, 4, 5, 8, 9, 10, 11], []), ([12, 5, 11, 0, 1, 2, 3, 4, 5, 8, 9, 10, 11], [5, 12]), ([0, 1, 2, 3, 4, 5, 6, 7, 8, 9, 10, 11, 12, 13], []), ([14, 7, 13, 0, 1, 2, 3, 4, 5, 6, 7, 8, 9, 10, 11, 12, 13], [7, 14])])
def bareB19 : List Nat := [0, 1, 0, 4, 0, 16, 0, 64, 3, 259, 783, 1807, 3903, 7999, 16383, 32767]
theorem baretab19 : Go.Proofs.YtdlamomabonkjaaDoorW.PrintLast.rtab .any (Go.Proofs.YtdlamomabonkjaaDoorW.PrintLast.opsOf Tryd.f71 19) = bareT19 := by kernel_rfl
theorem barebits19 : Go.Proofs.YtdlamomabonkjaaDoorW.PrintLast.waitsOk bareT19.2 bareB19 = true := by kernel_rfl
structure By (w : World) (CX cs : Array Value) (g3 : Nat) (W : World) : Prop where
 bx : Bx w CX W
 x3 : W.heap[g3]? = some (.cells cs 41 (0, 0))
 hg : w.heap.size + 2 ≤ g3
theorem By.only {w W W' : World} {CX cs cs' : Array Value} {g3 : Nat} (h : By w CX cs g3 W) (hO : Only (· = g3) W W') (h3 : W'.heap[g3]? = some (.cells cs' 41 (0, 0))) : By w CX cs' g3 W' :=
 ⟨⟨hO.blk h.bx.x0 (by have := h.hg; omega), hO.blk h.bx.x1 (by have := h.hg; omega), h.bx.x2.trans (hO.below h.bx.x2.size (fun k hk => by have := h.hg; omega)), Nat.le_trans h.bx.x3 hO.size⟩, h3, h.hg⟩
theorem By.set {w W : World} {CX cs : Array Value} {g3 : Nat} (h : By w CX cs g3 W) (i : Nat) (v : Value) : By w CX (cs.setIfInBounds i v) g3 (W.setCell ⟨g3, i, none⟩ v) := h.only ((Only.refl (· = g3) W).setCell (fun _ => rfl) v) (blk_put h.x3 i v rfl)
theorem row_end {f : Func} (hf : f.results = #[ResultVar.cell 2 41]) {a : Act} {w W : World} {cs old r : Array Value} {gr : Nat} (hd : a.defers = []) (t2 : a.tmps.getD 2 undef = .pointer (some ⟨gr, 0, none⟩)) (hg : W.heap[gr]? = some (.cells old 41 (0, 0))) (hs : cs.size = 15) (hB : Below w.heap.size w W) (hl : w.heap.size ≤ gr) (h : cs = r) :
  bodyPost Tryd.prog f (fun e w' => e = .returned (.agg r) ∧ Below w.heap.size w w') Exit.ret a (W.setRow gr cs) := by
 have hi : (Tryd.prog.info? 41).map (·.size) = some cs.size := by rw [hs]; kernel_rfl
 have hl2 := run_loadVar_row (W.setRow gr cs) gr 41 41 cs (0, 0) _ (setRow_heap _ _ _ _ _ _ hg) Tryd.underlying41 rfl hi
 rw [Array.getD_eq_getD_getElem?] at t2
 exact bodyPost_ret (v := .agg cs) (by simp [results, hf, asAddr, t2, hl2]) hd ⟨by rw [h], below_setRow hB hl cs⟩
set_option maxHeartbeats 8000000 in
theorem bare_calls (w : World) (x : Chk) (L : Lay) (hx : CR w x L) :
  Calls Tryd.prog 71 #[.agg (CV x L)] w fun e w' => e = .returned (.agg (CV (bareD x) (keepL (hasF x.f0) L))) ∧ Below w.heap.size w w' := by
 clear hx
 obtain ⟨f0, f1, f2, f3, f4, f5, f6, f7, f8, f9, f10, f11, f12, f13, f14⟩ := x
 obtain ⟨A10, c10, A11, c11, A12, c12, A13, c13, A14, c14⟩ := L
 have hkd : (∃ r, bareD ⟨f0, f1, f2, f3, f4, f5, f6, f7, f8, f9, f10, f11, f12, f13, f14⟩ = r) := ⟨_, rfl⟩
 clear hkd
 have X := Bx.new w (CV ⟨f0, f1, f2, f3, f4, f5, f6, f7, f8, f9, f10, f11, f12, f13, f14⟩ ⟨A10, c10, A11, c11, A12, c12, A13, c13, A14, c14⟩)
 go_enter Tryd.func71, Tryd.ntmps71
 go_upto_region 1 with (fail)
 refine wp_gen (Bx w (CV ⟨f0, f1, f2, f3, f4, f5, f6, f7, f8, f9, f10, f11, f12, f13, f14⟩ ⟨A10, c10, A11, c11, A12, c12, A13, c13, A14, c14⟩)) X ?_
 clear X
 intro W X
 have U0 := Lh (show W.cell? ⟨w.heap.size, 0, none⟩ = some (.int .u8 f0) from X.cell 0)
 have U1 := Lh (show W.cell? ⟨w.heap.size, 1, none⟩ = some (.int .u8 f1) from X.cell 1)
 have U2 := Lh (show W.cell? ⟨w.heap.size, 2, none⟩ = some (.int .u32 f2) from X.cell 2)
 have U3 := Lh (show W.cell? ⟨w.heap.size, 3, none⟩ = some (.int .u16 f3) from X.cell 3)
 have U4 := Lh (show W.cell? ⟨w.heap.size, 4, none⟩ = some (.int .u16 f4) from X.cell 4)
 have U5 := Lh (show W.cell? ⟨w.heap.size, 5, none⟩ = some (.int .u32 f5) from X.cell 5)
 have U6 := Lh (show W.cell? ⟨w.heap.size, 6, none⟩ = some (.int .u32 f6) from X.cell 6)
 have U7 := Lh (show W.cell? ⟨w.heap.size, 7, none⟩ = some (.int .u32 f7) from X.cell 7)
 have U8 := Lh (show W.cell? ⟨w.heap.size, 8, none⟩ = some (.int .u16 f8) from X.cell 8)
 have U9 := Lh (show W.cell? ⟨w.heap.size, 9, none⟩ = some (.int .u16 f9) from X.cell 9)
 have U10 := Lh (show W.cell? ⟨w.heap.size, 10, none⟩ = some (.slice A10 f10.length c10) from X.cell 10)
 have U11 := Lh (show W.cell? ⟨w.heap.size, 11, none⟩ = some (.slice A11 f11.length c11) from X.cell 11)
 have U12 := Lh (show W.cell? ⟨w.heap.size, 12, none⟩ = some (.slice A12 f12.length c12) from X.cell 12)
 have U13 := Lh (show W.cell? ⟨w.heap.size, 13, none⟩ = some (.slice A13 f13.length c13) from X.cell 13)
 have U14 := Lh (show W.cell? ⟨w.heap.size, 14, none⟩ = some (.slice A14 f14.length c14) from X.cell 14)
 obtain ⟨fl, hfl⟩ : ∃ fl, flD f0 f1 = fl := ⟨_, rfl⟩
 have HFL := Lh (show bits .and .u8 f1 (maskD f0) = fl from hfl)
 have HFE := Lh hfl
 clear hfl
 have B := True.intro
 refine start_ (n := 11) (S := fun w' => True) (ds := []) #[false, false, false, false, false, false, false, false, false, false, false] (by kernel_rfl) rfl rfl trivial (fun hHeld => ?_)
 refine with_tabW baretab1 barebits1 (fun HT_ HW_ => ?_)
 refine inv_at [0, 1, 2, 3, 4, 5, 6, 7, 8, 9, 10] (fun a0_ b a w' => ∃ (g3 : Nat) (m9_ : Value), a = putSel a0_ b [(0, 4, .pointer (some ⟨w.heap.size, 0, none⟩)), (1, 5, .int .u8 f0), (2, 6, .pointer (some ⟨w.heap.size, 1, none⟩)), (3, 7, .int .u8 f1), (4, 8, .pointer (some ⟨w.heap.size, 0, none⟩)), (5, 9, .int .u8 f0), (6, 10, .int .u8 (maskD f0)), (7, 11, .int .u8 fl), (8, 12, .agg (#[.int .u8 (f0), .int .u8 (fl), .int .u32 0, .int .u16 0, .int .u16 0, .int .u32 0, .int .u32 0, .int .u32 0, .int .u16 0, .int .u16 0, .slice none 0 0, .slice none 0 0, .slice none 0 0, .slice none 0 0, .slice none 0 0])), (9, 3, m9_)] ∧ (Below W.heap.size W w') ∧ (b 9 = true → b 10 = false → w'.heap[g3]? = some (.cells (#[.int .u8 0, .int .u8 0, .int .u32 0, .int .u16 0, .int .u16 0, .int .u32 0, .int .u32 0, .int .u32 0, .int .u16 0, .int .u16 0, .slice none 0 0, .slice none 0 0, .slice none 0 0, .slice none 0 0, .slice none 0 0]) 41 (0, 0)) ∧ W.heap.size ≤ g3) ∧ (b 10 = true → w'.heap[g3]? = some (.cells (#[.int .u8 (f0), .int .u8 (fl), .int .u32 0, .int .u16 0, .int .u16 0, .int .u32 0, .int .u32 0, .int .u32 0, .int .u16 0, .int .u16 0, .slice none 0 0, .slice none 0 0, .slice none 0 0, .slice none 0 0, .slice none 0 0]) 41 (0, 0)) ∧ W.heap.size ≤ g3) ∧ (b 9 = true → (m9_ : Value) = .pointer (some ⟨g3, 0, none⟩))) HT_.out HW_.out (by kernel_rfl) (by kernel_rfl) ?_ ?_ ?_
 ·exact ⟨0, .bool false, by simp only [putSel, Bool.false_eq_true, if_false], below_drew (Below.refl _ _), fun h_ => absurd h_ (by decide), fun h_ => absurd h_ (by decide), fun h_ => absurd h_ (by decide)⟩
 ·skip
  clear B
  refine sc rfl ?_ ?_
  ·rintro b a w' ⟨g3, m9_, ha, Q_B, Q_Z, Q_Z2, Q_X9_⟩ hb_ hon hoff K hK
   have e1 : a.tmps[1]? = some (.pointer (some ⟨w.heap.size, 0, none⟩)) := by rw [ha]; exact (putSel_off rfl).trans rfl
   replace ha := Am ha
   refine value_ (w1 := w') (v := .pointer (some ⟨w.heap.size, 0, none⟩)) (by rfl) rfl ?_ ?_
   ·go_simp
    (try simp only [i64_w])
    try rfl
   refine hK.out _ _ ⟨g3, m9_, (puk ha 0 hb_ rfl rfl rfl), Q_B, Q_Z, fun h0_ => hof (hoff 10 (by kernel_rfl)) h0_, Q_X9_⟩
  refine sc rfl ?_ ?_
  ·rintro b a w' ⟨g3, m9_, ha, Q_B, Q_Z, Q_Z2, Q_X9_⟩ hb_ hon hoff K hK
   have e4 := psn ha 0 rfl rfl (hon 0 (by kernel_rfl)) rfl
   replace ha := Am ha
   have B := Am Q_B
   have hs : w'.cell? ⟨w.heap.size, 0, none⟩ = some (.int .u8 f0) := pw_cell_below B.out U0.out
   refine value_ (w1 := w') (v := .int .u8 f0) (by rfl) rfl ?_ ?_
   ·go_simp
    (try simp only [i64_w])
    try rfl
   refine hK.out _ _ ⟨g3, m9_, (puk ha 1 hb_ rfl rfl rfl), Q_B, Q_Z, fun h0_ => hof (hoff 10 (by kernel_rfl)) h0_, Q_X9_⟩
  refine sc rfl ?_ ?_
  ·rintro b a w' ⟨g3, m9_, ha, Q_B, Q_Z, Q_Z2, Q_X9_⟩ hb_ hon hoff K hK
   have e1 : a.tmps[1]? = some (.pointer (some ⟨w.heap.size, 0, none⟩)) := by rw [ha]; exact (putSel_off rfl).trans rfl
   replace ha := Am ha
   refine value_ (w1 := w') (v := .pointer (some ⟨w.heap.size, 1, none⟩)) (by rfl) rfl ?_ ?_
   ·go_simp
    (try simp only [i64_w])
    try rfl
   refine hK.out _ _ ⟨g3, m9_, (puk ha 2 hb_ rfl rfl rfl), Q_B, Q_Z, fun h0_ => hof (hoff 10 (by kernel_rfl)) h0_, Q_X9_⟩
  refine sc rfl ?_ ?_
  ·rintro b a w' ⟨g3, m9_, ha, Q_B, Q_Z, Q_Z2, Q_X9_⟩ hb_ hon hoff K hK
   have e6 := psn ha 2 rfl rfl (hon 2 (by kernel_rfl)) rfl
   replace ha := Am ha
   have B := Am Q_B
   have hs : w'.cell? ⟨w.heap.size, 1, none⟩ = some (.int .u8 f1) := pw_cell_below B.out U1.out
   refine value_ (w1 := w') (v := .int .u8 f1) (by rfl) rfl ?_ ?_
   ·go_simp
    (try simp only [i64_w])
    try rfl
   refine hK.out _ _ ⟨g3, m9_, (puk ha 3 hb_ rfl rfl rfl), Q_B, Q_Z, fun h0_ => hof (hoff 10 (by kernel_rfl)) h0_, Q_X9_⟩
  refine sc rfl ?_ ?_
  ·rintro b a w' ⟨g3, m9_, ha, Q_B, Q_Z, Q_Z2, Q_X9_⟩ hb_ hon hoff K hK
   have e1 : a.tmps[1]? = some (.pointer (some ⟨w.heap.size, 0, none⟩)) := by rw [ha]; exact (putSel_off rfl).trans rfl
   replace ha := Am ha
   refine value_ (w1 := w') (v := .pointer (some ⟨w.heap.size, 0, none⟩)) (by rfl) rfl ?_ ?_
   ·go_simp
    (try simp only [i64_w])
    try rfl
   refine hK.out _ _ ⟨g3, m9_, (puk ha 4 hb_ rfl rfl rfl), Q_B, Q_Z, fun h0_ => hof (hoff 10 (by kernel_rfl)) h0_, Q_X9_⟩
  refine sc rfl ?_ ?_
  ·rintro b a w' ⟨g3, m9_, ha, Q_B, Q_Z, Q_Z2, Q_X9_⟩ hb_ hon hoff K hK
   have e8 := psn ha 4 rfl rfl (hon 4 (by kernel_rfl)) rfl
   replace ha := Am ha
   have B := Am Q_B
   have hs : w'.cell? ⟨w.heap.size, 0, none⟩ = some (.int .u8 f0) := pw_cell_below B.out U0.out
   refine value_ (w1 := w') (v := .int .u8 f0) (by rfl) rfl ?_ ?_
   ·go_simp
    (try simp only [i64_w])
    try rfl
   refine hK.out _ _ ⟨g3, m9_, (puk ha 5 hb_ rfl rfl rfl), Q_B, Q_Z, fun h0_ => hof (hoff 10 (by kernel_rfl)) h0_, Q_X9_⟩
  refine sc rfl ?_ ?_
  ·rintro b a w' ⟨g3, m9_, ha, Q_B, Q_Z, Q_Z2, Q_X9_⟩ hb_ hon hoff K hK
   have e9 := psn ha 5 rfl rfl (hon 5 (by kernel_rfl)) rfl
   replace ha := Am ha
   have B := Am Q_B
   refine goes_ Tryd.func88 (by kernel_rfl) rfl #[.int .u8 f0] (by rfl) rfl rfl (by first | (simp only [List.map_toArray, List.map_cons, List.map_nil, Act.eval, Array.getD_eq_getD_getElem?, Option.getD_some, e9]; done) | (simp only [List.map_toArray, List.map_cons, List.map_nil, Act.eval, Array.getD_eq_getD_getElem?, Option.getD_some, e9]; rfl)) ?_
   refine (mask_calls f0 w').mono ?_
   rintro e w1 ⟨rfl, hD1⟩
   refine ⟨_, rfl, ?_⟩
   refine hK.out _ _ ⟨g3, m9_, (puk ha 6 hb_ rfl rfl rfl), below_then B.out B.out.size (drawn_below hD1), fun h0_ h1_ => ⟨blk_below (Q_Z h0_ h1_).1 (drawn_below hD1), (Q_Z h0_ h1_).2⟩, fun h0_ => hof (hoff 10 (by kernel_rfl)) h0_, Q_X9_⟩
  refine sc rfl ?_ ?_
  ·rintro b a w' ⟨g3, m9_, ha, Q_B, Q_Z, Q_Z2, Q_X9_⟩ hb_ hon hoff K hK
   have e7 := psn ha 3 rfl rfl (hon 3 (by kernel_rfl)) rfl
   have e10 := psn ha 6 rfl rfl (hon 6 (by kernel_rfl)) rfl
   replace ha := Am ha
   have B := Am Q_B
   refine value_ (w1 := w') (v := .int .u8 fl) (by rfl) rfl (by go_simp; first | done | exact HFL.out) ?_
   refine hK.out _ _ ⟨g3, m9_, (puk ha 7 hb_ rfl rfl rfl), B.out, fun h0_ h1_ => (Q_Z h0_ h1_), fun h0_ => hof (hoff 10 (by kernel_rfl)) h0_, Q_X9_⟩
  refine sc rfl ?_ ?_
  ·rintro b a w' ⟨g3, m9_, ha, Q_B, Q_Z, Q_Z2, Q_X9_⟩ hb_ hon hoff K hK
   have e5 := psn ha 1 rfl rfl (hon 1 (by kernel_rfl)) rfl
   have e11 := psn ha 7 rfl rfl (hon 7 (by kernel_rfl)) rfl
   replace ha := Am ha
   refine value_ (w1 := w') (v := .agg (#[.int .u8 (f0), .int .u8 (fl), .int .u32 0, .int .u16 0, .int .u16 0, .int .u32 0, .int .u32 0, .int .u32 0, .int .u16 0, .int .u16 0, .slice none 0 0, .slice none 0 0, .slice none 0 0, .slice none 0 0, .slice none 0 0])) (by rfl) rfl ?_ ?_
   ·go_simp
    (try simp only [i64_w])
    try rfl
   refine hK.out _ _ ⟨g3, m9_, (puk ha 8 hb_ rfl rfl rfl), Q_B, Q_Z, fun h0_ => hof (hoff 10 (by kernel_rfl)) h0_, Q_X9_⟩
  refine sc rfl ?_ ?_
  ·rintro b a w' ⟨g3, m9_, ha, Q_B, Q_Z, Q_Z2, Q_X9_⟩ hb_ hon hoff K hK
   replace ha := Am ha
   have B := Am Q_B
   refine value_ (w1 := w'.alloc (.cells #[.int .u8 0, .int .u8 0, .int .u32 0, .int .u16 0, .int .u16 0, .int .u32 0, .int .u32 0, .int .u32 0, .int .u16 0, .int .u16 0, .slice none 0 0, .slice none 0 0, .slice none 0 0, .slice none 0 0, .slice none 0 0] 41)) (v := .pointer (some ⟨w'.heap.size, 0, none⟩)) (by rfl) rfl (by go_simp; try rfl) ?_
   refine hK.out _ _ ⟨w'.heap.size, (.pointer (some ⟨w'.heap.size, 0, none⟩)), (puk ha 9 hb_ rfl rfl rfl), B.out.alloc B.out.size _, fun _ _ => ⟨blk_new _ _, B.out.size⟩, fun h0_ => hof (hoff 10 (by kernel_rfl)) h0_, fun _ => rfl⟩
  refine sc rfl ?_ ?_
  ·rintro b a w' ⟨g3, m9_, ha, Q_B, Q_Z, Q_Z2, Q_X9_⟩ hb_ hon hoff K hK
   have e3 := psn ha 9 rfl rfl (hon 9 (by kernel_rfl)) rfl
   rw [Q_X9_ (hon 9 (by kernel_rfl))] at e3
   have e12 := psn ha 8 rfl rfl (hon 8 (by kernel_rfl)) rfl
   replace ha := Am ha
   have B := Am Q_B
   have Z := Am (Q_Z (hon 9 (by kernel_rfl)) hb_)
   refine skip_ (w1 := w'.setRow g3 (#[.int .u8 (f0), .int .u8 (fl), .int .u32 0, .int .u16 0, .int .u16 0, .int .u32 0, .int .u32 0, .int .u32 0, .int .u16 0, .int .u16 0, .slice none 0 0, .slice none 0 0, .slice none 0 0, .slice none 0 0, .slice none 0 0])) (by rfl) rfl (exec_store_row 41 (.tmp 3) (.tmp 12) rfl (eval_of e3) (eval_of e12) Z.out.1 (by kernel_rfl) rfl (by simp [Value.oneCell'])) ?_
   refine hK.out _ _ ⟨g3, m9_, (by rw [ha.out]; exact putSel_none (v := undef) rfl), below_setRow B.out Z.out.2 _, fun _ h1_ => absurd ((up_self b 10).symm.trans h1_) (by decide), fun _ => ⟨setRow_heap _ _ _ _ _ _ Z.out.1, Z.out.2⟩, Q_X9_⟩
  exact steps_nil
 rintro b a w' hall ⟨g3, m9_, ha, Q_B, Q_Z, Q_Z2, Q_X9_⟩
 clear B
 have hb0_ := hall 0 (by kernel_rfl)
 have hb1_ := hall 1 (by kernel_rfl)
 have hb2_ := hall 2 (by kernel_rfl)
 have hb3_ := hall 3 (by kernel_rfl)
 have hb4_ := hall 4 (by kernel_rfl)
 have hb5_ := hall 5 (by kernel_rfl)
 have hb6_ := hall 6 (by kernel_rfl)
 have hb7_ := hall 7 (by kernel_rfl)
 have hb8_ := hall 8 (by kernel_rfl)
 have hb9_ := hall 9 (by kernel_rfl)
 have hb10_ := hall 10 (by kernel_rfl)
 subst ha
 obtain rfl := Q_X9_ hb9_
 simp only [putSel, hb0_, hb1_, hb2_, hb3_, hb4_, hb5_, hb6_, hb7_, hb8_, hb9_, hb10_, if_true, Act.put, List.setIfInBounds_toArray, List.set_cons_zero, List.set_cons_succ]
 have B := Am Q_B
 clear Q_B
 clear Q_Z
 have Z2 := Am (Q_Z2 hb10_)
 clear Q_Z2
 clear hall hb0_ hb1_ hb2_ hb3_ hb4_ hb5_ hb6_ hb7_ hb8_ hb9_ hb10_
 replace X : By w (CV ⟨f0, f1, f2, f3, f4, f5, f6, f7, f8, f9, f10, f11, f12, f13, f14⟩ ⟨A10, c10, A11, c11, A12, c12, A13, c13, A14, c14⟩) (#[.int .u8 (f0), .int .u8 (fl), .int .u32 0, .int .u16 0, .int .u16 0, .int .u32 0, .int .u32 0, .int .u32 0, .int .u16 0, .int .u16 0, .slice none 0 0, .slice none 0 0, .slice none 0 0, .slice none 0 0, .slice none 0 0]) g3 w' := ⟨X.below B.out, Z2.out.1, Nat.le_trans X.x3 Z2.out.2⟩
 replace U0 := Lh (pw_cell_below B.out U0.out)
 replace U1 := Lh (pw_cell_below B.out U1.out)
 replace U2 := Lh (pw_cell_below B.out U2.out)
 replace U3 := Lh (pw_cell_below B.out U3.out)
 replace U4 := Lh (pw_cell_below B.out U4.out)
 replace U5 := Lh (pw_cell_below B.out U5.out)
 replace U6 := Lh (pw_cell_below B.out U6.out)
 replace U7 := Lh (pw_cell_below B.out U7.out)
 replace U8 := Lh (pw_cell_below B.out U8.out)
 replace U9 := Lh (pw_cell_below B.out U9.out)
 replace U10 := Lh (pw_cell_below B.out U10.out)
 replace U11 := Lh (pw_cell_below B.out U11.out)
 replace U12 := Lh (pw_cell_below B.out U12.out)
 replace U13 := Lh (pw_cell_below B.out U13.out)
 replace U14 := Lh (pw_cell_below B.out U14.out)
 clear B Z2 HFL
 generalize w' = W at *
 have HN := Lh (show ¬ w.heap.size = g3 by have := X.hg; omega)
 by_cases h : f0 = 0
 ·subst h
  have k0 := U0.out
  go_upto_region 16 with (fail)
  refine copy_region (B := bareB16) (T := 41) (gd := g3) [0, 1, 2, 3, 4, 5, 6, 7, 8, 9, 10, 11, 12, 13, 14, 15, 16, 17, 18, 19] [(0, 36, .pointer (some ⟨w.heap.size, 2, none⟩)), (1, 37, .int .u32 f2), (2, 38, .pointer (some ⟨w.heap.size, 3, none⟩)), (3, 39, .int .u16 f3), (4, 40, .pointer (some ⟨w.heap.size, 4, none⟩)), (5, 41, .int .u16 f4), (6, 42, .pointer (some ⟨w.heap.size, 5, none⟩)), (7, 43, .int .u32 f5), (8, 44, .pointer (some ⟨w.heap.size, 13, none⟩)), (9, 45, .slice A13 f13.length c13), (10, 46, .pointer (some ⟨g3, 2, none⟩)), (12, 47, .pointer (some ⟨g3, 3, none⟩)), (14, 48, .pointer (some ⟨g3, 4, none⟩)), (16, 49, .pointer (some ⟨g3, 5, none⟩)), (18, 50, .pointer (some ⟨g3, 13, none⟩))] [(11, 2, .int .u32 f2), (13, 3, .int .u16 f3), (15, 4, .int .u16 f4), (17, 5, .int .u32 f5), (19, 13, .slice A13 f13.length c13)] (by kernel_rfl) rfl (l := #[false, false, false, false, false, false, false, false, false, false, false, false, false, false, false, false, false, false, false, false]) rfl baretab16 barebits16 (by kernel_rfl) (by kernel_rfl) rfl rfl X.x3 ?_ ?_
  ·exact steps_cons (cp_addr 0 0 1 rfl rfl rfl rfl rfl rfl rfl rfl (fun a w e => by go_simp)) (steps_cons (cp_op 1 1 0 0 rfl rfl rfl rfl rfl rfl rfl rfl rfl (by kernel_rfl) rfl (fun a w hO e => by have hs := hO.cell U2.out HN.out; go_simp)) (steps_cons (cp_addr 2 2 1 rfl rfl rfl rfl rfl rfl rfl rfl (fun a w e => by go_simp)) (steps_cons (cp_op 3 3 2 2 rfl rfl rfl rfl rfl rfl rfl rfl rfl (by kernel_rfl) rfl (fun a w hO e => by have hs := hO.cell U3.out HN.out; go_simp)) (steps_cons (cp_addr 4 4 1 rfl rfl rfl rfl rfl rfl rfl rfl (fun a w e => by go_simp)) (steps_cons (cp_op 5 5 4 4 rfl rfl rfl rfl rfl rfl rfl rfl rfl (by kernel_rfl) rfl (fun a w hO e => by have hs := hO.cell U4.out HN.out; go_simp)) (steps_cons (cp_addr 6 6 1 rfl rfl rfl rfl rfl rfl rfl rfl (fun a w e => by go_simp)) (steps_cons (cp_op 7 7 6 6 rfl rfl rfl rfl rfl rfl rfl rfl rfl (by kernel_rfl) rfl (fun a w hO e => by have hs := hO.cell U5.out HN.out; go_simp)) (steps_cons (cp_addr 8 8 1 rfl rfl rfl rfl rfl rfl rfl rfl (fun a w e => by go_simp)) (steps_cons (cp_op 9 9 8 8 rfl rfl rfl rfl rfl rfl rfl rfl rfl (by kernel_rfl) rfl (fun a w hO e => by have hs := hO.cell U13.out HN.out; go_simp)) (steps_cons (cp_addr 10 10 3 rfl rfl rfl rfl rfl rfl rfl rfl (fun a w e => by go_simp)) (steps_cons (cp_store 11 0 10 1 10 1 rfl rfl rfl rfl rfl rfl (show _ < 15 by decide) rfl rfl rfl (by kernel_rfl) rfl rfl rfl rfl (by kernel_rfl) rfl (fun a w old e e2 h h2 => by go_simp)) (steps_cons (cp_addr 12 11 3 rfl rfl rfl rfl rfl rfl rfl rfl (fun a w e => by go_simp)) (steps_cons (cp_store 13 1 11 3 12 3 rfl rfl rfl rfl rfl rfl (show _ < 15 by decide) rfl rfl rfl (by kernel_rfl) rfl rfl rfl rfl (by kernel_rfl) rfl (fun a w old e e2 h h2 => by go_simp)) (steps_cons (cp_addr 14 12 3 rfl rfl rfl rfl rfl rfl rfl rfl (fun a w e => by go_simp)) (steps_cons (cp_store 15 2 12 5 14 5 rfl rfl rfl rfl rfl rfl (show _ < 15 by decide) rfl rfl rfl (by kernel_rfl) rfl rfl rfl rfl (by kernel_rfl) rfl (fun a w old e e2 h h2 => by go_simp)) (steps_cons (cp_addr 16 13 3 rfl rfl rfl rfl rfl rfl rfl rfl (fun a w e => by go_simp)) (steps_cons (cp_store 17 3 13 7 16 7 rfl rfl rfl rfl rfl rfl (show _ < 15 by decide) rfl rfl rfl (by kernel_rfl) rfl rfl rfl rfl (by kernel_rfl) rfl (fun a w old e e2 h h2 => by go_simp)) (steps_cons (cp_addr 18 14 3 rfl rfl rfl rfl rfl rfl rfl rfl (fun a w e => by go_simp)) (steps_cons (cp_store 19 4 14 9 18 9 rfl rfl rfl rfl rfl rfl (show _ < 15 by decide) rfl rfl rfl (by kernel_rfl) rfl rfl rfl rfl (by kernel_rfl) rfl (fun a w old e e2 h h2 => by go_simp)) steps_nil)))))))))))))))))))
  intro W9 hO9 hC9
  replace X := (show By w _ (#[.int .u8 _, .int .u8 fl, .int .u32 f2, .int .u16 f3, .int .u16 f4, .int .u32 f5, .int .u32 0, .int .u32 0, .int .u16 0, .int .u16 0, .slice none 0 0, .slice none 0 0, .slice none 0 0, .slice A13 f13.length c13, .slice none 0 0]) g3 W9 from X.only hO9 hC9)
  clear hO9 hC9
  simp only [putSel, if_true, Act.put, List.setIfInBounds_toArray, List.set_cons_zero, List.set_cons_succ]
  go_wp2_with (with_reducible refine gate_dst (N := 93) rfl ?_; go_must (refine wpList_ret_row 93 rfl rfl rfl (.tmp 3) (.tmp 2) rfl rfl rfl _ _ _ _ rfl rfl rfl X.x3 X.bx.x1 rfl rfl (by simp [Value.oneCell']) ?_))
  exact row_end rfl rfl rfl X.bx.x1 rfl X.bx.x2 (Nat.le_succ _) (by rw [← HFE.out]; rfl)
 have q0 : (f0 == 0) = false := by simpa using h
 clear h
 by_cases h : f0 = 1 ∨ f0 = 2
 ·rcases h with rfl | rfl
  all_goals
   have k0 := U0.out
   go_upto_region 17 with (fail)
   refine copy_region (B := bareB17) (T := 41) (gd := g3) [0, 1, 2, 3, 4, 5, 6, 7, 8, 9, 10, 11, 12, 13, 14, 15, 16, 17, 18, 19, 20, 21, 22, 23] [(0, 51, .pointer (some ⟨w.heap.size, 6, none⟩)), (1, 52, .int .u32 f6), (2, 53, .pointer (some ⟨w.heap.size, 7, none⟩)), (3, 54, .int .u32 f7), (4, 55, .pointer (some ⟨w.heap.size, 8, none⟩)), (5, 56, .int .u16 f8), (6, 57, .pointer (some ⟨w.heap.size, 9, none⟩)), (7, 58, .int .u16 f9), (8, 59, .pointer (some ⟨w.heap.size, 2, none⟩)), (9, 60, .int .u32 f2), (10, 61, .pointer (some ⟨w.heap.size, 14, none⟩)), (11, 62, .slice A14 f14.length c14), (12, 63, .pointer (some ⟨g3, 6, none⟩)), (14, 64, .pointer (some ⟨g3, 7, none⟩)), (16, 65, .pointer (some ⟨g3, 8, none⟩)), (18, 66, .pointer (some ⟨g3, 9, none⟩)), (20, 67, .pointer (some ⟨g3, 2, none⟩)), (22, 68, .pointer (some ⟨g3, 14, none⟩))] [(13, 6, .int .u32 f6), (15, 7, .int .u32 f7), (17, 8, .int .u16 f8), (19, 9, .int .u16 f9), (21, 2, .int .u32 f2), (23, 14, .slice A14 f14.length c14)] (by kernel_rfl) rfl (l := #[false, false, false, false, false, false, false, false, false, false, false, false, false, false, false, false, false, false, false, false, false, false, false, false]) rfl baretab17 barebits17 (by kernel_rfl) (by kernel_rfl) rfl rfl X.x3 ?_ ?_
   ·exact steps_cons (cp_addr 0 0 1 rfl rfl rfl rfl rfl rfl rfl rfl (fun a w e => by go_simp)) (steps_cons (cp_op 1 1 0 0 rfl rfl rfl rfl rfl rfl rfl rfl rfl (by kernel_rfl) rfl (fun a w hO e => by have hs := hO.cell U6.out HN.out; go_simp)) (steps_cons (cp_addr 2 2 1 rfl rfl rfl rfl rfl rfl rfl rfl (fun a w e => by go_simp)) (steps_cons (cp_op 3 3 2 2 rfl rfl rfl rfl rfl rfl rfl rfl rfl (by kernel_rfl) rfl (fun a w hO e => by have hs := hO.cell U7.out HN.out; go_simp)) (steps_cons (cp_addr 4 4 1 rfl rfl rfl rfl rfl rfl rfl rfl (fun a w e => by go_simp)) (steps_cons (cp_op 5 5 4 4 rfl rfl rfl rfl rfl rfl rfl rfl rfl (by kernel_rfl) rfl (fun a w hO e => by have hs := hO.cell U8.out HN.out; go_simp)) (steps_cons (cp_addr 6 6 1 rfl rfl rfl rfl rfl rfl rfl rfl (fun a w e => by go_simp)) (steps_cons (cp_op 7 7 6 6 rfl rfl rfl rfl rfl rfl rfl rfl rfl (by kernel_rfl) rfl (fun a w hO e => by have hs := hO.cell U9.out HN.out; go_simp)) (steps_cons (cp_addr 8 8 1 rfl rfl rfl rfl rfl rfl rfl rfl (fun a w e => by go_simp)) (steps_cons (cp_op 9 9 8 8 rfl rfl rfl rfl rfl rfl rfl rfl rfl (by kernel_rfl) rfl (fun a w hO e => by have hs := hO.cell U2.out HN.out; go_simp)) (steps_cons (cp_addr 10 10 1 rfl rfl rfl rfl rfl rfl rfl rfl (fun a w e => by go_simp)) (steps_cons (cp_op 11 11 10 10 rfl rfl rfl rfl rfl rfl rfl rfl rfl (by kernel_rfl) rfl (fun a w hO e => by have hs := hO.cell U14.out HN.out; go_simp)) (steps_cons (cp_addr 12 12 3 rfl rfl rfl rfl rfl rfl rfl rfl (fun a w e => by go_simp)) (steps_cons (cp_store 13 0 12 1 12 1 rfl rfl rfl rfl rfl rfl (show _ < 15 by decide) rfl rfl rfl (by kernel_rfl) rfl rfl rfl rfl (by kernel_rfl) rfl (fun a w old e e2 h h2 => by go_simp)) (steps_cons (cp_addr 14 13 3 rfl rfl rfl rfl rfl rfl rfl rfl (fun a w e => by go_simp)) (steps_cons (cp_store 15 1 13 3 14 3 rfl rfl rfl rfl rfl rfl (show _ < 15 by decide) rfl rfl rfl (by kernel_rfl) rfl rfl rfl rfl (by kernel_rfl) rfl (fun a w old e e2 h h2 => by go_simp)) (steps_cons (cp_addr 16 14 3 rfl rfl rfl rfl rfl rfl rfl rfl (fun a w e => by go_simp)) (steps_cons (cp_store 17 2 14 5 16 5 rfl rfl rfl rfl rfl rfl (show _ < 15 by decide) rfl rfl rfl (by kernel_rfl) rfl rfl rfl rfl (by kernel_rfl) rfl (fun a w old e e2 h h2 => by go_simp)) (steps_cons (cp_addr 18 15 3 rfl rfl rfl rfl rfl rfl rfl rfl (fun a w e => by go_simp)) (steps_cons (cp_store 19 3 15 7 18 7 rfl rfl rfl rfl rfl rfl (show _ < 15 by decide) rfl rfl rfl (by kernel_rfl) rfl rfl rfl rfl (by kernel_rfl) rfl (fun a w old e e2 h h2 => by go_simp)) (steps_cons (cp_addr 20 16 3 rfl rfl rfl rfl rfl rfl rfl rfl (fun a w e => by go_simp)) (steps_cons (cp_store 21 4 16 9 20 9 rfl rfl rfl rfl rfl rfl (show _ < 15 by decide) rfl rfl rfl (by kernel_rfl) rfl rfl rfl rfl (by kernel_rfl) rfl (fun a w old e e2 h h2 => by go_simp)) (steps_cons (cp_addr 22 17 3 rfl rfl rfl rfl rfl rfl rfl rfl (fun a w e => by go_simp)) (steps_cons (cp_store 23 5 17 11 22 11 rfl rfl rfl rfl rfl rfl (show _ < 15 by decide) rfl rfl rfl (by kernel_rfl) rfl rfl rfl rfl (by kernel_rfl) rfl (fun a w old e e2 h h2 => by go_simp)) steps_nil)))))))))))))))))))))))
   intro W9 hO9 hC9
   replace X := (show By w _ (#[.int .u8 _, .int .u8 fl, .int .u32 f2, .int .u16 0, .int .u16 0, .int .u32 0, .int .u32 f6, .int .u32 f7, .int .u16 f8, .int .u16 f9, .slice none 0 0, .slice none 0 0, .slice none 0 0, .slice none 0 0, .slice A14 f14.length c14]) g3 W9 from X.only hO9 hC9)
   clear hO9 hC9
   simp only [putSel, if_true, Act.put, List.setIfInBounds_toArray, List.set_cons_zero, List.set_cons_succ]
   go_wp2_with (with_reducible refine gate_dst (N := 93) rfl ?_; go_must (refine wpList_ret_row 93 rfl rfl rfl (.tmp 3) (.tmp 2) rfl rfl rfl _ _ _ _ rfl rfl rfl X.x3 X.bx.x1 rfl rfl (by simp [Value.oneCell']) ?_))
   exact row_end rfl rfl rfl X.bx.x1 rfl X.bx.x2 (Nat.le_succ _) (by rw [← HFE.out]; rfl)
 have q1 : (f0 == 1) = false := by simp; omega
 have q2 : (f0 == 2) = false := by simp; omega
 clear h
 by_cases h : f0 = 16
 ·subst h
  have k0 := U0.out
  have HU := Lh (fun (i : Nat) (u : Value) (h : W.cell? ⟨w.heap.size, i, none⟩ = some u) => (show (W.setCell ⟨g3, 11, none⟩ (.slice A11 f11.length c11)).cell? ⟨w.heap.size, i, none⟩ = some u from ((Only.refl (· = g3) W).setCell (fun _ => rfl) _).cell h HN.out))
  have k11 : W.cell? ⟨w.heap.size, 11, none⟩ = some (.slice A11 f11.length c11) := U11.out
  have d11 : W.cell? ⟨g3, 11, none⟩ = some (.slice none 0 0) := blk_cell X.x3 11
  have f_11 := blk_frozen X.x3 11
  go_upto_region 19 with (fail)
  replace X := X.set 11 (.slice A11 f11.length c11)
  replace U0 := Lh (HU.out _ _ U0.out)
  replace U2 := Lh (HU.out _ _ U2.out)
  replace U7 := Lh (HU.out _ _ U7.out)
  replace U10 := Lh (HU.out _ _ U10.out)
  replace U12 := Lh (HU.out _ _ U12.out)
  clear HU k0 k11 d11 f_11
  generalize W.setCell ⟨g3, 11, none⟩ (.slice A11 f11.length c11) = W at *
  refine copy_region (B := bareB19) (T := 41) (gd := g3) [0, 1, 2, 3, 4, 5, 6, 7, 8, 9, 10, 11, 12, 13, 14, 15] [(0, 72, .pointer (some ⟨w.heap.size, 2, none⟩)), (1, 73, .int .u32 f2), (2, 74, .pointer (some ⟨w.heap.size, 7, none⟩)), (3, 75, .int .u32 f7), (4, 76, .pointer (some ⟨w.heap.size, 10, none⟩)), (5, 77, .slice A10 f10.length c10), (6, 78, .pointer (some ⟨w.heap.size, 12, none⟩)), (7, 79, .slice A12 f12.length c12), (8, 80, .pointer (some ⟨g3, 2, none⟩)), (10, 81, .pointer (some ⟨g3, 7, none⟩)), (12, 82, .pointer (some ⟨g3, 10, none⟩)), (14, 83, .pointer (some ⟨g3, 12, none⟩))] [(9, 2, .int .u32 f2), (11, 7, .int .u32 f7), (13, 10, .slice A10 f10.length c10), (15, 12, .slice A12 f12.length c12)] (by kernel_rfl) rfl (l := #[false, false, false, false, false, false, false, false, false, false, false, false, false, false, false, false]) rfl baretab19 barebits19 (by kernel_rfl) (by kernel_rfl) rfl rfl X.x3 ?_ ?_
  ·exact steps_cons (cp_addr 0 0 1 rfl rfl rfl rfl rfl rfl rfl rfl (fun a w e => by go_simp)) (steps_cons (cp_op 1 1 0 0 rfl rfl rfl rfl rfl rfl rfl rfl rfl (by kernel_rfl) rfl (fun a w hO e => by have hs := hO.cell U2.out HN.out; go_simp)) (steps_cons (cp_addr 2 2 1 rfl rfl rfl rfl rfl rfl rfl rfl (fun a w e => by go_simp)) (steps_cons (cp_op 3 3 2 2 rfl rfl rfl rfl rfl rfl rfl rfl rfl (by kernel_rfl) rfl (fun a w hO e => by have hs := hO.cell U7.out HN.out; go_simp)) (steps_cons (cp_addr 4 4 1 rfl rfl rfl rfl rfl rfl rfl rfl (fun a w e => by go_simp)) (steps_cons (cp_op 5 5 4 4 rfl rfl rfl rfl rfl rfl rfl rfl rfl (by kernel_rfl) rfl (fun a w hO e => by have hs := hO.cell U10.out HN.out; go_simp)) (steps_cons (cp_addr 6 6 1 rfl rfl rfl rfl rfl rfl rfl rfl (fun a w e => by go_simp)) (steps_cons (cp_op 7 7 6 6 rfl rfl rfl rfl rfl rfl rfl rfl rfl (by kernel_rfl) rfl (fun a w hO e => by have hs := hO.cell U12.out HN.out; go_simp)) (steps_cons (cp_addr 8 8 3 rfl rfl rfl rfl rfl rfl rfl rfl (fun a w e => by go_simp)) (steps_cons (cp_store 9 0 8 1 8 1 rfl rfl rfl rfl rfl rfl (show _ < 15 by decide) rfl rfl rfl (by kernel_rfl) rfl rfl rfl rfl (by kernel_rfl) rfl (fun a w old e e2 h h2 => by go_simp)) (steps_cons (cp_addr 10 9 3 rfl rfl rfl rfl rfl rfl rfl rfl (fun a w e => by go_simp)) (steps_cons (cp_store 11 1 9 3 10 3 rfl rfl rfl rfl rfl rfl (show _ < 15 by decide) rfl rfl rfl (by kernel_rfl) rfl rfl rfl rfl (by kernel_rfl) rfl (fun a w old e e2 h h2 => by go_simp)) (steps_cons (cp_addr 12 10 3 rfl rfl rfl rfl rfl rfl rfl rfl (fun a w e => by go_simp)) (steps_cons (cp_store 13 2 10 5 12 5 rfl rfl rfl rfl rfl rfl (show _ < 15 by decide) rfl rfl rfl (by kernel_rfl) rfl rfl rfl rfl (by kernel_rfl) rfl (fun a w old e e2 h h2 => by go_simp)) (steps_cons (cp_addr 14 11 3 rfl rfl rfl rfl rfl rfl rfl rfl (fun a w e => by go_simp)) (steps_cons (cp_store 15 3 11 7 14 7 rfl rfl rfl rfl rfl rfl (show _ < 15 by decide) rfl rfl rfl (by kernel_rfl) rfl rfl rfl rfl (by kernel_rfl) rfl (fun a w old e e2 h h2 => by go_simp)) steps_nil)))))))))))))))
  intro W8 hO9 hC9
  replace X := (show By w _ (#[.int .u8 _, .int .u8 fl, .int .u32 f2, .int .u16 0, .int .u16 0, .int .u32 0, .int .u32 0, .int .u32 f7, .int .u16 0, .int .u16 0, .slice A10 f10.length c10, .slice A11 f11.length c11, .slice A12 f12.length c12, .slice none 0 0, .slice none 0 0]) g3 W8 from X.only hO9 hC9)
  clear hO9 hC9
  simp only [putSel, if_true, Act.put, List.setIfInBounds_toArray, List.set_cons_zero, List.set_cons_succ]
  go_wp2_with (with_reducible refine gate_dst (N := 93) rfl ?_; go_must (refine wpList_ret_row 93 rfl rfl rfl (.tmp 3) (.tmp 2) rfl rfl rfl _ _ _ _ rfl rfl rfl X.x3 X.bx.x1 rfl rfl (by simp [Value.oneCell']) ?_))
  exact row_end rfl rfl rfl X.bx.x1 rfl X.bx.x2 (Nat.le_succ _) (by rw [← HFE.out]; rfl)
 have q16 : (f0 == 16) = false := by simpa using h
 clear h
 by_cases h : f0 = 3
 ·subst h
  have k0 := U0.out
  go_upto_region 19 with (fail)
  refine copy_region (B := bareB19) (T := 41) (gd := g3) [0, 1, 2, 3, 4, 5, 6, 7, 8, 9, 10, 11, 12, 13, 14, 15] [(0, 72, .pointer (some ⟨w.heap.size, 2, none⟩)), (1, 73, .int .u32 f2), (2, 74, .pointer (some ⟨w.heap.size, 7, none⟩)), (3, 75, .int .u32 f7), (4, 76, .pointer (some ⟨w.heap.size, 10, none⟩)), (5, 77, .slice A10 f10.length c10), (6, 78, .pointer (some ⟨w.heap.size, 12, none⟩)), (7, 79, .slice A12 f12.length c12), (8, 80, .pointer (some ⟨g3, 2, none⟩)), (10, 81, .pointer (some ⟨g3, 7, none⟩)), (12, 82, .pointer (some ⟨g3, 10, none⟩)), (14, 83, .pointer (some ⟨g3, 12, none⟩))] [(9, 2, .int .u32 f2), (11, 7, .int .u32 f7), (13, 10, .slice A10 f10.length c10), (15, 12, .slice A12 f12.length c12)] (by kernel_rfl) rfl (l := #[false, false, false, false, false, false, false, false, false, false, false, false, false, false, false, false]) rfl baretab19 barebits19 (by kernel_rfl) (by kernel_rfl) rfl rfl X.x3 ?_ ?_
  ·exact steps_cons (cp_addr 0 0 1 rfl rfl rfl rfl rfl rfl rfl rfl (fun a w e => by go_simp)) (steps_cons (cp_op 1 1 0 0 rfl rfl rfl rfl rfl rfl rfl rfl rfl (by kernel_rfl) rfl (fun a w hO e => by have hs := hO.cell U2.out HN.out; go_simp)) (steps_cons (cp_addr 2 2 1 rfl rfl rfl rfl rfl rfl rfl rfl (fun a w e => by go_simp)) (steps_cons (cp_op 3 3 2 2 rfl rfl rfl rfl rfl rfl rfl rfl rfl (by kernel_rfl) rfl (fun a w hO e => by have hs := hO.cell U7.out HN.out; go_simp)) (steps_cons (cp_addr 4 4 1 rfl rfl rfl rfl rfl rfl rfl rfl (fun a w e => by go_simp)) (steps_cons (cp_op 5 5 4 4 rfl rfl rfl rfl rfl rfl rfl rfl rfl (by kernel_rfl) rfl (fun a w hO e => by have hs := hO.cell U10.out HN.out; go_simp)) (steps_cons (cp_addr 6 6 1 rfl rfl rfl rfl rfl rfl rfl rfl (fun a w e => by go_simp)) (steps_cons (cp_op 7 7 6 6 rfl rfl rfl rfl rfl rfl rfl rfl rfl (by kernel_rfl) rfl (fun a w hO e => by have hs := hO.cell U12.out HN.out; go_simp)) (steps_cons (cp_addr 8 8 3 rfl rfl rfl rfl rfl rfl rfl rfl (fun a w e => by go_simp)) (steps_cons (cp_store 9 0 8 1 8 1 rfl rfl rfl rfl rfl rfl (show _ < 15 by decide) rfl rfl rfl (by kernel_rfl) rfl rfl rfl rfl (by kernel_rfl) rfl (fun a w old e e2 h h2 => by go_simp)) (steps_cons (cp_addr 10 9 3 rfl rfl rfl rfl rfl rfl rfl rfl (fun a w e => by go_simp)) (steps_cons (cp_store 11 1 9 3 10 3 rfl rfl rfl rfl rfl rfl (show _ < 15 by decide) rfl rfl rfl (by kernel_rfl) rfl rfl rfl rfl (by kernel_rfl) rfl (fun a w old e e2 h h2 => by go_simp)) (steps_cons (cp_addr 12 10 3 rfl rfl rfl rfl rfl rfl rfl rfl (fun a w e => by go_simp)) (steps_cons (cp_store 13 2 10 5 12 5 rfl rfl rfl rfl rfl rfl (show _ < 15 by decide) rfl rfl rfl (by kernel_rfl) rfl rfl rfl rfl (by kernel_rfl) rfl (fun a w old e e2 h h2 => by go_simp)) (steps_cons (cp_addr 14 11 3 rfl rfl rfl rfl rfl rfl rfl rfl (fun a w e => by go_simp)) (steps_cons (cp_store 15 3 11 7 14 7 rfl rfl rfl rfl rfl rfl (show _ < 15 by decide) rfl rfl rfl (by kernel_rfl) rfl rfl rfl rfl (by kernel_rfl) rfl (fun a w old e e2 h h2 => by go_simp)) steps_nil)))))))))))))))
  intro W9 hO9 hC9
  replace X := (show By w _ (#[.int .u8 _, .int .u8 fl, .int .u32 f2, .int .u16 0, .int .u16 0, .int .u32 0, .int .u32 0, .int .u32 f7, .int .u16 0, .int .u16 0, .slice A10 f10.length c10, .slice none 0 0, .slice A12 f12.length c12, .slice none 0 0, .slice none 0 0]) g3 W9 from X.only hO9 hC9)
  clear hO9 hC9
  simp only [putSel, if_true, Act.put, List.setIfInBounds_toArray, List.set_cons_zero, List.set_cons_succ]
  go_wp2_with (with_reducible refine gate_dst (N := 93) rfl ?_; go_must (refine wpList_ret_row 93 rfl rfl rfl (.tmp 3) (.tmp 2) rfl rfl rfl _ _ _ _ rfl rfl rfl X.x3 X.bx.x1 rfl rfl (by simp [Value.oneCell']) ?_))
  exact row_end rfl rfl rfl X.bx.x1 rfl X.bx.x2 (Nat.le_succ _) (by rw [← HFE.out]; rfl)
 have q3 : (f0 == 3) = false := by simpa using h
 clear h
 by_cases h : f0 = 4 ∨ f0 = 5 ∨ f0 = 6 ∨ f0 = 9
 ·rcases h with rfl | rfl | rfl | rfl
  all_goals
   have k0 := U0.out
   have k14 : W.cell? ⟨w.heap.size, 14, none⟩ = some (.slice A14 f14.length c14) := U14.out
   have d14 : W.cell? ⟨g3, 14, none⟩ = some (.slice none 0 0) := blk_cell X.x3 14
   have f_14 := blk_frozen X.x3 14
   go_upto_region 23 with (fail)
   refine wp_gen (By w _ (#[.int .u8 _, .int .u8 fl, .int .u32 0, .int .u16 0, .int .u16 0, .int .u32 0, .int .u32 0, .int .u32 0, .int .u16 0, .int .u16 0, .slice none 0 0, .slice none 0 0, .slice none 0 0, .slice none 0 0, .slice A14 f14.length c14]) g3) (X.set 14 _) ?_
   clear X k14 d14 f_14
   intro W9 X
   go_wp2_with (with_reducible refine gate_dst (N := 93) rfl ?_; go_must (refine wpList_ret_row 93 rfl rfl rfl (.tmp 3) (.tmp 2) rfl rfl rfl _ _ _ _ rfl rfl rfl X.x3 X.bx.x1 rfl rfl (by simp [Value.oneCell']) ?_))
   exact row_end rfl rfl rfl X.bx.x1 rfl X.bx.x2 (Nat.le_succ _) (by rw [← HFE.out]; rfl)
 have q4 : (f0 == 4) = false := by simp; omega
 have q5 : (f0 == 5) = false := by simp; omega
 have q6 : (f0 == 6) = false := by simp; omega
 have q9 : (f0 == 9) = false := by simp; omega
 clear h
 by_cases h : f0 = 7
 ·subst h
  have k0 := U0.out
  have k2 : W.cell? ⟨w.heap.size, 2, none⟩ = some (.int .u32 f2) := U2.out
  have d2 : W.cell? ⟨g3, 2, none⟩ = some (.int .u32 0) := blk_cell X.x3 2
  have f_2 := blk_frozen X.x3 2
  go_upto_region 23 with (fail)
  refine wp_gen (By w _ (#[.int .u8 _, .int .u8 fl, .int .u32 f2, .int .u16 0, .int .u16 0, .int .u32 0, .int .u32 0, .int .u32 0, .int .u16 0, .int .u16 0, .slice none 0 0, .slice none 0 0, .slice none 0 0, .slice none 0 0, .slice none 0 0]) g3) (X.set 2 _) ?_
  clear X k2 d2 f_2
  intro W9 X
  go_wp2_with (with_reducible refine gate_dst (N := 93) rfl ?_; go_must (refine wpList_ret_row 93 rfl rfl rfl (.tmp 3) (.tmp 2) rfl rfl rfl _ _ _ _ rfl rfl rfl X.x3 X.bx.x1 rfl rfl (by simp [Value.oneCell']) ?_))
  exact row_end rfl rfl rfl X.bx.x1 rfl X.bx.x2 (Nat.le_succ _) (by rw [← HFE.out]; rfl)
 have q7 : (f0 == 7) = false := by simpa using h
 clear h
 by_cases h : f0 = 8 ∨ f0 = 11 ∨ f0 = 14
 ·rcases h with rfl | rfl | rfl
  all_goals
   have k0 := U0.out
   go_wp2_with (with_reducible refine gate_dst (N := 93) rfl ?_; go_must (refine wpList_ret_row 93 rfl rfl rfl (.tmp 3) (.tmp 2) rfl rfl rfl _ _ _ _ rfl rfl rfl X.x3 X.bx.x1 rfl rfl (by simp [Value.oneCell']) ?_))
   exact row_end rfl rfl rfl X.bx.x1 rfl X.bx.x2 (Nat.le_succ _) (by rw [← HFE.out]; rfl)
 have q8 : (f0 == 8) = false := by simp; omega
 have q11 : (f0 == 11) = false := by simp; omega
 have q14 : (f0 == 14) = false := by simp; omega
 clear h
 have k0 := U0.out
 have k13 : W.cell? ⟨w.heap.size, 13, none⟩ = some (.slice A13 f13.length c13) := U13.out
 have d13 : W.cell? ⟨g3, 13, none⟩ = some (.slice none 0 0) := blk_cell X.x3 13
 have f_13 := blk_frozen X.x3 13
 go_upto_region 23 with (fail)
 refine wp_gen (By w _ (#[.int .u8 _, .int .u8 fl, .int .u32 0, .int .u16 0, .int .u16 0, .int .u32 0, .int .u32 0, .int .u32 0, .int .u16 0, .int .u16 0, .slice none 0 0, .slice none 0 0, .slice none 0 0, .slice A13 f13.length c13, .slice none 0 0]) g3) (X.set 13 _) ?_
 clear X k13 d13 f_13
 intro W9 X
 go_wp2_with (with_reducible refine gate_dst (N := 93) rfl ?_; go_must (refine wpList_ret_row 93 rfl rfl rfl (.tmp 3) (.tmp 2) rfl rfl rfl _ _ _ _ rfl rfl rfl X.x3 X.bx.x1 rfl rfl (by simp [Value.oneCell']) ?_))
 have hf : hasF f0 = fun i => i == 13 := by
  funext i
  simp only [beq_eq_false_iff_ne] at q0 q1 q2 q16 q3 q4 q5 q6 q9 q7 q8 q11 q14
  unfold hasF
  rw [if_neg q0, if_neg (fun e => e.elim q1 q2), if_neg q16, if_neg q3, if_neg (fun e => e.elim q4 (fun e => e.elim q5 (fun e => e.elim q6 q9))), if_neg q7, if_neg (fun e => e.elim q8 (fun e => e.elim q11 q14))]
 refine row_end rfl rfl rfl X.bx.x1 rfl X.bx.x2 (Nat.le_succ _) ?_
 rw [← HFE.out]
 unfold bareD
 dsimp only
 rw [hf]
 rfl
end Go.Proofs.YtdlamomabonkjaaDoor.Ch
end
section
namespace Go.Proofs.YtdlamomabonkjaaDoor.Ch
open Go.RowKit YtdlamomabonkjaaDoorW.PrintWords YtdlamomabonkjaaDoorW.PrintLast Base PCh ParDec ParEnc
def valAT8 : Bool × List (List Nat × List Nat) := (true, [([], []), ([], []), ([1], [1]), ([2], [2]), ([3], [3]), ([], []), ([5], [5]), ([4, 6], [4, 6]), ([0, 0, 1, 2, 3, 4, 5, 6, 7], [0]), ([8, 0, 1, 2, 3, 4, 5, 6, 7], [8]), ([9, 7, 7, 0, 1, 2, 3, 4, 5, 6, 7], [7, 9])])
def valAB8 : List Nat := [0, 0, 2, 6, 14, 0, 32, 126, 255, 511, 1023]
theorem valAtab8 : Go.Proofs.YtdlamomabonkjaaDoorW.PrintLast.rtab .any (Go.Proofs.YtdlamomabonkjaaDoorW.PrintLast.opsOf Tryd.f52 8) = valAT8 := by kernel_rfl
theorem valAbits8 : Go.Proofs.YtdlamomabonkjaaDoorW.PrintLast.waitsOk valAT8.2 valAB8 = true := by kernel_rfl
def encP (ps : List PrmS) : List Int × Int := if ps.length > 256 then ([], 3) else runB [] ps
def gapL : List GapS → List Int
 | [] => []
 | g :: r => [g.f0, g.f1] ++ gapL r
def valData (x : Chk) : List Int := fourL [x.f2] ++ twoL [x.f3, x.f4] ++ fourL [x.f5] ++ x.f13
def valueD (x : Chk) : List Int :=
 if x.f0 = 0 then valData x
 else if x.f0 = 1 ∨ x.f0 = 2 then fourL [x.f6, x.f7] ++ twoL [x.f8, x.f9] ++ fourL [x.f2] ++ (encP x.f14).1
 else if x.f0 = 3 then fourL [x.f2, x.f7] ++ twoL [IntKind.u16.wrap (x.f10.length : Int), IntKind.u16.wrap (x.f12.length : Int)] ++ twoL (gapL x.f10) ++ fourL x.f12
 else if x.f0 = 16 then fourL [x.f2, x.f7] ++ twoL [IntKind.u16.wrap (x.f10.length : Int), IntKind.u16.wrap (x.f11.length : Int), IntKind.u16.wrap (x.f12.length : Int), 0] ++ twoL (gapL x.f10) ++ twoL (gapL x.f11) ++ fourL x.f12
 else if x.f0 = 4 ∨ x.f0 = 5 ∨ x.f0 = 6 ∨ x.f0 = 9 then (encP x.f14).1
 else if x.f0 = 7 then fourL [x.f2]
 else if x.f0 = 8 ∨ x.f0 = 11 ∨ x.f0 = 14 then []
 else x.f13
def ValP (xs : List Int) (w : World) (e : Ending) (w' : World) : Prop := ∃ A c, e = .returned (.slice A xs.length c) ∧ xs.length ≤ c ∧ (Kd.int .u8).C w' A xs.length xs ∧ Below w.heap.size w w'
def ValQ (b0 : Nat) (xs : List Int) (w : World) (e : Ending) (w' : World) : Prop :=
 ∃ A c, e = .returned (.slice A xs.length c) ∧ xs.length ≤ c ∧ (∀ W, Only (fun k => b0 ≤ k ∧ k < w.heap.size) w' W → (Kd.int .u8).C W A xs.length xs) ∧ Below w.heap.size w w'
theorem ValQ.P {b0 : Nat} {xs : List Int} {w w' : World} {e : Ending} (h : ValQ b0 xs w e w') : ValP xs w e w' := by
 obtain ⟨A, c, h1, h2, h3, h4⟩ := h
 exact ⟨A, c, h1, h2, h3 _ (Only.refl _ _), h4⟩
theorem ValQ.of_R {b0 base : Nat} {ok : Nat → Prop} {v : Value} {xs : List Int} {w w' : World} (hR : (Kd.int .u8).R 5 w' base ok v xs) (hb : w.heap.size ≤ base) (hB : Below w.heap.size w w') : ValQ b0 xs w (.returned v) w' := by
 obtain ⟨A, c, rfl, hle, hC⟩ := Kd.R_reads hR
 refine ⟨A, c, rfl, hle, fun W hO => ?_, hB⟩
 obtain ⟨A2, c2, he, _, hC2⟩ := Kd.R_reads (R_only hR hO (fun k hk _ h => by omega))
 injection he with e1 _ _
 rw [e1]
 exact hC2
theorem wfour_lit (w : World) (gw : Nat) (xs ns : List Int) (vs : List Value) (n : Nat) (hv : vs = ns.map (Value.int .u32)) (hn : ns.length = n) (hs : WS w gw xs) (hx : xs.length + 4 * ns.length ≤ 140737488355328) :
  Calls Tryd.prog 76 #[.pointer (some ⟨gw, 0, none⟩), .slice (some ⟨w.heap.size, 0, none⟩) n n] (w.alloc (.cells vs.toArray 23)) fun e w' => e = .returned (.tuple #[]) ∧ WS w' gw (xs ++ fourL ns) ∧ Fr gw w w' := by
 subst hn
 obtain ⟨u, hg, hR⟩ := hs
 have hlt := blk_lt hg
 have hC : (Kd.int .u32).C (w.alloc (.cells vs.toArray 23)) (some ⟨w.heap.size, 0, none⟩) ns.length ns := row_lit (Kd.int .u32) rfl w _ vs ns (by rw [hv, List.length_map]) (by omega) (fun j v p h1 h2 => by
  rw [hv, List.getElem?_map, h2] at h1
  injection h1 with h1
  subst h1
  rfl)
 refine (wfour_calls (w.alloc (.cells vs.toArray 23)) gw xs (some ⟨w.heap.size, 0, none⟩) ns.length ns ⟨u, blk_alloc hg _, Kd.R_alloc hR _⟩ (fun W hF => hF.C_lit (by decide) (by decide) (blk_new _ _) hC) hx).mono ?_
 rintro e w' ⟨h1, h2, h3⟩
 exact ⟨h1, h2, ((Fr.refl gw w).alloc (Nat.le_of_lt hlt) _).trans h3⟩
theorem wtwo_lit (w : World) (gw : Nat) (xs ns : List Int) (vs : List Value) (n : Nat) (hv : vs = ns.map (Value.int .u16)) (hn : ns.length = n) (hs : WS w gw xs) (hx : xs.length + 2 * ns.length ≤ 140737488355328) :
  Calls Tryd.prog 53 #[.pointer (some ⟨gw, 0, none⟩), .slice (some ⟨w.heap.size, 0, none⟩) n n] (w.alloc (.cells vs.toArray 22)) fun e w' => e = .returned (.tuple #[]) ∧ WS w' gw (xs ++ twoL ns) ∧ Fr gw w w' := by
 subst hn
 obtain ⟨u, hg, hR⟩ := hs
 have hlt := blk_lt hg
 have hC : (Kd.int .u16).C (w.alloc (.cells vs.toArray 22)) (some ⟨w.heap.size, 0, none⟩) ns.length ns := row_lit (Kd.int .u16) rfl w _ vs ns (by rw [hv, List.length_map]) (by omega) (fun j v p h1 h2 => by
  rw [hv, List.getElem?_map, h2] at h1
  injection h1 with h1
  subst h1
  rfl)
 refine (wtwo_calls (w.alloc (.cells vs.toArray 22)) gw xs (some ⟨w.heap.size, 0, none⟩) ns.length ns ⟨u, blk_alloc hg _, Kd.R_alloc hR _⟩ (fun W hF => hF.C_lit (by decide) (by decide) (blk_new _ _) hC) hx).mono ?_
 rintro e w' ⟨h1, h2, h3⟩
 exact ⟨h1, h2, ((Fr.refl gw w).alloc (Nat.le_of_lt hlt) _).trans h3⟩
end Go.Proofs.YtdlamomabonkjaaDoor.Ch
end
section
namespace Go.Proofs.YtdlamomabonkjaaDoor.Ch
open Go.RowKit YtdlamomabonkjaaDoorW.PrintWords YtdlamomabonkjaaDoorW.PrintLast Base PCh ParDec ParEnc
def checkT1 : Bool × List (List Nat × List Nat) := (true, [([], []), ([], []), ([1], [1]), ([0, 2, 2], [0, 2]), ([3], [3]), ([4, 3], [4])])
def checkB1 : List Nat := [0, 0, 2, 7, 15, 31]
theorem checktab1 : Go.Proofs.YtdlamomabonkjaaDoorW.PrintLast.rtab .any (Go.Proofs.YtdlamomabonkjaaDoorW.PrintLast.opsOf Tryd.f46 1) = checkT1 := by kernel_rfl
theorem checkbits1 : Go.Proofs.YtdlamomabonkjaaDoorW.PrintLast.waitsOk checkT1.2 checkB1 = true := by kernel_rfl
noncomputable def checkD (x : Chk) : Int :=
 if decide (x = bareD x) = false then 63
 else if x.f0 = 0 ∧ x.f13.length = 0 then 62
 else if (x.f0 = 4 ∨ x.f0 = 5) ∧ beatB x.f14 = false then 61
 else if 4096 < x.f10.length ∨ 4096 < x.f11.length ∨ 4096 < x.f12.length then 3
 else if (encP x.f14).2 ≠ 0 then (encP x.f14).2
 else if 65531 < (valueD x).length then 2 else 0
theorem encP_calls (w : World) (A : Option Addr) (c : Nat) (ps : List PrmS) (h : Kd.C k72 w A ps.length ps) (hc : ps.length ≤ c) :
  Calls Tryd.prog 74 #[.slice A ps.length c] w fun e w' => ∃ v0 : Value, e = .returned (.tuple #[v0, .int .i64 (encP ps).2]) ∧ Kd.R (Kd.int .u8) 5 w' w.heap.size (fun _ => True) v0 (encP ps).1 ∧ Below w.heap.size w w' := by
 obtain ⟨k, hk⟩ := encode_run ps
 exact param_Encode.calls k A c ps _ _ w h hc hk
def ValOk (x : Chk) (L : Lay) : Prop := ∀ W, CR W x L → x = bareD x → x.f10.length ≤ 4096 → x.f11.length ≤ 4096 → x.f12.length ≤ 4096 → (encP x.f14).2 = 0 → Calls Tryd.prog 52 #[.agg (CV x L)] W (ValP (valueD x) W)
theorem isBeat_f (a : Int) : chunk_isBeat.f a = some (decide (a = 4 ∨ a = 5)) := by
 unfold chunk_isBeat.f
 by_cases h4 : a = 4
 ·simp [h4]
 ·by_cases h5 : a = 5
  ·simp [h5]
  ·simp [h4, h5]
theorem isBeat_calls (a : Int) (w : World) : Calls Tryd.prog 72 #[.int .u8 a] w fun e w' => e = .returned (.bool (decide (a = 4 ∨ a = 5))) ∧ Drawn0 w w' := chunk_isBeat.calls a _ w (isBeat_f a)
end Go.Proofs.YtdlamomabonkjaaDoor.Ch
end
