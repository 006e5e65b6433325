/- The texts of one proof, merged: part 5. -/
import Derived.Test.YtdlamomabonkjaaDoorUd4
set_option maxRecDepth 100000
set_option linter.unusedVariables false
set_option linter.unusedSimpArgs false
section
namespace Go.Proofs.YtdlamomabonkjaaDoor.Base
open Go.ChangeShapes Go.WideShapes Go.ChangeAt Go.RowKit YtdlamomabonkjaaDoorW.PrintWords
def Short {H : Type} (t : TypeId) (D : DataW H) : Prop := ∀ n ∈ D.weights Tryd.prog t, n ≤ reachBytes
def OpensP {α : Type} (t : TypeId) (d : Kd α) (wt : α → Nat) (Pr : α → Prop) : Prop :=
 ∀ {H : Type} (enc : TypeId × Value → H) (W : World) (fuel : Nat) (cs : List Value) (D : DataW H) (p : List MemPlace), DataW.trod enc Tryd.prog W 0 (fun _ => true) true fuel t cs = some (D, p) → Short t D → ∃ x, d.K W x cs ∧ wt x ≤ Rows.uptoBulk D ∧ Pr x
theorem OpensP.of {α : Type} {t : TypeId} {d : Kd α} {wt : α → Nat} (h : Opens t d wt) : OpensP t d wt (fun _ => True) := by
 intro H enc W fuel cs D p hx _
 obtain ⟨x, h1, h2⟩ := h enc W fuel cs D p hx
 exact ⟨x, h1, h2, trivial⟩
theorem OpensP.mono {α : Type} {t : TypeId} {d : Kd α} {wt : α → Nat} {Pr Pr' : α → Prop} (h : OpensP t d wt Pr) (hp : ∀ x, Pr x → Pr' x) : OpensP t d wt Pr' := by
 intro H enc W fuel cs D p hx hs
 obtain ⟨x, h1, h2, h3⟩ := h enc W fuel cs D p hx hs
 exact ⟨x, h1, h2, hp x h3⟩
theorem weights_all {H : Type} {e : TypeId} {l : List (DataW H)} {D : DataW H} (h : D ∈ l) {n : Nat} (hn : n ∈ D.weights Tryd.prog e) : n ∈ DataW.weightsAll Tryd.prog e l := by
 induction l with
 | nil => cases h
 | cons x r ih =>
  simp only [DataW.weightsAll, List.mem_append]
  rcases List.mem_cons.1 h with rfl | h
  ·exact Or.inl hn
  ·exact Or.inr (ih h)
theorem OpensP.slice {α : Type} {t e : TypeId} {d : Kd α} {wt : α → Nat} {Pr : α → Prop} (ho : OpensP e d wt Pr) (ht : Tryd.prog.underlying t = some (.slice e)) (hc : Tryd.prog.cellsOf e = d.sz) (by_ : Nat) (hby : Tryd.prog.bytesOf e = by_) : OpensP t (Kd.slice e d) (fun xs => (xs.map wt).sum + 1) (fun xs => xs.length * by_ ≤ 140737488351232 ∧ ∀ x ∈ xs, Pr x) := by
 intro H enc W fuel cs D p h hs
 rcases Go.Deep.open_slice ht h with ⟨rfl, hx⟩ | ⟨a, len, cap, m, n, Ds, Pl, rfl, hb, hl, hm, hmm, hxx, hel⟩
 ·exact ⟨[], ⟨none, 0, rfl, Nat.le_refl _, Kd.C_nil d W⟩, bulk_one D, by simp, fun x hx => by cases hx⟩
 ·have hmc : m = cap := by simpa using hmm
  subst hmc
  simp only [Prod.mk.injEq] at hxx
  obtain ⟨rfl, rfl⟩ := hxx
  have hlen : len * by_ ≤ 140737488351232 := by
   have := hs ((((List.range len).map Ds).length + ((List.range (m - len)).map fun j => Ds (len + j)).length) * Tryd.prog.bytesOf e) (by simp only [DataW.weights, ht]; exact List.mem_cons_self ..)
   rw [hby] at this
   simp only [List.length_map, List.length_range] at this
   have h2 : len * by_ ≤ (len + (m - len)) * by_ := Nat.mul_le_mul_right _ (by omega)
   exact Nat.le_trans h2 this
  have hone : ∀ i, i < len → ∃ x cs', W.cells? 0 (a.add (i * d.sz)) d.sz = some cs' ∧ d.K W x cs' ∧ wt x ≤ Rows.uptoBulk (Ds i) ∧ Pr x := by
   intro i hi
   obtain ⟨cs', h1, h2⟩ := hel i (by omega)
   obtain ⟨x, hk, hw, hp⟩ := ho enc W n cs' (Ds i) (Pl i) h2 (fun q hq => hs q (by
    simp only [DataW.weights, ht]
    refine List.mem_cons_of_mem _ (List.mem_append_left _ (weights_all (D := Ds i) ?_ hq))
    exact List.mem_map.2 ⟨i, List.mem_range.2 hi, rfl⟩))
   rw [hc] at h1
   exact ⟨x, cs', h1, hk, hw, hp⟩
  cases hlen' : len with
  | zero =>
   refine ⟨[], ⟨some a, m, rfl, Nat.zero_le _, ⟨rfl, by simp, fun h0 => by simp at h0⟩⟩, ?_, by simp, fun x hx => by cases hx⟩
   exact bulk_one _
  | succ len' =>
   obtain ⟨x0, _⟩ := hone 0 (by omega)
   have hx : ∀ i, ∃ x, i < len → ∃ cs', W.cells? 0 (a.add (i * d.sz)) d.sz = some cs' ∧ d.K W x cs' ∧ wt x ≤ Rows.uptoBulk (Ds i) ∧ Pr x := by
    intro i
    by_cases hi : i < len
    ·obtain ⟨x, hx⟩ := hone i hi
     exact ⟨x, fun _ => hx⟩
    ·exact ⟨x0, fun h0 => absurd h0 hi⟩
   rw [← hlen']
   have hll : ((List.range len).map fun i => (hx i).choose).length = len := by simp
   have hget : ∀ j x, ((List.range len).map fun i => (hx i).choose)[j]? = some x → j < len ∧ x = (hx j).choose := by
    intro j x hj
    have hjl : j < len := by have := (List.getElem?_eq_some_iff.1 hj).1; simpa using this
    rw [List.getElem?_map, List.getElem?_range hjl] at hj
    exact ⟨hjl, (Option.some.inj hj).symm⟩
   refine ⟨(List.range len).map fun i => (hx i).choose, ⟨some a, m, by rw [hll], by rw [hll]; exact hl, ⟨rfl, by rw [hll]; simp only [maxLen] at hm; omega, fun _ => ⟨a, rfl, fun j x hj => ?_⟩⟩⟩, ?_, by rw [hll]; exact hlen, fun x hmem => ?_⟩
   ·obtain ⟨hjl, rfl⟩ := hget j x hj
    obtain ⟨cs', h1, h2, _⟩ := (hx j).choose_spec hjl
    obtain ⟨_, hlen2, hcell⟩ := World.cells?_some h1
    refine ⟨cs', hlen2, h2, fun i u hu => ?_⟩
    have hi : i < d.sz := by have := (List.getElem?_eq_some_iff.1 hu).1; omega
    have := hcell i hi
    rw [hu] at this
    rw [← this, Go.Deep.add_add]
   ·have hsm := bulk_sum ((List.range len).map Ds) ((List.range len).map fun i => (hx i).choose) wt (by simp) (fun i x D hxi hD => by
     obtain ⟨hjl, rfl⟩ := hget i x hxi
     rw [List.getElem?_map, List.getElem?_range hjl] at hD
     obtain rfl := Option.some.inj hD
     obtain ⟨_, _, _, h3, _⟩ := (hx i).choose_spec hjl
     exact h3)
    simp only [Rows.uptoBulk]
    omega
   ·obtain ⟨j, hj, rfl⟩ := List.mem_iff_getElem.1 hmem
    obtain ⟨hjl, he⟩ := hget j _ (List.getElem?_eq_getElem hj)
    rw [he]
    obtain ⟨_, _, _, _, h4⟩ := (hx j).choose_spec hjl
    exact h4
def Seg {α : Type} (fs : List Field) (off : Nat) (d : Kd α) (wt : α → Nat) (Pr : α → Prop) : Prop :=
 ∀ {H : Type} (enc : TypeId × Value → H) (W : World) (n : Nat) (cs : List Value) (xs : List (DataW H × List MemPlace)), xs.length = fs.length →
  (∀ (j : Nat) (f : Field), fs[j]? = some f → DataW.trod enc Tryd.prog W 0 (fun _ => true) true n f.type ((cs.drop f.offset).take (Tryd.prog.cellsOf f.type)) = xs[j]?) →
  (∀ q ∈ DataW.weightsEach Tryd.prog (fs.map (·.type)) (xs.map (·.1)), q ≤ reachBytes) → ∃ x, d.K W x ((cs.drop off).take d.sz) ∧ wt x ≤ Rows.uptoBulkAll (xs.map (·.1)) ∧ Pr x
theorem Seg.cons {α β : Type} {f : Field} {fs : List Field} {off : Nat} {a : Kd α} {b : Kd β} {wa : α → Nat} {wb : β → Nat} {Pa : α → Prop} {Pb : β → Prop} (o : OpensP f.type a wa Pa) (ho : f.offset = off) (hc : Tryd.prog.cellsOf f.type = a.sz) (s : Seg fs (off + a.sz) b wb Pb) :
  Seg (f :: fs) off (Kd.pair a b) (fun x => wa x.1 + wb x.2) (fun x => Pa x.1 ∧ Pb x.2) := by
 intro H enc W n cs xs hl hx hs
 match xs, hl with
 | x :: r, hl =>
  have e := hx 0 f rfl
  rw [ho, hc] at e
  obtain ⟨v, h1, h2, h3⟩ := o enc W n _ x.1 x.2 e (fun q hq => hs q (by simp only [List.map_cons, DataW.weightsEach, List.mem_append]; exact Or.inl hq))
  obtain ⟨u, g1, g2, g3⟩ := s enc W n cs r (by simpa using hl) (fun j f' hf => hx (j + 1) f' hf) (fun q hq => hs q (by simp only [List.map_cons, DataW.weightsEach, List.mem_append]; exact Or.inr hq))
  refine ⟨(v, u), ⟨_, _, ?_, h1, g1⟩, by simp only [List.map_cons, Rows.uptoBulkAll]; omega, h3, g3⟩
  show (cs.drop off).take (a.sz + b.sz) = _
  rw [List.take_add, List.drop_drop]
theorem OpensP.struct {α : Type} {t : TypeId} {fs : Array Field} {d : Kd α} {wt : α → Nat} {Pr : α → Prop} (ht : Tryd.prog.underlying t = some (.struct fs)) (hc : Tryd.prog.cellsOf t = d.sz) (s : Seg fs.toList 0 d wt Pr) : OpensP t d (fun x => wt x + 1) Pr := by
 intro H enc W fuel cs D p h hs
 obtain ⟨xs, n, _, hx, hlen, hl, hel⟩ := DataW.trod_struct ht h
 simp only [Prod.mk.injEq] at hx
 obtain ⟨v, h1, h2, h3⟩ := s enc W n cs xs (by simpa using hl) (fun j f hf => hel j f (by simpa using hf)) (fun q hq => hs q (by
  rw [hx.1]
  simp only [DataW.weights, ht]
  exact hq))
 rw [List.drop_zero, List.take_of_length_le (by omega)] at h1
 exact ⟨v, h1, by rw [hx.1]; simp only [Rows.uptoBulk]; omega, h3⟩
theorem OpensP.bytes : OpensP 27 (Kd.slice 5 Base.byte) (fun xs => (xs.map (fun _ => 1)).sum + 1) (fun xs => xs.length * 1 ≤ 140737488351232 ∧ ∀ x ∈ xs, True) := OpensP.slice (OpensP.of Opens.byte) Tryd.underlying27 cells_u8 1 bytes_u8
end Go.Proofs.YtdlamomabonkjaaDoor.Base
end
section
namespace Go.Proofs.YtdlamomabonkjaaDoor.Ch
open Go.ChangeShapes Go.WideShapes Go.ChangeAt Go.RowKit YtdlamomabonkjaaDoorW.PrintWords Base PCh ParDec
def in16 (x : Int) : Prop := 0 ≤ x ∧ x < 65536
def in32 (x : Int) : Prop := 0 ≤ x ∧ x < 4294967296
theorem OpensP.u8 {t : TypeId} (ht : Tryd.prog.underlying t = some (.int .u8)) : OpensP t (Kd.int .u8) (fun _ => 1) inB := by
 intro H enc W fuel cs D p h _
 obtain ⟨z, rfl, _, hw⟩ := DataW.trod_int ht h
 have := bounds_u8 hw
 exact ⟨z, rfl, bulk_one D, by unfold inB; omega⟩
theorem OpensP.u16 {t : TypeId} (ht : Tryd.prog.underlying t = some (.int .u16)) : OpensP t (Kd.int .u16) (fun _ => 1) in16 := by
 intro H enc W fuel cs D p h _
 obtain ⟨z, rfl, _, hw⟩ := DataW.trod_int ht h
 have := bounds_u16 hw
 exact ⟨z, rfl, bulk_one D, by unfold in16; omega⟩
theorem OpensP.u32 {t : TypeId} (ht : Tryd.prog.underlying t = some (.int .u32)) : OpensP t (Kd.int .u32) (fun _ => 1) in32 := by
 intro H enc W fuel cs D p h _
 obtain ⟨z, rfl, _, hw⟩ := DataW.trod_int ht h
 have := bounds_u32 hw
 exact ⟨z, rfl, bulk_one D, by unfold in32; omega⟩
def okG (g : GapS) : Prop := in16 g.f0 ∧ in16 g.f1
def okQ (p : PrmS) : Prop := in16 p.f0 ∧ ∀ b ∈ p.f1, inB b
structure OkC (x : Chk) : Prop where
 r0 : inB x.f0
 r1 : inB x.f1
 r2 : in32 x.f2
 r3 : in16 x.f3
 r4 : in16 x.f4
 r5 : in32 x.f5
 r6 : in32 x.f6
 r7 : in32 x.f7
 r8 : in16 x.f8
 r9 : in16 x.f9
 r10 : ∀ g ∈ x.f10, okG g
 r11 : ∀ g ∈ x.f11, okG g
 r12 : ∀ d ∈ x.f12, in32 d
 r13 : ∀ b ∈ x.f13, inB b
 r14 : ∀ p ∈ x.f14, okQ p
 l13 : x.f13.length ≤ 140737488351232
end Go.Proofs.YtdlamomabonkjaaDoor.Ch
end
section
namespace Go.Proofs.YtdlamomabonkjaaDoor.Ch
open Go.RowKit YtdlamomabonkjaaDoorW.PrintWords YtdlamomabonkjaaDoorW.PrintLast Base PCh ParDec
def pcV (kd fl t2 t6 t7 t8 t9 : Int) : Array Value := #[.int .u8 kd, .int .u8 fl, .int .u32 t2, .int .u16 0, .int .u16 0, .int .u32 0, .int .u32 t6, .int .u32 t7, .int .u16 t8, .int .u16 t9, .slice none 0 0, .slice none 0 0, .slice none 0 0, .slice none 0 0, .slice none 0 0]
theorem pcV_one (kd fl t2 t6 t7 t8 t9 : Int) : (pcV kd fl t2 t6 t7 t8 t9).all (·.oneCell') = true := by simp [pcV, Value.oneCell']
def prmR (kd fl t2 t6 t7 t8 t9 : Int) (v : List UInt8) : Except Int Chk :=
 match prmsD v with
 | .error c => .error c
 | .ok ps => if (kd = 4 ∨ kd = 5) ∧ beatB ps = false then .error 61 else .ok ⟨kd, fl, t2, 0, 0, 0, t6, t7, t8, t9, [], [], [], [], ps⟩
theorem beatB_len {ps : List PrmS} (h : ps.length ≠ 1) : beatB ps = false := by
 match ps, h with
 | [], _ => rfl
 | [p], h => exact absurd rfl h
 | _ :: _ :: _, _ => rfl
theorem len_one {ps : List PrmS} (h : ps.length = 1) : ∃ p, ps = [p] := by
 match ps, h with
 | [p], _ => exact ⟨p, rfl⟩
theorem rbeat_f (a0 a1 a2 a3 a4 a5 a6 a7 a8 a9 : Int) (l10 l11 : List GapS) (l12 l13 : List Int) (ps : List PrmS) : ropewalkref06_beat.f a0 a1 a2 a3 a4 a5 a6 a7 a8 a9 l10 l11 l12 l13 ps = some (decide (a0 = 4 ∨ a0 = 5)) := by
 unfold ropewalkref06_beat.f
 by_cases h : a0 = 4
 ·rw [if_pos h, decide_eq_true (Or.inl h)]
 ·rw [if_neg h]
  by_cases h5 : a0 = 5
  ·rw [decide_eq_true (Or.inr h5), h5]
   rfl
  ·rw [decide_eq_false (fun e => e.elim h h5)]
   simp [h5]
set_option maxHeartbeats 4000000 in
theorem rparams_calls (w : World) (A : Option Addr) (c : Nat) (v : List UInt8) (kd fl t2 t6 t7 t8 t9 : Int) (hb : byte.C w A v.length v) (hc : v.length ≤ c) (hv : v.length ≤ 140737488355232) :
  Calls Tryd.prog 93 #[.agg (pcV kd fl t2 t6 t7 t8 t9), .slice A v.length c] w (RReadP w (prmR kd fl t2 t6 t7 t8 t9 v)) := by
 have HD := Lh (fun (W : World) (h : Below w.heap.size w W) => refDecode_calls W A v c (Kd.C_below hb h) hc (by omega))
 have HO := pcV_one kd fl t2 t6 t7 t8 t9
 have X := Bx.new w (pcV kd fl t2 t6 t7 t8 t9)
 clear hb
 go_enter Tryd.func93, Tryd.ntmps93
 go_upto_region 1 with (fail)
 refine wp_gen (Bx w (pcV kd fl t2 t6 t7 t8 t9)) X ?_
 clear X
 intro W X
 have HWZ := Lh X.x3
 go_wp2_with fail
 refine (HD.out W X.x2).mono ?_
 rintro e w1 ⟨A1, c1, rfl, hR, hB⟩
 replace X := X.below hB
 by_cases hcode : (decD v).2.2 = 0
 ·have HCD := Lh hcode
  have q : ((decD v).2.2 != 0) = false := by simp [hcode]
  have k14 : w1.cell? ⟨w.heap.size, 14, none⟩ = some (.slice none 0 0) := X.cell 14
  have f14 := X.frozen 14
  obtain ⟨A1', c1', he, hle, hC⟩ := Kd.R_reads hR
  cases he
  clear hcode
  go_upto_region 5 with (fail)
  refine wp_gen (fun W' => Bx w (#[.int .u8 kd, .int .u8 fl, .int .u32 t2, .int .u16 0, .int .u16 0, .int .u32 0, .int .u32 t6, .int .u32 t7, .int .u16 t8, .int .u16 t9, .slice none 0 0, .slice none 0 0, .slice none 0 0, .slice none 0 0, .slice A1 (decD v).1.length c1]) W' ∧ Kd.R k72 72 W' W.heap.size (fun _ => True) (.slice A1 (decD v).1.length c1) (decD v).1) ⟨X.set 14 _, R_only hR ((Only.refl (· = w.heap.size) _).setCell (fun _ => rfl) _) (fun k hk _ h => by have := HWZ.out; omega)⟩ ?_
  clear X k14 f14 hR hC HO hB w1 HD
  rintro W1 ⟨X, R1⟩
  obtain ⟨A1', c1', he, _, hC⟩ := Kd.R_reads R1
  cases he
  have HO : (#[.int .u8 kd, .int .u8 fl, .int .u32 t2, .int .u16 0, .int .u16 0, .int .u32 0, .int .u32 t6, .int .u32 t7, .int .u16 t8, .int .u16 t9, .slice none 0 0, .slice none 0 0, .slice none 0 0, .slice none 0 0, .slice A1 (decD v).1.length c1] : Array Value).all (·.oneCell') = true := by simp [Value.oneCell']
  have HBT := Lh (ropewalkref06_beat.calls kd fl t2 0 0 0 t6 t7 t8 t9 none 0 [] none 0 [] none 0 [] none 0 [] A1 c1 (decD v).1 (decide (kd = 4 ∨ kd = 5)) W1 (Kd.C_nil _ _) (Nat.le_refl _) (Kd.C_nil _ _) (Nat.le_refl _) (Kd.C_nil _ _) (Nat.le_refl _) (Kd.C_nil _ _) (Nat.le_refl _) hC hle (rbeat_f ..))
  have HR1 := Lh R1
  have hml := hC.2.1
  have HPR := Lh (show prmR kd fl t2 t6 t7 t8 t9 v = if (kd = 4 ∨ kd = 5) ∧ beatB (decD v).1 = false then .error 61 else .ok ⟨kd, fl, t2, 0, 0, 0, t6, t7, t8, t9, [], [], [], [], (decD v).1⟩ by unfold prmR prmsD; rw [if_pos HCD.out])
  clear q R1 HCD
  generalize (decD v).1 = ps at *
  have GOOD : ∀ (W2 : World), Below W1.heap.size W1 W2 → Kd.R k72 72 (W2.setRow (w.heap.size + 1) (#[.int .u8 kd, .int .u8 fl, .int .u32 t2, .int .u16 0, .int .u16 0, .int .u32 0, .int .u32 t6, .int .u32 t7, .int .u16 t8, .int .u16 t9, .slice none 0 0, .slice none 0 0, .slice none 0 0, .slice none 0 0, .slice A1 ps.length c1])) w.heap.size (fun _ => True) (.slice A1 ps.length c1) ps := fun W2 hb2 => Kd.R_lower (R_only (R_only HR1.out (Only.of_below (S := fun _ => False) hb2) (fun _ _ _ h => h)) (setRow_only _ _ _) (fun k hk _ h => by have := HWZ.out; omega)) (by have := HWZ.out; omega)
  have HGD := Lh GOOD
  clear GOOD HR1
  by_cases hbt : kd = 4 ∨ kd = 5
  ·rw [decide_eq_true hbt] at HBT
   have bad61 : beatB ps = false → prmR kd fl t2 t6 t7 t8 t9 v = .error 61 := fun h => by rw [HPR.out, if_pos ⟨hbt, h⟩]
   have good0 : beatB ps = true → prmR kd fl t2 t6 t7 t8 t9 v = .ok ⟨kd, fl, t2, 0, 0, 0, t6, t7, t8, t9, [], [], [], [], ps⟩ := fun h => by rw [HPR.out, if_neg (fun e => by rw [h] at e; cases e.2)]
   have HBAD := Lh bad61
   have HGOOD := Lh good0
   clear hbt HPR bad61 good0
   by_cases hl : ps.length = 1
   ·have q1 : ((ps.length : Int) != 1) = false := by simp [hl]
    obtain ⟨ad, B, d, rfl, x0, _, _, _⟩ := at_T72 hC 0 (by omega) (by omega)
    obtain ⟨p, hp⟩ := len_one hl
    have hf0 : (rd_T72 ps 0).f0 = p.f0 := by rw [hp]; rfl
    rw [hf0] at x0
    have hbb : beatB ps = decide (p.f0 = 1) := by rw [hp]; rfl
    have hnl : ¬ (ps.length : Int) ≤ 0 := by omega
    have hnl2 : (0 : Int) < ps.length := by omega
    have HBB := Lh hbb
    clear hl hp hf0 hbb hC hml
    replace x0 : W1.cell? ad = some (.int .u16 p.f0) := x0
    by_cases hp1 : p.f0 = 1
    ·have q2 : (p.f0 != 1) = false := by simp [hp1]
     have HR := Lh (HGOOD.out (by rw [HBB.out, decide_eq_true hp1]))
     clear hp1 HGOOD HBAD HBB
     go_wp2_with (with_reducible refine gate_dst (N := 21) rfl ?_; go_must (refine wpList_load_row rfl 41 (.tmp 2) rfl _ rfl 41 _ (0, 0) _ X.x0 Tryd.underlying41 rfl (by kernel_rfl) ?_))
     refine HBT.out.mono ?_
     rintro e w2 ⟨rfl, hB2⟩
     have HB2 := Lh hB2
     replace X := X.below hB2
     replace x0 := pw_cell_below hB2 x0
     clear hB2
     go_wp2_with (with_reducible refine gate_dst (N := 36) rfl ?_; go_must (refine wpList_ret_row 36 rfl rfl rfl (.tmp 2) (.tmp 4) rfl rfl rfl _ _ _ _ rfl rfl rfl X.x0 X.x1 rfl rfl HO ?_))
     exact ret_good rfl rfl rfl rfl X.x1 HR.out rfl HO X.x2 (Nat.le_succ _) (k41_mkM _ _ _ _ (Kd.R_nil _ _ _ _ _) (Kd.R_nil _ _ _ _ _) (Kd.R_nil _ _ _ _ _) (Kd.R_nil _ _ _ _ _) (HGD.out _ HB2.out))
    ·have q2 : (p.f0 != 1) = true := by simp [hp1]
     have HR := Lh (HBAD.out (by rw [HBB.out, decide_eq_false hp1]))
     clear hp1 HGOOD HBAD HBB
     go_wp2_with (with_reducible refine gate_dst (N := 21) rfl ?_; go_must (refine wpList_load_row rfl 41 (.tmp 2) rfl _ rfl 41 _ (0, 0) _ X.x0 Tryd.underlying41 rfl (by kernel_rfl) ?_))
     refine HBT.out.mono ?_
     rintro e w2 ⟨rfl, hB2⟩
     replace X := X.below hB2
     replace x0 := pw_cell_below hB2 x0
     clear hB2
     go_wp2_with (with_reducible refine gate_dst (N := 35) rfl ?_; go_must (refine wpList_ret_row 35 rfl rfl rfl (.tmp 2) (.tmp 4) rfl rfl rfl _ _ _ _ rfl rfl rfl X.x0 X.x1 rfl rfl HO ?_))
     exact ret_bad rfl rfl rfl rfl X.x1 HR.out rfl HO X.x2 (Nat.le_succ _)
   ·have q1 : ((ps.length : Int) != 1) = true := by simp; omega
    have HR := Lh (HBAD.out (beatB_len hl))
    clear HGOOD HBAD hl hml
    go_wp2_with (with_reducible refine gate_dst (N := 21) rfl ?_; go_must (refine wpList_load_row rfl 41 (.tmp 2) rfl _ rfl 41 _ (0, 0) _ X.x0 Tryd.underlying41 rfl (by kernel_rfl) ?_))
    refine HBT.out.mono ?_
    rintro e w2 ⟨rfl, hB2⟩
    replace X := X.below hB2
    clear hB2
    go_wp2_with (with_reducible refine gate_dst (N := 35) rfl ?_; go_must (refine wpList_ret_row 35 rfl rfl rfl (.tmp 2) (.tmp 4) rfl rfl rfl _ _ _ _ rfl rfl rfl X.x0 X.x1 rfl rfl HO ?_))
    exact ret_bad rfl rfl rfl rfl X.x1 HR.out rfl HO X.x2 (Nat.le_succ _)
  ·rw [decide_eq_false hbt] at HBT
   have HR := Lh (show prmR kd fl t2 t6 t7 t8 t9 v = .ok ⟨kd, fl, t2, 0, 0, 0, t6, t7, t8, t9, [], [], [], [], ps⟩ by rw [HPR.out, if_neg (fun e => hbt e.1)])
   clear hbt HPR hml
   go_wp2_with (with_reducible refine gate_dst (N := 21) rfl ?_; go_must (refine wpList_load_row rfl 41 (.tmp 2) rfl _ rfl 41 _ (0, 0) _ X.x0 Tryd.underlying41 rfl (by kernel_rfl) ?_))
   refine HBT.out.mono ?_
   rintro e w2 ⟨rfl, hB2⟩
   have HB2 := Lh hB2
   replace X := X.below hB2
   clear hB2
   go_wp2_with (with_reducible refine gate_dst (N := 36) rfl ?_; go_must (refine wpList_ret_row 36 rfl rfl rfl (.tmp 2) (.tmp 4) rfl rfl rfl _ _ _ _ rfl rfl rfl X.x0 X.x1 rfl rfl HO ?_))
   exact ret_good rfl rfl rfl rfl X.x1 HR.out rfl HO X.x2 (Nat.le_succ _) (k41_mkM _ _ _ _ (Kd.R_nil _ _ _ _ _) (Kd.R_nil _ _ _ _ _) (Kd.R_nil _ _ _ _ _) (Kd.R_nil _ _ _ _ _) (HGD.out _ HB2.out))
 ·have q : ((decD v).2.2 != 0) = true := by simp [hcode]
  have HR := Lh (show prmR kd fl t2 t6 t7 t8 t9 v = .error (decD v).2.2 by unfold prmR prmsD; rw [if_neg hcode])
  clear hcode
  go_wp2_with (first | (with_reducible refine gate_dst (N := 17) rfl ?_; go_must (refine wpList_load_row rfl 41 (.tmp 2) rfl _ rfl 41 _ (0, 0) _ X.x0 Tryd.underlying41 rfl (by kernel_rfl) ?_)) | (with_reducible refine gate_store (p := 4) rfl ?_; go_must (refine wpList_store_row rfl 41 (.tmp 4) (.tmp 17) rfl _ (pcV kd fl t2 t6 t7 t8 t9) rfl rfl 41 _ X.x1 (by kernel_rfl) rfl HO ?_)))
  exact ret_bad rfl rfl rfl rfl X.x1 HR.out rfl HO X.x2 (Nat.le_succ _)
end Go.Proofs.YtdlamomabonkjaaDoor.Ch
end
section
namespace Go.Proofs.YtdlamomabonkjaaDoor.Ch
open Go.RowKit YtdlamomabonkjaaDoorW.PrintWords YtdlamomabonkjaaDoorW.PrintLast Base PCh ParDec
theorem ret_pass {f : Func} (hf : f.results = #[ResultVar.cell 4 41, ResultVar.tmp 5]) {a : Act} {w W1 : World} {r : Except Int Chk} {code : Int} {cs old : Array Value} {gr b0 : Nat} (hd : a.defers = []) (t4 : a.tmps.getD 4 undef = .pointer (some ⟨gr, 0, none⟩)) (t5 : a.tmps.getD 5 undef = .int .i64 code) (hg : W1.heap[gr]? = some (.cells old 41 (0, 0))) (hs : cs.size = 15) (ho : cs.all (·.oneCell') = true) (hB : Below w.heap.size w W1) (hl : w.heap.size ≤ gr) (hlt : gr < b0)
  (hP : match r with
   | .error c => code = c
   | .ok d => code = 0 ∧ k41.M W1 b0 (fun _ => True) d cs.toList) : bodyPost Tryd.prog f (RReadP w r) Exit.ret a (W1.setRow gr cs) := by
 refine bodyPost_ret (row_results f hf a.tmps _ gr cs code t4 t5 (setRow_heap _ _ _ _ _ _ hg) hs) hd ⟨cs, code, rfl, hs, ho, below_setRow hB hl cs, ?_⟩
 cases r with
 | error c => exact hP
 | ok d => exact ⟨hP.1, k41.M_lower (by omega) (M_only hP.2 (setRow_only _ _ _) (fun k hk _ h => by omega))⟩
def ParR (b0 : Nat) (r : Except Int Chk) (cs : Array Value) (code : Int) (W1 : World) : Prop :=
 cs.size = 15 ∧ cs.all (·.oneCell') = true ∧ (match r with
  | .error c => code = c
  | .ok d => code = 0 ∧ k41.M W1 b0 (fun _ => True) d cs.toList)
theorem ParR.of {W W1 : World} {b0 : Nat} {r : Except Int Chk} {cs : Array Value} {code : Int} (hs : cs.size = 15) (ho : cs.all (·.oneCell') = true) (hb : b0 ≤ W.heap.size) (hP : match r with
  | .error c => code = c
  | .ok d => code = 0 ∧ k41.M W1 W.heap.size (fun _ => True) d cs.toList) : ParR b0 r cs code W1 := by
 refine ⟨hs, ho, ?_⟩
 cases r with
 | error c => exact hP
 | ok d => exact ⟨hP.1, k41.M_lower hb hP.2⟩
set_option maxHeartbeats 4000000 in
theorem rread_p4 (w : World) (A : Option Addr) (c : Nat) (v : List UInt8) (fl : Int) (hb : byte.C w A v.length v) (hc : v.length ≤ c) (hv : v.length ≤ 140737488355232) :
  Calls Tryd.prog 87 #[.agg (freshV 4 fl), .slice A v.length c] w (RReadP w (readPrms true 4 0 v)) := by
 have HP := Lh (fun (W : World) (h : Below w.heap.size w W) => rparams_calls W A c v 4 (0) 0 0 0 0 0 (Kd.C_below hb h) hc hv)
 have HE := Lh (show prmR 4 (0) 0 0 0 0 0 v = readPrms true 4 (0) v by
  unfold prmR readPrms
  cases prmsD v with
  | error c => rfl
  | ok ps => cases hbb : beatB ps <;> simp [hbb])
 have X := Bx.new w (freshV 4 fl)
 clear hb
 go_enter Tryd.func87, Tryd.ntmps87
 go_upto_region 1 with (fail)
 refine wp_gen (Bx w (freshV 4 fl)) X ?_
 clear X
 intro W X
 have k0 : W.cell? ⟨w.heap.size, 0, none⟩ = some (.int .u8 4) := X.cell 0
 have k1 : W.cell? ⟨w.heap.size, 1, none⟩ = some (.int .u8 fl) := X.cell 1
 have f1 := X.frozen 1
 go_upto_region 26 with (fail)
 refine wp_gen (Bx w (freshV 4 (0))) (X.set 1 _) ?_
 clear X k0 k1 f1 W
 intro W X
 have HWZ := Lh X.x3
 go_wp2_with (first | (with_reducible refine gate_dst (N := 87) rfl ?_; go_must (refine wpList_load_row rfl 41 (.tmp 2) rfl _ rfl 41 _ (0, 0) _ X.x0 Tryd.underlying41 rfl (by kernel_rfl) ?_)))
 refine (HP.out W X.x2).mono ?_
 rintro e w1 ⟨cs, code, rfl, hsz, hone, hB, hP⟩
 rw [HE.out] at hP
 have Y := X.below hB
 have HPP := Lh hP
 have hsz2 : (Tryd.prog.info? 41).map (·.size) = some cs.size := by rw [hsz]; kernel_rfl
 have HSZ := Lh hsz
 have HSZ2 := Lh hsz2
 have HOLD := Lh (show zerV.size = cs.size by rw [hsz]; rfl)
 clear hP hB hsz hsz2
 go_wp2_with (with_reducible refine gate_store (p := 4) rfl ?_; go_must (refine wpList_store_row rfl 41 (.tmp 4) (.tmp 90) rfl _ cs rfl rfl 41 zerV Y.x1 HSZ2.out HOLD.out hone ?_))
 exact ret_pass rfl rfl rfl rfl Y.x1 HSZ.out hone Y.x2 (Nat.le_succ _) (by have := HWZ.out; omega) HPP.out
set_option maxHeartbeats 4000000 in
theorem rread_p5 (w : World) (A : Option Addr) (c : Nat) (v : List UInt8) (fl : Int) (hb : byte.C w A v.length v) (hc : v.length ≤ c) (hv : v.length ≤ 140737488355232) :
  Calls Tryd.prog 87 #[.agg (freshV 5 fl), .slice A v.length c] w (RReadP w (readPrms true 5 0 v)) := by
 have HP := Lh (fun (W : World) (h : Below w.heap.size w W) => rparams_calls W A c v 5 (0) 0 0 0 0 0 (Kd.C_below hb h) hc hv)
 have HE := Lh (show prmR 5 (0) 0 0 0 0 0 v = readPrms true 5 (0) v by
  unfold prmR readPrms
  cases prmsD v with
  | error c => rfl
  | ok ps => cases hbb : beatB ps <;> simp [hbb])
 have X := Bx.new w (freshV 5 fl)
 clear hb
 go_enter Tryd.func87, Tryd.ntmps87
 go_upto_region 1 with (fail)
 refine wp_gen (Bx w (freshV 5 fl)) X ?_
 clear X
 intro W X
 have k0 : W.cell? ⟨w.heap.size, 0, none⟩ = some (.int .u8 5) := X.cell 0
 have k1 : W.cell? ⟨w.heap.size, 1, none⟩ = some (.int .u8 fl) := X.cell 1
 have f1 := X.frozen 1
 go_upto_region 26 with (fail)
 refine wp_gen (Bx w (freshV 5 (0))) (X.set 1 _) ?_
 clear X k0 k1 f1 W
 intro W X
 have HWZ := Lh X.x3
 go_wp2_with (first | (with_reducible refine gate_dst (N := 87) rfl ?_; go_must (refine wpList_load_row rfl 41 (.tmp 2) rfl _ rfl 41 _ (0, 0) _ X.x0 Tryd.underlying41 rfl (by kernel_rfl) ?_)))
 refine (HP.out W X.x2).mono ?_
 rintro e w1 ⟨cs, code, rfl, hsz, hone, hB, hP⟩
 rw [HE.out] at hP
 have Y := X.below hB
 have HPP := Lh hP
 have hsz2 : (Tryd.prog.info? 41).map (·.size) = some cs.size := by rw [hsz]; kernel_rfl
 have HSZ := Lh hsz
 have HSZ2 := Lh hsz2
 have HOLD := Lh (show zerV.size = cs.size by rw [hsz]; rfl)
 clear hP hB hsz hsz2
 go_wp2_with (with_reducible refine gate_store (p := 4) rfl ?_; go_must (refine wpList_store_row rfl 41 (.tmp 4) (.tmp 90) rfl _ cs rfl rfl 41 zerV Y.x1 HSZ2.out HOLD.out hone ?_))
 exact ret_pass rfl rfl rfl rfl Y.x1 HSZ.out hone Y.x2 (Nat.le_succ _) (by have := HWZ.out; omega) HPP.out
set_option maxHeartbeats 4000000 in
theorem rread_p9 (w : World) (A : Option Addr) (c : Nat) (v : List UInt8) (fl : Int) (hb : byte.C w A v.length v) (hc : v.length ≤ c) (hv : v.length ≤ 140737488355232) :
  Calls Tryd.prog 87 #[.agg (freshV 9 fl), .slice A v.length c] w (RReadP w (readPrms false 9 0 v)) := by
 have HP := Lh (fun (W : World) (h : Below w.heap.size w W) => rparams_calls W A c v 9 (0) 0 0 0 0 0 (Kd.C_below hb h) hc hv)
 have HE := Lh (show prmR 9 (0) 0 0 0 0 0 v = readPrms false 9 (0) v by
  unfold prmR readPrms
  cases prmsD v with
  | error c => rfl
  | ok ps => cases hbb : beatB ps <;> simp [hbb])
 have X := Bx.new w (freshV 9 fl)
 clear hb
 go_enter Tryd.func87, Tryd.ntmps87
 go_upto_region 1 with (fail)
 refine wp_gen (Bx w (freshV 9 fl)) X ?_
 clear X
 intro W X
 have k0 : W.cell? ⟨w.heap.size, 0, none⟩ = some (.int .u8 9) := X.cell 0
 have k1 : W.cell? ⟨w.heap.size, 1, none⟩ = some (.int .u8 fl) := X.cell 1
 have f1 := X.frozen 1
 go_upto_region 26 with (fail)
 refine wp_gen (Bx w (freshV 9 (0))) (X.set 1 _) ?_
 clear X k0 k1 f1 W
 intro W X
 have HWZ := Lh X.x3
 go_wp2_with (first | (with_reducible refine gate_dst (N := 87) rfl ?_; go_must (refine wpList_load_row rfl 41 (.tmp 2) rfl _ rfl 41 _ (0, 0) _ X.x0 Tryd.underlying41 rfl (by kernel_rfl) ?_)))
 refine (HP.out W X.x2).mono ?_
 rintro e w1 ⟨cs, code, rfl, hsz, hone, hB, hP⟩
 rw [HE.out] at hP
 have Y := X.below hB
 have HPP := Lh hP
 have hsz2 : (Tryd.prog.info? 41).map (·.size) = some cs.size := by rw [hsz]; kernel_rfl
 have HSZ := Lh hsz
 have HSZ2 := Lh hsz2
 have HOLD := Lh (show zerV.size = cs.size by rw [hsz]; rfl)
 clear hP hB hsz hsz2
 go_wp2_with (with_reducible refine gate_store (p := 4) rfl ?_; go_must (refine wpList_store_row rfl 41 (.tmp 4) (.tmp 90) rfl _ cs rfl rfl 41 zerV Y.x1 HSZ2.out HOLD.out hone ?_))
 exact ret_pass rfl rfl rfl rfl Y.x1 HSZ.out hone Y.x2 (Nat.le_succ _) (by have := HWZ.out; omega) HPP.out
set_option maxHeartbeats 4000000 in
theorem rread_p6 (w : World) (A : Option Addr) (c : Nat) (v : List UInt8) (fl : Int) (hb : byte.C w A v.length v) (hc : v.length ≤ c) (hv : v.length ≤ 140737488355232) (h0 : 0 ≤ fl) :
  Calls Tryd.prog 87 #[.agg (freshV 6 fl), .slice A v.length c] w (RReadP w (readPrms false 6 (fl % 2) v)) := by
 have HP := Lh (fun (W : World) (h : Below w.heap.size w W) => rparams_calls W A c v 6 (fl % 2) 0 0 0 0 0 (Kd.C_below hb h) hc hv)
 have HE := Lh (show prmR 6 (fl % 2) 0 0 0 0 0 v = readPrms false 6 (fl % 2) v by
  unfold prmR readPrms
  cases prmsD v with
  | error c => rfl
  | ok ps => cases hbb : beatB ps <;> simp [hbb])
 have X := Bx.new w (freshV 6 fl)
 clear hb
 go_enter Tryd.func87, Tryd.ntmps87
 go_upto_region 1 with (fail)
 refine wp_gen (Bx w (freshV 6 fl)) X ?_
 clear X
 intro W X
 have k0 : W.cell? ⟨w.heap.size, 0, none⟩ = some (.int .u8 6) := X.cell 0
 have k1 : W.cell? ⟨w.heap.size, 1, none⟩ = some (.int .u8 fl) := X.cell 1
 have f1 := X.frozen 1
 go_upto_region 29 with (fail)
 refine wp_gen (Bx w (freshV 6 (fl % 2))) (X.set 1 _) ?_
 clear X k0 k1 f1 W
 intro W X
 have HWZ := Lh X.x3
 go_wp2_with (first | (with_reducible refine gate_dst (N := 98) rfl ?_; go_must (refine wpList_load_row rfl 41 (.tmp 2) rfl _ rfl 41 _ (0, 0) _ X.x0 Tryd.underlying41 rfl (by kernel_rfl) ?_)))
 refine (HP.out W X.x2).mono ?_
 rintro e w1 ⟨cs, code, rfl, hsz, hone, hB, hP⟩
 rw [HE.out] at hP
 have Y := X.below hB
 have HPP := Lh hP
 have hsz2 : (Tryd.prog.info? 41).map (·.size) = some cs.size := by rw [hsz]; kernel_rfl
 have HSZ := Lh hsz
 have HSZ2 := Lh hsz2
 have HOLD := Lh (show zerV.size = cs.size by rw [hsz]; rfl)
 clear hP hB hsz hsz2
 go_wp2_with (with_reducible refine gate_store (p := 4) rfl ?_; go_must (refine wpList_store_row rfl 41 (.tmp 4) (.tmp 101) rfl _ cs rfl rfl 41 zerV Y.x1 HSZ2.out HOLD.out hone ?_))
 exact ret_pass rfl rfl rfl rfl Y.x1 HSZ.out hone Y.x2 (Nat.le_succ _) (by have := HWZ.out; omega) HPP.out
def rdIT17 : Bool × List (List Nat × List Nat) := (true, [([], []), ([], []), ([1], [1]), ([0, 2], [0, 2]), ([3], [3]), ([3], [3]), ([4, 3, 0, 1, 2, 3, 4, 5], [4]), ([5, 6, 0, 1, 2, 3, 4, 5, 6], [5])])
def rdIB17 : List Nat := [0, 0, 2, 7, 15, 15, 63, 127]
theorem rdItab17 : Go.Proofs.YtdlamomabonkjaaDoorW.PrintLast.rtab .any (Go.Proofs.YtdlamomabonkjaaDoorW.PrintLast.opsOf Tryd.f87 17) = rdIT17 := by kernel_rfl
theorem rdIbits17 : Go.Proofs.YtdlamomabonkjaaDoorW.PrintLast.waitsOk rdIT17.2 rdIB17 = true := by kernel_rfl
set_option maxHeartbeats 4000000 in
theorem rread_init (w : World) (A : Option Addr) (c : Nat) (v : List UInt8) (kd fl : Int) (hk : kd = 1 ∨ kd = 2) (hb : byte.C w A v.length v) (hc : v.length ≤ c) (hv : v.length ≤ 140737488355232) :
  Calls Tryd.prog 87 #[.agg (freshV kd fl), .slice A v.length c] w (RReadP w (readInit kd 0 v)) := by
 have HG := Lh (fun (W : World) (h : Below w.heap.size w W) (at_ n : Nat) (z y : Int) (hz : z = (at_ : Int)) (hy : y = (n : Int)) (hn : n ≤ 4) (hh : at_ + n ≤ v.length) => get_calls W A v c (Kd.C_below hb h) hc (by omega) at_ n z y hz hy hn hh)
 have HBC := Lh (fun (W : World) (h : Below w.heap.size w W) => Kd.C_below hb h)
 have HO := fresh_one kd fl
 have HK := Lh (show ¬ (kd = 4 ∨ kd = 5) by omega)
 have q0 : (kd == 0) = false := by rcases hk with h | h <;> simp [h]
 have hq : (kd == 1) = true ∨ ((kd == 1) = false ∧ (kd == 2) = true) := by rcases hk with h | h <;> simp [h]
 clear hk
 have X := Bx.new w (freshV kd fl)
 clear hb
 go_enter Tryd.func87, Tryd.ntmps87
 go_upto_region 1 with (fail)
 refine wp_gen (Bx w (freshV kd fl)) X ?_
 clear X
 intro W X
 have k0 : W.cell? ⟨w.heap.size, 0, none⟩ = some (.int .u8 kd) := X.cell 0
 by_cases hlt : v.length < 16
 ·have HR := Lh (show readInit kd 0 v = .error 61 by unfold readInit; rw [if_pos hlt])
  rcases hq with q1 | ⟨q1, q2⟩
  all_goals
   go_wp2_with (with_reducible refine gate_dst (N := 48) rfl ?_; go_must (refine wpList_ret_row 48 rfl rfl rfl (.tmp 2) (.tmp 4) rfl rfl rfl _ _ _ _ rfl rfl rfl X.x0 X.x1 rfl rfl HO ?_))
   exact ret_bad rfl rfl rfl rfl X.x1 HR.out rfl HO X.x2 (Nat.le_succ _)
 rcases hq with q1 | ⟨q1, q2⟩
 all_goals
  have k1 : W.cell? ⟨w.heap.size, 1, none⟩ = some (.int .u8 fl) := X.cell 1
  have f1 := X.frozen 1
  go_upto_region 16 with (fail)
  refine wp_gen (Bx w (freshV kd 0)) (X.set 1 _) ?_
  clear X k0 k1 f1 HO W
  intro W X
  have k2 : W.cell? ⟨w.heap.size, 2, none⟩ = some (.int .u32 0) := X.cell 2
  have f2 := X.frozen 2
  have k6 : W.cell? ⟨w.heap.size, 6, none⟩ = some (.int .u32 0) := X.cell 6
  have f6 := X.frozen 6
  have k7 : W.cell? ⟨w.heap.size, 7, none⟩ = some (.int .u32 0) := X.cell 7
  have f7 := X.frozen 7
  have k8 : W.cell? ⟨w.heap.size, 8, none⟩ = some (.int .u16 0) := X.cell 8
  have f8 := X.frozen 8
  have k9 : W.cell? ⟨w.heap.size, 9, none⟩ = some (.int .u16 0) := X.cell 9
  have f9 := X.frozen 9
  go_wp2_with fail
  refine (HG.out _ X.x2 0 4 _ _ rfl rfl (by decide) (by omega)).mono ?_
  rintro e w1 ⟨rfl, ⟨m0, rfl⟩⟩
  go_wp2_with fail
  refine (HG.out _ (pw_below_drewN X.x2 _) 4 4 _ _ rfl rfl (by decide) (by omega)).mono ?_
  rintro e w1 ⟨rfl, ⟨m1, rfl⟩⟩
  go_wp2_with fail
  refine (HG.out _ (pw_below_drewN X.x2 _) 8 2 _ _ rfl rfl (by decide) (by omega)).mono ?_
  rintro e w1 ⟨rfl, ⟨m2, rfl⟩⟩
  go_wp2_with fail
  refine (HG.out _ (pw_below_drewN X.x2 _) 10 2 _ _ rfl rfl (by decide) (by omega)).mono ?_
  rintro e w1 ⟨rfl, ⟨m3, rfl⟩⟩
  go_wp2_with fail
  refine (HG.out _ (pw_below_drewN X.x2 _) 12 4 _ _ rfl rfl (by decide) (by omega)).mono ?_
  rintro e w1 ⟨rfl, ⟨m4, rfl⟩⟩
  go_upto_region 17 with (fail)
  simp only [u16_be]
  have HR := Lh (show prmR kd 0 (be ((v.drop 12).take 4) : Nat) (be (v.take 4) : Nat) (be ((v.drop 4).take 4) : Nat) (be ((v.drop 8).take 2) : Nat) (be ((v.drop 10).take 2) : Nat) (v.drop 16) = readInit kd 0 v by
   unfold prmR readInit
   rw [if_neg hlt]
   cases prmsD (v.drop 16) with
   | error c => rfl
   | ok ps => exact if_neg (fun e => HK.out e.1))
  refine wp_gen (Bx w (pcV kd 0 (be ((v.drop 12).take 4) : Nat) (be (v.take 4) : Nat) (be ((v.drop 4).take 4) : Nat) (be ((v.drop 8).take 2) : Nat) (be ((v.drop 10).take 2) : Nat))) ((((((X.drewN _).set 6 _).set 7 _).set 8 _).set 9 _).set 2 _) ?_
  clear X k2 f2 k6 f6 k7 f7 k8 f8 k9 f9 W
  intro W X
  obtain ⟨A9, hdr, hdC, hdl⟩ := drop_bytes (HBC.out W X.x2) hc 16 16 rfl (by omega)
  have hzl : (v.drop 16).length ≤ 140737488355232 := by rw [List.length_drop]; omega
  have HP := Lh (fun (W' : World) (h : Below W.heap.size W W') (t2 t6 t7 t8 t9 : Int) => rparams_calls W' A9 (c - 16) (v.drop 16) kd 0 t2 t6 t7 t8 t9 (Kd.C_below hdC h) hdl hzl)
  clear hdC hdl HG HBC hzl hlt HK
  generalize (v.drop 16).length = zl at *
  generalize c - 16 = zc at *
  generalize v.drop 16 = v16 at *
  generalize ((be ((v.drop 12).take 4) : Nat) : Int) = t2 at *
  generalize ((be (v.take 4) : Nat) : Int) = t6 at *
  generalize ((be ((v.drop 4).take 4) : Nat) : Int) = t7 at *
  generalize ((be ((v.drop 8).take 2) : Nat) : Int) = t8 at *
  generalize ((be ((v.drop 10).take 2) : Nat) : Int) = t9 at *
  have B := True.intro
  refine start_ (n := 8) (S := fun w' => True) (ds := []) #[false, false, false, false, false, false, false, false] (by kernel_rfl) rfl rfl trivial (fun hHeld => ?_)
  refine with_tabW rdItab17 rdIbits17 (fun HT_ HW_ => ?_)
  refine pu 1 68 ?_ rfl rfl (any_of HT_.out (by kernel_rfl)) (fun _ _ _ h => h) (by rfl) ?_ ?_ ?_ ?_
  rotate_left
  ·intro w'
   go_simp
   with_reducible rfl
  rotate_left
  ·simp only [sL]
   rfl
  refine inv_at [0, 2, 3, 4, 5, 6, 7] (fun a0_ b a w' => ∃ (cs : Array Value) (code : Int) (m3_ : Value) (m4_ : Value) (m5_ : Value) (m7_ : Value), a = putSel a0_ b [(0, 67, .agg (pcV kd 0 t2 t6 t7 t8 t9)), (2, 69, .slice A9 zl zc), (3, 70, m3_), (4, 71, m4_), (5, 72, m5_), (7, 5, m7_)] ∧ (b 3 = false → Bx w (pcV kd 0 t2 t6 t7 t8 t9) w' ∧ Below W.heap.size W w') ∧ (b 3 = true → b 6 = false → Bx w (pcV kd 0 t2 t6 t7 t8 t9) w' ∧ ParR (w.heap.size + 2) (prmR kd 0 t2 t6 t7 t8 t9 v16) cs code w') ∧ (b 6 = true → ∃ w9, w' = w9.setRow (w.heap.size + 1) cs ∧ (Bx w (pcV kd 0 t2 t6 t7 t8 t9) w9 ∧ ParR (w.heap.size + 2) (prmR kd 0 t2 t6 t7 t8 t9 v16) cs code w9)) ∧ (b 3 = true → (m3_ : Value) = .tuple #[.agg cs, .int .i64 code]) ∧ (b 4 = true → (m4_ : Value) = .agg cs) ∧ (b 5 = true → (m5_ : Value) = .int .i64 code) ∧ (b 7 = true → (m7_ : Value) = .int .i64 code)) HT_.out HW_.out (by kernel_rfl) (by kernel_rfl) ?_ ?_ ?_
  ·exact ⟨#[], 0, .bool false, .bool false, .bool false, .bool false, by simp only [putSel, Bool.false_eq_true, if_false], fun _ => ⟨X.drewN 1, pw_below_drewN (Below.refl _ _) 1⟩, fun h_ => absurd h_ (by decide), fun h_ => absurd h_ (by decide), fun h_ => absurd h_ (by decide), fun h_ => absurd h_ (by decide), fun h_ => absurd h_ (by decide), fun h_ => absurd h_ (by decide)⟩
  ·skip
   clear B
   refine sc rfl ?_ ?_
   ·rintro b a w' ⟨cs, code, m3_, m4_, m5_, m7_, ha, Q_B, Q_C, Q_S, Q_X3_, Q_X4_, Q_X5_, Q_X7_⟩ hb_ hon hoff K hK
    have e2 : a.tmps[2]? = some (.pointer (some ⟨w.heap.size, 0, none⟩)) := by rw [ha]; exact (putSel_off rfl).trans rfl
    replace ha := Am ha
    have B := Am (Q_B (hoff 3 (by kernel_rfl)))
    refine value_ (w1 := w') (v := .agg (pcV kd 0 t2 t6 t7 t8 t9)) (by rfl) rfl (exec_load_row 41 (.tmp 2) rfl (eval_of e2) B.out.1.x0 Tryd.underlying41 rfl (by kernel_rfl)) ?_
    refine hK.out _ _ ⟨cs, code, m3_, m4_, m5_, m7_, (puk ha 0 hb_ rfl rfl rfl), fun _ => B.out, fun h0_ _ => hof (hoff 3 (by kernel_rfl)) h0_, fun h0_ => hof (hoff 6 (by kernel_rfl)) h0_, fun h0_ => hof (hoff 3 (by kernel_rfl)) h0_, fun h0_ => hof (hoff 4 (by kernel_rfl)) h0_, fun h0_ => hof (hoff 5 (by kernel_rfl)) h0_, fun h0_ => hof (hoff 7 (by kernel_rfl)) h0_⟩
   refine sc rfl ?_ ?_
   ·rintro b a w' ⟨cs, code, m3_, m4_, m5_, m7_, ha, Q_B, Q_C, Q_S, Q_X3_, Q_X4_, Q_X5_, Q_X7_⟩ hb_ hon hoff K hK
    have e68 : a.tmps[68]? = some (.slice A v.length c) := by rw [ha]; exact (putSel_off rfl).trans rfl
    replace ha := Am ha
    refine value_ (w1 := w') (v := .slice A9 zl zc) (by rfl) rfl ?_ ?_
    ·go_simp
     (try simp only [i64_w])
     try rfl
    refine hK.out _ _ ⟨cs, code, m3_, m4_, m5_, m7_, (puk ha 1 hb_ rfl rfl rfl), Q_B, fun h0_ _ => hof (hoff 3 (by kernel_rfl)) h0_, fun h0_ => hof (hoff 6 (by kernel_rfl)) h0_, fun h0_ => hof (hoff 3 (by kernel_rfl)) h0_, fun h0_ => hof (hoff 4 (by kernel_rfl)) h0_, fun h0_ => hof (hoff 5 (by kernel_rfl)) h0_, fun h0_ => hof (hoff 7 (by kernel_rfl)) h0_⟩
   refine sc rfl ?_ ?_
   ·rintro b a w' ⟨cs, code, m3_, m4_, m5_, m7_, ha, Q_B, Q_C, Q_S, Q_X3_, Q_X4_, Q_X5_, Q_X7_⟩ hb_ hon hoff K hK
    have e67 := psn ha 0 rfl rfl (hon 0 (by kernel_rfl)) rfl
    have e69 := psn ha 1 rfl rfl (hon 2 (by kernel_rfl)) rfl
    replace ha := Am ha
    have B := Am (Q_B hb_)
    refine goes_ Tryd.func93 (by kernel_rfl) rfl #[.agg (pcV kd 0 t2 t6 t7 t8 t9), .slice A9 zl zc] (by rfl) rfl rfl (by first | (simp only [List.map_toArray, List.map_cons, List.map_nil, Act.eval, Array.getD_eq_getD_getElem?, Option.getD_some, e67, e69]; done) | (simp only [List.map_toArray, List.map_cons, List.map_nil, Act.eval, Array.getD_eq_getD_getElem?, Option.getD_some, e67, e69]; rfl)) ?_
    refine (HP.out w' B.out.2 t2 t6 t7 t8 t9).mono ?_
    rintro e w1 ⟨cs1, code1, rfl, hsz1, hone1, hB1, hP1⟩
    refine ⟨_, rfl, ?_⟩
    refine hK.out _ _ ⟨cs1, code1, (.tuple #[.agg cs1, .int .i64 code1]), m4_, m5_, m7_, (puk ha 2 hb_ rfl rfl rfl), fun h0_ => absurd ((up_self b 3).symm.trans h0_) (by decide), fun _ _ => ⟨B.out.1.below hB1, ParR.of hsz1 hone1 B.out.1.x3 hP1⟩, fun h0_ => hof (hoff 6 (by kernel_rfl)) h0_, fun _ => rfl, fun h0_ => hof (hoff 4 (by kernel_rfl)) h0_, fun h0_ => hof (hoff 5 (by kernel_rfl)) h0_, fun h0_ => hof (hoff 7 (by kernel_rfl)) h0_⟩
   refine sc rfl ?_ ?_
   ·rintro b a w' ⟨cs, code, m3_, m4_, m5_, m7_, ha, Q_B, Q_C, Q_S, Q_X3_, Q_X4_, Q_X5_, Q_X7_⟩ hb_ hon hoff K hK
    have e70 := psn ha 2 rfl rfl (hon 3 (by kernel_rfl)) rfl
    rw [Q_X3_ (hon 3 (by kernel_rfl))] at e70
    replace ha := Am ha
    refine value_ (w1 := w') (v := .agg cs) (by rfl) rfl ?_ ?_
    ·go_simp
     (try simp only [i64_w])
     try rfl
    refine hK.out _ _ ⟨cs, code, m3_, (.agg cs), m5_, m7_, (puk ha 3 hb_ rfl rfl rfl), fun h0_ => absurd ((hon 3 (by kernel_rfl)).symm.trans h0_) (by decide), Q_C, fun h0_ => hof (hoff 6 (by kernel_rfl)) h0_, Q_X3_, fun _ => rfl, Q_X5_, fun h0_ => hof (hoff 7 (by kernel_rfl)) h0_⟩
   refine sc rfl ?_ ?_
   ·rintro b a w' ⟨cs, code, m3_, m4_, m5_, m7_, ha, Q_B, Q_C, Q_S, Q_X3_, Q_X4_, Q_X5_, Q_X7_⟩ hb_ hon hoff K hK
    have e70 := psn ha 2 rfl rfl (hon 3 (by kernel_rfl)) rfl
    rw [Q_X3_ (hon 3 (by kernel_rfl))] at e70
    replace ha := Am ha
    refine value_ (w1 := w') (v := .int .i64 code) (by rfl) rfl ?_ ?_
    ·go_simp
     (try simp only [i64_w])
     try rfl
    refine hK.out _ _ ⟨cs, code, m3_, m4_, (.int .i64 code), m7_, (puk ha 4 hb_ rfl rfl rfl), fun h0_ => absurd ((hon 3 (by kernel_rfl)).symm.trans h0_) (by decide), Q_C, fun h0_ => hof (hoff 6 (by kernel_rfl)) h0_, Q_X3_, Q_X4_, fun _ => rfl, fun h0_ => hof (hoff 7 (by kernel_rfl)) h0_⟩
   refine sc rfl ?_ ?_
   ·rintro b a w' ⟨cs, code, m3_, m4_, m5_, m7_, ha, Q_B, Q_C, Q_S, Q_X3_, Q_X4_, Q_X5_, Q_X7_⟩ hb_ hon hoff K hK
    have e4 : a.tmps[4]? = some (.pointer (some ⟨w.heap.size + 1, 0, none⟩)) := by rw [ha]; exact (putSel_off rfl).trans rfl
    have e71 := psn ha 3 rfl rfl (hon 4 (by kernel_rfl)) rfl
    rw [Q_X4_ (hon 4 (by kernel_rfl))] at e71
    replace ha := Am ha
    have C := Am (Q_C (hon 3 (by kernel_rfl)) hb_)
    refine skip_ (w1 := w'.setRow (w.heap.size + 1) cs) (by rfl) rfl (exec_store_row 41 (.tmp 4) (.tmp 71) rfl (eval_of e4) (eval_of e71) C.out.1.x1 (by rw [C.out.2.1]; kernel_rfl) (by rw [C.out.2.1]; rfl) C.out.2.2.1) ?_
    refine hK.out _ _ ⟨cs, code, m3_, m4_, m5_, m7_, (by rw [ha.out]; exact putSel_none (v := undef) rfl), fun h0_ => absurd ((hon 3 (by kernel_rfl)).symm.trans h0_) (by decide), fun _ h1_ => absurd ((up_self b 6).symm.trans h1_) (by decide), fun _ => ⟨w', rfl, C.out⟩, Q_X3_, Q_X4_, Q_X5_, fun h0_ => hof (hoff 7 (by kernel_rfl)) h0_⟩
   refine sc rfl ?_ ?_
   ·rintro b a w' ⟨cs, code, m3_, m4_, m5_, m7_, ha, Q_B, Q_C, Q_S, Q_X3_, Q_X4_, Q_X5_, Q_X7_⟩ hb_ hon hoff K hK
    have e72 := psn ha 4 rfl rfl (hon 5 (by kernel_rfl)) rfl
    rw [Q_X5_ (hon 5 (by kernel_rfl))] at e72
    replace ha := Am ha
    refine value_ (w1 := w') (v := .int .i64 code) (by rfl) rfl ?_ ?_
    ·go_simp
     (try simp only [i64_w])
     try rfl
    refine hK.out _ _ ⟨cs, code, m3_, m4_, m5_, (.int .i64 code), (puk ha 5 hb_ rfl rfl rfl), fun h0_ => absurd ((hon 3 (by kernel_rfl)).symm.trans h0_) (by decide), fun _ h1_ => absurd ((hon 6 (by kernel_rfl)).symm.trans h1_) (by decide), Q_S, Q_X3_, Q_X4_, Q_X5_, fun _ => rfl⟩
   exact steps_nil
  rintro b a w' hall ⟨cs, code, m3_, m4_, m5_, m7_, ha, Q_B, Q_C, Q_S, Q_X3_, Q_X4_, Q_X5_, Q_X7_⟩
  clear B
  have hb0_ := hall 0 (by kernel_rfl)
  have hb2_ := hall 2 (by kernel_rfl)
  have hb3_ := hall 3 (by kernel_rfl)
  have hb4_ := hall 4 (by kernel_rfl)
  have hb5_ := hall 5 (by kernel_rfl)
  have hb6_ := hall 6 (by kernel_rfl)
  have hb7_ := hall 7 (by kernel_rfl)
  subst ha
  obtain rfl := Q_X3_ hb3_
  obtain rfl := Q_X4_ hb4_
  obtain rfl := Q_X5_ hb5_
  obtain rfl := Q_X7_ hb7_
  simp only [putSel, hb0_, hb2_, hb3_, hb4_, hb5_, hb6_, hb7_, if_true, Act.put, List.setIfInBounds_toArray, List.set_cons_zero, List.set_cons_succ]
  clear Q_B
  clear Q_C
  have S := Am (Q_S hb6_)
  clear Q_S
  clear hall hb0_ hb2_ hb3_ hb4_ hb5_ hb6_ hb7_
  obtain ⟨w9, rfl, X9, hs9, ho9, hP9⟩ := S.out
  rw [HR.out] at hP9
  go_wp2
  exact ret_pass rfl rfl rfl rfl X9.x1 hs9 ho9 X9.x2 (Nat.le_succ _) (Nat.le_refl _) hP9
end Go.Proofs.YtdlamomabonkjaaDoor.Ch
end
section
namespace Go.Proofs.YtdlamomabonkjaaDoor.Ch
open Go.RowKit YtdlamomabonkjaaDoorW.PrintWords YtdlamomabonkjaaDoorW.PrintLast Base PCh ParDec
def rlssackT20 : Bool × List (List Nat × List Nat) := (true, [([], []), ([0], [0]), ([], []), ([], []), ([], []), ([], []), ([4, 5], [4, 5]), ([], []), ([6, 7], [6, 7]), ([8], [8]), ([3, 9], [3, 9]), ([2, 10], [2, 10]), ([11], [11]), ([1, 12, 11], [1, 12]), ([0, 1, 2, 3, 4, 5, 6, 7, 8, 9, 10, 11, 12, 13], []), ([14, 13, 13, 0, 1, 2, 3, 4, 5, 6, 7, 8, 9, 10, 11, 12, 13], [13, 14])])
def rlssackB20 : List Nat := [0, 1, 0, 0, 0, 0, 48, 0, 240, 496, 1016, 2044, 4092, 8191, 16383, 32767]
theorem rlssacktab20 : Go.Proofs.YtdlamomabonkjaaDoorW.PrintLast.rtab .any (Go.Proofs.YtdlamomabonkjaaDoorW.PrintLast.opsOf Tryd.f94 20) = rlssackT20 := by kernel_rfl
theorem rlssackbits20 : Go.Proofs.YtdlamomabonkjaaDoorW.PrintLast.waitsOk rlssackT20.2 rlssackB20 = true := by kernel_rfl
set_option maxHeartbeats 4000000 in
theorem rlists_sack (w : World) (A : Option Addr) (c : Nat) (v : List UInt8) (hb : byte.C w A v.length v) (hc : v.length ≤ c) (hv : v.length ≤ 140737488355232) :
  Calls Tryd.prog 94 #[.agg (freshV 3 0), .slice A v.length c] w (RReadP w (readLists false 3 0 v)) := by
 have HG := Lh (fun (W : World) (h : Below w.heap.size w W) (at_ n : Nat) (z y : Int) (hz : z = (at_ : Int)) (hy : y = (n : Int)) (hn : n ≤ 4) (hh : at_ + n ≤ v.length) => get_calls W A v c (Kd.C_below hb h) hc (by omega) at_ n z y hz hy hn hh)
 have HBK := Lh (fun (W : World) (h : Below w.heap.size w W) (at_ n : Nat) (z y : Int) (hz : z = (at_ : Int)) (hy : y = (n : Int)) (hn : n ≤ 4096) (hh : at_ + 4 * n ≤ v.length) => blocks_calls W A v c (Kd.C_below hb h) hc (by omega) at_ n z y hz hy hn hh)
 have HO := fresh_one 3 0
 have X := Bx.new w (freshV 3 0)
 clear hb
 go_enter Tryd.func94, Tryd.ntmps94
 go_upto_region 1 with (fail)
 refine wp_gen (Bx w (freshV 3 0)) X ?_
 clear X
 intro W X
 have k0 : W.cell? ⟨w.heap.size, 0, none⟩ = some (.int .u8 3) := X.cell 0
 by_cases hlt : v.length < 12
 ·have HR := Lh (show readLists false 3 0 v = .error 61 by unfold readLists listsD; rw [if_pos (by simp; omega)])
  go_wp2_with (with_reducible refine gate_dst (N := 20) rfl ?_; go_must (refine wpList_ret_row 20 rfl rfl rfl (.tmp 2) (.tmp 4) rfl rfl rfl _ _ _ _ rfl rfl rfl X.x0 X.x1 rfl rfl HO ?_))
  exact ret_bad rfl rfl rfl rfl X.x1 HR.out rfl HO X.x2 (Nat.le_succ _)
 have hbg := be_two_lt (v.drop 8)
 have hbn := be_two_lt (v.drop 10)
 have hbd := be_two_lt (v.drop 10)
 go_wp2_with fail
 refine (HG.out _ X.x2 8 2 _ _ rfl rfl (by decide) (by omega)).mono ?_
 rintro e w1 ⟨rfl, ⟨m0, rfl⟩⟩
 go_wp2_with fail
 refine (HG.out _ (pw_below_drewN X.x2 _) 10 2 _ _ rfl rfl (by decide) (by omega)).mono ?_
 rintro e w1 ⟨rfl, ⟨m1, rfl⟩⟩
 go_upto_region 10 with (fail)
 have HLD := Lh (show listsD false v = _ from by unfold listsD; rw [if_neg (by simp; omega)])
 simp only [if_true, if_false, Bool.false_eq_true] at HLD
 obtain ⟨ng, hng⟩ : ∃ ng, be ((v.drop 8).take 2) = ng := ⟨_, rfl⟩
 obtain ⟨nd, hnd⟩ : ∃ nd, be ((v.drop 10).take 2) = nd := ⟨_, rfl⟩
 rw [hng] at HLD hbg ⊢
 rw [hnd] at HLD hbd ⊢
 clear hng hnd hbn
 have hnot : ¬ (4096 < ng ∨ 4096 < 0 ∨ 4096 < nd) → True := fun _ => trivial
 clear hnot
 by_cases hbig : 4096 < ng ∨ 4096 < 0 ∨ 4096 < nd
 ·rw [if_pos hbig] at HLD
  have HR := Lh (show readLists false 3 0 v = .error 3 by unfold readLists; rw [HLD.out])
  have X := X.drewN (m0 + m1)
  go_wp2_with (with_reducible refine gate_dst (N := 42) rfl ?_; go_must (refine wpList_ret_row 42 rfl rfl rfl (.tmp 2) (.tmp 4) rfl rfl rfl _ _ _ _ rfl rfl rfl X.x0 X.x1 rfl rfl HO ?_))
  all_goals first | (exfalso; omega) | exact ret_bad rfl rfl rfl rfl X.x1 HR.out rfl HO X.x2 (Nat.le_succ _)
 rw [if_neg hbig] at HLD
 by_cases hlen : v.length ≠ 12 + 4 * (ng + 0 + nd)
 ·rw [if_pos hlen] at HLD
  have HR := Lh (show readLists false 3 0 v = .error 61 by unfold readLists; rw [HLD.out])
  have q1 : decide ((4096 : Int) < (ng : Int)) = false := by simp; omega
  have q3 : decide ((4096 : Int) < (nd : Int)) = false := by simp; omega
  have HLN := Lh hlen
  have X := X.drewN (m0 + m1)
  go_wp2_with (with_reducible refine gate_dst (N := 54) rfl ?_; go_must (refine wpList_ret_row 54 rfl rfl rfl (.tmp 2) (.tmp 4) rfl rfl rfl _ _ _ _ rfl rfl rfl X.x0 X.x1 rfl rfl HO ?_))
  all_goals first | (exfalso; omega) | exact ret_bad rfl rfl rfl rfl X.x1 HR.out rfl HO X.x2 (Nat.le_succ _)
 rw [if_neg hlen] at HLD
 have hlen3 : v.length = 12 + 4 * (ng + 0 + nd) := Decidable.byContradiction fun h => hlen h
 have HL3 := Lh hlen3
 have hg4 : ng ≤ 4096 := by omega
 have hd4 : nd ≤ 4096 := by omega
 have q4 : ((v.length : Int) != 12 + 4 * ((ng : Int) + (nd : Int))) = false := by simp; omega
 clear hlen hlen3 hbig hbg hbd
 go_wp2_with fail
 refine (HG.out _ (pw_below_drewN X.x2 _) 0 4 _ _ rfl rfl (by decide) (by omega)).mono ?_
 rintro e w1 ⟨rfl, ⟨m8, rfl⟩⟩
 have k2 : W.cell? ⟨w.heap.size, 2, none⟩ = some (.int .u32 0) := X.cell 2
 have f2 := X.frozen 2
 have k7 : W.cell? ⟨w.heap.size, 7, none⟩ = some (.int .u32 0) := X.cell 7
 have f7 := X.frozen 7
 go_wp2_with fail
 refine (HG.out _ (pw_below_drewN X.x2 _) 4 4 _ _ rfl rfl (by decide) (by omega)).mono ?_
 rintro e w1 ⟨rfl, ⟨m9, rfl⟩⟩
 go_upto_region 15 with (fail)
 refine wp_gen (Bx w (#[.int .u8 3, .int .u8 0, .int .u32 ((be (v.take 4) : Nat) : Int), .int .u16 0, .int .u16 0, .int .u32 0, .int .u32 0, .int .u32 ((be ((v.drop 4).take 4) : Nat) : Int), .int .u16 0, .int .u16 0, .slice none 0 0, .slice none 0 0, .slice none 0 0, .slice none 0 0, .slice none 0 0])) (((X.drewN _).set 2 _).set 7 _) ?_
 clear X k2 k7 f2 f7 k0 HO W
 intro W X
 obtain ⟨t1, ht1⟩ : ∃ t1 : Int, ((be (v.take 4) : Nat) : Int) = t1 := ⟨_, rfl⟩
 obtain ⟨t2, ht2⟩ : ∃ t2 : Int, ((be ((v.drop 4).take 4) : Nat) : Int) = t2 := ⟨_, rfl⟩
 rw [ht1, ht2] at X
 have HT1 := Lh ht1
 have HT2 := Lh ht2
 clear ht1 ht2
 have HWZ := Lh X.x3
 go_wp2_with fail
 refine (HBK.out _ X.x2 12 ng _ _ rfl rfl hg4 (by have := HL3.out; omega)).mono ?_
 rintro e w1 ⟨vg, rfl, hG, hB⟩
 obtain ⟨Ag, cg, rfl⟩ := Kd.R_slice hG
 have Y := X.below hB
 replace hG := Kd.R_lower hG HWZ.out
 have k10 : w1.cell? ⟨w.heap.size, 10, none⟩ = some (.slice none 0 0) := Y.cell 10
 have f10 := Y.frozen 10
 clear X hB
 go_upto_region 16 with (fail)
 have OV1 : (Value.slice Ag (gapsD ng (v.drop 12)).length cg).oneCell' = true := rfl
 generalize Value.slice Ag (gapsD ng (v.drop 12)).length cg = vg at *
 refine wp_gen (fun W' => Bx w (#[.int .u8 3, .int .u8 0, .int .u32 t1, .int .u16 0, .int .u16 0, .int .u32 0, .int .u32 0, .int .u32 t2, .int .u16 0, .int .u16 0, vg, .slice none 0 0, .slice none 0 0, .slice none 0 0, .slice none 0 0]) W' ∧ Kd.R k117 117 W' (w.heap.size + 2) (fun _ => True) vg (gapsD ng (v.drop 12))) ⟨Y.set 10 _, R_only hG ((Only.refl (· = w.heap.size) _).setCell (fun _ => rfl) _) (fun k hk _ h => by omega)⟩ ?_
 clear Y hG k10 f10 HWZ W
 rintro W ⟨X, hG0⟩
 have RG := Lh hG0
 clear hG0
 have HWZ := Lh X.x3
 go_wp2_with fail
 refine (HBK.out _ X.x2 (12 + 4 * ng) 0 _ _ (by omega) rfl (by decide) (by have := HL3.out; omega)).mono ?_
 rintro e w2 ⟨vn, rfl, hN, hB⟩
 obtain ⟨An, cn, rfl⟩ := Kd.R_slice hN
 have Y := X.below hB
 replace hN := Kd.R_lower hN HWZ.out
 have hG := R_only RG.out (Only.of_below (S := fun _ => False) hB) (fun _ _ _ h => h)
 have k11 : w2.cell? ⟨w.heap.size, 11, none⟩ = some (.slice none 0 0) := Y.cell 11
 have f11 := Y.frozen 11
 clear X hB RG
 go_upto_region 17 with (fail)
 have OV2 : (Value.slice An (gapsD 0 (v.drop (12 + 4 * ng))).length cn).oneCell' = true := rfl
 generalize Value.slice An (gapsD 0 (v.drop (12 + 4 * ng))).length cn = vn at *
 refine wp_gen (fun W' => Bx w (#[.int .u8 3, .int .u8 0, .int .u32 t1, .int .u16 0, .int .u16 0, .int .u32 0, .int .u32 0, .int .u32 t2, .int .u16 0, .int .u16 0, vg, vn, .slice none 0 0, .slice none 0 0, .slice none 0 0]) W' ∧ Kd.R k117 117 W' (w.heap.size + 2) (fun _ => True) vg (gapsD ng (v.drop 12)) ∧ Kd.R k117 117 W' (w.heap.size + 2) (fun _ => True) vn (gapsD 0 (v.drop (12 + 4 * ng)))) ⟨Y.set 11 _, R_only hG ((Only.refl (· = w.heap.size) _).setCell (fun _ => rfl) _) (fun k hk _ h => by omega), R_only hN ((Only.refl (· = w.heap.size) _).setCell (fun _ => rfl) _) (fun k hk _ h => by omega)⟩ ?_
 clear Y hG hN k11 f11 HWZ W
 rintro W0 ⟨X, hG, hN⟩
 have HX := Lh X
 have RG := Lh hG
 have RN := Lh hN
 clear X hG hN HBK
 obtain ⟨vv0, hvv0⟩ : ∃ vv0, v.drop (12 + 4 * (ng + 0)) = vv0 := ⟨_, rfl⟩
 have hvl : vv0.length = 4 * nd := by rw [← hvv0, List.length_drop]; have := HL3.out; omega
 have HVV := Lh hvv0
 have HGL2 := Lh (show w.heap.size < W0.heap.size by have := HX.out.x3; omega)
 go_wp2
 go_loopw [11] (fun v11 wr => ∃ (i : Nat) (xs : List Int) (vd : Value), i ≤ nd ∧ v11 = .int .i64 (i : Int) ∧ Hid ((Kd.int .u32).R 23 wr W0.heap.size (fun _ => True) vd xs) ∧ Hid (xs ++ dupsD (nd - i) (vv0.drop (4 * i)) = dupsD nd vv0) ∧ Hid (wr.heap[w.heap.size]? = some (.cells (#[.int .u8 3, .int .u8 0, .int .u32 t1, .int .u16 0, .int .u16 0, .int .u32 0, .int .u32 0, .int .u32 t2, .int .u16 0, .int .u16 0, vg, vn, vd, .slice none 0 0, .slice none 0 0]) 41 (0, 0))) ∧ Hid (Only (· = w.heap.size) W0 wr)) (fun v11 _ => nd - (intOf v11).toNat)
 case atStart => exact ⟨0, [], .slice none 0 0, Nat.zero_le _, rfl, Kd.R_nil _ _ _ _ _, rfl, HX.out.x0, Only.refl _ _⟩
 case round =>
  obtain ⟨i, xs, vd, hi, rfl, HR, HE, HC, HO⟩ := hrel
  obtain ⟨Av, cv, rfl⟩ := Kd.R_slice HR.out
  have hxl : xs.length ≤ 4096 := by
   have := congrArg List.length HE.out
   rw [List.length_append, dupsD_length, dupsD_length] at this
   omega
  have HXL := Lh hxl
  by_cases hlt2 : i < nd
  ·have hE := HE.out
   rw [show nd - i = (nd - (i + 1)) + 1 by omega, dupsD] at hE
   have e4 : (vv0.drop (4 * i)).drop 4 = vv0.drop (4 * (i + 1)) := by rw [List.drop_drop]; congr 1
   have hE2 : (xs ++ [(be ((vv0.drop (4 * i)).take 4) : Int)]) ++ dupsD (nd - (i + 1)) (vv0.drop (4 * (i + 1))) = dupsD nd vv0 := by rw [List.append_assoc, ← e4]; exact hE
   have e5 : v.drop (12 + 4 * ((ng + 0) + i)) = vv0.drop (4 * i) := by rw [← HVV.out, List.drop_drop]; congr 1; omega
   have HF := Lh (fun (W : World) (hO : Only (· = w.heap.size) W0 W) (z : Int) (hz : z = ((12 + 4 * ((ng + 0) + i) : Nat) : Int)) => HG.out W (HX.out.x2.trans (hO.below HX.out.x2.size (fun k h => by omega))) (12 + 4 * ((ng + 0) + i)) 4 z 4 hz rfl (by decide) (by have := HL3.out; omega))
   rw [e5] at HF
   generalize be ((vv0.drop (4 * i)).take 4) = q at *
   have HE2 := Lh hE2
   obtain ⟨s1, hs1⟩ : ∃ s1 : Int, wrap64 ((ng : Int) + 0) = s1 := ⟨_, rfl⟩
   obtain ⟨s3, hs3⟩ : ∃ s3 : Int, wrap64 (s1 + (i : Int)) = s3 := ⟨_, rfl⟩
   obtain ⟨s4, hs4⟩ : ∃ s4 : Int, wrap64 (4 * s3) = s4 := ⟨_, rfl⟩
   obtain ⟨s5, hs5⟩ : ∃ s5 : Int, wrap64 (12 + s4) = s5 := ⟨_, rfl⟩
   have hs6 : s5 = ((12 + 4 * ((ng + 0) + i) : Nat) : Int) := by
    have r1 : s1 = (((ng + 0) : Nat) : Int) := by rw [← hs1]; unfold wrap64; omega
    have r3 : s3 = (((ng + 0) + i : Nat) : Int) := by rw [← hs3, r1]; unfold wrap64; omega
    have r4 : s4 = ((4 * ((ng + 0) + i) : Nat) : Int) := by rw [← hs4, r3]; unfold wrap64; omega
    rw [← hs5, r4]; unfold wrap64; omega
   replace HF := Lh (fun (W : World) (hO : Only (· = w.heap.size) W0 W) => HF.out W hO s5 hs6)
   have HA1 := Lh hs1
   have HA3 := Lh hs3
   have HA4 := Lh hs4
   have HA5 := Lh hs5
   clear hE hE2 e4 e5 HE hvl hxl hs1 hs3 hs4 hs5 hs6 HVV hvv0 HLD
   go_upto_region 20 with (fail)
   have B := True.intro
   have C := True.intro
   have R := True.intro
   refine start_ (n := 16) (S := fun w' => True) (ds := []) #[false, false, false, false, false, false, false, false, false, false, false, false, false, false, false, false] (by kernel_rfl) rfl rfl trivial (fun hHeld => ?_)
   refine with_tabW rlssacktab20 rlssackbits20 (fun HT_ HW_ => ?_)
   refine pu 2 81 ?_ rfl rfl (any_of HT_.out (by kernel_rfl)) (fun _ _ _ h => h) (by rfl) ?_ ?_ ?_ ?_
   rotate_left
   ·intro w'
    go_simp
    with_reducible rfl
   rotate_left
   ·simp only [sL]
    rfl
   refine pu 3 82 ?_ rfl rfl (any_of HT_.out (by kernel_rfl)) (fun _ _ _ h => h) (by rfl) ?_ ?_ ?_ ?_
   rotate_left
   ·intro w'
    go_simp
    with_reducible rfl
   rotate_left
   ·simp only [sL]
    rfl
   refine pu 4 83 ?_ rfl rfl (any_of HT_.out (by kernel_rfl)) (fun _ _ _ h => h) (by rfl) ?_ ?_ ?_ ?_
   rotate_left
   ·intro w'
    go_simp
    with_reducible rfl
   rotate_left
   ·simp only [sL]
    rfl
   refine pu 5 84 ?_ rfl rfl (any_of HT_.out (by kernel_rfl)) (fun _ _ _ h => h) (by rfl) ?_ ?_ ?_ ?_
   rotate_left
   ·intro w'
    go_simp
    with_reducible rfl
   rotate_left
   ·simp only [sL]
    rfl
   refine pu 7 86 ?_ rfl rfl (any_of HT_.out (by kernel_rfl)) (fun _ _ _ h => h) (by rfl) ?_ ?_ ?_ ?_
   rotate_left
   ·intro w'
    go_simp
    with_reducible rfl
   rotate_left
   ·simp only [sL]
    rfl
   refine inv_at [0, 1, 6, 8, 9, 10, 11, 12, 13, 14, 15] (fun a0_ b a w' => ∃ (g9 : Nat) (v9 : Value) (m12_ : Value), a = putSel a0_ b [(0, 79, .pointer (some ⟨w.heap.size, 12, none⟩)), (1, 80, .slice Av xs.length cv), (6, 85, .int .i64 s1), (8, 87, .int .i64 s3), (9, 88, .int .i64 s4), (10, 89, .int .i64 s5), (11, 90, .int .u32 (q : Int)), (12, 91, m12_), (13, 92, v9), (14, 93, .pointer (some ⟨w.heap.size, 12, none⟩))] ∧ (b 13 = false → Only (· = w.heap.size) W0 w') ∧ (b 13 = false → w'.heap[w.heap.size]? = some (.cells (#[.int .u8 3, .int .u8 0, .int .u32 t1, .int .u16 0, .int .u16 0, .int .u32 0, .int .u32 0, .int .u32 t2, .int .u16 0, .int .u16 0, vg, vn, .slice Av xs.length cv, .slice none 0 0, .slice none 0 0]) 41 (0, 0))) ∧ (b 13 = false → (Kd.int .u32).R 23 w' W0.heap.size (fun _ => True) (.slice Av xs.length cv) (xs)) ∧ (b 12 = true → b 13 = false → ∃ w2, w' = w2.alloc (.cells #[.int .u32 (q : Int)] 23) ∧ g9 = w2.heap.size ∧ Only (· = w.heap.size) W0 w2 ∧ w2.heap[w.heap.size]? = some (.cells (#[.int .u8 3, .int .u8 0, .int .u32 t1, .int .u16 0, .int .u16 0, .int .u32 0, .int .u32 0, .int .u32 t2, .int .u16 0, .int .u16 0, vg, vn, .slice Av xs.length cv, .slice none 0 0, .slice none 0 0]) 41 (0, 0)) ∧ (Kd.int .u32).R 23 w2 W0.heap.size (fun _ => True) (.slice Av xs.length cv) (xs)) ∧ (b 13 = true → b 15 = false → (Kd.int .u32).R 23 w' W0.heap.size (fun _ => True) (v9) (xs ++ [(q : Int)]) ∧ w'.heap[w.heap.size]? = some (.cells (#[.int .u8 3, .int .u8 0, .int .u32 t1, .int .u16 0, .int .u16 0, .int .u32 0, .int .u32 0, .int .u32 t2, .int .u16 0, .int .u16 0, vg, vn, .slice Av xs.length cv, .slice none 0 0, .slice none 0 0]) 41 (0, 0)) ∧ Only (· = w.heap.size) W0 w') ∧ (b 15 = true → (Kd.int .u32).R 23 w' W0.heap.size (fun _ => True) (v9) (xs ++ [(q : Int)]) ∧ w'.heap[w.heap.size]? = some (.cells (#[.int .u8 3, .int .u8 0, .int .u32 t1, .int .u16 0, .int .u16 0, .int .u32 0, .int .u32 0, .int .u32 t2, .int .u16 0, .int .u16 0, vg, vn, v9, .slice none 0 0, .slice none 0 0]) 41 (0, 0)) ∧ Only (· = w.heap.size) W0 w') ∧ (b 12 = true → (m12_ : Value) = .slice (some ⟨g9, 0, none⟩) 1 1)) HT_.out HW_.out (by kernel_rfl) (by kernel_rfl) ?_ ?_ ?_
   ·exact ⟨0, undef, .bool false, by simp only [putSel, Bool.false_eq_true, if_false], fun _ => HO.out.drew, fun _ => HC.out, fun _ => HR.out, fun h_ => absurd h_ (by decide), fun h_ => absurd h_ (by decide), fun h_ => absurd h_ (by decide), fun h_ => absurd h_ (by decide)⟩
   ·skip
    clear B C R
    refine sc rfl ?_ ?_
    ·rintro b a w' ⟨g9, v9, m12_, ha, Q_B, Q_C, Q_R, Q_W2, Q_S1, Q_S2, Q_X12_⟩ hb_ hon hoff K hK
     have e2 : a.tmps[2]? = some (.pointer (some ⟨w.heap.size, 0, none⟩)) := by rw [ha]; exact (putSel_off rfl).trans rfl
     replace ha := Am ha
     refine value_ (w1 := w') (v := .pointer (some ⟨w.heap.size, 12, none⟩)) (by rfl) rfl ?_ ?_
     ·go_simp
      (try simp only [i64_w])
      try rfl
     refine hK.out _ _ ⟨g9, v9, m12_, (puk ha 0 hb_ rfl rfl rfl), Q_B, Q_C, Q_R, Q_W2, fun h0_ _ => hof (hoff 13 (by kernel_rfl)) h0_, fun h0_ => hof (hoff 15 (by kernel_rfl)) h0_, Q_X12_⟩
    refine sc rfl ?_ ?_
    ·rintro b a w' ⟨g9, v9, m12_, ha, Q_B, Q_C, Q_R, Q_W2, Q_S1, Q_S2, Q_X12_⟩ hb_ hon hoff K hK
     have e79 := psn ha 0 rfl rfl (hon 0 (by kernel_rfl)) rfl
     replace ha := Am ha
     have C := Am (Q_C (hoff 13 (by kernel_rfl)))
     have hs := blk_cell C.out 12
     refine value_ (w1 := w') (v := .slice Av xs.length cv) (by rfl) rfl ?_ ?_
     ·go_simp
      (try simp only [i64_w])
      try rfl
     refine hK.out _ _ ⟨g9, v9, m12_, (puk ha 1 hb_ rfl rfl rfl), Q_B, Q_C, Q_R, Q_W2, fun h0_ _ => hof (hoff 13 (by kernel_rfl)) h0_, fun h0_ => hof (hoff 15 (by kernel_rfl)) h0_, Q_X12_⟩
    refine sc rfl ?_ ?_
    ·rintro b a w' ⟨g9, v9, m12_, ha, Q_B, Q_C, Q_R, Q_W2, Q_S1, Q_S2, Q_X12_⟩ hb_ hon hoff K hK
     have e83 : a.tmps[83]? = some (.int .i64 (ng : Int)) := by rw [ha]; exact (putSel_off rfl).trans rfl
     have e84 : a.tmps[84]? = some (.int .i64 0) := by rw [ha]; exact (putSel_off rfl).trans rfl
     replace ha := Am ha
     have B := Am (Q_B (hoff 13 (by kernel_rfl)))
     have C := Am (Q_C (hoff 13 (by kernel_rfl)))
     have R := Am (Q_R (hoff 13 (by kernel_rfl)))
     have hs := HA1.out
     refine value_ (w1 := w') (v := .int .i64 s1) (by rfl) rfl (by go_simp; simp only [i64_w]; exact hs) ?_
     refine hK.out _ _ ⟨g9, v9, m12_, (puk ha 2 hb_ rfl rfl rfl), fun _ => B.out, fun _ => C.out, fun _ => R.out, fun h0_ _ => hof (hoff 12 (by kernel_rfl)) h0_, fun h0_ _ => hof (hoff 13 (by kernel_rfl)) h0_, fun h0_ => hof (hoff 15 (by kernel_rfl)) h0_, fun h0_ => hof (hoff 12 (by kernel_rfl)) h0_⟩
    refine sc rfl ?_ ?_
    ·rintro b a w' ⟨g9, v9, m12_, ha, Q_B, Q_C, Q_R, Q_W2, Q_S1, Q_S2, Q_X12_⟩ hb_ hon hoff K hK
     have e85 := psn ha 2 rfl rfl (hon 6 (by kernel_rfl)) rfl
     have e86 : a.tmps[86]? = some (.int .i64 (i : Int)) := by rw [ha]; exact (putSel_off rfl).trans rfl
     replace ha := Am ha
     have B := Am (Q_B (hoff 13 (by kernel_rfl)))
     have C := Am (Q_C (hoff 13 (by kernel_rfl)))
     have R := Am (Q_R (hoff 13 (by kernel_rfl)))
     have hs := HA3.out
     refine value_ (w1 := w') (v := .int .i64 s3) (by rfl) rfl (by go_simp; simp only [i64_w]; exact hs) ?_
     refine hK.out _ _ ⟨g9, v9, m12_, (puk ha 3 hb_ rfl rfl rfl), fun _ => B.out, fun _ => C.out, fun _ => R.out, fun h0_ _ => hof (hoff 12 (by kernel_rfl)) h0_, fun h0_ _ => hof (hoff 13 (by kernel_rfl)) h0_, fun h0_ => hof (hoff 15 (by kernel_rfl)) h0_, fun h0_ => hof (hoff 12 (by kernel_rfl)) h0_⟩
    refine sc rfl ?_ ?_
    ·rintro b a w' ⟨g9, v9, m12_, ha, Q_B, Q_C, Q_R, Q_W2, Q_S1, Q_S2, Q_X12_⟩ hb_ hon hoff K hK
     have e87 := psn ha 3 rfl rfl (hon 8 (by kernel_rfl)) rfl
     replace ha := Am ha
     have B := Am (Q_B (hoff 13 (by kernel_rfl)))
     have C := Am (Q_C (hoff 13 (by kernel_rfl)))
     have R := Am (Q_R (hoff 13 (by kernel_rfl)))
     have hs := HA4.out
     refine value_ (w1 := w') (v := .int .i64 s4) (by rfl) rfl (by go_simp; simp only [i64_w]; exact hs) ?_
     refine hK.out _ _ ⟨g9, v9, m12_, (puk ha 4 hb_ rfl rfl rfl), fun _ => B.out, fun _ => C.out, fun _ => R.out, fun h0_ _ => hof (hoff 12 (by kernel_rfl)) h0_, fun h0_ _ => hof (hoff 13 (by kernel_rfl)) h0_, fun h0_ => hof (hoff 15 (by kernel_rfl)) h0_, fun h0_ => hof (hoff 12 (by kernel_rfl)) h0_⟩
    refine sc rfl ?_ ?_
    ·rintro b a w' ⟨g9, v9, m12_, ha, Q_B, Q_C, Q_R, Q_W2, Q_S1, Q_S2, Q_X12_⟩ hb_ hon hoff K hK
     have e82 : a.tmps[82]? = some (.int .i64 12) := by rw [ha]; exact (putSel_off rfl).trans rfl
     have e88 := psn ha 4 rfl rfl (hon 9 (by kernel_rfl)) rfl
     replace ha := Am ha
     have B := Am (Q_B (hoff 13 (by kernel_rfl)))
     have C := Am (Q_C (hoff 13 (by kernel_rfl)))
     have R := Am (Q_R (hoff 13 (by kernel_rfl)))
     have hs := HA5.out
     refine value_ (w1 := w') (v := .int .i64 s5) (by rfl) rfl (by go_simp; simp only [i64_w]; exact hs) ?_
     refine hK.out _ _ ⟨g9, v9, m12_, (puk ha 5 hb_ rfl rfl rfl), fun _ => B.out, fun _ => C.out, fun _ => R.out, fun h0_ _ => hof (hoff 12 (by kernel_rfl)) h0_, fun h0_ _ => hof (hoff 13 (by kernel_rfl)) h0_, fun h0_ => hof (hoff 15 (by kernel_rfl)) h0_, fun h0_ => hof (hoff 12 (by kernel_rfl)) h0_⟩
    refine sc rfl ?_ ?_
    ·rintro b a w' ⟨g9, v9, m12_, ha, Q_B, Q_C, Q_R, Q_W2, Q_S1, Q_S2, Q_X12_⟩ hb_ hon hoff K hK
     have e81 : a.tmps[81]? = some (.slice A v.length c) := by rw [ha]; exact (putSel_off rfl).trans rfl
     have e89 := psn ha 5 rfl rfl (hon 10 (by kernel_rfl)) rfl
     replace ha := Am ha
     have B := Am (Q_B (hoff 13 (by kernel_rfl)))
     have C := Am (Q_C (hoff 13 (by kernel_rfl)))
     have R := Am (Q_R (hoff 13 (by kernel_rfl)))
     refine goes_ Tryd.func86 (by kernel_rfl) rfl #[.slice A v.length c, .int .i64 s5, .int .i64 4] (by rfl) rfl rfl (by first | (simp only [List.map_toArray, List.map_cons, List.map_nil, Act.eval, Array.getD_eq_getD_getElem?, Option.getD_some, e81, e89]; done) | (simp only [List.map_toArray, List.map_cons, List.map_nil, Act.eval, Array.getD_eq_getD_getElem?, Option.getD_some, e81, e89]; rfl)) ?_
     refine (HF.out w' B.out).mono ?_
     rintro e w1 ⟨rfl, hD1⟩
     refine ⟨_, rfl, ?_⟩
     refine hK.out _ _ ⟨g9, v9, m12_, (puk ha 6 hb_ rfl rfl rfl), fun _ => B.out.trans (Only.of_below (S := fun _ => False) (drawn_below hD1)) (fun _ _ h => h.elim), fun _ => blk_below C.out (drawn_below hD1), fun _ => R_only R.out (Only.of_below (S := fun _ => False) (drawn_below hD1)) (fun _ _ _ h => h), fun h0_ _ => hof (hoff 12 (by kernel_rfl)) h0_, fun h0_ _ => hof (hoff 13 (by kernel_rfl)) h0_, fun h0_ => hof (hoff 15 (by kernel_rfl)) h0_, fun h0_ => hof (hoff 12 (by kernel_rfl)) h0_⟩
    refine sc rfl ?_ ?_
    ·rintro b a w' ⟨g9, v9, m12_, ha, Q_B, Q_C, Q_R, Q_W2, Q_S1, Q_S2, Q_X12_⟩ hb_ hon hoff K hK
     have e90 := psn ha 6 rfl rfl (hon 11 (by kernel_rfl)) rfl
     replace ha := Am ha
     have B := Am (Q_B (hoff 13 (by kernel_rfl)))
     have C := Am (Q_C (hoff 13 (by kernel_rfl)))
     have R := Am (Q_R (hoff 13 (by kernel_rfl)))
     refine value_ (w1 := w'.alloc (.cells #[.int .u32 (q : Int)] 23)) (v := .slice (some ⟨w'.heap.size, 0, none⟩) 1 1) (by rfl) rfl (by go_simp; try rfl) ?_
     refine hK.out _ _ ⟨w'.heap.size, v9, (.slice (some ⟨w'.heap.size, 0, none⟩) 1 1), (puk ha 7 hb_ rfl rfl rfl), fun _ => B.out.alloc _, fun _ => blk_alloc C.out _, fun _ => Kd.R_alloc R.out _, fun _ _ => ⟨w', rfl, rfl, B.out, C.out, R.out⟩, fun h0_ _ => hof (hoff 13 (by kernel_rfl)) h0_, fun h0_ => hof (hoff 15 (by kernel_rfl)) h0_, fun _ => rfl⟩
    refine sc rfl ?_ ?_
    ·rintro b a w' ⟨g9, v9, m12_, ha, Q_B, Q_C, Q_R, Q_W2, Q_S1, Q_S2, Q_X12_⟩ hb_ hon hoff K hK
     have e80 := psn ha 1 rfl rfl (hon 1 (by kernel_rfl)) rfl
     have e91 := psn ha 7 rfl rfl (hon 12 (by kernel_rfl)) rfl
     rw [Q_X12_ (hon 12 (by kernel_rfl))] at e91
     replace ha := Am ha
     have W2 := Am (Q_W2 (hon 12 (by kernel_rfl)) hb_)
     obtain ⟨w2, rfl, hg9, hB2, hC2, hR2⟩ := W2.out
     rw [hg9] at e91
     refine Kd.R_append_step (Kd.int .u32) (w0 := w2) (W := w2) W0.heap.size (by rfl) _ _ 38 23 _ 4 rfl Tryd.underlying38 info23 rfl (by decide) (by decide) (.slice Av xs.length cv) xs (q : Int) [.int .u32 (q : Int)] (fun _ => True) (fun _ => False) (by simp [Act.eval, Array.getD_eq_getD_getElem?, e80]) (by simp [Act.eval, Array.getD_eq_getD_getElem?, e91]) rfl (fun _ h => h.elim) (fun _ _ => trivial) hR2 (Below.refl _ _) hB2.size (by have := HXL.out; omega) ?_
     intro v1 w1 hR1 hB1 hG1 hat1
     have hC3 := (hB1.block w.heap.size HGL2.out).trans hC2
     have hO3 := only_then3 hB2 hB1
     refine hK.out _ _ ⟨g9, v1, m12_, (puk ha 8 hb_ rfl rfl rfl), fun h0_ => absurd ((up_self b 13).symm.trans h0_) (by decide), fun h0_ => absurd ((up_self b 13).symm.trans h0_) (by decide), fun h0_ => absurd ((up_self b 13).symm.trans h0_) (by decide), fun _ h1_ => absurd ((up_self b 13).symm.trans h1_) (by decide), fun _ _ => ⟨hR1, hC3, hO3⟩, fun h0_ => hof (hoff 15 (by kernel_rfl)) h0_, Q_X12_⟩
    refine sc rfl ?_ ?_
    ·rintro b a w' ⟨g9, v9, m12_, ha, Q_B, Q_C, Q_R, Q_W2, Q_S1, Q_S2, Q_X12_⟩ hb_ hon hoff K hK
     have e2 : a.tmps[2]? = some (.pointer (some ⟨w.heap.size, 0, none⟩)) := by rw [ha]; exact (putSel_off rfl).trans rfl
     replace ha := Am ha
     refine value_ (w1 := w') (v := .pointer (some ⟨w.heap.size, 12, none⟩)) (by rfl) rfl ?_ ?_
     ·go_simp
      (try simp only [i64_w])
      try rfl
     refine hK.out _ _ ⟨g9, v9, m12_, (puk ha 9 hb_ rfl rfl rfl), fun h0_ => absurd ((hon 13 (by kernel_rfl)).symm.trans h0_) (by decide), fun h0_ => absurd ((hon 13 (by kernel_rfl)).symm.trans h0_) (by decide), fun h0_ => absurd ((hon 13 (by kernel_rfl)).symm.trans h0_) (by decide), fun _ h1_ => absurd ((hon 13 (by kernel_rfl)).symm.trans h1_) (by decide), Q_S1, fun h0_ => hof (hoff 15 (by kernel_rfl)) h0_, Q_X12_⟩
    refine sc rfl ?_ ?_
    ·rintro b a w' ⟨g9, v9, m12_, ha, Q_B, Q_C, Q_R, Q_W2, Q_S1, Q_S2, Q_X12_⟩ hb_ hon hoff K hK
     have e93 := psn ha 9 rfl rfl (hon 14 (by kernel_rfl)) rfl
     have e92 := psn ha 8 rfl rfl (hon 13 (by kernel_rfl)) rfl
     replace ha := Am ha
     have S1 := Am (Q_S1 (hon 13 (by kernel_rfl)) hb_)
     obtain ⟨hR1, hC1, hO1⟩ := S1.out
     obtain ⟨A7, c7, hv9⟩ := Kd.R_slice hR1
     have hs := blk_cell hC1 12
     have hf := blk_frozen hC1 12
     refine skip_ (w1 := w'.setCell ⟨w.heap.size, 12, none⟩ v9) (by rfl) rfl (by generalize (xs ++ [(q : Int)]).length = zl at hv9; rw [hv9] at e92 ⊢; go_simp; try rfl) ?_
     refine hK.out _ _ ⟨g9, v9, m12_, (by rw [ha.out]; exact putSel_none (v := undef) rfl), fun h0_ => absurd ((hon 13 (by kernel_rfl)).symm.trans h0_) (by decide), fun h0_ => absurd ((hon 13 (by kernel_rfl)).symm.trans h0_) (by decide), fun h0_ => absurd ((hon 13 (by kernel_rfl)).symm.trans h0_) (by decide), fun _ h1_ => absurd ((hon 13 (by kernel_rfl)).symm.trans h1_) (by decide), fun _ h1_ => absurd ((up_self b 15).symm.trans h1_) (by decide), fun _ => ⟨R_only hR1 ((Only.refl (· = w.heap.size) w').setCell (fun _ => rfl) v9) (fun k hk _ e => by have := HGL2.out; omega), blk_put hC1 12 v9 rfl, hO1.setCell (fun _ => rfl) v9⟩, Q_X12_⟩
    exact steps_nil
   rintro b a w' hall ⟨g9, v9, m12_, ha, Q_B, Q_C, Q_R, Q_W2, Q_S1, Q_S2, Q_X12_⟩
   clear B C R
   have hb0_ := hall 0 (by kernel_rfl)
   have hb1_ := hall 1 (by kernel_rfl)
   have hb6_ := hall 6 (by kernel_rfl)
   have hb8_ := hall 8 (by kernel_rfl)
   have hb9_ := hall 9 (by kernel_rfl)
   have hb10_ := hall 10 (by kernel_rfl)
   have hb11_ := hall 11 (by kernel_rfl)
   have hb12_ := hall 12 (by kernel_rfl)
   have hb13_ := hall 13 (by kernel_rfl)
   have hb14_ := hall 14 (by kernel_rfl)
   have hb15_ := hall 15 (by kernel_rfl)
   subst ha
   obtain rfl := Q_X12_ hb12_
   simp only [putSel, hb0_, hb1_, hb6_, hb8_, hb9_, hb10_, hb11_, hb12_, hb13_, hb14_, hb15_, if_true, Act.put, List.setIfInBounds_toArray, List.set_cons_zero, List.set_cons_succ]
   clear Q_B
   clear Q_C
   clear Q_R
   clear Q_W2
   clear Q_S1
   have S2 := Am (Q_S2 hb15_)
   clear Q_S2
   clear hall hb0_ hb1_ hb6_ hb8_ hb9_ hb10_ hb11_ hb12_ hb13_ hb14_ hb15_
   obtain ⟨hR9, hC9, hO9⟩ := S2.out
   have HR9 := Lh hR9
   have HC9 := Lh hC9
   have HO9 := Lh hO9
   clear hR9 hC9 hO9 S2 HF HR HC HO HA1 HA3 HA4 HA5
   go_wp2
   go_roundw
   case rel => exact ⟨i + 1, xs ++ [(q : Int)], v9, by omega, by go_num, HR9, HE2, HC9, HO9⟩
   case measure => simp [intOf]; omega
  ·obtain rfl : i = nd := by omega
   have hE := HE.out
   rw [Nat.sub_self, dupsD, List.append_nil] at hE
   have HE2 := Lh hE
   have X : Bx w (#[.int .u8 3, .int .u8 0, .int .u32 t1, .int .u16 0, .int .u16 0, .int .u32 0, .int .u32 0, .int .u32 t2, .int .u16 0, .int .u16 0, vg, vn, .slice Av xs.length cv, .slice none 0 0, .slice none 0 0]) wr := ⟨HC.out, HO.out.blk HX.out.x1 (by omega), HX.out.x2.trans (HO.out.below HX.out.x2.size (fun k h => by omega)), Nat.le_trans HX.out.x3 HO.out.size⟩
   have HR9 := Lh (show readLists false 3 0 v = .ok ⟨3, 0, t1, 0, 0, 0, 0, t2, 0, 0, gapsD ng (v.drop 12), gapsD 0 (v.drop (12 + 4 * ng)), xs, [], []⟩ by unfold readLists; rw [HLD.out]; rw [HVV.out, ← HE2.out, ← HT1.out, ← HT2.out])
   have HO1 : (#[.int .u8 3, .int .u8 0, .int .u32 t1, .int .u16 0, .int .u16 0, .int .u32 0, .int .u32 0, .int .u32 t2, .int .u16 0, .int .u16 0, vg, vn, .slice Av xs.length cv, .slice none 0 0, .slice none 0 0] : Array Value).all (·.oneCell') = true := by
    simp [Value.oneCell'] at OV1 OV2 ⊢
    exact ⟨OV1, OV2⟩
   clear hE HE hvl hxl hvv0 HG HLD HVV OV1 OV2
   go_wp2_with (with_reducible refine gate_dst (N := 94) rfl ?_; go_must (refine wpList_ret_row 94 rfl rfl rfl (.tmp 2) (.tmp 4) rfl rfl rfl _ _ _ _ rfl rfl rfl X.x0 X.x1 rfl rfl HO1 ?_))
   refine ret_good rfl rfl rfl rfl X.x1 HR9.out rfl HO1 X.x2 (Nat.le_succ _) (k41_mkM _ _ _ _ ?_ ?_ ?_ (Kd.R_nil _ _ _ _ _) (Kd.R_nil _ _ _ _ _))
   ·exact Kd.R_lower (R_only (R_only RG.out HO.out (fun k hk _ h => by omega)) (setRow_only _ _ _) (fun k hk _ h => by omega)) (by omega)
   ·exact Kd.R_lower (R_only (R_only RN.out HO.out (fun k hk _ h => by omega)) (setRow_only _ _ _) (fun k hk _ h => by omega)) (by omega)
   ·exact Kd.R_lower (R_only HR.out (setRow_only _ _ _) (fun k hk _ h => by have := HX.out.x3; omega)) (by have := HX.out.x3; omega)
def rlsnrT20 : Bool × List (List Nat × List Nat) := (true, [([], []), ([0], [0]), ([], []), ([], []), ([], []), ([], []), ([4, 5], [4, 5]), ([], []), ([6, 7], [6, 7]), ([8], [8]), ([3, 9], [3, 9]), ([2, 10], [2, 10]), ([11], [11]), ([1, 12, 11], [1, 12]), ([0, 1, 2, 3, 4, 5, 6, 7, 8, 9, 10, 11, 12, 13], []), ([14, 13, 13, 0, 1, 2, 3, 4, 5, 6, 7, 8, 9, 10, 11, 12, 13], [13, 14])])
def rlsnrB20 : List Nat := [0, 1, 0, 0, 0, 0, 48, 0, 240, 496, 1016, 2044, 4092, 8191, 16383, 32767]
theorem rlsnrtab20 : Go.Proofs.YtdlamomabonkjaaDoorW.PrintLast.rtab .any (Go.Proofs.YtdlamomabonkjaaDoorW.PrintLast.opsOf Tryd.f94 20) = rlsnrT20 := by kernel_rfl
theorem rlsnrbits20 : Go.Proofs.YtdlamomabonkjaaDoorW.PrintLast.waitsOk rlsnrT20.2 rlsnrB20 = true := by kernel_rfl
set_option maxHeartbeats 4000000 in
theorem rlists_nr (w : World) (A : Option Addr) (c : Nat) (v : List UInt8) (hb : byte.C w A v.length v) (hc : v.length ≤ c) (hv : v.length ≤ 140737488355232) :
  Calls Tryd.prog 94 #[.agg (freshV 16 0), .slice A v.length c] w (RReadP w (readLists true 16 0 v)) := by
 have HG := Lh (fun (W : World) (h : Below w.heap.size w W) (at_ n : Nat) (z y : Int) (hz : z = (at_ : Int)) (hy : y = (n : Int)) (hn : n ≤ 4) (hh : at_ + n ≤ v.length) => get_calls W A v c (Kd.C_below hb h) hc (by omega) at_ n z y hz hy hn hh)
 have HBK := Lh (fun (W : World) (h : Below w.heap.size w W) (at_ n : Nat) (z y : Int) (hz : z = (at_ : Int)) (hy : y = (n : Int)) (hn : n ≤ 4096) (hh : at_ + 4 * n ≤ v.length) => blocks_calls W A v c (Kd.C_below hb h) hc (by omega) at_ n z y hz hy hn hh)
 have HO := fresh_one 16 0
 have X := Bx.new w (freshV 16 0)
 clear hb
 go_enter Tryd.func94, Tryd.ntmps94
 go_upto_region 1 with (fail)
 refine wp_gen (Bx w (freshV 16 0)) X ?_
 clear X
 intro W X
 have k0 : W.cell? ⟨w.heap.size, 0, none⟩ = some (.int .u8 16) := X.cell 0
 by_cases hlt : v.length < 16
 ·have HR := Lh (show readLists true 16 0 v = .error 61 by unfold readLists listsD; rw [if_pos (by simp; omega)])
  go_wp2_with (with_reducible refine gate_dst (N := 20) rfl ?_; go_must (refine wpList_ret_row 20 rfl rfl rfl (.tmp 2) (.tmp 4) rfl rfl rfl _ _ _ _ rfl rfl rfl X.x0 X.x1 rfl rfl HO ?_))
  exact ret_bad rfl rfl rfl rfl X.x1 HR.out rfl HO X.x2 (Nat.le_succ _)
 have hbg := be_two_lt (v.drop 8)
 have hbn := be_two_lt (v.drop 10)
 have hbd := be_two_lt (v.drop 12)
 go_wp2_with fail
 refine (HG.out _ X.x2 8 2 _ _ rfl rfl (by decide) (by omega)).mono ?_
 rintro e w1 ⟨rfl, ⟨m0, rfl⟩⟩
 go_wp2_with fail
 refine (HG.out _ (pw_below_drewN X.x2 _) 10 2 _ _ rfl rfl (by decide) (by omega)).mono ?_
 rintro e w1 ⟨rfl, ⟨m1, rfl⟩⟩
 go_wp2_with fail
 refine (HG.out _ (pw_below_drewN X.x2 _) 12 2 _ _ rfl rfl (by decide) (by omega)).mono ?_
 rintro e w1 ⟨rfl, ⟨m2, rfl⟩⟩
 go_upto_region 10 with (fail)
 have HLD := Lh (show listsD true v = _ from by unfold listsD; rw [if_neg (by simp; omega)])
 simp only [if_true, if_false, Bool.false_eq_true] at HLD
 obtain ⟨ng, hng⟩ : ∃ ng, be ((v.drop 8).take 2) = ng := ⟨_, rfl⟩
 obtain ⟨nd, hnd⟩ : ∃ nd, be ((v.drop 12).take 2) = nd := ⟨_, rfl⟩
 obtain ⟨nn, hnn⟩ : ∃ nn, be ((v.drop 10).take 2) = nn := ⟨_, rfl⟩
 rw [hnn] at HLD hbn ⊢
 clear hnn
 rw [hng] at HLD hbg ⊢
 rw [hnd] at HLD hbd ⊢
 clear hng hnd
 have hnot : ¬ (4096 < ng ∨ 4096 < nn ∨ 4096 < nd) → True := fun _ => trivial
 clear hnot
 by_cases hbig : 4096 < ng ∨ 4096 < nn ∨ 4096 < nd
 ·rw [if_pos hbig] at HLD
  have HR := Lh (show readLists true 16 0 v = .error 3 by unfold readLists; rw [HLD.out])
  have X := X.drewN (m0 + m1 + m2)
  go_wp2_with (with_reducible refine gate_dst (N := 42) rfl ?_; go_must (refine wpList_ret_row 42 rfl rfl rfl (.tmp 2) (.tmp 4) rfl rfl rfl _ _ _ _ rfl rfl rfl X.x0 X.x1 rfl rfl HO ?_))
  all_goals first | (exfalso; omega) | exact ret_bad rfl rfl rfl rfl X.x1 HR.out rfl HO X.x2 (Nat.le_succ _)
 rw [if_neg hbig] at HLD
 by_cases hlen : v.length ≠ 16 + 4 * (ng + nn + nd)
 ·rw [if_pos hlen] at HLD
  have HR := Lh (show readLists true 16 0 v = .error 61 by unfold readLists; rw [HLD.out])
  have q1 : decide ((4096 : Int) < (ng : Int)) = false := by simp; omega
  have q3 : decide ((4096 : Int) < (nd : Int)) = false := by simp; omega
  have HLN := Lh hlen
  have X := X.drewN (m0 + m1 + m2)
  go_wp2_with (with_reducible refine gate_dst (N := 54) rfl ?_; go_must (refine wpList_ret_row 54 rfl rfl rfl (.tmp 2) (.tmp 4) rfl rfl rfl _ _ _ _ rfl rfl rfl X.x0 X.x1 rfl rfl HO ?_))
  all_goals first | (exfalso; omega) | exact ret_bad rfl rfl rfl rfl X.x1 HR.out rfl HO X.x2 (Nat.le_succ _)
 rw [if_neg hlen] at HLD
 have hlen3 : v.length = 16 + 4 * (ng + nn + nd) := Decidable.byContradiction fun h => hlen h
 have HL3 := Lh hlen3
 have hg4 : ng ≤ 4096 := by omega
 have hd4 : nd ≤ 4096 := by omega
 have q4 : ((v.length : Int) != 16 + 4 * ((ng : Int) + (nn : Int) + (nd : Int))) = false := by simp; omega
 have hn4 : nn ≤ 4096 := by omega
 clear hlen hlen3 hbig hbg hbd hbn
 go_wp2_with fail
 refine (HG.out _ (pw_below_drewN X.x2 _) 0 4 _ _ rfl rfl (by decide) (by omega)).mono ?_
 rintro e w1 ⟨rfl, ⟨m8, rfl⟩⟩
 have k2 : W.cell? ⟨w.heap.size, 2, none⟩ = some (.int .u32 0) := X.cell 2
 have f2 := X.frozen 2
 have k7 : W.cell? ⟨w.heap.size, 7, none⟩ = some (.int .u32 0) := X.cell 7
 have f7 := X.frozen 7
 go_wp2_with fail
 refine (HG.out _ (pw_below_drewN X.x2 _) 4 4 _ _ rfl rfl (by decide) (by omega)).mono ?_
 rintro e w1 ⟨rfl, ⟨m9, rfl⟩⟩
 go_upto_region 15 with (fail)
 refine wp_gen (Bx w (#[.int .u8 16, .int .u8 0, .int .u32 ((be (v.take 4) : Nat) : Int), .int .u16 0, .int .u16 0, .int .u32 0, .int .u32 0, .int .u32 ((be ((v.drop 4).take 4) : Nat) : Int), .int .u16 0, .int .u16 0, .slice none 0 0, .slice none 0 0, .slice none 0 0, .slice none 0 0, .slice none 0 0])) (((X.drewN _).set 2 _).set 7 _) ?_
 clear X k2 k7 f2 f7 k0 HO W
 intro W X
 obtain ⟨t1, ht1⟩ : ∃ t1 : Int, ((be (v.take 4) : Nat) : Int) = t1 := ⟨_, rfl⟩
 obtain ⟨t2, ht2⟩ : ∃ t2 : Int, ((be ((v.drop 4).take 4) : Nat) : Int) = t2 := ⟨_, rfl⟩
 rw [ht1, ht2] at X
 have HT1 := Lh ht1
 have HT2 := Lh ht2
 clear ht1 ht2
 have HWZ := Lh X.x3
 go_wp2_with fail
 refine (HBK.out _ X.x2 16 ng _ _ rfl rfl hg4 (by have := HL3.out; omega)).mono ?_
 rintro e w1 ⟨vg, rfl, hG, hB⟩
 obtain ⟨Ag, cg, rfl⟩ := Kd.R_slice hG
 have Y := X.below hB
 replace hG := Kd.R_lower hG HWZ.out
 have k10 : w1.cell? ⟨w.heap.size, 10, none⟩ = some (.slice none 0 0) := Y.cell 10
 have f10 := Y.frozen 10
 clear X hB
 go_upto_region 16 with (fail)
 have OV1 : (Value.slice Ag (gapsD ng (v.drop 16)).length cg).oneCell' = true := rfl
 generalize Value.slice Ag (gapsD ng (v.drop 16)).length cg = vg at *
 refine wp_gen (fun W' => Bx w (#[.int .u8 16, .int .u8 0, .int .u32 t1, .int .u16 0, .int .u16 0, .int .u32 0, .int .u32 0, .int .u32 t2, .int .u16 0, .int .u16 0, vg, .slice none 0 0, .slice none 0 0, .slice none 0 0, .slice none 0 0]) W' ∧ Kd.R k117 117 W' (w.heap.size + 2) (fun _ => True) vg (gapsD ng (v.drop 16))) ⟨Y.set 10 _, R_only hG ((Only.refl (· = w.heap.size) _).setCell (fun _ => rfl) _) (fun k hk _ h => by omega)⟩ ?_
 clear Y hG k10 f10 HWZ W
 rintro W ⟨X, hG0⟩
 have RG := Lh hG0
 clear hG0
 have HWZ := Lh X.x3
 go_wp2_with fail
 refine (HBK.out _ X.x2 (16 + 4 * ng) nn _ _ (by omega) rfl hn4 (by have := HL3.out; omega)).mono ?_
 rintro e w2 ⟨vn, rfl, hN, hB⟩
 obtain ⟨An, cn, rfl⟩ := Kd.R_slice hN
 have Y := X.below hB
 replace hN := Kd.R_lower hN HWZ.out
 have hG := R_only RG.out (Only.of_below (S := fun _ => False) hB) (fun _ _ _ h => h)
 have k11 : w2.cell? ⟨w.heap.size, 11, none⟩ = some (.slice none 0 0) := Y.cell 11
 have f11 := Y.frozen 11
 clear X hB RG
 go_upto_region 17 with (fail)
 have OV2 : (Value.slice An (gapsD nn (v.drop (16 + 4 * ng))).length cn).oneCell' = true := rfl
 generalize Value.slice An (gapsD nn (v.drop (16 + 4 * ng))).length cn = vn at *
 refine wp_gen (fun W' => Bx w (#[.int .u8 16, .int .u8 0, .int .u32 t1, .int .u16 0, .int .u16 0, .int .u32 0, .int .u32 0, .int .u32 t2, .int .u16 0, .int .u16 0, vg, vn, .slice none 0 0, .slice none 0 0, .slice none 0 0]) W' ∧ Kd.R k117 117 W' (w.heap.size + 2) (fun _ => True) vg (gapsD ng (v.drop 16)) ∧ Kd.R k117 117 W' (w.heap.size + 2) (fun _ => True) vn (gapsD nn (v.drop (16 + 4 * ng)))) ⟨Y.set 11 _, R_only hG ((Only.refl (· = w.heap.size) _).setCell (fun _ => rfl) _) (fun k hk _ h => by omega), R_only hN ((Only.refl (· = w.heap.size) _).setCell (fun _ => rfl) _) (fun k hk _ h => by omega)⟩ ?_
 clear Y hG hN k11 f11 HWZ W
 rintro W0 ⟨X, hG, hN⟩
 have HX := Lh X
 have RG := Lh hG
 have RN := Lh hN
 clear X hG hN HBK
 obtain ⟨vv0, hvv0⟩ : ∃ vv0, v.drop (16 + 4 * (ng + nn)) = vv0 := ⟨_, rfl⟩
 have hvl : vv0.length = 4 * nd := by rw [← hvv0, List.length_drop]; have := HL3.out; omega
 have HVV := Lh hvv0
 have HGL2 := Lh (show w.heap.size < W0.heap.size by have := HX.out.x3; omega)
 go_wp2
 go_loopw [11] (fun v11 wr => ∃ (i : Nat) (xs : List Int) (vd : Value), i ≤ nd ∧ v11 = .int .i64 (i : Int) ∧ Hid ((Kd.int .u32).R 23 wr W0.heap.size (fun _ => True) vd xs) ∧ Hid (xs ++ dupsD (nd - i) (vv0.drop (4 * i)) = dupsD nd vv0) ∧ Hid (wr.heap[w.heap.size]? = some (.cells (#[.int .u8 16, .int .u8 0, .int .u32 t1, .int .u16 0, .int .u16 0, .int .u32 0, .int .u32 0, .int .u32 t2, .int .u16 0, .int .u16 0, vg, vn, vd, .slice none 0 0, .slice none 0 0]) 41 (0, 0))) ∧ Hid (Only (· = w.heap.size) W0 wr)) (fun v11 _ => nd - (intOf v11).toNat)
 case atStart => exact ⟨0, [], .slice none 0 0, Nat.zero_le _, rfl, Kd.R_nil _ _ _ _ _, rfl, HX.out.x0, Only.refl _ _⟩
 case round =>
  obtain ⟨i, xs, vd, hi, rfl, HR, HE, HC, HO⟩ := hrel
  obtain ⟨Av, cv, rfl⟩ := Kd.R_slice HR.out
  have hxl : xs.length ≤ 4096 := by
   have := congrArg List.length HE.out
   rw [List.length_append, dupsD_length, dupsD_length] at this
   omega
  have HXL := Lh hxl
  by_cases hlt2 : i < nd
  ·have hE := HE.out
   rw [show nd - i = (nd - (i + 1)) + 1 by omega, dupsD] at hE
   have e4 : (vv0.drop (4 * i)).drop 4 = vv0.drop (4 * (i + 1)) := by rw [List.drop_drop]; congr 1
   have hE2 : (xs ++ [(be ((vv0.drop (4 * i)).take 4) : Int)]) ++ dupsD (nd - (i + 1)) (vv0.drop (4 * (i + 1))) = dupsD nd vv0 := by rw [List.append_assoc, ← e4]; exact hE
   have e5 : v.drop (16 + 4 * ((ng + nn) + i)) = vv0.drop (4 * i) := by rw [← HVV.out, List.drop_drop]; congr 1; omega
   have HF := Lh (fun (W : World) (hO : Only (· = w.heap.size) W0 W) (z : Int) (hz : z = ((16 + 4 * ((ng + nn) + i) : Nat) : Int)) => HG.out W (HX.out.x2.trans (hO.below HX.out.x2.size (fun k h => by omega))) (16 + 4 * ((ng + nn) + i)) 4 z 4 hz rfl (by decide) (by have := HL3.out; omega))
   rw [e5] at HF
   generalize be ((vv0.drop (4 * i)).take 4) = q at *
   have HE2 := Lh hE2
   obtain ⟨s1, hs1⟩ : ∃ s1 : Int, wrap64 ((ng : Int) + (nn : Int)) = s1 := ⟨_, rfl⟩
   obtain ⟨s3, hs3⟩ : ∃ s3 : Int, wrap64 (s1 + (i : Int)) = s3 := ⟨_, rfl⟩
   obtain ⟨s4, hs4⟩ : ∃ s4 : Int, wrap64 (4 * s3) = s4 := ⟨_, rfl⟩
   obtain ⟨s5, hs5⟩ : ∃ s5 : Int, wrap64 (16 + s4) = s5 := ⟨_, rfl⟩
   have hs6 : s5 = ((16 + 4 * ((ng + nn) + i) : Nat) : Int) := by
    have r1 : s1 = (((ng + nn) : Nat) : Int) := by rw [← hs1]; unfold wrap64; omega
    have r3 : s3 = (((ng + nn) + i : Nat) : Int) := by rw [← hs3, r1]; unfold wrap64; omega
    have r4 : s4 = ((4 * ((ng + nn) + i) : Nat) : Int) := by rw [← hs4, r3]; unfold wrap64; omega
    rw [← hs5, r4]; unfold wrap64; omega
   replace HF := Lh (fun (W : World) (hO : Only (· = w.heap.size) W0 W) => HF.out W hO s5 hs6)
   have HA1 := Lh hs1
   have HA3 := Lh hs3
   have HA4 := Lh hs4
   have HA5 := Lh hs5
   clear hE hE2 e4 e5 HE hvl hxl hs1 hs3 hs4 hs5 hs6 HVV hvv0 HLD
   go_upto_region 20 with (fail)
   have B := True.intro
   have C := True.intro
   have R := True.intro
   refine start_ (n := 16) (S := fun w' => True) (ds := []) #[false, false, false, false, false, false, false, false, false, false, false, false, false, false, false, false] (by kernel_rfl) rfl rfl trivial (fun hHeld => ?_)
   refine with_tabW rlsnrtab20 rlsnrbits20 (fun HT_ HW_ => ?_)
   refine pu 2 81 ?_ rfl rfl (any_of HT_.out (by kernel_rfl)) (fun _ _ _ h => h) (by rfl) ?_ ?_ ?_ ?_
   rotate_left
   ·intro w'
    go_simp
    with_reducible rfl
   rotate_left
   ·simp only [sL]
    rfl
   refine pu 3 82 ?_ rfl rfl (any_of HT_.out (by kernel_rfl)) (fun _ _ _ h => h) (by rfl) ?_ ?_ ?_ ?_
   rotate_left
   ·intro w'
    go_simp
    with_reducible rfl
   rotate_left
   ·simp only [sL]
    rfl
   refine pu 4 83 ?_ rfl rfl (any_of HT_.out (by kernel_rfl)) (fun _ _ _ h => h) (by rfl) ?_ ?_ ?_ ?_
   rotate_left
   ·intro w'
    go_simp
    with_reducible rfl
   rotate_left
   ·simp only [sL]
    rfl
   refine pu 5 84 ?_ rfl rfl (any_of HT_.out (by kernel_rfl)) (fun _ _ _ h => h) (by rfl) ?_ ?_ ?_ ?_
   rotate_left
   ·intro w'
    go_simp
    with_reducible rfl
   rotate_left
   ·simp only [sL]
    rfl
   refine pu 7 86 ?_ rfl rfl (any_of HT_.out (by kernel_rfl)) (fun _ _ _ h => h) (by rfl) ?_ ?_ ?_ ?_
   rotate_left
   ·intro w'
    go_simp
    with_reducible rfl
   rotate_left
   ·simp only [sL]
    rfl
   refine inv_at [0, 1, 6, 8, 9, 10, 11, 12, 13, 14, 15] (fun a0_ b a w' => ∃ (g9 : Nat) (v9 : Value) (m12_ : Value), a = putSel a0_ b [(0, 79, .pointer (some ⟨w.heap.size, 12, none⟩)), (1, 80, .slice Av xs.length cv), (6, 85, .int .i64 s1), (8, 87, .int .i64 s3), (9, 88, .int .i64 s4), (10, 89, .int .i64 s5), (11, 90, .int .u32 (q : Int)), (12, 91, m12_), (13, 92, v9), (14, 93, .pointer (some ⟨w.heap.size, 12, none⟩))] ∧ (b 13 = false → Only (· = w.heap.size) W0 w') ∧ (b 13 = false → w'.heap[w.heap.size]? = some (.cells (#[.int .u8 16, .int .u8 0, .int .u32 t1, .int .u16 0, .int .u16 0, .int .u32 0, .int .u32 0, .int .u32 t2, .int .u16 0, .int .u16 0, vg, vn, .slice Av xs.length cv, .slice none 0 0, .slice none 0 0]) 41 (0, 0))) ∧ (b 13 = false → (Kd.int .u32).R 23 w' W0.heap.size (fun _ => True) (.slice Av xs.length cv) (xs)) ∧ (b 12 = true → b 13 = false → ∃ w2, w' = w2.alloc (.cells #[.int .u32 (q : Int)] 23) ∧ g9 = w2.heap.size ∧ Only (· = w.heap.size) W0 w2 ∧ w2.heap[w.heap.size]? = some (.cells (#[.int .u8 16, .int .u8 0, .int .u32 t1, .int .u16 0, .int .u16 0, .int .u32 0, .int .u32 0, .int .u32 t2, .int .u16 0, .int .u16 0, vg, vn, .slice Av xs.length cv, .slice none 0 0, .slice none 0 0]) 41 (0, 0)) ∧ (Kd.int .u32).R 23 w2 W0.heap.size (fun _ => True) (.slice Av xs.length cv) (xs)) ∧ (b 13 = true → b 15 = false → (Kd.int .u32).R 23 w' W0.heap.size (fun _ => True) (v9) (xs ++ [(q : Int)]) ∧ w'.heap[w.heap.size]? = some (.cells (#[.int .u8 16, .int .u8 0, .int .u32 t1, .int .u16 0, .int .u16 0, .int .u32 0, .int .u32 0, .int .u32 t2, .int .u16 0, .int .u16 0, vg, vn, .slice Av xs.length cv, .slice none 0 0, .slice none 0 0]) 41 (0, 0)) ∧ Only (· = w.heap.size) W0 w') ∧ (b 15 = true → (Kd.int .u32).R 23 w' W0.heap.size (fun _ => True) (v9) (xs ++ [(q : Int)]) ∧ w'.heap[w.heap.size]? = some (.cells (#[.int .u8 16, .int .u8 0, .int .u32 t1, .int .u16 0, .int .u16 0, .int .u32 0, .int .u32 0, .int .u32 t2, .int .u16 0, .int .u16 0, vg, vn, v9, .slice none 0 0, .slice none 0 0]) 41 (0, 0)) ∧ Only (· = w.heap.size) W0 w') ∧ (b 12 = true → (m12_ : Value) = .slice (some ⟨g9, 0, none⟩) 1 1)) HT_.out HW_.out (by kernel_rfl) (by kernel_rfl) ?_ ?_ ?_
   ·exact ⟨0, undef, .bool false, by simp only [putSel, Bool.false_eq_true, if_false], fun _ => HO.out.drew, fun _ => HC.out, fun _ => HR.out, fun h_ => absurd h_ (by decide), fun h_ => absurd h_ (by decide), fun h_ => absurd h_ (by decide), fun h_ => absurd h_ (by decide)⟩
   ·skip
    clear B C R
    refine sc rfl ?_ ?_
    ·rintro b a w' ⟨g9, v9, m12_, ha, Q_B, Q_C, Q_R, Q_W2, Q_S1, Q_S2, Q_X12_⟩ hb_ hon hoff K hK
     have e2 : a.tmps[2]? = some (.pointer (some ⟨w.heap.size, 0, none⟩)) := by rw [ha]; exact (putSel_off rfl).trans rfl
     replace ha := Am ha
     refine value_ (w1 := w') (v := .pointer (some ⟨w.heap.size, 12, none⟩)) (by rfl) rfl ?_ ?_
     ·go_simp
      (try simp only [i64_w])
      try rfl
     refine hK.out _ _ ⟨g9, v9, m12_, (puk ha 0 hb_ rfl rfl rfl), Q_B, Q_C, Q_R, Q_W2, fun h0_ _ => hof (hoff 13 (by kernel_rfl)) h0_, fun h0_ => hof (hoff 15 (by kernel_rfl)) h0_, Q_X12_⟩
    refine sc rfl ?_ ?_
    ·rintro b a w' ⟨g9, v9, m12_, ha, Q_B, Q_C, Q_R, Q_W2, Q_S1, Q_S2, Q_X12_⟩ hb_ hon hoff K hK
     have e79 := psn ha 0 rfl rfl (hon 0 (by kernel_rfl)) rfl
     replace ha := Am ha
     have C := Am (Q_C (hoff 13 (by kernel_rfl)))
     have hs := blk_cell C.out 12
     refine value_ (w1 := w') (v := .slice Av xs.length cv) (by rfl) rfl ?_ ?_
     ·go_simp
      (try simp only [i64_w])
      try rfl
     refine hK.out _ _ ⟨g9, v9, m12_, (puk ha 1 hb_ rfl rfl rfl), Q_B, Q_C, Q_R, Q_W2, fun h0_ _ => hof (hoff 13 (by kernel_rfl)) h0_, fun h0_ => hof (hoff 15 (by kernel_rfl)) h0_, Q_X12_⟩
    refine sc rfl ?_ ?_
    ·rintro b a w' ⟨g9, v9, m12_, ha, Q_B, Q_C, Q_R, Q_W2, Q_S1, Q_S2, Q_X12_⟩ hb_ hon hoff K hK
     have e83 : a.tmps[83]? = some (.int .i64 (ng : Int)) := by rw [ha]; exact (putSel_off rfl).trans rfl
     have e84 : a.tmps[84]? = some (.int .i64 (nn : Int)) := by rw [ha]; exact (putSel_off rfl).trans rfl
     replace ha := Am ha
     have B := Am (Q_B (hoff 13 (by kernel_rfl)))
     have C := Am (Q_C (hoff 13 (by kernel_rfl)))
     have R := Am (Q_R (hoff 13 (by kernel_rfl)))
     have hs := HA1.out
     refine value_ (w1 := w') (v := .int .i64 s1) (by rfl) rfl (by go_simp; simp only [i64_w]; exact hs) ?_
     refine hK.out _ _ ⟨g9, v9, m12_, (puk ha 2 hb_ rfl rfl rfl), fun _ => B.out, fun _ => C.out, fun _ => R.out, fun h0_ _ => hof (hoff 12 (by kernel_rfl)) h0_, fun h0_ _ => hof (hoff 13 (by kernel_rfl)) h0_, fun h0_ => hof (hoff 15 (by kernel_rfl)) h0_, fun h0_ => hof (hoff 12 (by kernel_rfl)) h0_⟩
    refine sc rfl ?_ ?_
    ·rintro b a w' ⟨g9, v9, m12_, ha, Q_B, Q_C, Q_R, Q_W2, Q_S1, Q_S2, Q_X12_⟩ hb_ hon hoff K hK
     have e85 := psn ha 2 rfl rfl (hon 6 (by kernel_rfl)) rfl
     have e86 : a.tmps[86]? = some (.int .i64 (i : Int)) := by rw [ha]; exact (putSel_off rfl).trans rfl
     replace ha := Am ha
     have B := Am (Q_B (hoff 13 (by kernel_rfl)))
     have C := Am (Q_C (hoff 13 (by kernel_rfl)))
     have R := Am (Q_R (hoff 13 (by kernel_rfl)))
     have hs := HA3.out
     refine value_ (w1 := w') (v := .int .i64 s3) (by rfl) rfl (by go_simp; simp only [i64_w]; exact hs) ?_
     refine hK.out _ _ ⟨g9, v9, m12_, (puk ha 3 hb_ rfl rfl rfl), fun _ => B.out, fun _ => C.out, fun _ => R.out, fun h0_ _ => hof (hoff 12 (by kernel_rfl)) h0_, fun h0_ _ => hof (hoff 13 (by kernel_rfl)) h0_, fun h0_ => hof (hoff 15 (by kernel_rfl)) h0_, fun h0_ => hof (hoff 12 (by kernel_rfl)) h0_⟩
    refine sc rfl ?_ ?_
    ·rintro b a w' ⟨g9, v9, m12_, ha, Q_B, Q_C, Q_R, Q_W2, Q_S1, Q_S2, Q_X12_⟩ hb_ hon hoff K hK
     have e87 := psn ha 3 rfl rfl (hon 8 (by kernel_rfl)) rfl
     replace ha := Am ha
     have B := Am (Q_B (hoff 13 (by kernel_rfl)))
     have C := Am (Q_C (hoff 13 (by kernel_rfl)))
     have R := Am (Q_R (hoff 13 (by kernel_rfl)))
     have hs := HA4.out
     refine value_ (w1 := w') (v := .int .i64 s4) (by rfl) rfl (by go_simp; simp only [i64_w]; exact hs) ?_
     refine hK.out _ _ ⟨g9, v9, m12_, (puk ha 4 hb_ rfl rfl rfl), fun _ => B.out, fun _ => C.out, fun _ => R.out, fun h0_ _ => hof (hoff 12 (by kernel_rfl)) h0_, fun h0_ _ => hof (hoff 13 (by kernel_rfl)) h0_, fun h0_ => hof (hoff 15 (by kernel_rfl)) h0_, fun h0_ => hof (hoff 12 (by kernel_rfl)) h0_⟩
    refine sc rfl ?_ ?_
    ·rintro b a w' ⟨g9, v9, m12_, ha, Q_B, Q_C, Q_R, Q_W2, Q_S1, Q_S2, Q_X12_⟩ hb_ hon hoff K hK
     have e82 : a.tmps[82]? = some (.int .i64 16) := by rw [ha]; exact (putSel_off rfl).trans rfl
     have e88 := psn ha 4 rfl rfl (hon 9 (by kernel_rfl)) rfl
     replace ha := Am ha
     have B := Am (Q_B (hoff 13 (by kernel_rfl)))
     have C := Am (Q_C (hoff 13 (by kernel_rfl)))
     have R := Am (Q_R (hoff 13 (by kernel_rfl)))
     have hs := HA5.out
     refine value_ (w1 := w') (v := .int .i64 s5) (by rfl) rfl (by go_simp; simp only [i64_w]; exact hs) ?_
     refine hK.out _ _ ⟨g9, v9, m12_, (puk ha 5 hb_ rfl rfl rfl), fun _ => B.out, fun _ => C.out, fun _ => R.out, fun h0_ _ => hof (hoff 12 (by kernel_rfl)) h0_, fun h0_ _ => hof (hoff 13 (by kernel_rfl)) h0_, fun h0_ => hof (hoff 15 (by kernel_rfl)) h0_, fun h0_ => hof (hoff 12 (by kernel_rfl)) h0_⟩
    refine sc rfl ?_ ?_
    ·rintro b a w' ⟨g9, v9, m12_, ha, Q_B, Q_C, Q_R, Q_W2, Q_S1, Q_S2, Q_X12_⟩ hb_ hon hoff K hK
     have e81 : a.tmps[81]? = some (.slice A v.length c) := by rw [ha]; exact (putSel_off rfl).trans rfl
     have e89 := psn ha 5 rfl rfl (hon 10 (by kernel_rfl)) rfl
     replace ha := Am ha
     have B := Am (Q_B (hoff 13 (by kernel_rfl)))
     have C := Am (Q_C (hoff 13 (by kernel_rfl)))
     have R := Am (Q_R (hoff 13 (by kernel_rfl)))
     refine goes_ Tryd.func86 (by kernel_rfl) rfl #[.slice A v.length c, .int .i64 s5, .int .i64 4] (by rfl) rfl rfl (by first | (simp only [List.map_toArray, List.map_cons, List.map_nil, Act.eval, Array.getD_eq_getD_getElem?, Option.getD_some, e81, e89]; done) | (simp only [List.map_toArray, List.map_cons, List.map_nil, Act.eval, Array.getD_eq_getD_getElem?, Option.getD_some, e81, e89]; rfl)) ?_
     refine (HF.out w' B.out).mono ?_
     rintro e w1 ⟨rfl, hD1⟩
     refine ⟨_, rfl, ?_⟩
     refine hK.out _ _ ⟨g9, v9, m12_, (puk ha 6 hb_ rfl rfl rfl), fun _ => B.out.trans (Only.of_below (S := fun _ => False) (drawn_below hD1)) (fun _ _ h => h.elim), fun _ => blk_below C.out (drawn_below hD1), fun _ => R_only R.out (Only.of_below (S := fun _ => False) (drawn_below hD1)) (fun _ _ _ h => h), fun h0_ _ => hof (hoff 12 (by kernel_rfl)) h0_, fun h0_ _ => hof (hoff 13 (by kernel_rfl)) h0_, fun h0_ => hof (hoff 15 (by kernel_rfl)) h0_, fun h0_ => hof (hoff 12 (by kernel_rfl)) h0_⟩
    refine sc rfl ?_ ?_
    ·rintro b a w' ⟨g9, v9, m12_, ha, Q_B, Q_C, Q_R, Q_W2, Q_S1, Q_S2, Q_X12_⟩ hb_ hon hoff K hK
     have e90 := psn ha 6 rfl rfl (hon 11 (by kernel_rfl)) rfl
     replace ha := Am ha
     have B := Am (Q_B (hoff 13 (by kernel_rfl)))
     have C := Am (Q_C (hoff 13 (by kernel_rfl)))
     have R := Am (Q_R (hoff 13 (by kernel_rfl)))
     refine value_ (w1 := w'.alloc (.cells #[.int .u32 (q : Int)] 23)) (v := .slice (some ⟨w'.heap.size, 0, none⟩) 1 1) (by rfl) rfl (by go_simp; try rfl) ?_
     refine hK.out _ _ ⟨w'.heap.size, v9, (.slice (some ⟨w'.heap.size, 0, none⟩) 1 1), (puk ha 7 hb_ rfl rfl rfl), fun _ => B.out.alloc _, fun _ => blk_alloc C.out _, fun _ => Kd.R_alloc R.out _, fun _ _ => ⟨w', rfl, rfl, B.out, C.out, R.out⟩, fun h0_ _ => hof (hoff 13 (by kernel_rfl)) h0_, fun h0_ => hof (hoff 15 (by kernel_rfl)) h0_, fun _ => rfl⟩
    refine sc rfl ?_ ?_
    ·rintro b a w' ⟨g9, v9, m12_, ha, Q_B, Q_C, Q_R, Q_W2, Q_S1, Q_S2, Q_X12_⟩ hb_ hon hoff K hK
     have e80 := psn ha 1 rfl rfl (hon 1 (by kernel_rfl)) rfl
     have e91 := psn ha 7 rfl rfl (hon 12 (by kernel_rfl)) rfl
     rw [Q_X12_ (hon 12 (by kernel_rfl))] at e91
     replace ha := Am ha
     have W2 := Am (Q_W2 (hon 12 (by kernel_rfl)) hb_)
     obtain ⟨w2, rfl, hg9, hB2, hC2, hR2⟩ := W2.out
     rw [hg9] at e91
     refine Kd.R_append_step (Kd.int .u32) (w0 := w2) (W := w2) W0.heap.size (by rfl) _ _ 38 23 _ 4 rfl Tryd.underlying38 info23 rfl (by decide) (by decide) (.slice Av xs.length cv) xs (q : Int) [.int .u32 (q : Int)] (fun _ => True) (fun _ => False) (by simp [Act.eval, Array.getD_eq_getD_getElem?, e80]) (by simp [Act.eval, Array.getD_eq_getD_getElem?, e91]) rfl (fun _ h => h.elim) (fun _ _ => trivial) hR2 (Below.refl _ _) hB2.size (by have := HXL.out; omega) ?_
     intro v1 w1 hR1 hB1 hG1 hat1
     have hC3 := (hB1.block w.heap.size HGL2.out).trans hC2
     have hO3 := only_then3 hB2 hB1
     refine hK.out _ _ ⟨g9, v1, m12_, (puk ha 8 hb_ rfl rfl rfl), fun h0_ => absurd ((up_self b 13).symm.trans h0_) (by decide), fun h0_ => absurd ((up_self b 13).symm.trans h0_) (by decide), fun h0_ => absurd ((up_self b 13).symm.trans h0_) (by decide), fun _ h1_ => absurd ((up_self b 13).symm.trans h1_) (by decide), fun _ _ => ⟨hR1, hC3, hO3⟩, fun h0_ => hof (hoff 15 (by kernel_rfl)) h0_, Q_X12_⟩
    refine sc rfl ?_ ?_
    ·rintro b a w' ⟨g9, v9, m12_, ha, Q_B, Q_C, Q_R, Q_W2, Q_S1, Q_S2, Q_X12_⟩ hb_ hon hoff K hK
     have e2 : a.tmps[2]? = some (.pointer (some ⟨w.heap.size, 0, none⟩)) := by rw [ha]; exact (putSel_off rfl).trans rfl
     replace ha := Am ha
     refine value_ (w1 := w') (v := .pointer (some ⟨w.heap.size, 12, none⟩)) (by rfl) rfl ?_ ?_
     ·go_simp
      (try simp only [i64_w])
      try rfl
     refine hK.out _ _ ⟨g9, v9, m12_, (puk ha 9 hb_ rfl rfl rfl), fun h0_ => absurd ((hon 13 (by kernel_rfl)).symm.trans h0_) (by decide), fun h0_ => absurd ((hon 13 (by kernel_rfl)).symm.trans h0_) (by decide), fun h0_ => absurd ((hon 13 (by kernel_rfl)).symm.trans h0_) (by decide), fun _ h1_ => absurd ((hon 13 (by kernel_rfl)).symm.trans h1_) (by decide), Q_S1, fun h0_ => hof (hoff 15 (by kernel_rfl)) h0_, Q_X12_⟩
    refine sc rfl ?_ ?_
    ·rintro b a w' ⟨g9, v9, m12_, ha, Q_B, Q_C, Q_R, Q_W2, Q_S1, Q_S2, Q_X12_⟩ hb_ hon hoff K hK
     have e93 := psn ha 9 rfl rfl (hon 14 (by kernel_rfl)) rfl
     have e92 := psn ha 8 rfl rfl (hon 13 (by kernel_rfl)) rfl
     replace ha := Am ha
     have S1 := Am (Q_S1 (hon 13 (by kernel_rfl)) hb_)
     obtain ⟨hR1, hC1, hO1⟩ := S1.out
     obtain ⟨A7, c7, hv9⟩ := Kd.R_slice hR1
     have hs := blk_cell hC1 12
     have hf := blk_frozen hC1 12
     refine skip_ (w1 := w'.setCell ⟨w.heap.size, 12, none⟩ v9) (by rfl) rfl (by generalize (xs ++ [(q : Int)]).length = zl at hv9; rw [hv9] at e92 ⊢; go_simp; try rfl) ?_
     refine hK.out _ _ ⟨g9, v9, m12_, (by rw [ha.out]; exact putSel_none (v := undef) rfl), fun h0_ => absurd ((hon 13 (by kernel_rfl)).symm.trans h0_) (by decide), fun h0_ => absurd ((hon 13 (by kernel_rfl)).symm.trans h0_) (by decide), fun h0_ => absurd ((hon 13 (by kernel_rfl)).symm.trans h0_) (by decide), fun _ h1_ => absurd ((hon 13 (by kernel_rfl)).symm.trans h1_) (by decide), fun _ h1_ => absurd ((up_self b 15).symm.trans h1_) (by decide), fun _ => ⟨R_only hR1 ((Only.refl (· = w.heap.size) w').setCell (fun _ => rfl) v9) (fun k hk _ e => by have := HGL2.out; omega), blk_put hC1 12 v9 rfl, hO1.setCell (fun _ => rfl) v9⟩, Q_X12_⟩
    exact steps_nil
   rintro b a w' hall ⟨g9, v9, m12_, ha, Q_B, Q_C, Q_R, Q_W2, Q_S1, Q_S2, Q_X12_⟩
   clear B C R
   have hb0_ := hall 0 (by kernel_rfl)
   have hb1_ := hall 1 (by kernel_rfl)
   have hb6_ := hall 6 (by kernel_rfl)
   have hb8_ := hall 8 (by kernel_rfl)
   have hb9_ := hall 9 (by kernel_rfl)
   have hb10_ := hall 10 (by kernel_rfl)
   have hb11_ := hall 11 (by kernel_rfl)
   have hb12_ := hall 12 (by kernel_rfl)
   have hb13_ := hall 13 (by kernel_rfl)
   have hb14_ := hall 14 (by kernel_rfl)
   have hb15_ := hall 15 (by kernel_rfl)
   subst ha
   obtain rfl := Q_X12_ hb12_
   simp only [putSel, hb0_, hb1_, hb6_, hb8_, hb9_, hb10_, hb11_, hb12_, hb13_, hb14_, hb15_, if_true, Act.put, List.setIfInBounds_toArray, List.set_cons_zero, List.set_cons_succ]
   clear Q_B
   clear Q_C
   clear Q_R
   clear Q_W2
   clear Q_S1
   have S2 := Am (Q_S2 hb15_)
   clear Q_S2
   clear hall hb0_ hb1_ hb6_ hb8_ hb9_ hb10_ hb11_ hb12_ hb13_ hb14_ hb15_
   obtain ⟨hR9, hC9, hO9⟩ := S2.out
   have HR9 := Lh hR9
   have HC9 := Lh hC9
   have HO9 := Lh hO9
   clear hR9 hC9 hO9 S2 HF HR HC HO HA1 HA3 HA4 HA5
   go_wp2
   go_roundw
   case rel => exact ⟨i + 1, xs ++ [(q : Int)], v9, by omega, by go_num, HR9, HE2, HC9, HO9⟩
   case measure => simp [intOf]; omega
  ·obtain rfl : i = nd := by omega
   have hE := HE.out
   rw [Nat.sub_self, dupsD, List.append_nil] at hE
   have HE2 := Lh hE
   have X : Bx w (#[.int .u8 16, .int .u8 0, .int .u32 t1, .int .u16 0, .int .u16 0, .int .u32 0, .int .u32 0, .int .u32 t2, .int .u16 0, .int .u16 0, vg, vn, .slice Av xs.length cv, .slice none 0 0, .slice none 0 0]) wr := ⟨HC.out, HO.out.blk HX.out.x1 (by omega), HX.out.x2.trans (HO.out.below HX.out.x2.size (fun k h => by omega)), Nat.le_trans HX.out.x3 HO.out.size⟩
   have HR9 := Lh (show readLists true 16 0 v = .ok ⟨16, 0, t1, 0, 0, 0, 0, t2, 0, 0, gapsD ng (v.drop 16), gapsD nn (v.drop (16 + 4 * ng)), xs, [], []⟩ by unfold readLists; rw [HLD.out]; rw [HVV.out, ← HE2.out, ← HT1.out, ← HT2.out])
   have HO1 : (#[.int .u8 16, .int .u8 0, .int .u32 t1, .int .u16 0, .int .u16 0, .int .u32 0, .int .u32 0, .int .u32 t2, .int .u16 0, .int .u16 0, vg, vn, .slice Av xs.length cv, .slice none 0 0, .slice none 0 0] : Array Value).all (·.oneCell') = true := by
    simp [Value.oneCell'] at OV1 OV2 ⊢
    exact ⟨OV1, OV2⟩
   clear hE HE hvl hxl hvv0 HG HLD HVV OV1 OV2
   go_wp2_with (with_reducible refine gate_dst (N := 94) rfl ?_; go_must (refine wpList_ret_row 94 rfl rfl rfl (.tmp 2) (.tmp 4) rfl rfl rfl _ _ _ _ rfl rfl rfl X.x0 X.x1 rfl rfl HO1 ?_))
   refine ret_good rfl rfl rfl rfl X.x1 HR9.out rfl HO1 X.x2 (Nat.le_succ _) (k41_mkM _ _ _ _ ?_ ?_ ?_ (Kd.R_nil _ _ _ _ _) (Kd.R_nil _ _ _ _ _))
   ·exact Kd.R_lower (R_only (R_only RG.out HO.out (fun k hk _ h => by omega)) (setRow_only _ _ _) (fun k hk _ h => by omega)) (by omega)
   ·exact Kd.R_lower (R_only (R_only RN.out HO.out (fun k hk _ h => by omega)) (setRow_only _ _ _) (fun k hk _ h => by omega)) (by omega)
   ·exact Kd.R_lower (R_only HR.out (setRow_only _ _ _) (fun k hk _ h => by have := HX.out.x3; omega)) (by have := HX.out.x3; omega)
end Go.Proofs.YtdlamomabonkjaaDoor.Ch
end
section
namespace Go.Proofs.YtdlamomabonkjaaDoor.Ch
open Go.RowKit YtdlamomabonkjaaDoorW.PrintWords YtdlamomabonkjaaDoorW.PrintLast Base PCh ParDec
def rbareT5 : Bool × List (List Nat × List Nat) := (true, [([], []), ([0], [0]), ([1], [1]), ([], []), ([3], [3]), ([], []), ([5], [5]), ([], []), ([7], [7]), ([], []), ([9], [9]), ([], []), ([11], [11]), ([0, 1, 2], []), ([13, 2, 0, 1, 2], [2, 13]), ([0, 1, 2, 3, 4, 13, 14], []), ([15, 4, 14, 0, 1, 2, 3, 4, 13, 14], [4, 15]), ([0, 1, 2, 3, 4, 5, 6, 13, 14, 15, 16], []), ([17, 6, 16, 0, 1, 2, 3, 4, 5, 6, 13, 14, 15, 16], [6, 17]), ([0, 1, 2, 3, 4, 5, 6, 7, 8, 13, 14, 15, 16, 17, 18], []), ([19, 8, 18, 0, 1, 2, 3, 4, 5, 6, 7, 8, 13, 14, 15, 16, 17, 18], [8, 19]), ([0, 1, 2, 3, 4, 5, 6, 7, 8, 9, 10, 13, 14, 15, 16, 17, 18, 19, 20], []), ([21, 10, 20, 0, 1, 2, 3, 4, 5, 6, 7, 8, 9, 10, 13, 14, 15, 16, 17, 18, 19, 20], [10, 21]), ([0, 1, 2, 3, 4, 5, 6, 7, 8, 9, 10, 11, 12, 13, 14, 15, 16, 17, 18, 19, 20, 21, 22], []), ([23, 12, 22, 0, 1, 2, 3, 4, 5, 6, 7, 8, 9, 10, 11, 12, 13, 14, 15, 16, 17, 18, 19, 20, 21, 22], [12, 23])])
def rbareB5 : List Nat := [0, 1, 3, 0, 8, 0, 32, 0, 128, 0, 512, 0, 2048, 7, 8199, 24607, 57375, 123007, 254079, 516607, 1040895, 2091007, 4188159, 8388607, 16777215]
theorem rbaretab5 : Go.Proofs.YtdlamomabonkjaaDoorW.PrintLast.rtab .any (Go.Proofs.YtdlamomabonkjaaDoorW.PrintLast.opsOf Tryd.f33 5) = rbareT5 := by kernel_rfl
theorem rbarebits5 : Go.Proofs.YtdlamomabonkjaaDoorW.PrintLast.waitsOk rbareT5.2 rbareB5 = true := by kernel_rfl
def rbareT8 : Bool × List (List Nat × List Nat) := (true, [([], []), ([0], [0]), ([], []), ([2], [2]), ([], []), ([4], [4]), ([], []), ([6], [6]), ([], []), ([8], [8]), ([], []), ([10], [10]), ([0, 1], []), ([12, 1, 0, 1], [1, 12]), ([0, 1, 2, 3, 12, 13], []), ([14, 3, 13, 0, 1, 2, 3, 12, 13], [3, 14]), ([0, 1, 2, 3, 4, 5, 12, 13, 14, 15], []), ([16, 5, 15, 0, 1, 2, 3, 4, 5, 12, 13, 14, 15], [5, 16]), ([0, 1, 2, 3, 4, 5, 6, 7, 12, 13, 14, 15, 16, 17], []), ([18, 7, 17, 0, 1, 2, 3, 4, 5, 6, 7, 12, 13, 14, 15, 16, 17], [7, 18]), ([0, 1, 2, 3, 4, 5, 6, 7, 8, 9, 12, 13, 14, 15, 16, 17, 18, 19], []), ([20, 9, 19, 0, 1, 2, 3, 4, 5, 6, 7, 8, 9, 12, 13, 14, 15, 16, 17, 18, 19], [9, 20]), ([0, 1, 2, 3, 4, 5, 6, 7, 8, 9, 10, 11, 12, 13, 14, 15, 16, 17, 18, 19, 20, 21], []), ([22, 11, 21, 0, 1, 2, 3, 4, 5, 6, 7, 8, 9, 10, 11, 12, 13, 14, 15, 16, 17, 18, 19, 20, 21], [11, 22])])
def rbareB8 : List Nat := [0, 1, 0, 4, 0, 16, 0, 64, 0, 256, 0, 1024, 3, 4099, 12303, 28687, 61503, 127039, 258303, 520447, 1045503, 2094079, 4194303, 8388607]
theorem rbaretab8 : Go.Proofs.YtdlamomabonkjaaDoorW.PrintLast.rtab .any (Go.Proofs.YtdlamomabonkjaaDoorW.PrintLast.opsOf Tryd.f33 8) = rbareT8 := by kernel_rfl
theorem rbarebits8 : Go.Proofs.YtdlamomabonkjaaDoorW.PrintLast.waitsOk rbareT8.2 rbareB8 = true := by kernel_rfl
def rbareT10 : Bool × List (List Nat × List Nat) := (true, [([], []), ([0], [0]), ([], []), ([2], [2]), ([], []), ([4], [4]), ([], []), ([6], [6]), ([0, 1], []), ([8, 1, 0, 1], [1, 8]), ([0, 1, 2, 3, 8, 9], []), ([10, 3, 9, 0, 1, 2, 3, 8, 9], [3, 10]), ([0, 1, 2, 3, 4, 5, 8, 9, 10, 11], []), ([12, 5, 11, 0, 1, 2, 3, 4, 5, 8, 9, 10, 11], [5, 12]), ([0, 1, 2, 3, 4, 5, 6, 7, 8, 9, 10, 11, 12, 13], []), ([14, 7, 13, 0, 1, 2, 3, 4, 5, 6, 7, 8, 9, 10, 11, 12, 13], [7, 14])])
def rbareB10 : List Nat := [0, 1, 0, 4, 0, 16, 0, 64, 3, 259, 783, 1807, 3903, 7999, 16383, 32767]
theorem rbaretab10 : Go.Proofs.YtdlamomabonkjaaDoorW.PrintLast.rtab .any (Go.Proofs.YtdlamomabonkjaaDoorW.PrintLast.opsOf Tryd.f33 10) = rbareT10 := by kernel_rfl
theorem rbarebits10 : Go.Proofs.YtdlamomabonkjaaDoorW.PrintLast.waitsOk rbareT10.2 rbareB10 = true := by kernel_rfl
def rbareT12 : Bool × List (List Nat × List Nat) := (true, [([], []), ([0], [0]), ([], []), ([2], [2]), ([], []), ([4], [4]), ([], []), ([6], [6]), ([], []), ([8], [8]), ([0, 1], []), ([10, 1, 0, 1], [1, 10]), ([0, 1, 2, 3, 10, 11], []), ([12, 3, 11, 0, 1, 2, 3, 10, 11], [3, 12]), ([0, 1, 2, 3, 4, 5, 10, 11, 12, 13], []), ([14, 5, 13, 0, 1, 2, 3, 4, 5, 10, 11, 12, 13], [5, 14]), ([0, 1, 2, 3, 4, 5, 6, 7, 10, 11, 12, 13, 14, 15], []), ([16, 7, 15, 0, 1, 2, 3, 4, 5, 6, 7, 10, 11, 12, 13, 14, 15], [7, 16]), ([0, 1, 2, 3, 4, 5, 6, 7, 8, 9, 10, 11, 12, 13, 14, 15, 16, 17], []), ([18, 9, 17, 0, 1, 2, 3, 4, 5, 6, 7, 8, 9, 10, 11, 12, 13, 14, 15, 16, 17], [9, 18])])
def rbareB12 : List Nat := [0, 1, 0, 4, 0, 16, 0, 64, 0, 256, 3, 1027, 3087, 7183, 15423, 31807, 64767, 130303, 262143, 524287]
theorem rbaretab12 : Go.Proofs.YtdlamomabonkjaaDoorW.PrintLast.rtab .any (Go.Proofs.YtdlamomabonkjaaDoorW.PrintLast.opsOf Tryd.f33 12) = rbareT12 := by kernel_rfl
theorem rbarebits12 : Go.Proofs.YtdlamomabonkjaaDoorW.PrintLast.waitsOk rbareT12.2 rbareB12 = true := by kernel_rfl
def rbareT18 : Bool × List (List Nat × List Nat) := (true, [([], []), ([0], [0]), ([1], [1]), ([], []), ([3], [3]), ([0, 1, 2], []), ([5, 2, 0, 1, 2], [2, 5]), ([0, 1, 2, 3, 4, 5, 6], []), ([7, 4, 6, 0, 1, 2, 3, 4, 5, 6], [4, 7])])
def rbareB18 : List Nat := [0, 1, 3, 0, 8, 7, 39, 127, 255]
theorem rbaretab18 : Go.Proofs.YtdlamomabonkjaaDoorW.PrintLast.rtab .any (Go.Proofs.YtdlamomabonkjaaDoorW.PrintLast.opsOf Tryd.f33 18) = rbareT18 := by kernel_rfl
theorem rbarebits18 : Go.Proofs.YtdlamomabonkjaaDoorW.PrintLast.waitsOk rbareT18.2 rbareB18 = true := by kernel_rfl
def rbareT3 : Bool × List (List Nat × List Nat) := (true, [([], []), ([0], [0]), ([], []), ([2], [2]), ([0, 1], []), ([4, 1, 0, 1], [1, 4]), ([0, 1, 2, 3, 4, 5], []), ([6, 3, 5, 0, 1, 2, 3, 4, 5], [3, 6])])
def rbareB3 : List Nat := [0, 1, 0, 4, 3, 19, 63, 127]
theorem rbaretab3 : Go.Proofs.YtdlamomabonkjaaDoorW.PrintLast.rtab .any (Go.Proofs.YtdlamomabonkjaaDoorW.PrintLast.opsOf Tryd.f33 3) = rbareT3 := by kernel_rfl
theorem rbarebits3 : Go.Proofs.YtdlamomabonkjaaDoorW.PrintLast.waitsOk rbareT3.2 rbareB3 = true := by kernel_rfl
theorem and_mod (b : Int) (k : Nat) (h0 : 0 ≤ b) (h1 : b < 256) (hk : 2 ^ k < 257) : bits .and .u8 b ((2 ^ k - 1 : Nat) : Int) = b % ((2 ^ k : Nat) : Int) := by
 obtain ⟨n, rfl⟩ := Int.eq_ofNat_of_zero_le h0
 have h := (bits_nat .u8 8 (by decide) (fun n h0 h1 => by simp [IntKind.wrap, IntKind.bits, IntKind.signed]; omega) n (2 ^ k - 1) (by omega) (by omega)).1
 rw [h, Nat.and_two_pow_sub_one_eq_mod]
 exact Int.natCast_emod n (2 ^ k)
theorem flD_zero (kd f1 : Int) (h0 : 0 ≤ f1) (h1 : f1 < 256) (h : maskD kd = 0) : flD kd f1 = 0 := by
 unfold flD
 rw [h]
 have := and_mod f1 0 h0 h1 (by decide)
 rw [show ((2 ^ 0 - 1 : Nat) : Int) = 0 from rfl] at this
 rw [this]
 exact Int.emod_one f1
theorem flD_all (kd f1 : Int) (h0 : 0 ≤ f1) (h1 : f1 < 256) (h : maskD kd = 255) : flD kd f1 = f1 := by
 unfold flD
 rw [h]
 have := and_mod f1 8 h0 h1 (by decide)
 rw [show ((2 ^ 8 - 1 : Nat) : Int) = 255 from rfl] at this
 rw [this]
 exact Int.emod_eq_of_lt h0 h1
theorem flD_two (kd f1 : Int) (h0 : 0 ≤ f1) (h1 : f1 < 256) (h : maskD kd = 1) : flD kd f1 = f1 % 2 := by
 unfold flD
 rw [h]
 exact and_mod f1 1 h0 h1 (by decide)
theorem flD_eight (kd f1 : Int) (h0 : 0 ≤ f1) (h1 : f1 < 256) (h : maskD kd = 7) : flD kd f1 = f1 % 8 := by
 unfold flD
 rw [h]
 exact and_mod f1 3 h0 h1 (by decide)
set_option maxHeartbeats 8000000 in
theorem rbare_calls (w : World) (x : Chk) (L : Lay) (hk : 0 ≤ x.f0) (h1 : 0 ≤ x.f1) (h2 : x.f1 < 256) :
  Calls Tryd.prog 33 #[.agg (CV x L)] w fun e w' => e = .returned (.agg (CV (bareD x) (keepL (hasF x.f0) L))) ∧ Below w.heap.size w w' := by
 obtain ⟨f0, f1, f2, f3, f4, f5, f6, f7, f8, f9, f10, f11, f12, f13, f14⟩ := x
 obtain ⟨A10, c10, A11, c11, A12, c12, A13, c13, A14, c14⟩ := L
 dsimp only at h1 h2 hk
 have X := Bx.new w (CV ⟨f0, f1, f2, f3, f4, f5, f6, f7, f8, f9, f10, f11, f12, f13, f14⟩ ⟨A10, c10, A11, c11, A12, c12, A13, c13, A14, c14⟩)
 go_enter Tryd.func33, Tryd.ntmps33
 go_upto_region 1 with (fail)
 refine wp_gen (Bx w (CV ⟨f0, f1, f2, f3, f4, f5, f6, f7, f8, f9, f10, f11, f12, f13, f14⟩ ⟨A10, c10, A11, c11, A12, c12, A13, c13, A14, c14⟩)) X ?_
 clear X
 intro W X
 have U0 := Lh (show W.cell? ⟨w.heap.size, 0, none⟩ = some (.int .u8 f0) from X.cell 0)
 have U1 := Lh (show W.cell? ⟨w.heap.size, 1, none⟩ = some (.int .u8 f1) from X.cell 1)
 have U2 := Lh (show W.cell? ⟨w.heap.size, 2, none⟩ = some (.int .u32 f2) from X.cell 2)
 have U3 := Lh (show W.cell? ⟨w.heap.size, 3, none⟩ = some (.int .u16 f3) from X.cell 3)
 have U4 := Lh (show W.cell? ⟨w.heap.size, 4, none⟩ = some (.int .u16 f4) from X.cell 4)
 have U5 := Lh (show W.cell? ⟨w.heap.size, 5, none⟩ = some (.int .u32 f5) from X.cell 5)
 have U6 := Lh (show W.cell? ⟨w.heap.size, 6, none⟩ = some (.int .u32 f6) from X.cell 6)
 have U7 := Lh (show W.cell? ⟨w.heap.size, 7, none⟩ = some (.int .u32 f7) from X.cell 7)
 have U8 := Lh (show W.cell? ⟨w.heap.size, 8, none⟩ = some (.int .u16 f8) from X.cell 8)
 have U9 := Lh (show W.cell? ⟨w.heap.size, 9, none⟩ = some (.int .u16 f9) from X.cell 9)
 have U10 := Lh (show W.cell? ⟨w.heap.size, 10, none⟩ = some (.slice A10 f10.length c10) from X.cell 10)
 have U11 := Lh (show W.cell? ⟨w.heap.size, 11, none⟩ = some (.slice A11 f11.length c11) from X.cell 11)
 have U12 := Lh (show W.cell? ⟨w.heap.size, 12, none⟩ = some (.slice A12 f12.length c12) from X.cell 12)
 have U13 := Lh (show W.cell? ⟨w.heap.size, 13, none⟩ = some (.slice A13 f13.length c13) from X.cell 13)
 have U14 := Lh (show W.cell? ⟨w.heap.size, 14, none⟩ = some (.slice A14 f14.length c14) from X.cell 14)
 have k0 := U0.out
 go_upto_region 2 with (fail)
 refine wp_gen (fun W' => By w (CV ⟨f0, f1, f2, f3, f4, f5, f6, f7, f8, f9, f10, f11, f12, f13, f14⟩ ⟨A10, c10, A11, c11, A12, c12, A13, c13, A14, c14⟩) (#[.int .u8 (f0), .int .u8 0, .int .u32 0, .int .u16 0, .int .u16 0, .int .u32 0, .int .u32 0, .int .u32 0, .int .u16 0, .int .u16 0, .slice none 0 0, .slice none 0 0, .slice none 0 0, .slice none 0 0, .slice none 0 0]) W.heap.size W' ∧ Below W.heap.size W W') ?_ ?_
 ·exact ⟨⟨X.below (below_alloc (Below.refl _ _) _), blk_new _ _, X.x3⟩, below_alloc (Below.refl _ _) _⟩
 clear X k0
 rintro W1 ⟨X, hB⟩
 replace U0 := Lh (pw_cell_below hB U0.out)
 replace U1 := Lh (pw_cell_below hB U1.out)
 replace U2 := Lh (pw_cell_below hB U2.out)
 replace U3 := Lh (pw_cell_below hB U3.out)
 replace U4 := Lh (pw_cell_below hB U4.out)
 replace U5 := Lh (pw_cell_below hB U5.out)
 replace U6 := Lh (pw_cell_below hB U6.out)
 replace U7 := Lh (pw_cell_below hB U7.out)
 replace U8 := Lh (pw_cell_below hB U8.out)
 replace U9 := Lh (pw_cell_below hB U9.out)
 replace U10 := Lh (pw_cell_below hB U10.out)
 replace U11 := Lh (pw_cell_below hB U11.out)
 replace U12 := Lh (pw_cell_below hB U12.out)
 replace U13 := Lh (pw_cell_below hB U13.out)
 replace U14 := Lh (pw_cell_below hB U14.out)
 clear hB
 have HN := Lh (show ¬ w.heap.size = W.heap.size by have := X.hg; omega)
 generalize W.heap.size = g3 at *
 generalize W1 = W at *
 by_cases h : f0 = 0
 ·subst h
  have k0 := U0.out
  go_upto_region 5 with (fail)
  refine copy_region (B := rbareB5) (T := 41) (gd := g3) [0, 1, 2, 3, 4, 5, 6, 7, 8, 9, 10, 11, 12, 13, 14, 15, 16, 17, 18, 19, 20, 21, 22, 23, 24] [(0, 17, .pointer (some ⟨w.heap.size, 1, none⟩)), (1, 18, .int .u8 f1), (2, 19, .int .u8 (f1 % 8)), (3, 20, .pointer (some ⟨w.heap.size, 2, none⟩)), (4, 21, .int .u32 f2), (5, 22, .pointer (some ⟨w.heap.size, 3, none⟩)), (6, 23, .int .u16 f3), (7, 24, .pointer (some ⟨w.heap.size, 4, none⟩)), (8, 25, .int .u16 f4), (9, 26, .pointer (some ⟨w.heap.size, 5, none⟩)), (10, 27, .int .u32 f5), (11, 28, .pointer (some ⟨w.heap.size, 13, none⟩)), (12, 29, .slice A13 f13.length c13), (13, 30, .pointer (some ⟨g3, 1, none⟩)), (15, 31, .pointer (some ⟨g3, 2, none⟩)), (17, 32, .pointer (some ⟨g3, 3, none⟩)), (19, 33, .pointer (some ⟨g3, 4, none⟩)), (21, 34, .pointer (some ⟨g3, 5, none⟩)), (23, 35, .pointer (some ⟨g3, 13, none⟩))] [(14, 1, .int .u8 (f1 % 8)), (16, 2, .int .u32 f2), (18, 3, .int .u16 f3), (20, 4, .int .u16 f4), (22, 5, .int .u32 f5), (24, 13, .slice A13 f13.length c13)] (by kernel_rfl) rfl (l := #[false, false, false, false, false, false, false, false, false, false, false, false, false, false, false, false, false, false, false, false, false, false, false, false, false]) rfl rbaretab5 rbarebits5 (by kernel_rfl) (by kernel_rfl) rfl rfl X.x3 ?_ ?_
  ·exact steps_cons (cp_addr 0 0 1 rfl rfl rfl rfl rfl rfl rfl rfl (fun a w e => by go_simp)) (steps_cons (cp_op 1 1 0 0 rfl rfl rfl rfl rfl rfl rfl rfl rfl (by kernel_rfl) rfl (fun a w hO e => by have hs := hO.cell U1.out HN.out; go_simp)) (steps_cons (cp_op 2 2 1 1 rfl rfl rfl rfl rfl rfl rfl rfl rfl (by kernel_rfl) rfl (fun a w hO e => by go_simp; exact Int.tmod_eq_emod_of_nonneg h1)) (steps_cons (cp_addr 3 3 1 rfl rfl rfl rfl rfl rfl rfl rfl (fun a w e => by go_simp)) (steps_cons (cp_op 4 4 3 3 rfl rfl rfl rfl rfl rfl rfl rfl rfl (by kernel_rfl) rfl (fun a w hO e => by have hs := hO.cell U2.out HN.out; go_simp)) (steps_cons (cp_addr 5 5 1 rfl rfl rfl rfl rfl rfl rfl rfl (fun a w e => by go_simp)) (steps_cons (cp_op 6 6 5 5 rfl rfl rfl rfl rfl rfl rfl rfl rfl (by kernel_rfl) rfl (fun a w hO e => by have hs := hO.cell U3.out HN.out; go_simp)) (steps_cons (cp_addr 7 7 1 rfl rfl rfl rfl rfl rfl rfl rfl (fun a w e => by go_simp)) (steps_cons (cp_op 8 8 7 7 rfl rfl rfl rfl rfl rfl rfl rfl rfl (by kernel_rfl) rfl (fun a w hO e => by have hs := hO.cell U4.out HN.out; go_simp)) (steps_cons (cp_addr 9 9 1 rfl rfl rfl rfl rfl rfl rfl rfl (fun a w e => by go_simp)) (steps_cons (cp_op 10 10 9 9 rfl rfl rfl rfl rfl rfl rfl rfl rfl (by kernel_rfl) rfl (fun a w hO e => by have hs := hO.cell U5.out HN.out; go_simp)) (steps_cons (cp_addr 11 11 1 rfl rfl rfl rfl rfl rfl rfl rfl (fun a w e => by go_simp)) (steps_cons (cp_op 12 12 11 11 rfl rfl rfl rfl rfl rfl rfl rfl rfl (by kernel_rfl) rfl (fun a w hO e => by have hs := hO.cell U13.out HN.out; go_simp)) (steps_cons (cp_addr 13 13 3 rfl rfl rfl rfl rfl rfl rfl rfl (fun a w e => by go_simp)) (steps_cons (cp_store 14 0 13 2 13 2 rfl rfl rfl rfl rfl rfl (show _ < 15 by decide) rfl rfl rfl (by kernel_rfl) rfl rfl rfl rfl (by kernel_rfl) rfl (fun a w old e e2 h h2 => by go_simp)) (steps_cons (cp_addr 15 14 3 rfl rfl rfl rfl rfl rfl rfl rfl (fun a w e => by go_simp)) (steps_cons (cp_store 16 1 14 4 15 4 rfl rfl rfl rfl rfl rfl (show _ < 15 by decide) rfl rfl rfl (by kernel_rfl) rfl rfl rfl rfl (by kernel_rfl) rfl (fun a w old e e2 h h2 => by go_simp)) (steps_cons (cp_addr 17 15 3 rfl rfl rfl rfl rfl rfl rfl rfl (fun a w e => by go_simp)) (steps_cons (cp_store 18 2 15 6 17 6 rfl rfl rfl rfl rfl rfl (show _ < 15 by decide) rfl rfl rfl (by kernel_rfl) rfl rfl rfl rfl (by kernel_rfl) rfl (fun a w old e e2 h h2 => by go_simp)) (steps_cons (cp_addr 19 16 3 rfl rfl rfl rfl rfl rfl rfl rfl (fun a w e => by go_simp)) (steps_cons (cp_store 20 3 16 8 19 8 rfl rfl rfl rfl rfl rfl (show _ < 15 by decide) rfl rfl rfl (by kernel_rfl) rfl rfl rfl rfl (by kernel_rfl) rfl (fun a w old e e2 h h2 => by go_simp)) (steps_cons (cp_addr 21 17 3 rfl rfl rfl rfl rfl rfl rfl rfl (fun a w e => by go_simp)) (steps_cons (cp_store 22 4 17 10 21 10 rfl rfl rfl rfl rfl rfl (show _ < 15 by decide) rfl rfl rfl (by kernel_rfl) rfl rfl rfl rfl (by kernel_rfl) rfl (fun a w old e e2 h h2 => by go_simp)) (steps_cons (cp_addr 23 18 3 rfl rfl rfl rfl rfl rfl rfl rfl (fun a w e => by go_simp)) (steps_cons (cp_store 24 5 18 12 23 12 rfl rfl rfl rfl rfl rfl (show _ < 15 by decide) rfl rfl rfl (by kernel_rfl) rfl rfl rfl rfl (by kernel_rfl) rfl (fun a w old e e2 h h2 => by go_simp)) steps_nil))))))))))))))))))))))))
  intro W9 hO9 hC9
  replace X := (show By w _ (#[.int .u8 _, .int .u8 ((f1 % 8)), .int .u32 f2, .int .u16 f3, .int .u16 f4, .int .u32 f5, .int .u32 0, .int .u32 0, .int .u16 0, .int .u16 0, .slice none 0 0, .slice none 0 0, .slice none 0 0, .slice A13 f13.length c13, .slice none 0 0]) g3 W9 from X.only hO9 hC9)
  clear hO9 hC9
  simp only [putSel, if_true, Act.put, List.setIfInBounds_toArray, List.set_cons_zero, List.set_cons_succ]
  go_wp2_with (with_reducible refine gate_dst (N := 123) rfl ?_; go_must (refine wpList_ret_row 123 rfl rfl rfl (.tmp 3) (.tmp 2) rfl rfl rfl _ _ _ _ rfl rfl rfl X.x3 X.bx.x1 rfl rfl (by simp [Value.oneCell']) ?_))
  refine row_end rfl rfl rfl X.bx.x1 rfl X.bx.x2 (Nat.le_succ _) ?_
  unfold bareD
  dsimp only
  rw [flD_eight _ f1 h1 h2 (by rfl)]
  rfl
 have q0 : (f0 == 0) = false := by simpa using h
 clear h
 by_cases h : f0 = 1 ∨ f0 = 2
 ·rcases h with rfl | rfl
  all_goals
   have k0 := U0.out
   go_upto_region 8 with (fail)
   refine copy_region (B := rbareB8) (T := 41) (gd := g3) [0, 1, 2, 3, 4, 5, 6, 7, 8, 9, 10, 11, 12, 13, 14, 15, 16, 17, 18, 19, 20, 21, 22, 23] [(0, 39, .pointer (some ⟨w.heap.size, 6, none⟩)), (1, 40, .int .u32 f6), (2, 41, .pointer (some ⟨w.heap.size, 7, none⟩)), (3, 42, .int .u32 f7), (4, 43, .pointer (some ⟨w.heap.size, 8, none⟩)), (5, 44, .int .u16 f8), (6, 45, .pointer (some ⟨w.heap.size, 9, none⟩)), (7, 46, .int .u16 f9), (8, 47, .pointer (some ⟨w.heap.size, 2, none⟩)), (9, 48, .int .u32 f2), (10, 49, .pointer (some ⟨w.heap.size, 14, none⟩)), (11, 50, .slice A14 f14.length c14), (12, 51, .pointer (some ⟨g3, 6, none⟩)), (14, 52, .pointer (some ⟨g3, 7, none⟩)), (16, 53, .pointer (some ⟨g3, 8, none⟩)), (18, 54, .pointer (some ⟨g3, 9, none⟩)), (20, 55, .pointer (some ⟨g3, 2, none⟩)), (22, 56, .pointer (some ⟨g3, 14, none⟩))] [(13, 6, .int .u32 f6), (15, 7, .int .u32 f7), (17, 8, .int .u16 f8), (19, 9, .int .u16 f9), (21, 2, .int .u32 f2), (23, 14, .slice A14 f14.length c14)] (by kernel_rfl) rfl (l := #[false, false, false, false, false, false, false, false, false, false, false, false, false, false, false, false, false, false, false, false, false, false, false, false]) rfl rbaretab8 rbarebits8 (by kernel_rfl) (by kernel_rfl) rfl rfl X.x3 ?_ ?_
   ·exact steps_cons (cp_addr 0 0 1 rfl rfl rfl rfl rfl rfl rfl rfl (fun a w e => by go_simp)) (steps_cons (cp_op 1 1 0 0 rfl rfl rfl rfl rfl rfl rfl rfl rfl (by kernel_rfl) rfl (fun a w hO e => by have hs := hO.cell U6.out HN.out; go_simp)) (steps_cons (cp_addr 2 2 1 rfl rfl rfl rfl rfl rfl rfl rfl (fun a w e => by go_simp)) (steps_cons (cp_op 3 3 2 2 rfl rfl rfl rfl rfl rfl rfl rfl rfl (by kernel_rfl) rfl (fun a w hO e => by have hs := hO.cell U7.out HN.out; go_simp)) (steps_cons (cp_addr 4 4 1 rfl rfl rfl rfl rfl rfl rfl rfl (fun a w e => by go_simp)) (steps_cons (cp_op 5 5 4 4 rfl rfl rfl rfl rfl rfl rfl rfl rfl (by kernel_rfl) rfl (fun a w hO e => by have hs := hO.cell U8.out HN.out; go_simp)) (steps_cons (cp_addr 6 6 1 rfl rfl rfl rfl rfl rfl rfl rfl (fun a w e => by go_simp)) (steps_cons (cp_op 7 7 6 6 rfl rfl rfl rfl rfl rfl rfl rfl rfl (by kernel_rfl) rfl (fun a w hO e => by have hs := hO.cell U9.out HN.out; go_simp)) (steps_cons (cp_addr 8 8 1 rfl rfl rfl rfl rfl rfl rfl rfl (fun a w e => by go_simp)) (steps_cons (cp_op 9 9 8 8 rfl rfl rfl rfl rfl rfl rfl rfl rfl (by kernel_rfl) rfl (fun a w hO e => by have hs := hO.cell U2.out HN.out; go_simp)) (steps_cons (cp_addr 10 10 1 rfl rfl rfl rfl rfl rfl rfl rfl (fun a w e => by go_simp)) (steps_cons (cp_op 11 11 10 10 rfl rfl rfl rfl rfl rfl rfl rfl rfl (by kernel_rfl) rfl (fun a w hO e => by have hs := hO.cell U14.out HN.out; go_simp)) (steps_cons (cp_addr 12 12 3 rfl rfl rfl rfl rfl rfl rfl rfl (fun a w e => by go_simp)) (steps_cons (cp_store 13 0 12 1 12 1 rfl rfl rfl rfl rfl rfl (show _ < 15 by decide) rfl rfl rfl (by kernel_rfl) rfl rfl rfl rfl (by kernel_rfl) rfl (fun a w old e e2 h h2 => by go_simp)) (steps_cons (cp_addr 14 13 3 rfl rfl rfl rfl rfl rfl rfl rfl (fun a w e => by go_simp)) (steps_cons (cp_store 15 1 13 3 14 3 rfl rfl rfl rfl rfl rfl (show _ < 15 by decide) rfl rfl rfl (by kernel_rfl) rfl rfl rfl rfl (by kernel_rfl) rfl (fun a w old e e2 h h2 => by go_simp)) (steps_cons (cp_addr 16 14 3 rfl rfl rfl rfl rfl rfl rfl rfl (fun a w e => by go_simp)) (steps_cons (cp_store 17 2 14 5 16 5 rfl rfl rfl rfl rfl rfl (show _ < 15 by decide) rfl rfl rfl (by kernel_rfl) rfl rfl rfl rfl (by kernel_rfl) rfl (fun a w old e e2 h h2 => by go_simp)) (steps_cons (cp_addr 18 15 3 rfl rfl rfl rfl rfl rfl rfl rfl (fun a w e => by go_simp)) (steps_cons (cp_store 19 3 15 7 18 7 rfl rfl rfl rfl rfl rfl (show _ < 15 by decide) rfl rfl rfl (by kernel_rfl) rfl rfl rfl rfl (by kernel_rfl) rfl (fun a w old e e2 h h2 => by go_simp)) (steps_cons (cp_addr 20 16 3 rfl rfl rfl rfl rfl rfl rfl rfl (fun a w e => by go_simp)) (steps_cons (cp_store 21 4 16 9 20 9 rfl rfl rfl rfl rfl rfl (show _ < 15 by decide) rfl rfl rfl (by kernel_rfl) rfl rfl rfl rfl (by kernel_rfl) rfl (fun a w old e e2 h h2 => by go_simp)) (steps_cons (cp_addr 22 17 3 rfl rfl rfl rfl rfl rfl rfl rfl (fun a w e => by go_simp)) (steps_cons (cp_store 23 5 17 11 22 11 rfl rfl rfl rfl rfl rfl (show _ < 15 by decide) rfl rfl rfl (by kernel_rfl) rfl rfl rfl rfl (by kernel_rfl) rfl (fun a w old e e2 h h2 => by go_simp)) steps_nil)))))))))))))))))))))))
   intro W9 hO9 hC9
   replace X := (show By w _ (#[.int .u8 _, .int .u8 (0), .int .u32 f2, .int .u16 0, .int .u16 0, .int .u32 0, .int .u32 f6, .int .u32 f7, .int .u16 f8, .int .u16 f9, .slice none 0 0, .slice none 0 0, .slice none 0 0, .slice none 0 0, .slice A14 f14.length c14]) g3 W9 from X.only hO9 hC9)
   clear hO9 hC9
   simp only [putSel, if_true, Act.put, List.setIfInBounds_toArray, List.set_cons_zero, List.set_cons_succ]
   go_wp2_with (with_reducible refine gate_dst (N := 123) rfl ?_; go_must (refine wpList_ret_row 123 rfl rfl rfl (.tmp 3) (.tmp 2) rfl rfl rfl _ _ _ _ rfl rfl rfl X.x3 X.bx.x1 rfl rfl (by simp [Value.oneCell']) ?_))
   refine row_end rfl rfl rfl X.bx.x1 rfl X.bx.x2 (Nat.le_succ _) ?_
   unfold bareD
   dsimp only
   rw [flD_zero _ f1 h1 h2 (by rfl)]
   rfl
 have q1 : (f0 == 1) = false := by simp; omega
 have q2 : (f0 == 2) = false := by simp; omega
 clear h
 by_cases h : f0 = 3
 ·subst h
  have k0 := U0.out
  go_upto_region 10 with (fail)
  refine copy_region (B := rbareB10) (T := 41) (gd := g3) [0, 1, 2, 3, 4, 5, 6, 7, 8, 9, 10, 11, 12, 13, 14, 15] [(0, 59, .pointer (some ⟨w.heap.size, 2, none⟩)), (1, 60, .int .u32 f2), (2, 61, .pointer (some ⟨w.heap.size, 7, none⟩)), (3, 62, .int .u32 f7), (4, 63, .pointer (some ⟨w.heap.size, 10, none⟩)), (5, 64, .slice A10 f10.length c10), (6, 65, .pointer (some ⟨w.heap.size, 12, none⟩)), (7, 66, .slice A12 f12.length c12), (8, 67, .pointer (some ⟨g3, 2, none⟩)), (10, 68, .pointer (some ⟨g3, 7, none⟩)), (12, 69, .pointer (some ⟨g3, 10, none⟩)), (14, 70, .pointer (some ⟨g3, 12, none⟩))] [(9, 2, .int .u32 f2), (11, 7, .int .u32 f7), (13, 10, .slice A10 f10.length c10), (15, 12, .slice A12 f12.length c12)] (by kernel_rfl) rfl (l := #[false, false, false, false, false, false, false, false, false, false, false, false, false, false, false, false]) rfl rbaretab10 rbarebits10 (by kernel_rfl) (by kernel_rfl) rfl rfl X.x3 ?_ ?_
  ·exact steps_cons (cp_addr 0 0 1 rfl rfl rfl rfl rfl rfl rfl rfl (fun a w e => by go_simp)) (steps_cons (cp_op 1 1 0 0 rfl rfl rfl rfl rfl rfl rfl rfl rfl (by kernel_rfl) rfl (fun a w hO e => by have hs := hO.cell U2.out HN.out; go_simp)) (steps_cons (cp_addr 2 2 1 rfl rfl rfl rfl rfl rfl rfl rfl (fun a w e => by go_simp)) (steps_cons (cp_op 3 3 2 2 rfl rfl rfl rfl rfl rfl rfl rfl rfl (by kernel_rfl) rfl (fun a w hO e => by have hs := hO.cell U7.out HN.out; go_simp)) (steps_cons (cp_addr 4 4 1 rfl rfl rfl rfl rfl rfl rfl rfl (fun a w e => by go_simp)) (steps_cons (cp_op 5 5 4 4 rfl rfl rfl rfl rfl rfl rfl rfl rfl (by kernel_rfl) rfl (fun a w hO e => by have hs := hO.cell U10.out HN.out; go_simp)) (steps_cons (cp_addr 6 6 1 rfl rfl rfl rfl rfl rfl rfl rfl (fun a w e => by go_simp)) (steps_cons (cp_op 7 7 6 6 rfl rfl rfl rfl rfl rfl rfl rfl rfl (by kernel_rfl) rfl (fun a w hO e => by have hs := hO.cell U12.out HN.out; go_simp)) (steps_cons (cp_addr 8 8 3 rfl rfl rfl rfl rfl rfl rfl rfl (fun a w e => by go_simp)) (steps_cons (cp_store 9 0 8 1 8 1 rfl rfl rfl rfl rfl rfl (show _ < 15 by decide) rfl rfl rfl (by kernel_rfl) rfl rfl rfl rfl (by kernel_rfl) rfl (fun a w old e e2 h h2 => by go_simp)) (steps_cons (cp_addr 10 9 3 rfl rfl rfl rfl rfl rfl rfl rfl (fun a w e => by go_simp)) (steps_cons (cp_store 11 1 9 3 10 3 rfl rfl rfl rfl rfl rfl (show _ < 15 by decide) rfl rfl rfl (by kernel_rfl) rfl rfl rfl rfl (by kernel_rfl) rfl (fun a w old e e2 h h2 => by go_simp)) (steps_cons (cp_addr 12 10 3 rfl rfl rfl rfl rfl rfl rfl rfl (fun a w e => by go_simp)) (steps_cons (cp_store 13 2 10 5 12 5 rfl rfl rfl rfl rfl rfl (show _ < 15 by decide) rfl rfl rfl (by kernel_rfl) rfl rfl rfl rfl (by kernel_rfl) rfl (fun a w old e e2 h h2 => by go_simp)) (steps_cons (cp_addr 14 11 3 rfl rfl rfl rfl rfl rfl rfl rfl (fun a w e => by go_simp)) (steps_cons (cp_store 15 3 11 7 14 7 rfl rfl rfl rfl rfl rfl (show _ < 15 by decide) rfl rfl rfl (by kernel_rfl) rfl rfl rfl rfl (by kernel_rfl) rfl (fun a w old e e2 h h2 => by go_simp)) steps_nil)))))))))))))))
  intro W9 hO9 hC9
  replace X := (show By w _ (#[.int .u8 _, .int .u8 (0), .int .u32 f2, .int .u16 0, .int .u16 0, .int .u32 0, .int .u32 0, .int .u32 f7, .int .u16 0, .int .u16 0, .slice A10 f10.length c10, .slice none 0 0, .slice A12 f12.length c12, .slice none 0 0, .slice none 0 0]) g3 W9 from X.only hO9 hC9)
  clear hO9 hC9
  simp only [putSel, if_true, Act.put, List.setIfInBounds_toArray, List.set_cons_zero, List.set_cons_succ]
  go_wp2_with (with_reducible refine gate_dst (N := 123) rfl ?_; go_must (refine wpList_ret_row 123 rfl rfl rfl (.tmp 3) (.tmp 2) rfl rfl rfl _ _ _ _ rfl rfl rfl X.x3 X.bx.x1 rfl rfl (by simp [Value.oneCell']) ?_))
  refine row_end rfl rfl rfl X.bx.x1 rfl X.bx.x2 (Nat.le_succ _) ?_
  unfold bareD
  dsimp only
  rw [flD_zero _ f1 h1 h2 (by rfl)]
  rfl
 have q3 : (f0 == 3) = false := by simpa using h
 clear h
 by_cases h : f0 = 16
 ·subst h
  have k0 := U0.out
  go_upto_region 12 with (fail)
  refine copy_region (B := rbareB12) (T := 41) (gd := g3) [0, 1, 2, 3, 4, 5, 6, 7, 8, 9, 10, 11, 12, 13, 14, 15, 16, 17, 18, 19] [(0, 73, .pointer (some ⟨w.heap.size, 2, none⟩)), (1, 74, .int .u32 f2), (2, 75, .pointer (some ⟨w.heap.size, 7, none⟩)), (3, 76, .int .u32 f7), (4, 77, .pointer (some ⟨w.heap.size, 10, none⟩)), (5, 78, .slice A10 f10.length c10), (6, 79, .pointer (some ⟨w.heap.size, 11, none⟩)), (7, 80, .slice A11 f11.length c11), (8, 81, .pointer (some ⟨w.heap.size, 12, none⟩)), (9, 82, .slice A12 f12.length c12), (10, 83, .pointer (some ⟨g3, 2, none⟩)), (12, 84, .pointer (some ⟨g3, 7, none⟩)), (14, 85, .pointer (some ⟨g3, 10, none⟩)), (16, 86, .pointer (some ⟨g3, 11, none⟩)), (18, 87, .pointer (some ⟨g3, 12, none⟩))] [(11, 2, .int .u32 f2), (13, 7, .int .u32 f7), (15, 10, .slice A10 f10.length c10), (17, 11, .slice A11 f11.length c11), (19, 12, .slice A12 f12.length c12)] (by kernel_rfl) rfl (l := #[false, false, false, false, false, false, false, false, false, false, false, false, false, false, false, false, false, false, false, false]) rfl rbaretab12 rbarebits12 (by kernel_rfl) (by kernel_rfl) rfl rfl X.x3 ?_ ?_
  ·exact steps_cons (cp_addr 0 0 1 rfl rfl rfl rfl rfl rfl rfl rfl (fun a w e => by go_simp)) (steps_cons (cp_op 1 1 0 0 rfl rfl rfl rfl rfl rfl rfl rfl rfl (by kernel_rfl) rfl (fun a w hO e => by have hs := hO.cell U2.out HN.out; go_simp)) (steps_cons (cp_addr 2 2 1 rfl rfl rfl rfl rfl rfl rfl rfl (fun a w e => by go_simp)) (steps_cons (cp_op 3 3 2 2 rfl rfl rfl rfl rfl rfl rfl rfl rfl (by kernel_rfl) rfl (fun a w hO e => by have hs := hO.cell U7.out HN.out; go_simp)) (steps_cons (cp_addr 4 4 1 rfl rfl rfl rfl rfl rfl rfl rfl (fun a w e => by go_simp)) (steps_cons (cp_op 5 5 4 4 rfl rfl rfl rfl rfl rfl rfl rfl rfl (by kernel_rfl) rfl (fun a w hO e => by have hs := hO.cell U10.out HN.out; go_simp)) (steps_cons (cp_addr 6 6 1 rfl rfl rfl rfl rfl rfl rfl rfl (fun a w e => by go_simp)) (steps_cons (cp_op 7 7 6 6 rfl rfl rfl rfl rfl rfl rfl rfl rfl (by kernel_rfl) rfl (fun a w hO e => by have hs := hO.cell U11.out HN.out; go_simp)) (steps_cons (cp_addr 8 8 1 rfl rfl rfl rfl rfl rfl rfl rfl (fun a w e => by go_simp)) (steps_cons (cp_op 9 9 8 8 rfl rfl rfl rfl rfl rfl rfl rfl rfl (by kernel_rfl) rfl (fun a w hO e => by have hs := hO.cell U12.out HN.out; go_simp)) (steps_cons (cp_addr 10 10 3 rfl rfl rfl rfl rfl rfl rfl rfl (fun a w e => by go_simp)) (steps_cons (cp_store 11 0 10 1 10 1 rfl rfl rfl rfl rfl rfl (show _ < 15 by decide) rfl rfl rfl (by kernel_rfl) rfl rfl rfl rfl (by kernel_rfl) rfl (fun a w old e e2 h h2 => by go_simp)) (steps_cons (cp_addr 12 11 3 rfl rfl rfl rfl rfl rfl rfl rfl (fun a w e => by go_simp)) (steps_cons (cp_store 13 1 11 3 12 3 rfl rfl rfl rfl rfl rfl (show _ < 15 by decide) rfl rfl rfl (by kernel_rfl) rfl rfl rfl rfl (by kernel_rfl) rfl (fun a w old e e2 h h2 => by go_simp)) (steps_cons (cp_addr 14 12 3 rfl rfl rfl rfl rfl rfl rfl rfl (fun a w e => by go_simp)) (steps_cons (cp_store 15 2 12 5 14 5 rfl rfl rfl rfl rfl rfl (show _ < 15 by decide) rfl rfl rfl (by kernel_rfl) rfl rfl rfl rfl (by kernel_rfl) rfl (fun a w old e e2 h h2 => by go_simp)) (steps_cons (cp_addr 16 13 3 rfl rfl rfl rfl rfl rfl rfl rfl (fun a w e => by go_simp)) (steps_cons (cp_store 17 3 13 7 16 7 rfl rfl rfl rfl rfl rfl (show _ < 15 by decide) rfl rfl rfl (by kernel_rfl) rfl rfl rfl rfl (by kernel_rfl) rfl (fun a w old e e2 h h2 => by go_simp)) (steps_cons (cp_addr 18 14 3 rfl rfl rfl rfl rfl rfl rfl rfl (fun a w e => by go_simp)) (steps_cons (cp_store 19 4 14 9 18 9 rfl rfl rfl rfl rfl rfl (show _ < 15 by decide) rfl rfl rfl (by kernel_rfl) rfl rfl rfl rfl (by kernel_rfl) rfl (fun a w old e e2 h h2 => by go_simp)) steps_nil)))))))))))))))))))
  intro W9 hO9 hC9
  replace X := (show By w _ (#[.int .u8 _, .int .u8 (0), .int .u32 f2, .int .u16 0, .int .u16 0, .int .u32 0, .int .u32 0, .int .u32 f7, .int .u16 0, .int .u16 0, .slice A10 f10.length c10, .slice A11 f11.length c11, .slice A12 f12.length c12, .slice none 0 0, .slice none 0 0]) g3 W9 from X.only hO9 hC9)
  clear hO9 hC9
  simp only [putSel, if_true, Act.put, List.setIfInBounds_toArray, List.set_cons_zero, List.set_cons_succ]
  go_wp2_with (with_reducible refine gate_dst (N := 123) rfl ?_; go_must (refine wpList_ret_row 123 rfl rfl rfl (.tmp 3) (.tmp 2) rfl rfl rfl _ _ _ _ rfl rfl rfl X.x3 X.bx.x1 rfl rfl (by simp [Value.oneCell']) ?_))
  refine row_end rfl rfl rfl X.bx.x1 rfl X.bx.x2 (Nat.le_succ _) ?_
  unfold bareD
  dsimp only
  rw [flD_zero _ f1 h1 h2 (by rfl)]
  rfl
 have q16 : (f0 == 16) = false := by simpa using h
 clear h
 by_cases h : f0 = 4 ∨ f0 = 5 ∨ f0 = 9
 ·rcases h with rfl | rfl | rfl
  all_goals
   have k0 := U0.out
   have k14 : W.cell? ⟨w.heap.size, 14, none⟩ = some (.slice A14 f14.length c14) := U14.out
   have d14 : W.cell? ⟨g3, 14, none⟩ = some (.slice none 0 0) := blk_cell X.x3 14
   have f_14 := blk_frozen X.x3 14
   go_upto_region 27 with (fail)
   refine wp_gen (By w _ (#[.int .u8 _, .int .u8 (0), .int .u32 0, .int .u16 0, .int .u16 0, .int .u32 0, .int .u32 0, .int .u32 0, .int .u16 0, .int .u16 0, .slice none 0 0, .slice none 0 0, .slice none 0 0, .slice none 0 0, .slice A14 f14.length c14]) g3) (X.set 14 _) ?_
   clear X k14 d14 f_14
   intro W9 X
   go_wp2_with (with_reducible refine gate_dst (N := 123) rfl ?_; go_must (refine wpList_ret_row 123 rfl rfl rfl (.tmp 3) (.tmp 2) rfl rfl rfl _ _ _ _ rfl rfl rfl X.x3 X.bx.x1 rfl rfl (by simp [Value.oneCell']) ?_))
   refine row_end rfl rfl rfl X.bx.x1 rfl X.bx.x2 (Nat.le_succ _) ?_
   unfold bareD
   dsimp only
   rw [flD_zero _ f1 h1 h2 (by rfl)]
   rfl
 have q4 : (f0 == 4) = false := by simp; omega
 have q5 : (f0 == 5) = false := by simp; omega
 have q9 : (f0 == 9) = false := by simp; omega
 clear h
 by_cases h : f0 = 6
 ·subst h
  have k0 := U0.out
  go_upto_region 18 with (fail)
  refine copy_region (B := rbareB18) (T := 41) (gd := g3) [0, 1, 2, 3, 4, 5, 6, 7, 8] [(0, 97, .pointer (some ⟨w.heap.size, 1, none⟩)), (1, 98, .int .u8 f1), (2, 99, .int .u8 (f1 % 2)), (3, 100, .pointer (some ⟨w.heap.size, 14, none⟩)), (4, 101, .slice A14 f14.length c14), (5, 102, .pointer (some ⟨g3, 1, none⟩)), (7, 103, .pointer (some ⟨g3, 14, none⟩))] [(6, 1, .int .u8 (f1 % 2)), (8, 14, .slice A14 f14.length c14)] (by kernel_rfl) rfl (l := #[false, false, false, false, false, false, false, false, false]) rfl rbaretab18 rbarebits18 (by kernel_rfl) (by kernel_rfl) rfl rfl X.x3 ?_ ?_
  ·exact steps_cons (cp_addr 0 0 1 rfl rfl rfl rfl rfl rfl rfl rfl (fun a w e => by go_simp)) (steps_cons (cp_op 1 1 0 0 rfl rfl rfl rfl rfl rfl rfl rfl rfl (by kernel_rfl) rfl (fun a w hO e => by have hs := hO.cell U1.out HN.out; go_simp)) (steps_cons (cp_op 2 2 1 1 rfl rfl rfl rfl rfl rfl rfl rfl rfl (by kernel_rfl) rfl (fun a w hO e => by go_simp; exact Int.tmod_eq_emod_of_nonneg h1)) (steps_cons (cp_addr 3 3 1 rfl rfl rfl rfl rfl rfl rfl rfl (fun a w e => by go_simp)) (steps_cons (cp_op 4 4 3 3 rfl rfl rfl rfl rfl rfl rfl rfl rfl (by kernel_rfl) rfl (fun a w hO e => by have hs := hO.cell U14.out HN.out; go_simp)) (steps_cons (cp_addr 5 5 3 rfl rfl rfl rfl rfl rfl rfl rfl (fun a w e => by go_simp)) (steps_cons (cp_store 6 0 5 2 5 2 rfl rfl rfl rfl rfl rfl (show _ < 15 by decide) rfl rfl rfl (by kernel_rfl) rfl rfl rfl rfl (by kernel_rfl) rfl (fun a w old e e2 h h2 => by go_simp)) (steps_cons (cp_addr 7 6 3 rfl rfl rfl rfl rfl rfl rfl rfl (fun a w e => by go_simp)) (steps_cons (cp_store 8 1 6 4 7 4 rfl rfl rfl rfl rfl rfl (show _ < 15 by decide) rfl rfl rfl (by kernel_rfl) rfl rfl rfl rfl (by kernel_rfl) rfl (fun a w old e e2 h h2 => by go_simp)) steps_nil))))))))
  intro W9 hO9 hC9
  replace X := (show By w _ (#[.int .u8 _, .int .u8 ((f1 % 2)), .int .u32 0, .int .u16 0, .int .u16 0, .int .u32 0, .int .u32 0, .int .u32 0, .int .u16 0, .int .u16 0, .slice none 0 0, .slice none 0 0, .slice none 0 0, .slice none 0 0, .slice A14 f14.length c14]) g3 W9 from X.only hO9 hC9)
  clear hO9 hC9
  simp only [putSel, if_true, Act.put, List.setIfInBounds_toArray, List.set_cons_zero, List.set_cons_succ]
  go_wp2_with (with_reducible refine gate_dst (N := 123) rfl ?_; go_must (refine wpList_ret_row 123 rfl rfl rfl (.tmp 3) (.tmp 2) rfl rfl rfl _ _ _ _ rfl rfl rfl X.x3 X.bx.x1 rfl rfl (by simp [Value.oneCell']) ?_))
  refine row_end rfl rfl rfl X.bx.x1 rfl X.bx.x2 (Nat.le_succ _) ?_
  unfold bareD
  dsimp only
  rw [flD_two _ f1 h1 h2 (by rfl)]
  rfl
 have q6 : (f0 == 6) = false := by simpa using h
 clear h
 by_cases h : f0 = 7
 ·subst h
  have k0 := U0.out
  have k2 : W.cell? ⟨w.heap.size, 2, none⟩ = some (.int .u32 f2) := U2.out
  have d2 : W.cell? ⟨g3, 2, none⟩ = some (.int .u32 0) := blk_cell X.x3 2
  have f_2 := blk_frozen X.x3 2
  go_upto_region 27 with (fail)
  refine wp_gen (By w _ (#[.int .u8 _, .int .u8 (0), .int .u32 f2, .int .u16 0, .int .u16 0, .int .u32 0, .int .u32 0, .int .u32 0, .int .u16 0, .int .u16 0, .slice none 0 0, .slice none 0 0, .slice none 0 0, .slice none 0 0, .slice none 0 0]) g3) (X.set 2 _) ?_
  clear X k2 d2 f_2
  intro W9 X
  go_wp2_with (with_reducible refine gate_dst (N := 123) rfl ?_; go_must (refine wpList_ret_row 123 rfl rfl rfl (.tmp 3) (.tmp 2) rfl rfl rfl _ _ _ _ rfl rfl rfl X.x3 X.bx.x1 rfl rfl (by simp [Value.oneCell']) ?_))
  refine row_end rfl rfl rfl X.bx.x1 rfl X.bx.x2 (Nat.le_succ _) ?_
  unfold bareD
  dsimp only
  rw [flD_zero _ f1 h1 h2 (by rfl)]
  rfl
 have q7 : (f0 == 7) = false := by simpa using h
 clear h
 by_cases h : f0 = 8 ∨ f0 = 11
 ·rcases h with rfl | rfl
  all_goals
   have k0 := U0.out
   go_wp2_with (with_reducible refine gate_dst (N := 123) rfl ?_; go_must (refine wpList_ret_row 123 rfl rfl rfl (.tmp 3) (.tmp 2) rfl rfl rfl _ _ _ _ rfl rfl rfl X.x3 X.bx.x1 rfl rfl (by simp [Value.oneCell']) ?_))
   refine row_end rfl rfl rfl X.bx.x1 rfl X.bx.x2 (Nat.le_succ _) ?_
   unfold bareD
   dsimp only
   rw [flD_zero _ f1 h1 h2 (by rfl)]
   rfl
 have q8 : (f0 == 8) = false := by simp; omega
 have q11 : (f0 == 11) = false := by simp; omega
 clear h
 by_cases h : f0 = 14
 ·subst h
  have k0 := U0.out
  have k1 := U1.out
  have d1 : W.cell? ⟨g3, 1, none⟩ = some (.int .u8 0) := blk_cell X.x3 1
  have f_1 := blk_frozen X.x3 1
  go_upto_region 27 with (fail)
  refine wp_gen (By w _ (#[.int .u8 _, .int .u8 (f1 % 2), .int .u32 0, .int .u16 0, .int .u16 0, .int .u32 0, .int .u32 0, .int .u32 0, .int .u16 0, .int .u16 0, .slice none 0 0, .slice none 0 0, .slice none 0 0, .slice none 0 0, .slice none 0 0]) g3) (X.set 1 _) ?_
  clear X k1 d1 f_1
  intro W9 X
  go_wp2_with (with_reducible refine gate_dst (N := 123) rfl ?_; go_must (refine wpList_ret_row 123 rfl rfl rfl (.tmp 3) (.tmp 2) rfl rfl rfl _ _ _ _ rfl rfl rfl X.x3 X.bx.x1 rfl rfl (by simp [Value.oneCell']) ?_))
  refine row_end rfl rfl rfl X.bx.x1 rfl X.bx.x2 (Nat.le_succ _) ?_
  unfold bareD
  dsimp only
  rw [flD_two _ f1 h1 h2 (by rfl)]
  rfl
 have q14 : (f0 == 14) = false := by simpa using h
 clear h
 by_cases h : f0 = 10
 ·subst h
  have k0 := U0.out
  have k13 : W.cell? ⟨w.heap.size, 13, none⟩ = some (.slice A13 f13.length c13) := U13.out
  have d13 : W.cell? ⟨g3, 13, none⟩ = some (.slice none 0 0) := blk_cell X.x3 13
  have f_13 := blk_frozen X.x3 13
  go_upto_region 27 with (fail)
  refine wp_gen (By w _ (#[.int .u8 _, .int .u8 (0), .int .u32 0, .int .u16 0, .int .u16 0, .int .u32 0, .int .u32 0, .int .u32 0, .int .u16 0, .int .u16 0, .slice none 0 0, .slice none 0 0, .slice none 0 0, .slice A13 f13.length c13, .slice none 0 0]) g3) (X.set 13 _) ?_
  clear X k13 d13 f_13
  intro W9 X
  go_wp2_with (with_reducible refine gate_dst (N := 123) rfl ?_; go_must (refine wpList_ret_row 123 rfl rfl rfl (.tmp 3) (.tmp 2) rfl rfl rfl _ _ _ _ rfl rfl rfl X.x3 X.bx.x1 rfl rfl (by simp [Value.oneCell']) ?_))
  refine row_end rfl rfl rfl X.bx.x1 rfl X.bx.x2 (Nat.le_succ _) ?_
  unfold bareD
  dsimp only
  rw [flD_zero _ f1 h1 h2 (by rfl)]
  rfl
 have q10 : (f0 == 10) = false := by simpa using h
 clear h
 have k0 := U0.out
 go_upto_region 3 with (fail)
 refine copy_region (B := rbareB3) (T := 41) (gd := g3) [0, 1, 2, 3, 4, 5, 6, 7] [(0, 9, .pointer (some ⟨w.heap.size, 1, none⟩)), (1, 10, .int .u8 f1), (2, 11, .pointer (some ⟨w.heap.size, 13, none⟩)), (3, 12, .slice A13 f13.length c13), (4, 13, .pointer (some ⟨g3, 1, none⟩)), (6, 14, .pointer (some ⟨g3, 13, none⟩))] [(5, 1, .int .u8 f1), (7, 13, .slice A13 f13.length c13)] (by kernel_rfl) rfl (l := #[false, false, false, false, false, false, false, false]) rfl rbaretab3 rbarebits3 (by kernel_rfl) (by kernel_rfl) rfl rfl X.x3 ?_ ?_
 ·exact steps_cons (cp_addr 0 0 1 rfl rfl rfl rfl rfl rfl rfl rfl (fun a w e => by go_simp)) (steps_cons (cp_op 1 1 0 0 rfl rfl rfl rfl rfl rfl rfl rfl rfl (by kernel_rfl) rfl (fun a w hO e => by have hs := hO.cell U1.out HN.out; go_simp)) (steps_cons (cp_addr 2 2 1 rfl rfl rfl rfl rfl rfl rfl rfl (fun a w e => by go_simp)) (steps_cons (cp_op 3 3 2 2 rfl rfl rfl rfl rfl rfl rfl rfl rfl (by kernel_rfl) rfl (fun a w hO e => by have hs := hO.cell U13.out HN.out; go_simp)) (steps_cons (cp_addr 4 4 3 rfl rfl rfl rfl rfl rfl rfl rfl (fun a w e => by go_simp)) (steps_cons (cp_store 5 0 4 1 4 1 rfl rfl rfl rfl rfl rfl (show _ < 15 by decide) rfl rfl rfl (by kernel_rfl) rfl rfl rfl rfl (by kernel_rfl) rfl (fun a w old e e2 h h2 => by go_simp)) (steps_cons (cp_addr 6 5 3 rfl rfl rfl rfl rfl rfl rfl rfl (fun a w e => by go_simp)) (steps_cons (cp_store 7 1 5 3 6 3 rfl rfl rfl rfl rfl rfl (show _ < 15 by decide) rfl rfl rfl (by kernel_rfl) rfl rfl rfl rfl (by kernel_rfl) rfl (fun a w old e e2 h h2 => by go_simp)) steps_nil)))))))
 intro W9 hO9 hC9
 replace X := (show By w _ (#[.int .u8 _, .int .u8 (f1), .int .u32 0, .int .u16 0, .int .u16 0, .int .u32 0, .int .u32 0, .int .u32 0, .int .u16 0, .int .u16 0, .slice none 0 0, .slice none 0 0, .slice none 0 0, .slice A13 f13.length c13, .slice none 0 0]) g3 W9 from X.only hO9 hC9)
 clear hO9 hC9
 simp only [putSel, if_true, Act.put, List.setIfInBounds_toArray, List.set_cons_zero, List.set_cons_succ]
 go_wp2_with (with_reducible refine gate_dst (N := 123) rfl ?_; go_must (refine wpList_ret_row 123 rfl rfl rfl (.tmp 3) (.tmp 2) rfl rfl rfl _ _ _ _ rfl rfl rfl X.x3 X.bx.x1 rfl rfl (by simp [Value.oneCell']) ?_))
 have hf : hasF f0 = fun i => i == 13 := by
  funext i
  simp only [beq_eq_false_iff_ne] at q0 q1 q2 q16 q3 q4 q5 q6 q9 q7 q8 q11 q14
  unfold hasF
  rw [if_neg q0, if_neg (fun e => e.elim q1 q2), if_neg q16, if_neg q3, if_neg (fun e => e.elim q4 (fun e => e.elim q5 (fun e => e.elim q6 q9))), if_neg q7, if_neg (fun e => e.elim q8 (fun e => e.elim q11 q14))]
 have hm : maskD f0 = 255 := by
  simp only [beq_eq_false_iff_ne] at q0 q1 q2 q16 q3 q4 q5 q6 q9 q7 q8 q11 q14 q10
  unfold maskD
  rw [if_neg q0, if_neg (fun e => e.elim q6 q14), if_neg (by omega)]
 refine row_end rfl rfl rfl X.bx.x1 rfl X.bx.x2 (Nat.le_succ _) ?_
 unfold bareD
 dsimp only
 rw [flD_all _ f1 h1 h2 hm, hf]
 rfl
end Go.Proofs.YtdlamomabonkjaaDoor.Ch
end
section
namespace Go.Proofs.YtdlamomabonkjaaDoor.Ch
open Go.RowKit YtdlamomabonkjaaDoorW.PrintWords YtdlamomabonkjaaDoorW.PrintLast Base PCh ParDec
set_option maxHeartbeats 4000000 in
theorem rread_l3 (w : World) (A : Option Addr) (c : Nat) (v : List UInt8) (fl : Int) (hb : byte.C w A v.length v) (hc : v.length ≤ c) (hv : v.length ≤ 140737488355232) :
  Calls Tryd.prog 87 #[.agg (freshV 3 fl), .slice A v.length c] w (RReadP w (readLists false 3 0 v)) := by
 have HP := Lh (fun (W : World) (h : Below w.heap.size w W) => rlists_sack W A c v (Kd.C_below hb h) hc hv)
 have X := Bx.new w (freshV 3 fl)
 clear hb
 go_enter Tryd.func87, Tryd.ntmps87
 go_upto_region 1 with (fail)
 refine wp_gen (Bx w (freshV 3 fl)) X ?_
 clear X
 intro W X
 have k0 : W.cell? ⟨w.heap.size, 0, none⟩ = some (.int .u8 3) := X.cell 0
 have k1 : W.cell? ⟨w.heap.size, 1, none⟩ = some (.int .u8 fl) := X.cell 1
 have f1 := X.frozen 1
 go_upto_region 21 with (fail)
 refine wp_gen (Bx w (freshV 3 0)) (X.set 1 _) ?_
 clear X k0 k1 f1 W
 intro W X
 have HWZ := Lh X.x3
 go_wp2_with (with_reducible refine gate_dst (N := 77) rfl ?_; go_must (refine wpList_load_row rfl 41 (.tmp 2) rfl _ rfl 41 _ (0, 0) _ X.x0 Tryd.underlying41 rfl (by kernel_rfl) ?_))
 refine (HP.out W X.x2).mono ?_
 rintro e w1 ⟨cs, code, rfl, hsz, hone, hB, hP⟩
 have Y := X.below hB
 have HPP := Lh hP
 have hsz2 : (Tryd.prog.info? 41).map (·.size) = some cs.size := by rw [hsz]; kernel_rfl
 have HSZ := Lh hsz
 have HSZ2 := Lh hsz2
 have HOLD := Lh (show zerV.size = cs.size by rw [hsz]; rfl)
 clear hP hB hsz hsz2
 go_wp2_with (with_reducible refine gate_store (p := 4) rfl ?_; go_must (refine wpList_store_row rfl 41 (.tmp 4) (.tmp 80) rfl _ cs rfl rfl 41 zerV Y.x1 HSZ2.out HOLD.out hone ?_))
 exact ret_pass rfl rfl rfl rfl Y.x1 HSZ.out hone Y.x2 (Nat.le_succ _) (by have := HWZ.out; omega) HPP.out
set_option maxHeartbeats 4000000 in
theorem rread_l16 (w : World) (A : Option Addr) (c : Nat) (v : List UInt8) (fl : Int) (hb : byte.C w A v.length v) (hc : v.length ≤ c) (hv : v.length ≤ 140737488355232) :
  Calls Tryd.prog 87 #[.agg (freshV 16 fl), .slice A v.length c] w (RReadP w (readLists true 16 0 v)) := by
 have HP := Lh (fun (W : World) (h : Below w.heap.size w W) => rlists_nr W A c v (Kd.C_below hb h) hc hv)
 have X := Bx.new w (freshV 16 fl)
 clear hb
 go_enter Tryd.func87, Tryd.ntmps87
 go_upto_region 1 with (fail)
 refine wp_gen (Bx w (freshV 16 fl)) X ?_
 clear X
 intro W X
 have k0 : W.cell? ⟨w.heap.size, 0, none⟩ = some (.int .u8 16) := X.cell 0
 have k1 : W.cell? ⟨w.heap.size, 1, none⟩ = some (.int .u8 fl) := X.cell 1
 have f1 := X.frozen 1
 go_upto_region 21 with (fail)
 refine wp_gen (Bx w (freshV 16 0)) (X.set 1 _) ?_
 clear X k0 k1 f1 W
 intro W X
 have HWZ := Lh X.x3
 go_wp2_with (with_reducible refine gate_dst (N := 77) rfl ?_; go_must (refine wpList_load_row rfl 41 (.tmp 2) rfl _ rfl 41 _ (0, 0) _ X.x0 Tryd.underlying41 rfl (by kernel_rfl) ?_))
 refine (HP.out W X.x2).mono ?_
 rintro e w1 ⟨cs, code, rfl, hsz, hone, hB, hP⟩
 have Y := X.below hB
 have HPP := Lh hP
 have hsz2 : (Tryd.prog.info? 41).map (·.size) = some cs.size := by rw [hsz]; kernel_rfl
 have HSZ := Lh hsz
 have HSZ2 := Lh hsz2
 have HOLD := Lh (show zerV.size = cs.size by rw [hsz]; rfl)
 clear hP hB hsz hsz2
 go_wp2_with (with_reducible refine gate_store (p := 4) rfl ?_; go_must (refine wpList_store_row rfl 41 (.tmp 4) (.tmp 80) rfl _ cs rfl rfl 41 zerV Y.x1 HSZ2.out HOLD.out hone ?_))
 exact ret_pass rfl rfl rfl rfl Y.x1 HSZ.out hone Y.x2 (Nat.le_succ _) (by have := HWZ.out; omega) HPP.out
theorem keepL_nil (p : Nat → Bool) : keepL p ⟨none, 0, none, 0, none, 0, none, 0, none, 0⟩ = ⟨none, 0, none, 0, none, 0, none, 0, none, 0⟩ := by
 unfold keepL
 cases p 10 <;> cases p 11 <;> cases p 12 <;> cases p 13 <;> cases p 14 <;> rfl
set_option maxHeartbeats 4000000 in
theorem rread_none (w : World) (A : Option Addr) (c : Nat) (v : List UInt8) (kd fl : Int) (hk : kd = 8 ∨ kd = 11 ∨ kd = 14) (h0' : 0 ≤ fl) (h1 : fl < 256) (hb : byte.C w A v.length v) (hc : v.length ≤ c) (hv : v.length ≤ 140737488355232) :
  Calls Tryd.prog 87 #[.agg (freshV kd fl), .slice A v.length c] w (RReadP w (readNone kd (flD kd fl) v)) := by
 have HO := fresh_one kd fl
 have HK := Lh (show 0 ≤ kd by omega)
 have q0 : (kd == 0) = false := by rcases hk with h | h | h <;> simp [h]
 have q1 : (kd == 1) = false := by rcases hk with h | h | h <;> simp [h]
 have q2 : (kd == 2) = false := by rcases hk with h | h | h <;> simp [h]
 have q3 : (kd == 3) = false := by rcases hk with h | h | h <;> simp [h]
 have q16 : (kd == 16) = false := by rcases hk with h | h | h <;> simp [h]
 have q4 : (kd == 4) = false := by rcases hk with h | h | h <;> simp [h]
 have q5 : (kd == 5) = false := by rcases hk with h | h | h <;> simp [h]
 have q9 : (kd == 9) = false := by rcases hk with h | h | h <;> simp [h]
 have q6 : (kd == 6) = false := by rcases hk with h | h | h <;> simp [h]
 have q7 : (kd == 7) = false := by rcases hk with h | h | h <;> simp [h]
 have hq : (kd == 8) = true ∨ ((kd == 8) = false ∧ (kd == 11) = true) ∨ ((kd == 8) = false ∧ (kd == 11) = false ∧ (kd == 14) = true) := by rcases hk with h | h | h <;> simp [h]
 clear hk
 have X := Bx.new w (freshV kd fl)
 clear hb
 go_enter Tryd.func87, Tryd.ntmps87
 go_upto_region 1 with (fail)
 refine wp_gen (Bx w (freshV kd fl)) X ?_
 clear X
 intro W X
 have k0 : W.cell? ⟨w.heap.size, 0, none⟩ = some (.int .u8 kd) := X.cell 0
 by_cases h0 : v.length = 0
 ·have q : ((v.length : Int) != 0) = false := by simp [h0]
  have HR := Lh (show readNone kd (flD kd fl) v = .ok (chk0 kd (flD kd fl)) by unfold readNone; rw [if_pos h0])
  have HBR := Lh (rbare_calls W (chk0 kd fl) ⟨none, 0, none, 0, none, 0, none, 0, none, 0⟩ HK.out h0' h1)
  have HF := Lh (show bareD (chk0 kd fl) = chk0 kd (flD kd fl) by unfold bareD keepF chk0; simp)
  rw [HF.out] at HBR
  clear h0
  have HW := Lh (show CV (chk0 kd fl) ⟨none, 0, none, 0, none, 0, none, 0, none, 0⟩ = freshV kd fl from rfl)
  rw [HW.out] at HBR
  have HL := Lh (show CV (chk0 kd (flD kd fl)) (keepL (hasF (chk0 kd fl).f0) ⟨none, 0, none, 0, none, 0, none, 0, none, 0⟩) = #[.int .u8 kd, .int .u8 (flD kd fl), .int .u32 0, .int .u16 0, .int .u16 0, .int .u32 0, .int .u32 0, .int .u32 0, .int .u16 0, .int .u16 0, .slice none 0 0, .slice none 0 0, .slice none 0 0, .slice none 0 0, .slice none 0 0] by rw [keepL_nil]; rfl)
  rw [HL.out] at HBR
  rcases hq with q8 | ⟨q8, q11⟩ | ⟨q8, q11, q14⟩
  all_goals
   go_wp2_with (with_reducible refine gate_dst (N := 122) rfl ?_; go_must (refine wpList_load_row rfl 41 (.tmp 2) rfl _ rfl 41 _ (0, 0) _ X.x0 Tryd.underlying41 rfl (by kernel_rfl) ?_))
   refine HBR.out.mono ?_
   rintro e w1 ⟨rfl, hB⟩
   replace X := X.below hB
   clear hB
   have k1 : w1.cell? ⟨w.heap.size, 1, none⟩ = some (.int .u8 fl) := X.cell 1
   have f1 := X.frozen 1
   have hfv : ∀ W : World, (Instr.field 41 (.agg #[.int .u8 kd, .int .u8 (flD kd fl), .int .u32 0, .int .u16 0, .int .u16 0, .int .u32 0, .int .u32 0, .int .u32 0, .int .u16 0, .int .u16 0, .slice none 0 0, .slice none 0 0, .slice none 0 0, .slice none 0 0, .slice none 0 0]) 1).run Tryd.prog W = .ok (.int .u8 (flD kd fl)) W := fun _ => by kernel_rfl
   go_upto_region 41 with (fail)
   refine wp_gen (Bx w (freshV kd (flD kd fl))) (X.set 1 _) ?_
   clear X k0 k1 f1 HO W HBR
   intro W X
   go_wp2_with (with_reducible refine gate_dst (N := 126) rfl ?_; go_must (refine wpList_ret_row 126 rfl rfl rfl (.tmp 2) (.tmp 4) rfl rfl rfl _ _ _ _ rfl rfl rfl X.x0 X.x1 rfl rfl (fresh_one _ _) ?_))
   exact ret_good rfl rfl rfl rfl X.x1 HR.out rfl (fresh_one _ _) X.x2 (Nat.le_succ _) (mnil _ _ _ _)
 ·have q : ((v.length : Int) != 0) = true := by rw [bne_iff_ne]; omega
  have HR := Lh (show readNone kd (flD kd fl) v = .error 61 by unfold readNone; rw [if_neg h0])
  rcases hq with q8 | ⟨q8, q11⟩ | ⟨q8, q11, q14⟩
  all_goals
   go_wp2_with (with_reducible refine gate_dst (N := 121) rfl ?_; go_must (refine wpList_ret_row 121 rfl rfl rfl (.tmp 2) (.tmp 4) rfl rfl rfl _ _ _ _ rfl rfl rfl X.x0 X.x1 rfl rfl HO ?_))
   exact ret_bad rfl rfl rfl rfl X.x1 HR.out rfl HO X.x2 (Nat.le_succ _)
end Go.Proofs.YtdlamomabonkjaaDoor.Ch
end
section
namespace Go.Proofs.YtdlamomabonkjaaDoor.Ch
open Go.RowKit YtdlamomabonkjaaDoorW.PrintWords YtdlamomabonkjaaDoorW.PrintLast Base PCh ParDec
set_option maxHeartbeats 4000000 in
theorem rread_data (w : World) (A : Option Addr) (c : Nat) (v : List UInt8) (fl : Int) (h0 : 0 ≤ fl) (hb : byte.C w A v.length v) (hc : v.length ≤ c) (hv : v.length ≤ 140737488355232) :
  Calls Tryd.prog 87 #[.agg (freshV 0 fl), .slice A v.length c] w (RReadP w (readData 0 (fl % 8) v)) := by
 have HG := Lh (fun (W : World) (h : Below w.heap.size w W) (at_ n : Nat) (z y : Int) (hz : z = (at_ : Int)) (hy : y = (n : Int)) (hn : n ≤ 4) (hh : at_ + n ≤ v.length) => get_calls W A v c (Kd.C_below hb h) hc (by omega) at_ n z y hz hy hn hh)
 have HBC := Lh (fun (W : World) (h : Below w.heap.size w W) => Kd.C_below hb h)
 have X := Bx.new w (freshV 0 fl)
 have HO := fresh_one 0 fl
 clear hb
 go_enter Tryd.func87, Tryd.ntmps87
 go_upto_region 1 with (fail)
 refine wp_gen (Bx w (freshV 0 fl)) X ?_
 clear X
 intro W X
 have k0 : W.cell? ⟨w.heap.size, 0, none⟩ = some (.int .u8 0) := X.cell 0
 by_cases h12 : v.length = 12
 ·have q : ((v.length : Int) == 12) = true := by simp [h12]
  have HR := Lh (show readData 0 (fl % 8) v = .error 62 by unfold readData; rw [if_neg (by omega), if_pos h12])
  go_wp2_with (with_reducible refine gate_dst (N := 13) rfl ?_; go_must (refine wpList_ret_row 13 rfl rfl rfl (.tmp 2) (.tmp 4) rfl rfl rfl _ _ _ _ rfl rfl rfl X.x0 X.x1 rfl rfl HO ?_))
  exact ret_bad rfl rfl rfl rfl X.x1 HR.out rfl HO X.x2 (Nat.le_succ _)
 have q : ((v.length : Int) == 12) = false := by simp; omega
 by_cases hlt : v.length < 12
 ·have HR := Lh (show readData 0 (fl % 8) v = .error 61 by unfold readData; rw [if_pos hlt])
  clear h12
  go_wp2_with (with_reducible refine gate_dst (N := 17) rfl ?_; go_must (refine wpList_ret_row 17 rfl rfl rfl (.tmp 2) (.tmp 4) rfl rfl rfl _ _ _ _ rfl rfl rfl X.x0 X.x1 rfl rfl HO ?_))
  exact ret_bad rfl rfl rfl rfl X.x1 HR.out rfl HO X.x2 (Nat.le_succ _)
 have HR := Lh (show readData 0 (fl % 8) v = .ok ⟨0, fl % 8, (be (v.take 4) : Nat), (be ((v.drop 4).take 2) : Nat), (be ((v.drop 6).take 2) : Nat), (be ((v.drop 8).take 4) : Nat), 0, 0, 0, 0, [], [], [], intsL (v.drop 12), []⟩ by unfold readData; rw [if_neg hlt, if_neg h12])
 have k1 : W.cell? ⟨w.heap.size, 1, none⟩ = some (.int .u8 fl) := X.cell 1
 have f1 := X.frozen 1
 go_upto_region 8 with (fail)
 refine wp_gen (Bx w (freshV 0 (fl % 8))) (X.set 1 _) ?_
 clear X k0 k1 f1 W HO
 intro W X
 have k2 : W.cell? ⟨w.heap.size, 2, none⟩ = _ := X.cell 2
 have k3 : W.cell? ⟨w.heap.size, 3, none⟩ = _ := X.cell 3
 have k4 : W.cell? ⟨w.heap.size, 4, none⟩ = _ := X.cell 4
 have k5 : W.cell? ⟨w.heap.size, 5, none⟩ = _ := X.cell 5
 have f2 := X.frozen 2
 have f3 := X.frozen 3
 have f4 := X.frozen 4
 have f5 := X.frozen 5
 go_wp2_with fail
 refine (HG.out _ X.x2 0 4 _ _ rfl rfl (by decide) (by omega)).mono ?_
 rintro e w1 ⟨rfl, ⟨m1, rfl⟩⟩
 go_wp2_with fail
 refine (HG.out _ (pw_below_drewN X.x2 _) 4 2 _ _ rfl rfl (by decide) (by omega)).mono ?_
 rintro e w1 ⟨rfl, ⟨m2, rfl⟩⟩
 go_wp2_with fail
 refine (HG.out _ (pw_below_drewN X.x2 _) 6 2 _ _ rfl rfl (by decide) (by omega)).mono ?_
 rintro e w1 ⟨rfl, ⟨m3, rfl⟩⟩
 go_wp2_with fail
 refine (HG.out _ (pw_below_drewN X.x2 _) 8 4 _ _ rfl rfl (by decide) (by omega)).mono ?_
 rintro e w1 ⟨rfl, ⟨m4, rfl⟩⟩
 go_upto_region 9 with (fail)
 simp only [u16_be]
 refine wp_gen (Bx w #[.int .u8 0, .int .u8 (fl % 8), .int .u32 ((be (v.take 4) : Nat) : Int), .int .u16 ((be ((v.drop 4).take 2) : Nat) : Int), .int .u16 ((be ((v.drop 6).take 2) : Nat) : Int), .int .u32 ((be ((v.drop 8).take 4) : Nat) : Int), .int .u32 0, .int .u32 0, .int .u16 0, .int .u16 0, .slice none 0 0, .slice none 0 0, .slice none 0 0, .slice none 0 0, .slice none 0 0]) (((((X.drewN _).set 2 _).set 3 _).set 4 _).set 5 _) ?_
 clear X k2 k3 k4 k5 f2 f3 f4 f5 W
 intro W X
 obtain ⟨A', hdr, hdC, hdl⟩ := drop_bytes (HBC.out W X.x2) hc 12 12 rfl (by omega)
 have HCD := Lh (fun (W' : World) (h : Below W.heap.size W W') => by
  have h2 := C_intsL (Kd.C_below hdC h)
  rw [List.length_drop] at h2
  exact h2)
 have HLD := Lh (show (v.drop 12).length ≤ 140737488355232 by rw [List.length_drop]; omega)
 clear hdC
 go_wp2_with (first | (with_reducible refine gate_dst (N := 36) rfl ?_; go_must (refine Kd.R_lit (Kd.int .u8) (w0 := W) W.heap.size 5 rfl rfl (xs := []) (inner := []) (ok := fun _ => True) (okp := fun _ => True) (by go_simp; try rfl) (reps_nil _) (fun _ _ => trivial) trivial (Below.refl _ _) (Nat.le_refl _) (by simp) ?_); (intro v1 w1 hR1 hB1 hG1 _; have HR1 := Lh hR1; have HB1 := Lh hB1; clear hR1 hB1 hG1)) | (at_builtin; go_must (refine Kd.R_append_row (Value.int .u8) (0 : Int) (w0 := W) (W := w1) W.heap.size rfl _ _ 27 5 _ 1 rfl Tryd.underlying27 info_u8 rfl (by decide) v1 [] (intsL (v.drop 12)) _ _ _ (fun _ => True) rfl rfl (fun _ _ => trivial) HR1.out (HCD.out _ HB1.out) HB1.out HB1.out.size (by have := HLD.out; simp; omega) ?_); (intro v2 w2 hR2 hB2 hG2 _; have HR2 := Lh hR2; have HB2 := Lh hB2; clear hR2 hB2 hG2; refine RowKit.Hid.out ?_)))
 refine Lh ?_
 have Y := X.below HB2.out
 have k13 : w2.cell? ⟨w.heap.size, 13, none⟩ = _ := Y.cell 13
 have f13 := Y.frozen 13
 obtain ⟨A2, c2, e2⟩ := Kd.R_slice HR2.out
 go_upto_region 10 with (fail)
 subst e2
 refine wp_gen (fun W' => Bx w #[.int .u8 0, .int .u8 (fl % 8), .int .u32 ((be (v.take 4) : Nat) : Int), .int .u16 ((be ((v.drop 4).take 2) : Nat) : Int), .int .u16 ((be ((v.drop 6).take 2) : Nat) : Int), .int .u32 ((be ((v.drop 8).take 4) : Nat) : Int), .int .u32 0, .int .u32 0, .int .u16 0, .int .u16 0, .slice none 0 0, .slice none 0 0, .slice none 0 0, .slice A2 (intsL (v.drop 12)).length c2, .slice none 0 0] W' ∧ (Kd.int .u8).R 5 W' W.heap.size (fun _ => True) (.slice A2 (intsL (v.drop 12)).length c2) (intsL (v.drop 12))) ⟨Y.set 13 _, R_only HR2.out ((Only.refl (· = w.heap.size) _).setCell (fun _ => rfl) _) (fun k hk _ h => by have := X.x3; omega)⟩ ?_
 have HSZ := Lh X.x3
 clear X Y k13 f13 hdr HCD HBC HG HLD HR1 HB1 HR2 HB2
 rintro W3 ⟨X, R3⟩
 go_wp2_with (with_reducible refine gate_dst (N := 41) rfl ?_; go_must (refine wpList_ret_row 41 rfl rfl rfl (.tmp 2) (.tmp 4) rfl rfl rfl _ _ _ _ rfl rfl rfl X.x0 X.x1 rfl rfl (by simp [Value.oneCell']) ?_))
 refine ret_good rfl rfl rfl rfl X.x1 HR.out rfl (by simp [Value.oneCell']) X.x2 (Nat.le_succ _) (k41_mkM _ _ _ _ (Kd.R_nil _ _ _ _ _) (Kd.R_nil _ _ _ _ _) (Kd.R_nil _ _ _ _ _) ?_ (Kd.R_nil _ _ _ _ _))
 exact Kd.R_lower (R_only R3 (setRow_only _ _ _) (fun k hk _ h => by have := HSZ.out; omega)) (by have := HSZ.out; omega)
end Go.Proofs.YtdlamomabonkjaaDoor.Ch
end
section
namespace Go.Proofs.YtdlamomabonkjaaDoor.Ch
open Go.RowKit YtdlamomabonkjaaDoorW.PrintWords YtdlamomabonkjaaDoorW.PrintLast Base PCh ParDec
set_option maxHeartbeats 4000000 in
theorem rread_shut (w : World) (A : Option Addr) (c : Nat) (v : List UInt8) (fl : Int) (hb : byte.C w A v.length v) (hc : v.length ≤ c) (hv : v.length ≤ 140737488355232) :
  Calls Tryd.prog 87 #[.agg (freshV 7 fl), .slice A v.length c] w (RReadP w (readShut 7 0 v)) := by
 have HG := Lh (fun (W : World) (h : Below w.heap.size w W) (at_ n : Nat) (z y : Int) (hz : z = (at_ : Int)) (hy : y = (n : Int)) (hn : n ≤ 4) (hh : at_ + n ≤ v.length) => get_calls W A v c (Kd.C_below hb h) hc (by omega) at_ n z y hz hy hn hh)
 have HBC := Lh (fun (W : World) (h : Below w.heap.size w W) => Kd.C_below hb h)
 have HO := fresh_one 7 fl
 have X := Bx.new w (freshV 7 fl)
 clear hb
 go_enter Tryd.func87, Tryd.ntmps87
 go_upto_region 1 with (fail)
 refine wp_gen (Bx w (freshV 7 fl)) X ?_
 clear X
 intro W X
 have k0 : W.cell? ⟨w.heap.size, 0, none⟩ = some (.int .u8 7) := X.cell 0
 by_cases h4 : v.length = 4
 ·have q : ((v.length : Int) != 4) = false := by simp [h4]
  have HR := Lh (show readShut 7 0 v = .ok ⟨7, 0, (be v : Nat), 0, 0, 0, 0, 0, 0, 0, [], [], [], [], []⟩ by unfold readShut; rw [if_pos h4])
  have HV := Lh (show v.take 4 = v from List.take_of_length_le (by omega))
  have h5 : 4 ≤ v.length := by omega
  clear h4
  have k1 : W.cell? ⟨w.heap.size, 1, none⟩ = some (.int .u8 fl) := X.cell 1
  have f1 := X.frozen 1
  have k2 : W.cell? ⟨w.heap.size, 2, none⟩ = some (.int .u32 0) := X.cell 2
  have f2 := X.frozen 2
  go_wp2_with fail
  refine (HG.out _ X.x2 0 4 _ _ rfl rfl (by decide) (by omega)).mono ?_
  rintro e w1 ⟨rfl, ⟨m0, rfl⟩⟩
  go_upto_region 34 with (fail)
  (first | rw [List.drop_zero, HV.out] | rw [HV.out])
  refine wp_gen (Bx w (#[.int .u8 7, .int .u8 0, .int .u32 ((be v : Nat) : Int), .int .u16 0, .int .u16 0, .int .u32 0, .int .u32 0, .int .u32 0, .int .u16 0, .int .u16 0, .slice none 0 0, .slice none 0 0, .slice none 0 0, .slice none 0 0, .slice none 0 0])) (((X.drewN _).set 1 _).set 2 _) ?_
  clear X k0 k1 f1 k2 f2 HO W
  intro W X
  go_wp2_with (with_reducible refine gate_dst (N := 113) rfl ?_; go_must (refine wpList_ret_row 113 rfl rfl rfl (.tmp 2) (.tmp 4) rfl rfl rfl _ _ _ _ rfl rfl rfl X.x0 X.x1 rfl rfl (by simp [Value.oneCell']) ?_))
  exact ret_good rfl rfl rfl rfl X.x1 HR.out rfl (by simp [Value.oneCell']) X.x2 (Nat.le_succ _) (k41_mkM _ _ _ _ (Kd.R_nil _ _ _ _ _) (Kd.R_nil _ _ _ _ _) (Kd.R_nil _ _ _ _ _) (Kd.R_nil _ _ _ _ _) (Kd.R_nil _ _ _ _ _))
 ·have q : ((v.length : Int) != 4) = true := by simp; omega
  have HR := Lh (show readShut 7 0 v = .error 61 by unfold readShut; rw [if_neg h4])
  go_wp2_with (with_reducible refine gate_dst (N := 108) rfl ?_; go_must (refine wpList_ret_row 108 rfl rfl rfl (.tmp 2) (.tmp 4) rfl rfl rfl _ _ _ _ rfl rfl rfl X.x0 X.x1 rfl rfl HO ?_))
  exact ret_bad rfl rfl rfl rfl X.x1 HR.out rfl HO X.x2 (Nat.le_succ _)
set_option maxHeartbeats 4000000 in
theorem rread_echo (w : World) (A : Option Addr) (c : Nat) (v : List UInt8) (fl : Int) (hb : byte.C w A v.length v) (hc : v.length ≤ c) (hv : v.length ≤ 140737488355232) :
  Calls Tryd.prog 87 #[.agg (freshV 10 fl), .slice A v.length c] w (RReadP w (readBody 10 0 v)) := by
 have HG := Lh (fun (W : World) (h : Below w.heap.size w W) (at_ n : Nat) (z y : Int) (hz : z = (at_ : Int)) (hy : y = (n : Int)) (hn : n ≤ 4) (hh : at_ + n ≤ v.length) => get_calls W A v c (Kd.C_below hb h) hc (by omega) at_ n z y hz hy hn hh)
 have HBC := Lh (fun (W : World) (h : Below w.heap.size w W) => Kd.C_below hb h)
 have HO := fresh_one 10 fl
 have X := Bx.new w (freshV 10 fl)
 clear hb
 go_enter Tryd.func87, Tryd.ntmps87
 go_upto_region 1 with (fail)
 refine wp_gen (Bx w (freshV 10 fl)) X ?_
 clear X
 intro W X
 have k0 : W.cell? ⟨w.heap.size, 0, none⟩ = some (.int .u8 10) := X.cell 0
 have k1 : W.cell? ⟨w.heap.size, 1, none⟩ = some (.int .u8 fl) := X.cell 1
 have f1 := X.frozen 1
 go_upto_region 44 with (fail)
 refine wp_gen (Bx w (freshV 10 0)) (X.set 1 _) ?_
 clear X k0 k1 f1 HO W
 intro W X
 have HR := Lh (show readBody 10 0 v = .ok ⟨10, 0, 0, 0, 0, 0, 0, 0, 0, 0, [], [], [], intsL v, []⟩ from rfl)
 have HCD := Lh (fun (W' : World) (h : Below W.heap.size W W') => C_intsL (Kd.C_below (HBC.out W X.x2) h))
 have HLD := Lh (show v.length ≤ 140737488355232 from hv)
 go_wp2_with (first | (with_reducible refine gate_dst (N := 130) rfl ?_; go_must (refine Kd.R_lit (Kd.int .u8) (w0 := W) W.heap.size 5 rfl rfl (xs := []) (inner := []) (ok := fun _ => True) (okp := fun _ => True) (by go_simp; try rfl) (reps_nil _) (fun _ _ => trivial) trivial (Below.refl _ _) (Nat.le_refl _) (by simp) ?_); (intro v1 w1 hR1 hB1 hG1 _; have HR1 := Lh hR1; have HB1 := Lh hB1; clear hR1 hB1 hG1)) | (at_builtin; go_must (refine Kd.R_append_row (Value.int .u8) (0 : Int) (w0 := W) (W := w1) W.heap.size rfl _ _ 27 5 _ 1 rfl Tryd.underlying27 info_u8 rfl (by decide) v1 [] (intsL v) _ _ _ (fun _ => True) rfl rfl (fun _ _ => trivial) HR1.out (HCD.out _ HB1.out) HB1.out HB1.out.size (by have := HLD.out; simp; omega) ?_); (intro v2 w2 hR2 hB2 hG2 _; have HR2 := Lh hR2; have HB2 := Lh hB2; clear hR2 hB2 hG2; refine RowKit.Hid.out ?_)))
 refine Lh ?_
 have Y := X.below HB2.out
 have k13 : w2.cell? ⟨w.heap.size, 13, none⟩ = _ := Y.cell 13
 have f13 := Y.frozen 13
 obtain ⟨A2, c2, e2⟩ := Kd.R_slice HR2.out
 go_upto_region 45 with (fail)
 subst e2
 refine wp_gen (fun W' => Bx w #[.int .u8 10, .int .u8 0, .int .u32 0, .int .u16 0, .int .u16 0, .int .u32 0, .int .u32 0, .int .u32 0, .int .u16 0, .int .u16 0, .slice none 0 0, .slice none 0 0, .slice none 0 0, .slice A2 (intsL v).length c2, .slice none 0 0] W' ∧ (Kd.int .u8).R 5 W' W.heap.size (fun _ => True) (.slice A2 (intsL v).length c2) (intsL v)) ⟨Y.set 13 _, R_only HR2.out ((Only.refl (· = w.heap.size) _).setCell (fun _ => rfl) _) (fun k hk _ h => by have := X.x3; omega)⟩ ?_
 have HSZ := Lh X.x3
 clear X Y k13 f13 HCD HBC HG HLD HR1 HB1 HR2 HB2
 rintro W3 ⟨X, R3⟩
 go_wp2_with (with_reducible refine gate_dst (N := 134) rfl ?_; go_must (refine wpList_ret_row 134 rfl rfl rfl (.tmp 2) (.tmp 4) rfl rfl rfl _ _ _ _ rfl rfl rfl X.x0 X.x1 rfl rfl (by simp [Value.oneCell']) ?_))
 refine ret_good rfl rfl rfl rfl X.x1 HR.out rfl (by simp [Value.oneCell']) X.x2 (Nat.le_succ _) (k41_mkM _ _ _ _ (Kd.R_nil _ _ _ _ _) (Kd.R_nil _ _ _ _ _) (Kd.R_nil _ _ _ _ _) ?_ (Kd.R_nil _ _ _ _ _))
 exact Kd.R_lower (R_only R3 (setRow_only _ _ _) (fun k hk _ h => by have := HSZ.out; omega)) (by have := HSZ.out; omega)
set_option maxHeartbeats 4000000 in
theorem rread_body (w : World) (A : Option Addr) (c : Nat) (v : List UInt8) (kd fl : Int) (hk : ∀ c ∈ ([0, 1, 2, 3, 16, 4, 5, 9, 6, 7, 8, 11, 14, 10] : List Int), kd ≠ c) (hb : byte.C w A v.length v) (hc : v.length ≤ c) (hv : v.length ≤ 140737488355232) :
  Calls Tryd.prog 87 #[.agg (freshV kd fl), .slice A v.length c] w (RReadP w (readBody kd fl v)) := by
 have HG := Lh (fun (W : World) (h : Below w.heap.size w W) (at_ n : Nat) (z y : Int) (hz : z = (at_ : Int)) (hy : y = (n : Int)) (hn : n ≤ 4) (hh : at_ + n ≤ v.length) => get_calls W A v c (Kd.C_below hb h) hc (by omega) at_ n z y hz hy hn hh)
 have HBC := Lh (fun (W : World) (h : Below w.heap.size w W) => Kd.C_below hb h)
 have HO := fresh_one kd fl
 have q0 : (kd == 0) = false := by simpa using hk 0 (by decide)
 have q1 : (kd == 1) = false := by simpa using hk 1 (by decide)
 have q2 : (kd == 2) = false := by simpa using hk 2 (by decide)
 have q3 : (kd == 3) = false := by simpa using hk 3 (by decide)
 have q16 : (kd == 16) = false := by simpa using hk 16 (by decide)
 have q4 : (kd == 4) = false := by simpa using hk 4 (by decide)
 have q5 : (kd == 5) = false := by simpa using hk 5 (by decide)
 have q9 : (kd == 9) = false := by simpa using hk 9 (by decide)
 have q6 : (kd == 6) = false := by simpa using hk 6 (by decide)
 have q7 : (kd == 7) = false := by simpa using hk 7 (by decide)
 have q8 : (kd == 8) = false := by simpa using hk 8 (by decide)
 have q11 : (kd == 11) = false := by simpa using hk 11 (by decide)
 have q14 : (kd == 14) = false := by simpa using hk 14 (by decide)
 have q10 : (kd == 10) = false := by simpa using hk 10 (by decide)
 clear hk
 have X := Bx.new w (freshV kd fl)
 clear hb
 go_enter Tryd.func87, Tryd.ntmps87
 go_upto_region 1 with (fail)
 refine wp_gen (Bx w (freshV kd fl)) X ?_
 clear X
 intro W X
 have k0 : W.cell? ⟨w.heap.size, 0, none⟩ = some (.int .u8 kd) := X.cell 0
 go_upto_region 44 with (fail)
 have HR := Lh (show readBody kd fl v = .ok ⟨kd, fl, 0, 0, 0, 0, 0, 0, 0, 0, [], [], [], intsL v, []⟩ from rfl)
 have HCD := Lh (fun (W' : World) (h : Below W.heap.size W W') => C_intsL (Kd.C_below (HBC.out W X.x2) h))
 have HLD := Lh (show v.length ≤ 140737488355232 from hv)
 go_wp2_with (first | (with_reducible refine gate_dst (N := 130) rfl ?_; go_must (refine Kd.R_lit (Kd.int .u8) (w0 := W) W.heap.size 5 rfl rfl (xs := []) (inner := []) (ok := fun _ => True) (okp := fun _ => True) (by go_simp; try rfl) (reps_nil _) (fun _ _ => trivial) trivial (Below.refl _ _) (Nat.le_refl _) (by simp) ?_); (intro v1 w1 hR1 hB1 hG1 _; have HR1 := Lh hR1; have HB1 := Lh hB1; clear hR1 hB1 hG1)) | (at_builtin; go_must (refine Kd.R_append_row (Value.int .u8) (0 : Int) (w0 := W) (W := w1) W.heap.size rfl _ _ 27 5 _ 1 rfl Tryd.underlying27 info_u8 rfl (by decide) v1 [] (intsL v) _ _ _ (fun _ => True) rfl rfl (fun _ _ => trivial) HR1.out (HCD.out _ HB1.out) HB1.out HB1.out.size (by have := HLD.out; simp; omega) ?_); (intro v2 w2 hR2 hB2 hG2 _; have HR2 := Lh hR2; have HB2 := Lh hB2; clear hR2 hB2 hG2; refine RowKit.Hid.out ?_)))
 refine Lh ?_
 have Y := X.below HB2.out
 have k13 : w2.cell? ⟨w.heap.size, 13, none⟩ = _ := Y.cell 13
 have f13 := Y.frozen 13
 obtain ⟨A2, c2, e2⟩ := Kd.R_slice HR2.out
 go_upto_region 45 with (fail)
 subst e2
 refine wp_gen (fun W' => Bx w #[.int .u8 (kd), .int .u8 (fl), .int .u32 0, .int .u16 0, .int .u16 0, .int .u32 0, .int .u32 0, .int .u32 0, .int .u16 0, .int .u16 0, .slice none 0 0, .slice none 0 0, .slice none 0 0, .slice A2 (intsL v).length c2, .slice none 0 0] W' ∧ (Kd.int .u8).R 5 W' W.heap.size (fun _ => True) (.slice A2 (intsL v).length c2) (intsL v)) ⟨Y.set 13 _, R_only HR2.out ((Only.refl (· = w.heap.size) _).setCell (fun _ => rfl) _) (fun k hk _ h => by have := X.x3; omega)⟩ ?_
 have HSZ := Lh X.x3
 clear X Y k13 f13 HCD HBC HG HLD HR1 HB1 HR2 HB2
 rintro W3 ⟨X, R3⟩
 go_wp2_with (with_reducible refine gate_dst (N := 134) rfl ?_; go_must (refine wpList_ret_row 134 rfl rfl rfl (.tmp 2) (.tmp 4) rfl rfl rfl _ _ _ _ rfl rfl rfl X.x0 X.x1 rfl rfl (by simp [Value.oneCell']) ?_))
 refine ret_good rfl rfl rfl rfl X.x1 HR.out rfl (by simp [Value.oneCell']) X.x2 (Nat.le_succ _) (k41_mkM _ _ _ _ (Kd.R_nil _ _ _ _ _) (Kd.R_nil _ _ _ _ _) (Kd.R_nil _ _ _ _ _) ?_ (Kd.R_nil _ _ _ _ _))
 exact Kd.R_lower (R_only R3 (setRow_only _ _ _) (fun k hk _ h => by have := HSZ.out; omega)) (by have := HSZ.out; omega)
end Go.Proofs.YtdlamomabonkjaaDoor.Ch
end
section
namespace Go.Proofs.YtdlamomabonkjaaDoor.Ch
open Go.RowKit YtdlamomabonkjaaDoorW.PrintWords YtdlamomabonkjaaDoorW.PrintLast Base PCh ParDec
theorem prmsD_err {v : List UInt8} {c : Int} (h : prmsD v = .error c) : c ≠ 0 := by
 unfold prmsD at h
 by_cases e : (decD v).2.2 = 0
 ·rw [if_pos e] at h
  cases h
 ·rw [if_neg e] at h
  injection h with h
  rw [← h]
  exact e
theorem listsD_err {nr : Bool} {v : List UInt8} {c : Int} (h : listsD nr v = .error c) : c ≠ 0 := by
 unfold listsD at h
 repeat' split at h
 all_goals first | cases h; done | (injection h with h; omega)
theorem readD_err {kd fl : Int} {v : List UInt8} {c : Int} (h : readD kd fl v = .error c) : c ≠ 0 := by
 unfold readD readData readInit readLists readPrms readShut readNone readBody at h
 repeat' split at h
 all_goals first | (cases h; done) | (injection h with h; omega) | (rename_i e; injection h with h; subst h; first | exact prmsD_err e | exact listsD_err e)
theorem rread_calls (w : World) (A : Option Addr) (c : Nat) (v : List UInt8) (kd fl : Int) (hk0 : 0 ≤ kd) (h0 : 0 ≤ fl) (h1 : fl < 256) (hb : byte.C w A v.length v) (hc : v.length ≤ c) (hv : v.length ≤ 140737488355232) :
  Calls Tryd.prog 87 #[.agg (freshV kd fl), .slice A v.length c] w (RReadP w (readD kd (flD kd fl) v)) := by
 unfold readD
 by_cases h : kd = 0
 ·subst h; rw [if_pos rfl, flD_eight _ fl h0 h1 (by rfl)]; exact rread_data w A c v fl h0 hb hc hv
 rw [if_neg h]
 by_cases h' : kd = 1 ∨ kd = 2
 ·rw [if_pos h', flD_zero _ fl h0 h1 (by rcases h' with rfl | rfl <;> rfl)]; exact rread_init w A c v kd fl h' hb hc hv
 rw [if_neg h']
 by_cases h3 : kd = 3
 ·subst h3; rw [if_pos rfl, flD_zero _ fl h0 h1 (by rfl)]; exact rread_l3 w A c v fl hb hc hv
 rw [if_neg h3]
 by_cases h16 : kd = 16
 ·subst h16; rw [if_pos rfl, flD_zero _ fl h0 h1 (by rfl)]; exact rread_l16 w A c v fl hb hc hv
 rw [if_neg h16]
 by_cases h4 : kd = 4 ∨ kd = 5
 ·rw [if_pos h4, flD_zero _ fl h0 h1 (by rcases h4 with rfl | rfl <;> rfl)]
  rcases h4 with rfl | rfl
  ·exact rread_p4 w A c v fl hb hc hv
  ·exact rread_p5 w A c v fl hb hc hv
 rw [if_neg h4]
 by_cases h6 : kd = 6 ∨ kd = 9
 ·rw [if_pos h6]
  rcases h6 with rfl | rfl
  ·rw [flD_two _ fl h0 h1 (by rfl)]; exact rread_p6 w A c v fl hb hc hv h0
  ·rw [flD_zero _ fl h0 h1 (by rfl)]; exact rread_p9 w A c v fl hb hc hv
 rw [if_neg h6]
 by_cases h7 : kd = 7
 ·subst h7; rw [if_pos rfl, flD_zero _ fl h0 h1 (by rfl)]; exact rread_shut w A c v fl hb hc hv
 rw [if_neg h7]
 by_cases h8 : kd = 8 ∨ kd = 11 ∨ kd = 14
 ·rw [if_pos h8]; exact rread_none w A c v kd fl h8 h0 h1 hb hc hv
 rw [if_neg h8]
 by_cases h10 : kd = 10
 ·subst h10; rw [flD_zero _ fl h0 h1 (by rfl)]; exact rread_echo w A c v fl hb hc hv
 rw [flD_all _ fl h0 h1 (by unfold maskD; rw [if_neg h, if_neg (fun e => e.elim (fun e => h6 (Or.inl e)) (fun e => h8 (Or.inr (Or.inr e)))), if_neg (by omega)])]
 exact rread_body w A c v kd fl (by intro x hx; simp only [List.mem_cons, List.not_mem_nil, or_false] at hx; omega) hb hc hv
theorem chkE : ∀ q ∈ k41.E, q ≠ 41 := by decide
theorem M_setRow {w : World} {b0 g : Nat} {d : Chk} {cs : List Value} {old cs' : Array Value} (h : k41.M w b0 (fun _ => True) d cs) (hg : w.heap[g]? = some (.cells old 41 (0, 0))) : k41.M (w.setRow g cs') b0 (fun _ => True) d cs :=
 k41.M_mono (fun _ hk => hk.1) (k41.M_move (fun k hk => setRow_other _ _ _ _ (fun e => by
  obtain ⟨_, _, _, q, hq, cells, hc⟩ := hk
  rw [e, hg] at hc
  injection hc with hc
  injection hc with _ hc
  exact chkE q hq hc.symm)) (k41.M_bound h))
theorem ParR.alloc {b0 : Nat} {r : Except Int Chk} {cs : Array Value} {code : Int} {w : World} (h : ParR b0 r cs code w) (x : Obj) : ParR b0 r cs code (w.alloc x) := by
 obtain ⟨h1, h2, h3⟩ := h
 refine ⟨h1, h2, ?_⟩
 cases r with
 | error c => exact h3
 | ok d => exact ⟨h3.1, M_only h3.2 (Only.of_below (S := fun _ => False) (below_alloc (Below.refl _ _) x)) (fun _ _ _ h => h)⟩
theorem ParR.setRow {b0 g : Nat} {r : Except Int Chk} {cs old cs' : Array Value} {code : Int} {w : World} (h : ParR b0 r cs code w) (hg : w.heap[g]? = some (.cells old 41 (0, 0))) : ParR b0 r cs code (w.setRow g cs') := by
 obtain ⟨h1, h2, h3⟩ := h
 refine ⟨h1, h2, ?_⟩
 cases r with
 | error c => exact h3
 | ok d => exact ⟨h3.1, M_setRow h3.2 hg⟩
def rdecT6 : Bool × List (List Nat × List Nat) := (true, [([], []), ([0], [0]), ([1], [1]), ([], []), ([3], [3]), ([4], [4]), ([2, 5], [2, 5]), ([], []), ([], []), ([7, 8], [7, 8]), ([6, 9], [6, 9]), ([10], [10]), ([11], [11]), ([11], [11]), ([], []), ([14, 12, 10, 0, 1, 2, 3, 4, 5, 6, 7, 8, 9, 10, 11, 12, 14], [12, 14]), ([13, 15, 0, 1, 2, 3, 4, 5, 6, 7, 8, 9, 10, 11, 12, 13, 14, 15], [13])])
def rdecB6 : List Nat := [0, 1, 3, 0, 8, 24, 63, 0, 0, 384, 1023, 2047, 4095, 4095, 0, 24575, 65535]
theorem rdectab6 : Go.Proofs.YtdlamomabonkjaaDoorW.PrintLast.rtab .any (Go.Proofs.YtdlamomabonkjaaDoorW.PrintLast.opsOf Tryd.f70 6) = rdecT6 := by kernel_rfl
theorem rdecbits6 : Go.Proofs.YtdlamomabonkjaaDoorW.PrintLast.waitsOk rdecT6.2 rdecB6 = true := by kernel_rfl
theorem rdec_results (tmps : Array Value) (w : World) (a : Nat) (cs : Array Value) (v1 v2 : Value) (t0 : tmps.getD 2 undef = .pointer (some ⟨a, 0, none⟩)) (t1 : tmps.getD 3 undef = v1) (t2 : tmps.getD 4 undef = v2)
  (h0 : w.heap[a]? = some (.cells cs 41 (0, 0))) (hcs : cs.size = 15) : (results Tryd.f70 tmps).run Tryd.prog w = .ok (.tuple #[.agg cs, v1, v2]) w := by
 have hi : (Tryd.prog.info? 41).map (·.size) = some cs.size := by rw [hcs]; kernel_rfl
 have hl := run_loadVar_row w a 41 41 cs (0, 0) _ h0 Tryd.underlying41 rfl hi
 rw [Array.getD_eq_getD_getElem?] at t0 t1 t2
 simp [results, Tryd.results70, asAddr, t0, t1, t2, hl]
set_option maxHeartbeats 4000000 in
theorem rdec_calls (w : World) (A : Option Addr) (bs : List UInt8) (c : Nat) (hb : byte.C w A bs.length bs) (hc : bs.length ≤ c) (hv : bs.length ≤ 140737488355232) :
  Calls Tryd.prog 70 #[.slice A bs.length c] w (DecCP bs w) := by
 unfold DecCP
 have HBC := Lh (fun (W : World) (h : Below w.heap.size w W) => Kd.C_below hb h)
 have X := (show (w.alloc (.cells zerV 41)).heap[w.heap.size]? = some (.cells zerV 41 (0, 0)) ∧ Below w.heap.size w (w.alloc (.cells zerV 41)) from ⟨blk_new _ _, below_alloc (Below.refl _ _) _⟩)
 go_enter Tryd.func70, Tryd.ntmps70
 go_upto_region 1 with (fail)
 refine wp_gen (fun W => W.heap[w.heap.size]? = some (.cells zerV 41 (0, 0)) ∧ Below w.heap.size w W) X ?_
 clear X
 intro W X
 by_cases h4 : bs.length < 4
 ·have HR := Lh (show decC bs = (chk0 0 0, 0, 60) by unfold decC; rw [if_pos h4])
  clear hb
  go_wp2_with (with_reducible refine gate_store (p := 2) rfl ?_; go_must (refine wpList_store_row rfl 41 (.tmp 2) (.tmp 11) rfl _ zerV rfl rfl 41 zerV X.1 (by kernel_rfl) rfl (by simp [Value.oneCell']) ?_))
  exact bodyPost_ret (rdec_results _ _ _ zerV _ _ rfl rfl rfl (setRow_heap _ _ _ _ _ _ X.1) rfl) rfl ⟨zerV, by rw [HR.out]; try rfl, by rw [HR.out]; exact mnil _ _ _ _, below_setRow X.2 (Nat.le_refl _) _⟩
 have hcl := Lh (show ∀ W, Below w.heap.size w W → byte.C W A bs.length bs from HBC.out)
 go_wp2_with fail
 refine (get_calls W A bs c (HBC.out W X.2) hc (by omega) 2 2 _ _ rfl rfl (by decide) (by omega)).mono ?_
 rintro e w1 ⟨rfl, ⟨m0, rfl⟩⟩
 have hbe := be_two_lt (bs.drop 2)
 have HDC := Lh (show decC bs = _ from by unfold decC; rw [if_neg h4])
 clear hcl hb
 obtain ⟨n, hn⟩ : ∃ n, be ((bs.drop 2).take 2) = n := ⟨_, rfl⟩
 rw [hn] at HDC hbe ⊢
 replace X := (show (W.drewN m0).heap[w.heap.size]? = some (.cells zerV 41 (0, 0)) ∧ Below w.heap.size w (W.drewN m0) from ⟨blk_drewN X.1 m0, pw_below_drewN X.2 m0⟩)
 generalize W.drewN m0 = W at *
 clear hn
 by_cases hsz : n < 4 ∨ bs.length < n
 ·have HR := Lh (show decC bs = (chk0 0 0, 0, 60) by rw [HDC.out, if_pos hsz])
  clear HDC
  go_wp2_with (with_reducible refine gate_store (p := 2) rfl ?_; go_must (refine wpList_store_row rfl 41 (.tmp 2) (.tmp 23) rfl _ zerV rfl rfl 41 zerV X.1 (by kernel_rfl) rfl (by simp [Value.oneCell']) ?_))
  all_goals first | (exfalso; omega) | (exact bodyPost_ret (rdec_results _ _ _ zerV _ _ rfl rfl rfl (setRow_heap _ _ _ _ _ _ X.1) rfl) rfl ⟨zerV, by rw [HR.out]; try rfl, by rw [HR.out]; exact mnil _ _ _ _, below_setRow X.2 (Nat.le_refl _) _⟩)
 rw [if_neg hsz] at HDC
 have p1 : decide ((n : Int) < 4) = false := by simp; omega
 have p2 : decide ((bs.length : Int) < (n : Int)) = false := by simp; omega
 have hn4 : 4 ≤ n := by omega
 have hnl : n ≤ bs.length := by omega
 clear hsz
 have hC := HBC.out W X.2
 obtain ⟨A9, hsl, hdC, hdl⟩ := mid_bytes hC hc 4 n hn4 hnl
 replace hsl : ∀ W : World, (Instr.slice 27 (.slice A bs.length c) (some (.int .i64 4)) (some (.int .i64 (n : Int))) none).run Tryd.prog W = .ok (.slice A9 ((bs.take n).drop 4).length (c - 4)) W := hsl
 obtain ⟨ad, e1, c0⟩ := byte_at hC 0 (by omega)
 obtain ⟨ad', e2, c1⟩ := byte_at hC 1 (by omega)
 subst e1
 cases e2
 rw [show ad.add 1 = ad.add (0 + 1) from rfl, add_field _ _ 1 (by omega)] at c1
 replace c1 : W.cell? ⟨ad.block, ad.off + 1, none⟩ = some (.int .u8 ((bs.getD 1 0).toNat : Int)) := c1
 replace c0 : W.cell? ad = some (.int .u8 ((bs.getD 0 0).toNat : Int)) := c0
 have hz : ((bs.take n).drop 4).length ≤ 140737488355232 := by rw [List.length_drop, List.length_take]; omega
 obtain ⟨kd, hkd⟩ : ∃ kd : Int, ((bs.getD 0 0).toNat : Int) = kd := ⟨_, rfl⟩
 obtain ⟨fl, hfl⟩ : ∃ fl : Int, ((bs.getD 1 0).toNat : Int) = fl := ⟨_, rfl⟩
 have hk0 : 0 ≤ kd := by omega
 have hf0 : 0 ≤ fl := by omega
 have hf1 : fl < 256 := by rw [← hfl]; have := (bs.getD 1 0).toNat_lt; omega
 rw [hkd] at HDC c0
 rw [hfl] at HDC c1
 have C0 := Lh c0
 have C1 := Lh c1
 have HP := Lh (fun (W' : World) (h : Below W.heap.size W W') => rread_calls W' A9 (c - 4) ((bs.take n).drop 4) kd fl hk0 hf0 hf1 (Kd.C_below hdC h) hdl hz)
 have hin1 : (0 : Int) < (bs.length : Int) := by omega
 have hin2 : ¬ (bs.length : Int) ≤ 0 := by omega
 have hin3 : ¬ (bs.length : Int) ≤ 1 := by omega
 have hin4 : (1 : Int) < (bs.length : Int) := by omega
 have hin5 : ¬ bs = [] := fun e => by rw [e] at hin1; simp at hin1
 clear hC hdC hdl c0 c1 hz hkd hfl hk0 hf0 hf1 HBC
 generalize ((bs.take n).drop 4).length = zl at *
 generalize c - 4 = zc at *
 generalize (bs.take n).drop 4 = v at *
 have hmin : (4 : Int) ≤ (n : Int) := by omega
 go_upto_region 6 with (fail)
 have B := True.intro
 refine start_ (n := 17) (S := fun w' => True) (ds := []) #[false, false, false, false, false, false, false, false, false, false, false, false, false, false, false, false, false] (by kernel_rfl) rfl rfl trivial (fun hHeld => ?_)
 refine with_tabW rdectab6 rdecbits6 (fun HT_ HW_ => ?_)
 refine pu 0 25 ?_ rfl rfl (any_of HT_.out (by kernel_rfl)) (fun _ _ _ h => h) (by rfl) ?_ ?_ ?_ ?_
 rotate_left
 ·intro w'
  go_simp
  with_reducible rfl
 rotate_left
 ·simp only [sL]
  rfl
 refine pu 3 28 ?_ rfl rfl (any_of HT_.out (by kernel_rfl)) (fun _ _ _ h => h) (by rfl) ?_ ?_ ?_ ?_
 rotate_left
 ·intro w'
  go_simp
  with_reducible rfl
 rotate_left
 ·simp only [sL]
  rfl
 refine pu 7 32 ?_ rfl rfl (any_of HT_.out (by kernel_rfl)) (fun _ _ _ h => h) (by rfl) ?_ ?_ ?_ ?_
 rotate_left
 ·intro w'
  go_simp
  with_reducible rfl
 rotate_left
 ·simp only [sL]
  rfl
 refine pu 8 33 ?_ rfl rfl (any_of HT_.out (by kernel_rfl)) (fun _ _ _ h => h) (by rfl) ?_ ?_ ?_ ?_
 rotate_left
 ·intro w'
  go_simp
  with_reducible rfl
 rotate_left
 ·simp only [sL]
  rfl
 refine inv_at [1, 2, 4, 5, 6, 9, 10, 11, 12, 13, 14, 15, 16] (fun a0_ b a w' => ∃ (cs : Array Value) (code : Int) (g6 : Nat) (m10_ : Value) (m11_ : Value) (m12_ : Value) (m13_ : Value) (m14_ : Value) (m16_ : Value), a = putSel a0_ b [(1, 26, .pointer (some ad)), (2, 27, .int .u8 kd), (4, 29, .pointer (some ⟨ad.block, ad.off + 1, none⟩)), (5, 30, .int .u8 fl), (6, 31, .agg (#[.int .u8 (kd), .int .u8 (fl), .int .u32 0, .int .u16 0, .int .u16 0, .int .u32 0, .int .u32 0, .int .u32 0, .int .u16 0, .int .u16 0, .slice none 0 0, .slice none 0 0, .slice none 0 0, .slice none 0 0, .slice none 0 0])), (9, 34, .slice A9 zl zc), (10, 35, m10_), (11, 24, m11_), (12, 36, m12_), (13, 37, m13_), (14, 6, m14_), (16, 7, m16_)] ∧ (Below W.heap.size W w') ∧ (b 10 = true → ParR W.heap.size (readD kd (flD kd fl) v) cs code w') ∧ (b 14 = true → b 15 = false → w'.heap[g6]? = some (.cells (#[.int .u8 0, .int .u8 0, .int .u32 0, .int .u16 0, .int .u16 0, .int .u32 0, .int .u32 0, .int .u32 0, .int .u16 0, .int .u16 0, .slice none 0 0, .slice none 0 0, .slice none 0 0, .slice none 0 0, .slice none 0 0]) 41 (0, 0)) ∧ W.heap.size ≤ g6) ∧ (b 15 = true → w'.heap[g6]? = some (.cells cs 41 (0, 0)) ∧ W.heap.size ≤ g6) ∧ (b 10 = true → (m10_ : Value) = .tuple #[.agg cs, .int .i64 code]) ∧ (b 11 = true → (m11_ : Value) = .tuple #[.agg cs, .int .i64 code]) ∧ (b 12 = true → (m12_ : Value) = .agg cs) ∧ (b 13 = true → (m13_ : Value) = .int .i64 code) ∧ (b 14 = true → (m14_ : Value) = .pointer (some ⟨g6, 0, none⟩)) ∧ (b 16 = true → (m16_ : Value) = .int .i64 code)) HT_.out HW_.out (by kernel_rfl) (by kernel_rfl) ?_ ?_ ?_
 ·exact ⟨#[], 0, 0, .bool false, .bool false, .bool false, .bool false, .bool false, .bool false, by simp only [putSel, Bool.false_eq_true, if_false], below_drew (Below.refl _ _), fun h_ => absurd h_ (by decide), fun h_ => absurd h_ (by decide), fun h_ => absurd h_ (by decide), fun h_ => absurd h_ (by decide), fun h_ => absurd h_ (by decide), fun h_ => absurd h_ (by decide), fun h_ => absurd h_ (by decide), fun h_ => absurd h_ (by decide), fun h_ => absurd h_ (by decide)⟩
 ·skip
  clear B
  refine sc rfl ?_ ?_
  ·rintro b a w' ⟨cs, code, g6, m10_, m11_, m12_, m13_, m14_, m16_, ha, Q_B, Q_P, Q_Z, Q_Z2, Q_X10_, Q_X11_, Q_X12_, Q_X13_, Q_X14_, Q_X16_⟩ hb_ hon hoff K hK
   have e25 : a.tmps[25]? = some (.slice (some ad) bs.length c) := by rw [ha]; exact (putSel_off rfl).trans rfl
   replace ha := Am ha
   refine value_ (w1 := w') (v := .pointer (some ad)) (by rfl) rfl ?_ ?_
   ·go_simp
    (try simp only [i64_w])
    try rfl
   refine hK.out _ _ ⟨cs, code, g6, m10_, m11_, m12_, m13_, m14_, m16_, (puk ha 0 hb_ rfl rfl rfl), Q_B, fun h0_ => hof (hoff 10 (by kernel_rfl)) h0_, Q_Z, fun h0_ => hof (hoff 15 (by kernel_rfl)) h0_, fun h0_ => hof (hoff 10 (by kernel_rfl)) h0_, fun h0_ => hof (hoff 11 (by kernel_rfl)) h0_, fun h0_ => hof (hoff 12 (by kernel_rfl)) h0_, fun h0_ => hof (hoff 13 (by kernel_rfl)) h0_, Q_X14_, fun h0_ => hof (hoff 16 (by kernel_rfl)) h0_⟩
  refine sc rfl ?_ ?_
  ·rintro b a w' ⟨cs, code, g6, m10_, m11_, m12_, m13_, m14_, m16_, ha, Q_B, Q_P, Q_Z, Q_Z2, Q_X10_, Q_X11_, Q_X12_, Q_X13_, Q_X14_, Q_X16_⟩ hb_ hon hoff K hK
   have e26 := psn ha 0 rfl rfl (hon 1 (by kernel_rfl)) rfl
   replace ha := Am ha
   have B := Am Q_B
   have hs := pw_cell_below B.out C0.out
   refine value_ (w1 := w') (v := .int .u8 kd) (by rfl) rfl ?_ ?_
   ·go_simp
    (try simp only [i64_w])
    try rfl
   refine hK.out _ _ ⟨cs, code, g6, m10_, m11_, m12_, m13_, m14_, m16_, (puk ha 1 hb_ rfl rfl rfl), Q_B, fun h0_ => hof (hoff 10 (by kernel_rfl)) h0_, Q_Z, fun h0_ => hof (hoff 15 (by kernel_rfl)) h0_, fun h0_ => hof (hoff 10 (by kernel_rfl)) h0_, fun h0_ => hof (hoff 11 (by kernel_rfl)) h0_, fun h0_ => hof (hoff 12 (by kernel_rfl)) h0_, fun h0_ => hof (hoff 13 (by kernel_rfl)) h0_, Q_X14_, fun h0_ => hof (hoff 16 (by kernel_rfl)) h0_⟩
  refine sc rfl ?_ ?_
  ·rintro b a w' ⟨cs, code, g6, m10_, m11_, m12_, m13_, m14_, m16_, ha, Q_B, Q_P, Q_Z, Q_Z2, Q_X10_, Q_X11_, Q_X12_, Q_X13_, Q_X14_, Q_X16_⟩ hb_ hon hoff K hK
   have e28 : a.tmps[28]? = some (.slice (some ad) bs.length c) := by rw [ha]; exact (putSel_off rfl).trans rfl
   replace ha := Am ha
   refine value_ (w1 := w') (v := .pointer (some ⟨ad.block, ad.off + 1, none⟩)) (by rfl) rfl ?_ ?_
   ·go_simp
    (try simp only [i64_w])
    try rfl
   refine hK.out _ _ ⟨cs, code, g6, m10_, m11_, m12_, m13_, m14_, m16_, (puk ha 2 hb_ rfl rfl rfl), Q_B, fun h0_ => hof (hoff 10 (by kernel_rfl)) h0_, Q_Z, fun h0_ => hof (hoff 15 (by kernel_rfl)) h0_, fun h0_ => hof (hoff 10 (by kernel_rfl)) h0_, fun h0_ => hof (hoff 11 (by kernel_rfl)) h0_, fun h0_ => hof (hoff 12 (by kernel_rfl)) h0_, fun h0_ => hof (hoff 13 (by kernel_rfl)) h0_, Q_X14_, fun h0_ => hof (hoff 16 (by kernel_rfl)) h0_⟩
  refine sc rfl ?_ ?_
  ·rintro b a w' ⟨cs, code, g6, m10_, m11_, m12_, m13_, m14_, m16_, ha, Q_B, Q_P, Q_Z, Q_Z2, Q_X10_, Q_X11_, Q_X12_, Q_X13_, Q_X14_, Q_X16_⟩ hb_ hon hoff K hK
   have e29 := psn ha 2 rfl rfl (hon 4 (by kernel_rfl)) rfl
   replace ha := Am ha
   have B := Am Q_B
   have hs := pw_cell_below B.out C1.out
   refine value_ (w1 := w') (v := .int .u8 fl) (by rfl) rfl ?_ ?_
   ·go_simp
    (try simp only [i64_w])
    try rfl
   refine hK.out _ _ ⟨cs, code, g6, m10_, m11_, m12_, m13_, m14_, m16_, (puk ha 3 hb_ rfl rfl rfl), Q_B, fun h0_ => hof (hoff 10 (by kernel_rfl)) h0_, Q_Z, fun h0_ => hof (hoff 15 (by kernel_rfl)) h0_, fun h0_ => hof (hoff 10 (by kernel_rfl)) h0_, fun h0_ => hof (hoff 11 (by kernel_rfl)) h0_, fun h0_ => hof (hoff 12 (by kernel_rfl)) h0_, fun h0_ => hof (hoff 13 (by kernel_rfl)) h0_, Q_X14_, fun h0_ => hof (hoff 16 (by kernel_rfl)) h0_⟩
  refine sc rfl ?_ ?_
  ·rintro b a w' ⟨cs, code, g6, m10_, m11_, m12_, m13_, m14_, m16_, ha, Q_B, Q_P, Q_Z, Q_Z2, Q_X10_, Q_X11_, Q_X12_, Q_X13_, Q_X14_, Q_X16_⟩ hb_ hon hoff K hK
   have e27 := psn ha 1 rfl rfl (hon 2 (by kernel_rfl)) rfl
   have e30 := psn ha 3 rfl rfl (hon 5 (by kernel_rfl)) rfl
   replace ha := Am ha
   refine value_ (w1 := w') (v := .agg (#[.int .u8 (kd), .int .u8 (fl), .int .u32 0, .int .u16 0, .int .u16 0, .int .u32 0, .int .u32 0, .int .u32 0, .int .u16 0, .int .u16 0, .slice none 0 0, .slice none 0 0, .slice none 0 0, .slice none 0 0, .slice none 0 0])) (by rfl) rfl ?_ ?_
   ·go_simp
    (try simp only [i64_w])
    try rfl
   refine hK.out _ _ ⟨cs, code, g6, m10_, m11_, m12_, m13_, m14_, m16_, (puk ha 4 hb_ rfl rfl rfl), Q_B, fun h0_ => hof (hoff 10 (by kernel_rfl)) h0_, Q_Z, fun h0_ => hof (hoff 15 (by kernel_rfl)) h0_, fun h0_ => hof (hoff 10 (by kernel_rfl)) h0_, fun h0_ => hof (hoff 11 (by kernel_rfl)) h0_, fun h0_ => hof (hoff 12 (by kernel_rfl)) h0_, fun h0_ => hof (hoff 13 (by kernel_rfl)) h0_, Q_X14_, fun h0_ => hof (hoff 16 (by kernel_rfl)) h0_⟩
  refine sc rfl ?_ ?_
  ·rintro b a w' ⟨cs, code, g6, m10_, m11_, m12_, m13_, m14_, m16_, ha, Q_B, Q_P, Q_Z, Q_Z2, Q_X10_, Q_X11_, Q_X12_, Q_X13_, Q_X14_, Q_X16_⟩ hb_ hon hoff K hK
   have e32 : a.tmps[32]? = some (.slice (some ad) bs.length c) := by rw [ha]; exact (putSel_off rfl).trans rfl
   have e33 : a.tmps[33]? = some (.int .i64 (n : Int)) := by rw [ha]; exact (putSel_off rfl).trans rfl
   replace ha := Am ha
   refine value_ (w1 := w') (v := .slice A9 zl zc) (by rfl) rfl ?_ ?_
   ·go_simp
    (try simp only [i64_w])
    try rfl
   refine hK.out _ _ ⟨cs, code, g6, m10_, m11_, m12_, m13_, m14_, m16_, (puk ha 5 hb_ rfl rfl rfl), Q_B, fun h0_ => hof (hoff 10 (by kernel_rfl)) h0_, Q_Z, fun h0_ => hof (hoff 15 (by kernel_rfl)) h0_, fun h0_ => hof (hoff 10 (by kernel_rfl)) h0_, fun h0_ => hof (hoff 11 (by kernel_rfl)) h0_, fun h0_ => hof (hoff 12 (by kernel_rfl)) h0_, fun h0_ => hof (hoff 13 (by kernel_rfl)) h0_, Q_X14_, fun h0_ => hof (hoff 16 (by kernel_rfl)) h0_⟩
  refine sc rfl ?_ ?_
  ·rintro b a w' ⟨cs, code, g6, m10_, m11_, m12_, m13_, m14_, m16_, ha, Q_B, Q_P, Q_Z, Q_Z2, Q_X10_, Q_X11_, Q_X12_, Q_X13_, Q_X14_, Q_X16_⟩ hb_ hon hoff K hK
   have e31 := psn ha 4 rfl rfl (hon 6 (by kernel_rfl)) rfl
   have e34 := psn ha 5 rfl rfl (hon 9 (by kernel_rfl)) rfl
   replace ha := Am ha
   have B := Am Q_B
   refine goes_ Tryd.func87 (by kernel_rfl) rfl #[.agg (#[.int .u8 (kd), .int .u8 (fl), .int .u32 0, .int .u16 0, .int .u16 0, .int .u32 0, .int .u32 0, .int .u32 0, .int .u16 0, .int .u16 0, .slice none 0 0, .slice none 0 0, .slice none 0 0, .slice none 0 0, .slice none 0 0]), .slice A9 zl zc] (by rfl) rfl rfl (by first | (simp only [List.map_toArray, List.map_cons, List.map_nil, Act.eval, Array.getD_eq_getD_getElem?, Option.getD_some, e31, e34]; done) | (simp only [List.map_toArray, List.map_cons, List.map_nil, Act.eval, Array.getD_eq_getD_getElem?, Option.getD_some, e31, e34]; rfl)) ?_
   refine (HP.out w' B.out).mono ?_
   rintro e w1 ⟨cs1, code1, rfl, hsz1, hone1, hB1, hP1⟩
   refine ⟨_, rfl, ?_⟩
   refine hK.out _ _ ⟨cs1, code1, g6, (.tuple #[.agg cs1, .int .i64 code1]), m11_, m12_, m13_, m14_, m16_, (puk ha 6 hb_ rfl rfl rfl), below_then B.out B.out.size hB1, fun _ => ParR.of hsz1 hone1 B.out.size hP1, fun h0_ h1_ => ⟨blk_below (Q_Z h0_ h1_).1 hB1, (Q_Z h0_ h1_).2⟩, fun h0_ => hof (hoff 15 (by kernel_rfl)) h0_, fun _ => rfl, fun h0_ => hof (hoff 11 (by kernel_rfl)) h0_, fun h0_ => hof (hoff 12 (by kernel_rfl)) h0_, fun h0_ => hof (hoff 13 (by kernel_rfl)) h0_, Q_X14_, fun h0_ => hof (hoff 16 (by kernel_rfl)) h0_⟩
  refine sc rfl ?_ ?_
  ·rintro b a w' ⟨cs, code, g6, m10_, m11_, m12_, m13_, m14_, m16_, ha, Q_B, Q_P, Q_Z, Q_Z2, Q_X10_, Q_X11_, Q_X12_, Q_X13_, Q_X14_, Q_X16_⟩ hb_ hon hoff K hK
   have e35 := psn ha 6 rfl rfl (hon 10 (by kernel_rfl)) rfl
   rw [Q_X10_ (hon 10 (by kernel_rfl))] at e35
   replace ha := Am ha
   refine value_ (w1 := w') (v := .tuple #[.agg cs, .int .i64 code]) (by rfl) rfl ?_ ?_
   ·go_simp
    (try simp only [i64_w])
    try rfl
   refine hK.out _ _ ⟨cs, code, g6, m10_, (.tuple #[.agg cs, .int .i64 code]), m12_, m13_, m14_, m16_, (puk ha 7 hb_ rfl rfl rfl), Q_B, Q_P, Q_Z, fun h0_ => hof (hoff 15 (by kernel_rfl)) h0_, Q_X10_, fun _ => rfl, fun h0_ => hof (hoff 12 (by kernel_rfl)) h0_, fun h0_ => hof (hoff 13 (by kernel_rfl)) h0_, Q_X14_, fun h0_ => hof (hoff 16 (by kernel_rfl)) h0_⟩
  refine sc rfl ?_ ?_
  ·rintro b a w' ⟨cs, code, g6, m10_, m11_, m12_, m13_, m14_, m16_, ha, Q_B, Q_P, Q_Z, Q_Z2, Q_X10_, Q_X11_, Q_X12_, Q_X13_, Q_X14_, Q_X16_⟩ hb_ hon hoff K hK
   have e24 := psn ha 7 rfl rfl (hon 11 (by kernel_rfl)) rfl
   rw [Q_X11_ (hon 11 (by kernel_rfl))] at e24
   replace ha := Am ha
   refine value_ (w1 := w') (v := .agg cs) (by rfl) rfl ?_ ?_
   ·go_simp
    (try simp only [i64_w])
    try rfl
   refine hK.out _ _ ⟨cs, code, g6, m10_, m11_, (.agg cs), m13_, m14_, m16_, (puk ha 8 hb_ rfl rfl rfl), Q_B, Q_P, Q_Z, fun h0_ => hof (hoff 15 (by kernel_rfl)) h0_, Q_X10_, Q_X11_, fun _ => rfl, Q_X13_, Q_X14_, fun h0_ => hof (hoff 16 (by kernel_rfl)) h0_⟩
  refine sc rfl ?_ ?_
  ·rintro b a w' ⟨cs, code, g6, m10_, m11_, m12_, m13_, m14_, m16_, ha, Q_B, Q_P, Q_Z, Q_Z2, Q_X10_, Q_X11_, Q_X12_, Q_X13_, Q_X14_, Q_X16_⟩ hb_ hon hoff K hK
   have e24 := psn ha 7 rfl rfl (hon 11 (by kernel_rfl)) rfl
   rw [Q_X11_ (hon 11 (by kernel_rfl))] at e24
   replace ha := Am ha
   refine value_ (w1 := w') (v := .int .i64 code) (by rfl) rfl ?_ ?_
   ·go_simp
    (try simp only [i64_w])
    try rfl
   refine hK.out _ _ ⟨cs, code, g6, m10_, m11_, m12_, (.int .i64 code), m14_, m16_, (puk ha 9 hb_ rfl rfl rfl), Q_B, Q_P, Q_Z, Q_Z2, Q_X10_, Q_X11_, Q_X12_, fun _ => rfl, Q_X14_, fun h0_ => hof (hoff 16 (by kernel_rfl)) h0_⟩
  refine sc rfl ?_ ?_
  ·rintro b a w' ⟨cs, code, g6, m10_, m11_, m12_, m13_, m14_, m16_, ha, Q_B, Q_P, Q_Z, Q_Z2, Q_X10_, Q_X11_, Q_X12_, Q_X13_, Q_X14_, Q_X16_⟩ hb_ hon hoff K hK
   replace ha := Am ha
   have B := Am Q_B
   refine value_ (w1 := w'.alloc (.cells (#[.int .u8 0, .int .u8 0, .int .u32 0, .int .u16 0, .int .u16 0, .int .u32 0, .int .u32 0, .int .u32 0, .int .u16 0, .int .u16 0, .slice none 0 0, .slice none 0 0, .slice none 0 0, .slice none 0 0, .slice none 0 0]) 41)) (v := .pointer (some ⟨w'.heap.size, 0, none⟩)) (by rfl) rfl (by go_simp; try rfl) ?_
   refine hK.out _ _ ⟨cs, code, w'.heap.size, m10_, m11_, m12_, m13_, (.pointer (some ⟨w'.heap.size, 0, none⟩)), m16_, (puk ha 10 hb_ rfl rfl rfl), B.out.alloc B.out.size _, fun h0_ => ParR.alloc (Q_P h0_) _, fun _ _ => ⟨blk_new _ _, B.out.size⟩, fun h0_ => hof (hoff 15 (by kernel_rfl)) h0_, Q_X10_, Q_X11_, Q_X12_, Q_X13_, fun _ => rfl, fun h0_ => hof (hoff 16 (by kernel_rfl)) h0_⟩
  refine sc rfl ?_ ?_
  ·rintro b a w' ⟨cs, code, g6, m10_, m11_, m12_, m13_, m14_, m16_, ha, Q_B, Q_P, Q_Z, Q_Z2, Q_X10_, Q_X11_, Q_X12_, Q_X13_, Q_X14_, Q_X16_⟩ hb_ hon hoff K hK
   have e6 := psn ha 10 rfl rfl (hon 14 (by kernel_rfl)) rfl
   rw [Q_X14_ (hon 14 (by kernel_rfl))] at e6
   have e36 := psn ha 8 rfl rfl (hon 12 (by kernel_rfl)) rfl
   rw [Q_X12_ (hon 12 (by kernel_rfl))] at e36
   replace ha := Am ha
   have B := Am Q_B
   have P := Am (Q_P (hon 10 (by kernel_rfl)))
   have Z := Am (Q_Z (hon 14 (by kernel_rfl)) hb_)
   refine skip_ (w1 := w'.setRow g6 cs) (by rfl) rfl (exec_store_row 41 (.tmp 6) (.tmp 36) rfl (eval_of e6) (eval_of e36) Z.out.1 (by rw [P.out.1]; kernel_rfl) (by rw [P.out.1]; rfl) P.out.2.1) ?_
   refine hK.out _ _ ⟨cs, code, g6, m10_, m11_, m12_, m13_, m14_, m16_, (by rw [ha.out]; exact putSel_none (v := undef) rfl), below_setRow B.out Z.out.2 _, fun _ => ParR.setRow P.out Z.out.1, fun _ h1_ => absurd ((up_self b 15).symm.trans h1_) (by decide), fun _ => ⟨setRow_heap _ _ _ _ _ _ Z.out.1, Z.out.2⟩, Q_X10_, Q_X11_, Q_X12_, Q_X13_, Q_X14_, fun h0_ => hof (hoff 16 (by kernel_rfl)) h0_⟩
  refine sc rfl ?_ ?_
  ·rintro b a w' ⟨cs, code, g6, m10_, m11_, m12_, m13_, m14_, m16_, ha, Q_B, Q_P, Q_Z, Q_Z2, Q_X10_, Q_X11_, Q_X12_, Q_X13_, Q_X14_, Q_X16_⟩ hb_ hon hoff K hK
   have e37 := psn ha 9 rfl rfl (hon 13 (by kernel_rfl)) rfl
   rw [Q_X13_ (hon 13 (by kernel_rfl))] at e37
   replace ha := Am ha
   refine value_ (w1 := w') (v := .int .i64 code) (by rfl) rfl ?_ ?_
   ·go_simp
    (try simp only [i64_w])
    try rfl
   refine hK.out _ _ ⟨cs, code, g6, m10_, m11_, m12_, m13_, m14_, (.int .i64 code), (puk ha 11 hb_ rfl rfl rfl), Q_B, Q_P, fun _ h1_ => absurd ((hon 15 (by kernel_rfl)).symm.trans h1_) (by decide), Q_Z2, Q_X10_, Q_X11_, Q_X12_, Q_X13_, Q_X14_, fun _ => rfl⟩
  exact steps_nil
 rintro b a w' hall ⟨cs, code, g6, m10_, m11_, m12_, m13_, m14_, m16_, ha, Q_B, Q_P, Q_Z, Q_Z2, Q_X10_, Q_X11_, Q_X12_, Q_X13_, Q_X14_, Q_X16_⟩
 clear B
 have hb1_ := hall 1 (by kernel_rfl)
 have hb2_ := hall 2 (by kernel_rfl)
 have hb4_ := hall 4 (by kernel_rfl)
 have hb5_ := hall 5 (by kernel_rfl)
 have hb6_ := hall 6 (by kernel_rfl)
 have hb9_ := hall 9 (by kernel_rfl)
 have hb10_ := hall 10 (by kernel_rfl)
 have hb11_ := hall 11 (by kernel_rfl)
 have hb12_ := hall 12 (by kernel_rfl)
 have hb13_ := hall 13 (by kernel_rfl)
 have hb14_ := hall 14 (by kernel_rfl)
 have hb15_ := hall 15 (by kernel_rfl)
 have hb16_ := hall 16 (by kernel_rfl)
 subst ha
 obtain rfl := Q_X10_ hb10_
 obtain rfl := Q_X11_ hb11_
 obtain rfl := Q_X12_ hb12_
 obtain rfl := Q_X13_ hb13_
 obtain rfl := Q_X14_ hb14_
 obtain rfl := Q_X16_ hb16_
 simp only [putSel, hb1_, hb2_, hb4_, hb5_, hb6_, hb9_, hb10_, hb11_, hb12_, hb13_, hb14_, hb15_, hb16_, if_true, Act.put, List.setIfInBounds_toArray, List.set_cons_zero, List.set_cons_succ]
 have B := Am Q_B
 clear Q_B
 have P := Am (Q_P hb10_)
 clear Q_P
 clear Q_Z
 have Z2 := Am (Q_Z2 hb15_)
 clear Q_Z2
 clear hall hb1_ hb2_ hb4_ hb5_ hb6_ hb9_ hb10_ hb11_ hb12_ hb13_ hb14_ hb15_ hb16_
 clear C0 C1 HP
 have hP9 := P.out.2.2
 have hZ2 := Z2.out
 have HCS := Lh P.out.1
 have HCO := P.out.2.1
 have hB9 : Below w.heap.size w w' := below_then X.2 X.2.size B.out
 have hX9 : w'.heap[w.heap.size]? = some (.cells zerV 41 (0, 0)) := blk_below X.1 B.out
 have hsz : w.heap.size < W.heap.size := blk_lt X.1
 clear B P Z2 X
 have X := And.intro hX9 hB9
 have HI := Lh (show (Tryd.prog.info? 41).map (·.size) = some cs.size by rw [HCS.out]; kernel_rfl)
 have HOLD := Lh (show zerV.size = cs.size by rw [HCS.out]; rfl)
 clear hX9 hB9
 cases hr : readD kd (flD kd fl) v with
 | error er =>
  rw [hr] at hP9
  have hne := readD_err hr
  have HR := Lh (show decC bs = (chk0 0 0, 0, er) by rw [HDC.out, hr])
  replace hP9 : code = er := hP9
  subst hP9
  have q : (code != 0) = true := by simp [hne]
  clear hr HDC hne hZ2
  go_wp2_with (with_reducible refine gate_store (p := 2) rfl ?_; go_must (refine wpList_store_row rfl 41 (.tmp 2) (.tmp 40) rfl _ zerV rfl rfl 41 zerV X.1 (by kernel_rfl) rfl (by simp [Value.oneCell']) ?_))
  exact bodyPost_ret (rdec_results _ _ _ zerV _ _ rfl rfl rfl (setRow_heap _ _ _ _ _ _ X.1) rfl) rfl ⟨zerV, by rw [HR.out]; try rfl, by rw [HR.out]; exact mnil _ _ _ _, below_setRow X.2 (Nat.le_refl _) _⟩
 | ok d =>
  rw [hr] at hP9
  obtain ⟨rfl, hM⟩ := hP9
  have HR := Lh (show decC bs = (d, ((min ((n + 3) / 4 * 4) bs.length : Nat) : Int), 0) by rw [HDC.out, hr])
  have HM := Lh hM
  clear hr HDC hM
  have hz3 := hZ2.1
  have hmm : (if (bs.length : Int) < (((n + 3) / 4 * 4 : Nat) : Int) then (bs.length : Int) else (((n + 3) / 4 * 4 : Nat) : Int)) = ((min ((n + 3) / 4 * 4) bs.length : Nat) : Int) := by split <;> omega
  go_wp2_with (first | (with_reducible refine gate_dst (N := 42) rfl ?_; go_must (refine wpList_load_row rfl 41 (.tmp 6) rfl _ rfl 41 cs (0, 0) _ hz3 Tryd.underlying41 rfl HI.out ?_)) | (with_reducible refine gate_store (p := 2) rfl ?_; go_must (refine wpList_store_row rfl 41 (.tmp 2) (.tmp 42) rfl _ cs rfl rfl 41 zerV X.1 HI.out HOLD.out HCO ?_)))
  all_goals first
   | exact bodyPost_ret (rdec_results _ _ _ cs (.int .i64 (((n : Int) + 3) / 4 * 4)) (.int .i64 0) rfl rfl rfl (setRow_heap _ _ _ _ _ _ X.1) HCS.out) rfl ⟨cs, by rw [HR.out]; exact congrArg (fun z => Ending.returned (.tuple #[.agg cs, .int .i64 z, .int .i64 0])) (show (((n : Int) + 3) / 4 * 4 : Int) = ((min ((n + 3) / 4 * 4) bs.length : Nat) : Int) by omega), by rw [HR.out]; exact k41.M_lower (Nat.le_of_lt hsz) (M_only HM.out (setRow_only _ _ _) (fun k hk _ h => by omega)), below_setRow X.2 (Nat.le_refl _) _⟩
   | exact bodyPost_ret (rdec_results _ _ _ cs (.int .i64 ((bs.length : Int))) (.int .i64 0) rfl rfl rfl (setRow_heap _ _ _ _ _ _ X.1) HCS.out) rfl ⟨cs, by rw [HR.out]; exact congrArg (fun z => Ending.returned (.tuple #[.agg cs, .int .i64 z, .int .i64 0])) (show ((bs.length : Int) : Int) = ((min ((n + 3) / 4 * 4) bs.length : Nat) : Int) by omega), by rw [HR.out]; exact k41.M_lower (Nat.le_of_lt hsz) (M_only HM.out (setRow_only _ _ _) (fun k hk _ h => by omega)), below_setRow X.2 (Nat.le_refl _) _⟩
end Go.Proofs.YtdlamomabonkjaaDoor.Ch
end
section
namespace Go.Proofs.YtdlamomabonkjaaDoor.Ch
open Go.RowKit YtdlamomabonkjaaDoorW.PrintWords YtdlamomabonkjaaDoorW.PrintLast Base PCh ParDec
theorem info_chk : (Tryd.prog.info? 41).map (fun i => (i.zero, i.size, i.bytes)) = some (some (.agg zerV), k41.sz, 152) := by kernel_rfl
def allD : Nat → List UInt8 → Nat → List Chk → List Chk × Int × Int
 | 0, _, _, acc => (acc, 0, 0)
 | n + 1, b, at_, acc => if at_ < b.length then (if (decC (b.drop at_)).2.2 ≠ 0 then ([], (at_ : Int), (decC (b.drop at_)).2.2) else allD n b (at_ + (decC (b.drop at_)).2.1.toNat) (acc ++ [(decC (b.drop at_)).1])) else (acc, 0, 0)
def allL (b : List UInt8) : List Chk × Int × Int := allD (b.length + 1) b 0 []
theorem decC_len {b : List UInt8} (h : (decC b).2.2 = 0) : ∃ n : Nat, (decC b).2.1 = (n : Int) ∧ 4 ≤ n ∧ n ≤ b.length := by
 unfold decC at h ⊢
 by_cases h4 : b.length < 4
 ·rw [if_pos h4] at h
  cases h
 rw [if_neg h4] at h ⊢
 by_cases h5 : be ((b.drop 2).take 2) < 4 ∨ b.length < be ((b.drop 2).take 2)
 ·rw [if_pos h5] at h
  cases h
 rw [if_neg h5] at h ⊢
 cases hr : readD ((b.getD 0 0).toNat : Int) (flD ((b.getD 0 0).toNat : Int) ((b.getD 1 0).toNat : Int)) ((b.take (be ((b.drop 2).take 2))).drop 4) with
 | error c =>
  rw [hr] at h
  exact absurd h (readD_err hr)
 | ok d => exact ⟨_, rfl, by omega, Nat.min_le_right _ _⟩
set_option maxHeartbeats 4000000 in
theorem all_with (w : World) (A : Option Addr) (b : List UInt8) (c : Nat) (hb : byte.C w A b.length b) (hc : b.length ≤ c) (hv : b.length ≤ 1048576)
  (HDC : ∀ (at_ : Nat) (W : World) (B : Option Addr) (d : Nat), at_ < b.length → byte.C W B (b.drop at_).length (b.drop at_) → (b.drop at_).length ≤ d → Calls Tryd.prog 81 #[.slice B (b.drop at_).length d] W (DecCP (b.drop at_) W)) :
  Calls Tryd.prog 60 #[.slice A b.length c] w fun e w' => ∃ v, e = .returned (.tuple #[v, .int .i64 (allL b).2.1, .int .i64 (allL b).2.2]) ∧ Kd.R k41 41 w' w.heap.size (fun _ => True) v (allL b).1 ∧ Below w.heap.size w w' := by
 have HDX := Lh HDC
 clear HDC
 have HBC := Lh (fun (W : World) (h : Below w.heap.size w W) => Kd.C_below hb h)
 obtain ⟨E, hE⟩ : ∃ E, allL b = E := ⟨_, rfl⟩
 rw [hE]
 have HE := Lh (show allD (b.length + 1) b 0 [] = E from hE)
 clear hE hb
 go_enter Tryd.func60, Tryd.ntmps60
 go_wp2
 go_loopw [5, 6] (fun v5 v6 wr => ∃ (at_ n : Nat) (xs : List Chk), at_ ≤ b.length ∧ v6 = .int .i64 (at_ : Int) ∧ Hid (b.length < n + at_ ∧ xs.length ≤ at_) ∧ Hid (allD n b at_ xs = E) ∧ Hid (Kd.R k41 41 wr w.heap.size (fun _ => True) v5 xs) ∧ Hid (Below w.heap.size w wr)) (fun _ v6 _ => b.length - (intOf v6).toNat)
 case atStart => exact ⟨0, b.length + 1, [], Nat.zero_le _, rfl, ⟨by omega, Nat.le_refl _⟩, HE.out, Kd.R_nil _ _ _ _ _, Below.refl _ _⟩
 case round =>
  obtain ⟨at_, n, xs, hat, rfl, HN, HA, HR, HB⟩ := hrel
  by_cases hlt : at_ < b.length
  ·obtain ⟨n, rfl⟩ : ∃ m, n = m + 1 := ⟨n - 1, by have := HN.out.1; omega⟩
   have hA := HA.out
   rw [allD, if_pos hlt] at hA
   obtain ⟨A', hdr, hdC, hdl⟩ := drop_bytes (HBC.out _ HB.out) hc at_ (at_ : Int) rfl (Nat.le_of_lt hlt)
   have hzl : (b.drop at_).length ≤ 140737488355232 := by rw [List.length_drop]; omega
   have HD := Lh (HDX.out at_ wr A' (c - at_) hlt hdC hdl)
   have hdn : (decC (b.drop at_)).2.2 = 0 → ∃ k : Nat, (decC (b.drop at_)).2.1 = (k : Int) ∧ 4 ≤ k ∧ k ≤ b.length - at_ := fun h => by
    obtain ⟨k, h1, h2, h3⟩ := decC_len h
    exact ⟨k, h1, h2, by rw [List.length_drop] at h3; exact h3⟩
   unfold DecCP at HD
   have HDN := Lh hdn
   have HA2 := Lh hA
   clear hA hdC hdl hzl hdn HA
   generalize decC (b.drop at_) = D at *
   obtain ⟨d, k, er⟩ := D
   dsimp only at HD HDN HA2
   generalize (b.drop at_).length = zl at *
   go_wp2_with fail
   refine HD.out.mono ?_
   rintro e w1 ⟨cs, rfl, hM, hB⟩
   obtain ⟨cl, rfl⟩ : ∃ cl : List Value, cs = cl.toArray := ⟨cs.toList, by simp⟩
   rw [List.toList_toArray] at hM
   obtain ⟨v10, v11, v12, v13, v14, hcs, h10, h11, h12, h13, h14⟩ := k41_openM hM
   obtain ⟨A10, c10, rfl⟩ := Kd.R_slice h10
   obtain ⟨A11, c11, rfl⟩ := Kd.R_slice h11
   obtain ⟨A12, c12, rfl⟩ := Kd.R_slice h12
   obtain ⟨A13, c13, rfl⟩ := Kd.R_slice h13
   obtain ⟨A14, c14, rfl⟩ := Kd.R_slice h14
   have HB2 := Lh (below_then HB.out HB.out.size hB)
   have HR2 := Lh (R_only HR.out (Only.of_below (S := fun _ => False) hB) (fun _ _ _ h => h))
   have HS := Lh hB.size
   subst hcs
   have HM := Lh hM
   clear h10 h11 h12 h13 h14 hM hB HD
   have HBO := Lh (fun k h => Kd.R_lt HR.out k h)
   by_cases her : er = 0
   ·subst her
    obtain ⟨k', hk', hk4, hkl⟩ := HDN.out rfl
    subst hk'
    have hA := HA2.out
    rw [if_neg (by simp), Int.toNat_natCast] at hA
    have HA3 := Lh hA
    clear hA HA2 HDN
    have hwr : wrap64 ((at_ : Int) + (k' : Int)) = ((at_ + k' : Nat) : Int) := by unfold wrap64; omega
    go_upto_region 7 with (fail)
    refine wp_gen (fun W' => W'.heap[w1.heap.size]? = some (.cells ([.int .u8 d.f0, .int .u8 d.f1, .int .u32 d.f2, .int .u16 d.f3, .int .u16 d.f4, .int .u32 d.f5, .int .u32 d.f6, .int .u32 d.f7, .int .u16 d.f8, .int .u16 d.f9, .slice A10 d.f10.length c10, .slice A11 d.f11.length c11, .slice A12 d.f12.length c12, .slice A13 d.f13.length c13, .slice A14 d.f14.length c14] : List Value).toArray 41 (0, 0)) ∧ Kd.R k41 41 W' w.heap.size (fun _ => True) u5 xs ∧ k41.M W' w.heap.size (fun k => wr.heap.size ≤ k) d ([.int .u8 d.f0, .int .u8 d.f1, .int .u32 d.f2, .int .u16 d.f3, .int .u16 d.f4, .int .u32 d.f5, .int .u32 d.f6, .int .u32 d.f7, .int .u16 d.f8, .int .u16 d.f9, .slice A10 d.f10.length c10, .slice A11 d.f11.length c11, .slice A12 d.f12.length c12, .slice A13 d.f13.length c13, .slice A14 d.f14.length c14]) ∧ Below w.heap.size w W') ⟨blk_new _ _, Kd.R_alloc HR2.out _, k41.M_mono (fun k hk => hk.2.1) (k41.M_bound (M_only HM.out (Only.of_below (S := fun _ => False) (below_alloc (Below.refl _ _) _)) (fun _ _ _ h => h))) |> k41.M_lower HB.out.size, below_alloc HB2.out _⟩ ?_
    clear HR2 HM HB2 HB HR
    rintro W2 ⟨hblk, hR2, hM2, hB2⟩
    have HM2 := Lh hM2
    have HR3 := Lh hR2
    have HB3 := Lh hB2
    have HBL := Lh hblk
    clear hR2 hM2 hB2 hblk
    go_wp2_with (first | (with_reducible refine gate_dst (N := 27) rfl ?_; go_must (refine wpList_load_row rfl 41 (.tmp 7) rfl _ rfl 41 _ (0, 0) _ HBL.out Tryd.underlying41 rfl (by kernel_rfl) ?_)) | (at_builtin; go_must (refine Kd.R_append k41 (w0 := w) (W := W2) w.heap.size rfl _ _ 24 41 (.agg zerV) 152 rfl Tryd.underlying24 info_chk rfl (by decide) (by decide) u5 xs d ([.int .u8 d.f0, .int .u8 d.f1, .int .u32 d.f2, .int .u16 d.f3, .int .u16 d.f4, .int .u32 d.f5, .int .u32 d.f6, .int .u32 d.f7, .int .u16 d.f8, .int .u16 d.f9, .slice A10 d.f10.length c10, .slice A11 d.f11.length c11, .slice A12 d.f12.length c12, .slice A13 d.f13.length c13, .slice A14 d.f14.length c14]) (fun _ => True) (fun k => wr.heap.size ≤ k) rfl rfl HM2.out (fun k hk => ⟨trivial, fun he => by have := HBO.out k he.symm; omega⟩) (fun _ _ => trivial) HR3.out HB3.out HB3.out.size (by have := HN.out.2; omega) ?_); (intro v1 w2 hR1 hB1 hG1 _; have HR1 := Lh hR1; have HB1 := Lh hB1; clear hR1 hB1 hG1)))
    go_roundw
    case rel => exact ⟨at_ + k', n, xs ++ [d], by omega, by rw [← hwr]; first | rfl | go_num, ⟨by have := HN.out.1; show _ < _; omega, by have := HN.out.2; show _ ≤ _; rw [List.length_append]; simp; omega⟩, HA3, HR1, HB1⟩
    case measure => simp [intOf]; omega
   ·have hA := HA2.out
    rw [if_pos her] at hA
    subst hA
    have q : (er != 0) = true := by simp [her]
    clear HA2 HDN her
    go_wp2
    go_ret3
    exact ⟨_, rfl, Kd.R_nil _ _ _ _ _, below_alloc HB2.out _⟩
  ·obtain rfl : at_ = b.length := by omega
   have hA := HA.out
   have hn : ∃ m, n = m + 1 := ⟨n - 1, by have := HN.out.1; omega⟩
   obtain ⟨n, rfl⟩ := hn
   rw [allD, if_neg (Nat.lt_irrefl _)] at hA
   subst hA
   clear HA HE
   go_wp2
   go_ret3
   exact ⟨_, rfl, HR.out, HB.out⟩
theorem all_calls2 (w : World) (A : Option Addr) (b : List UInt8) (c : Nat) (hb : byte.C w A b.length b) (hc : b.length ≤ c) (hv : b.length ≤ 1048576) :
  Calls Tryd.prog 60 #[.slice A b.length c] w fun e w' => ∃ v, e = .returned (.tuple #[v, .int .i64 (allL b).2.1, .int .i64 (allL b).2.2]) ∧ Kd.R k41 41 w' w.heap.size (fun _ => True) v (allL b).1 ∧ Below w.heap.size w w' :=
 all_with w A b c hb hc hv fun at_ W B d _ hB hd => decC_calls W B (b.drop at_) d hB hd (by rw [List.length_drop]; omega)
end Go.Proofs.YtdlamomabonkjaaDoor.Ch
end
section
namespace Go.Proofs.YtdlamomabonkjaaDoor.Ch
open Go.RowKit YtdlamomabonkjaaDoorW.PrintWords YtdlamomabonkjaaDoorW.PrintLast Base PCh ParDec ParEnc
theorem ints_cons {v : List UInt8} {a : Int} {t : List Int} (h : ints v = a :: t) : ∃ b r, v = b :: r ∧ (b.toNat : Int) = a ∧ ints r = t := by
 cases v with
 | nil => cases h
 | cons b r => injection h with h1 h2; exact ⟨b, r, rfl, h1, h2⟩
theorem be2 {v : List UInt8} {n : Int} {t : List Int} (h : ints v = twoL [n] ++ t) (hn : in16 n) : (be (v.take 2) : Int) = n ∧ ints (v.drop 2) = t := by
 obtain ⟨a, r, rfl, ha, h1⟩ := ints_cons h
 obtain ⟨b, r, rfl, hb, h2⟩ := ints_cons h1
 refine ⟨?_, h2⟩
 unfold in16 at hn
 simp only [be, List.take, List.foldl]
 omega
theorem be4 {v : List UInt8} {n : Int} {t : List Int} (h : ints v = fourL [n] ++ t) (hn : in32 n) : (be (v.take 4) : Int) = n ∧ ints (v.drop 4) = t := by
 obtain ⟨a, r, rfl, ha, h1⟩ := ints_cons h
 obtain ⟨b, r, rfl, hb, h2⟩ := ints_cons h1
 obtain ⟨c, r, rfl, hc, h3⟩ := ints_cons h2
 obtain ⟨d, r, rfl, hd, h4⟩ := ints_cons h3
 refine ⟨?_, h4⟩
 unfold in32 at hn
 simp only [be, List.take, List.foldl]
 omega
theorem twoL_cons (a : Int) (l : List Int) : twoL (a :: l) = twoL [a] ++ twoL l := rfl
theorem fourL_cons (a : Int) (l : List Int) : fourL (a :: l) = fourL [a] ++ fourL l := rfl
theorem drop2 (v : List UInt8) (k m : Nat) {t : List Int} (h : ints ((v.drop k).drop 2) = t) (hm : k + 2 = m) : ints (v.drop m) = t := by rw [← hm, ← List.drop_drop]; exact h
theorem drop4 (v : List UInt8) (k m : Nat) {t : List Int} (h : ints ((v.drop k).drop 4) = t) (hm : k + 4 = m) : ints (v.drop m) = t := by rw [← hm, ← List.drop_drop]; exact h
theorem gaps_back (G : List GapS) : ∀ (v : List UInt8) (t : List Int), ints v = twoL (gapL G) ++ t → (∀ g ∈ G, okG g) → gapsD G.length v = G ∧ ints (v.drop (4 * G.length)) = t := by
 induction G with
 | nil => intro v t h _; exact ⟨rfl, h⟩
 | cons g r ih =>
  intro v t h ho
  obtain ⟨h1, h2⟩ := ho g (List.mem_cons_self ..)
  have e : twoL (gapL (g :: r)) ++ t = twoL [g.f0] ++ (twoL [g.f1] ++ (twoL (gapL r) ++ t)) := by simp [gapL, twoL]
  rw [e] at h
  obtain ⟨a1, a2⟩ := be2 h h1
  obtain ⟨b1, b2⟩ := be2 a2 h2
  rw [List.drop_drop] at b2
  obtain ⟨c1, c2⟩ := ih _ t b2 (fun q hq => ho q (List.mem_cons_of_mem _ hq))
  refine ⟨?_, ?_⟩
  ·rw [List.length_cons, gapsD, a1, b1, c1]
  ·rw [List.drop_drop] at c2
   rw [List.length_cons, show 4 * (r.length + 1) = 2 + 2 + 4 * r.length by omega]
   exact c2
theorem dups_back (G : List Int) : ∀ (v : List UInt8) (t : List Int), ints v = fourL G ++ t → (∀ g ∈ G, in32 g) → dupsD G.length v = G ∧ ints (v.drop (4 * G.length)) = t := by
 induction G with
 | nil => intro v t h _; exact ⟨rfl, h⟩
 | cons g r ih =>
  intro v t h ho
  rw [fourL_cons, List.append_assoc] at h
  obtain ⟨a1, a2⟩ := be4 h (ho g (List.mem_cons_self ..))
  obtain ⟨c1, c2⟩ := ih _ t a2 (fun q hq => ho q (List.mem_cons_of_mem _ hq))
  refine ⟨?_, ?_⟩
  ·rw [List.length_cons, dupsD, a1, c1]
  ·rw [List.drop_drop] at c2
   rw [List.length_cons, show 4 * (r.length + 1) = 4 + 4 * r.length by omega]
   exact c2
theorem ints_inj {a b : List UInt8} (h : ints a = ints b) : a = b := by
 unfold ints at h
 exact (List.map_inj_right (fun x y (e : (x.toNat : Int) = (y.toNat : Int)) => UInt8.toNat_inj.1 (by omega))).1 h
theorem prms_back {ps : List PrmS} {v : List UInt8} (h : ints v = (encP ps).1) (h0 : (encP ps).2 = 0) (ho : ∀ p ∈ ps, okQ p) : prmsD v = .ok ps := by
 unfold encP at h h0
 by_cases hl : ps.length > 256
 ·rw [if_pos hl] at h0; cases h0
 rw [if_neg hl] at h h0
 by_cases hs : allShort ps
 ·rw [runB_short ps hs] at h
  have ok : ∀ q ∈ ps, okP q := fun q hq => ⟨(ho q hq).1.1, (ho q hq).1.2, by have := hs q hq; omega, fun x hx => (ho q hq).2 x hx⟩
  have e : v = bytesOf (foldB [] ps) := ints_inj (h.trans (ints_bytesOf _ (fold_in ps [] (fun x hx => by cases hx) ok)).symm)
  unfold prmsD
  rw [e, back_dec ps (by omega) ok]
  rfl
 ·rw [runB_long ps hs] at h0; cases h0
theorem len_ints {v : List UInt8} {l : List Int} (h : ints v = l) : v.length = l.length := by rw [← h, ints_length]
theorem u16_count {n : Nat} (h : n ≤ 4096) : IntKind.u16.wrap (n : Int) = (n : Int) ∧ in16 (n : Int) := by
 refine ⟨?_, by unfold in16; omega⟩
 simp [IntKind.wrap, IntKind.bits, IntKind.signed]
 omega
structure ChkOk (x : Chk) : Prop where
 bare : x = bareD x
 data : x.f0 = 0 → x.f13 ≠ []
 beat : x.f0 = 4 ∨ x.f0 = 5 → beatB x.f14 = true
 l10 : x.f10.length ≤ 4096
 l11 : x.f11.length ≤ 4096
 l12 : x.f12.length ≤ 4096
 enc : (encP x.f14).2 = 0
 len : (valueD x).length ≤ 65531
theorem check_ok {x : Chk} : checkD x = 0 ↔ ChkOk x := by
 constructor
 ·intro h
  unfold checkD at h
  by_cases h1 : decide (x = bareD x) = false
  ·rw [if_pos h1] at h; cases h
  rw [if_neg h1] at h
  by_cases h2 : x.f0 = 0 ∧ x.f13.length = 0
  ·rw [if_pos h2] at h; cases h
  rw [if_neg h2] at h
  by_cases h3 : (x.f0 = 4 ∨ x.f0 = 5) ∧ beatB x.f14 = false
  ·rw [if_pos h3] at h; cases h
  rw [if_neg h3] at h
  by_cases h4 : 4096 < x.f10.length ∨ 4096 < x.f11.length ∨ 4096 < x.f12.length
  ·rw [if_pos h4] at h; cases h
  rw [if_neg h4] at h
  by_cases h5 : (encP x.f14).2 ≠ 0
  ·rw [if_pos h5] at h; exact absurd h h5
  rw [if_neg h5] at h
  by_cases h6 : 65531 < (valueD x).length
  ·rw [if_pos h6] at h; cases h
  exact ⟨by simpa using h1, fun e hb => h2 ⟨e, by rw [hb]; rfl⟩, fun e => (by cases hb : beatB x.f14 <;> first | rfl | exact absurd ⟨e, hb⟩ h3), by omega, by omega, by omega, by omega, by omega⟩
 ·intro h
  unfold checkD
  rw [if_neg (by rw [decide_eq_true h.bare]; decide), if_neg (fun e => h.data e.1 (List.length_eq_zero_iff.1 e.2)), if_neg (fun e => by rw [h.beat e.1] at e; exact absurd e.2 (by decide)), if_neg (by have := h.l10; have := h.l11; have := h.l12; omega), if_neg (by have := h.enc; omega), if_neg (by have := h.len; omega)]
theorem bare_f {x : Chk} (h : x = bareD x) (p : Nat → Bool) (hp : hasF x.f0 = p) : x = ⟨x.f0, flD x.f0 x.f1, if p 2 then x.f2 else 0, if p 3 then x.f3 else 0, if p 4 then x.f4 else 0, if p 5 then x.f5 else 0, if p 6 then x.f6 else 0, if p 7 then x.f7 else 0, if p 8 then x.f8 else 0, if p 9 then x.f9 else 0, if p 10 then x.f10 else [], if p 11 then x.f11 else [], if p 12 then x.f12 else [], if p 13 then x.f13 else [], if p 14 then x.f14 else []⟩ := by
 conv => lhs; rw [h]
 unfold bareD keepF
 rw [hp]
theorem fl_of {x : Chk} (h : x = bareD x) : flD x.f0 x.f1 = x.f1 := by
 have := congrArg (fun c : Chk => c.f1) h
 exact this.symm
theorem read_back {x : Chk} (ok : OkC x) (h : ChkOk x) {v : List UInt8} (hv : ints v = valueD x) : readD x.f0 x.f1 v = .ok x := by
 have hb := h.bare
 have hf := fl_of hb
 have hl := len_ints hv
 unfold readD
 unfold valueD at hv hl
 by_cases k0 : x.f0 = 0
 ·rw [if_pos k0] at hv hl ⊢
  have e := bare_f hb (fun i => i == 2 || i == 3 || i == 4 || i == 5 || i == 13) (by funext i; unfold hasF; rw [if_pos k0])
  simp at e
  have hd := h.data k0
  have h13 : x.f13.length ≠ 0 := fun e => hd (List.length_eq_zero_iff.1 e)
  unfold valData at hv hl
  simp only [List.length_append, fourL_length, twoL_length, List.length_cons, List.length_nil] at hl
  unfold readData
  rw [if_neg (by omega), if_neg (by omega)]
  rw [List.append_assoc, List.append_assoc] at hv
  obtain ⟨a1, a2⟩ := be4 hv ok.r2
  rw [twoL_cons, List.append_assoc] at a2
  obtain ⟨b1, b2⟩ := be2 a2 ok.r3
  have b2 := drop2 v 4 6 b2 rfl
  obtain ⟨c1, c2⟩ := be2 b2 ok.r4
  have c2 := drop2 v 6 8 c2 rfl
  obtain ⟨d1, d2⟩ := be4 c2 ok.r5
  have d2 := drop4 v 8 12 d2 rfl
  rw [a1, b1, c1, d1, show intsL (v.drop 12) = x.f13 from d2]
  conv => rhs; rw [e, hf]
 rw [if_neg k0] at hv hl ⊢
 by_cases k1 : x.f0 = 1 ∨ x.f0 = 2
 ·rw [if_pos k1] at hv hl ⊢
  have e := bare_f hb (fun i => i == 2 || i == 6 || i == 7 || i == 8 || i == 9 || i == 14) (by funext i; unfold hasF; rw [if_neg k0, if_pos k1])
  simp at e
  simp only [List.length_append, fourL_length, twoL_length, List.length_cons, List.length_nil] at hl
  unfold readInit
  rw [if_neg (by omega)]
  rw [List.append_assoc, List.append_assoc, fourL_cons, List.append_assoc] at hv
  obtain ⟨a1, a2⟩ := be4 hv ok.r6
  obtain ⟨b1, b2⟩ := be4 a2 ok.r7
  have b2 := drop4 v 4 8 b2 rfl
  rw [twoL_cons, List.append_assoc] at b2
  obtain ⟨c1, c2⟩ := be2 b2 ok.r8
  have c2 := drop2 v 8 10 c2 rfl
  obtain ⟨d1, d2⟩ := be2 c2 ok.r9
  have d2 := drop2 v 10 12 d2 rfl
  obtain ⟨e1, e2⟩ := be4 d2 ok.r2
  have e2 := drop4 v 12 16 e2 rfl
  rw [prms_back e2 h.enc ok.r14]
  dsimp only
  rw [a1, b1, c1, d1, e1]
  conv => rhs; rw [e, hf]
 rw [if_neg k1] at hv hl ⊢
 by_cases k3 : x.f0 = 3
 ·rw [if_pos k3] at hv hl ⊢
  have e := bare_f hb (fun i => i == 2 || i == 7 || i == 10 || i == 12) (by funext i; unfold hasF; rw [if_neg k0, if_neg k1, if_neg (by omega), if_pos k3])
  simp at e
  obtain ⟨u1, u2⟩ := u16_count h.l10
  obtain ⟨w1, w2⟩ := u16_count h.l12
  rw [u1, w1] at hv hl
  simp only [List.length_append, fourL_length, twoL_length, List.length_cons, List.length_nil, gapL_length] at hl
  unfold readLists listsD
  rw [List.append_assoc, List.append_assoc, fourL_cons, List.append_assoc] at hv
  obtain ⟨a1, a2⟩ := be4 hv ok.r2
  obtain ⟨b1, b2⟩ := be4 a2 ok.r7
  have b2 := drop4 v 4 8 b2 rfl
  rw [twoL_cons, List.append_assoc] at b2
  obtain ⟨c1, c2⟩ := be2 b2 u2
  have c2 := drop2 v 8 10 c2 rfl
  obtain ⟨d1, d2⟩ := be2 c2 w2
  have d2 := drop2 v 10 12 d2 rfl
  have c1' : be ((v.drop 8).take 2) = x.f10.length := by omega
  have d1' : be ((v.drop 10).take 2) = x.f12.length := by omega
  obtain ⟨g1, g2⟩ := gaps_back x.f10 _ _ d2 ok.r10
  rw [List.drop_drop] at g2
  obtain ⟨h1, h2⟩ := dups_back x.f12 _ [] (by rw [List.append_nil]; exact g2) ok.r12
  have := h.l10
  have := h.l12
  simp only [Bool.false_eq_true, if_false, c1', d1', Nat.add_zero]
  rw [if_neg (by omega), if_neg (by omega), if_neg (by omega)]
  dsimp only
  rw [a1, b1, g1, h1]
  conv => rhs; rw [e, hf]
  simp [gapsD]
 rw [if_neg k3] at hv hl ⊢
 by_cases k16 : x.f0 = 16
 ·rw [if_pos k16] at hv hl ⊢
  have e := bare_f hb (fun i => i == 2 || i == 7 || i == 10 || i == 11 || i == 12) (by funext i; unfold hasF; rw [if_neg k0, if_neg k1, if_pos k16])
  simp at e
  obtain ⟨u1, u2⟩ := u16_count h.l10
  obtain ⟨y1, y2⟩ := u16_count h.l11
  obtain ⟨w1, w2⟩ := u16_count h.l12
  rw [u1, w1, y1] at hv hl
  simp only [List.length_append, fourL_length, twoL_length, List.length_cons, List.length_nil, gapL_length] at hl
  unfold readLists listsD
  rw [List.append_assoc, List.append_assoc, List.append_assoc, fourL_cons, List.append_assoc] at hv
  obtain ⟨a1, a2⟩ := be4 hv ok.r2
  obtain ⟨b1, b2⟩ := be4 a2 ok.r7
  have b2 := drop4 v 4 8 b2 rfl
  rw [twoL_cons, List.append_assoc] at b2
  obtain ⟨c1, c2⟩ := be2 b2 u2
  have c2 := drop2 v 8 10 c2 rfl
  rw [twoL_cons, List.append_assoc] at c2
  obtain ⟨i1, i2⟩ := be2 c2 y2
  have i2 := drop2 v 10 12 i2 rfl
  rw [twoL_cons, List.append_assoc] at i2
  obtain ⟨d1, d2⟩ := be2 i2 w2
  have d2 := drop2 v 12 14 d2 rfl
  obtain ⟨j1, j2⟩ := be2 d2 (by unfold in16; omega)
  have j2 := drop2 v 14 16 j2 rfl
  have c1' : be ((v.drop 8).take 2) = x.f10.length := by omega
  have i1' : be ((v.drop 10).take 2) = x.f11.length := by omega
  have d1' : be ((v.drop 12).take 2) = x.f12.length := by omega
  obtain ⟨g1, g2⟩ := gaps_back x.f10 _ _ j2 ok.r10
  rw [List.drop_drop] at g2
  obtain ⟨n1, n2⟩ := gaps_back x.f11 _ _ g2 ok.r11
  rw [List.drop_drop] at n2
  obtain ⟨h1, h2⟩ := dups_back x.f12 _ [] (by rw [List.append_nil]; exact n2) ok.r12
  have := h.l10
  have := h.l11
  have := h.l12
  simp only [if_true, c1', d1', i1']
  rw [if_neg (by omega), if_neg (by omega), if_neg (by omega)]
  dsimp only
  rw [show 16 + 4 * (x.f10.length + x.f11.length) = 16 + 4 * x.f10.length + 4 * x.f11.length by omega, a1, b1, g1, n1, h1]
  conv => rhs; rw [e, hf]
 rw [if_neg k16] at hv hl ⊢
 by_cases k4 : x.f0 = 4 ∨ x.f0 = 5 ∨ x.f0 = 6 ∨ x.f0 = 9
 ·rw [if_pos k4] at hv hl
  have e := bare_f hb (fun i => i == 14) (by funext i; unfold hasF; rw [if_neg k0, if_neg k1, if_neg k16, if_neg k3, if_pos k4])
  simp at e
  have hp := prms_back hv h.enc ok.r14
  by_cases k45 : x.f0 = 4 ∨ x.f0 = 5
  ·rw [if_pos k45]
   unfold readPrms
   rw [hp]
   dsimp only
   rw [h.beat k45]
   conv => rhs; rw [e, hf]
   rfl
  ·rw [if_neg k45, if_pos (by omega)]
   unfold readPrms
   rw [hp]
   dsimp only
   conv => rhs; rw [e, hf]
   rfl
 rw [if_neg k4] at hv hl
 rw [if_neg (by omega), if_neg (by omega)]
 by_cases k7 : x.f0 = 7
 ·rw [if_pos k7] at hv hl ⊢
  have e := bare_f hb (fun i => i == 2) (by funext i; unfold hasF; rw [if_neg k0, if_neg k1, if_neg k16, if_neg k3, if_neg k4, if_pos k7])
  simp at e
  rw [fourL_length] at hl
  unfold readShut
  have hl : v.length = 4 := hl
  rw [if_pos hl]
  obtain ⟨a1, a2⟩ := be4 (t := []) (by rw [List.append_nil]; exact hv) ok.r2
  rw [show v.take 4 = v from List.take_of_length_le (by rw [hl]; exact Nat.le_refl _)] at a1
  rw [a1]
  conv => rhs; rw [e, hf]
 rw [if_neg k7] at hv hl ⊢
 by_cases k8 : x.f0 = 8 ∨ x.f0 = 11 ∨ x.f0 = 14
 ·rw [if_pos k8] at hv hl ⊢
  have e := bare_f hb (fun i => false) (by funext i; unfold hasF; rw [if_neg k0, if_neg k1, if_neg k16, if_neg k3, if_neg k4, if_neg k7, if_pos k8])
  simp at e
  have hl : v.length = 0 := hl
  unfold readNone chk0
  rw [if_pos hl]
  conv => rhs; rw [e, hf]
 rw [if_neg k8] at hv hl ⊢
 have e := bare_f hb (fun i => i == 13) (by funext i; unfold hasF; rw [if_neg k0, if_neg k1, if_neg k16, if_neg k3, if_neg k4, if_neg k7, if_neg k8])
 simp at e
 unfold readBody
 rw [show intsL v = x.f13 from hv]
 conv => rhs; rw [e, hf]
end Go.Proofs.YtdlamomabonkjaaDoor.Ch
end
section
namespace Go.Proofs.YtdlamomabonkjaaDoor.Ch
open Go.RowKit YtdlamomabonkjaaDoorW.PrintWords YtdlamomabonkjaaDoorW.PrintLast Base PCh ParDec ParEnc
theorem chunkL_len (x : Chk) : (chunkL x).length = ((valueD x).length + 7) / 4 * 4 := by
 unfold chunkL padL
 simp only [List.length_append, twoL_length, List.length_cons, List.length_nil, List.length_replicate]
 omega
theorem ints_take (v : List UInt8) (n : Nat) : ints (v.take n) = (ints v).take n := by unfold ints; rw [List.map_take]
theorem ints_dr (v : List UInt8) (n : Nat) : ints (v.drop n) = (ints v).drop n := by unfold ints; rw [List.map_drop]
theorem dec_back {x : Chk} (ok : OkC x) (h : ChkOk x) {b : List UInt8} {t : List Int} (hb : ints b = chunkL x ++ t) : decC b = (x, ((chunkL x).length : Int), 0) := by
 have hl := len_ints hb
 have hc := chunkL_len x
 have hv := h.len
 have hq : IntKind.u16.wrap (4 + ((valueD x).length : Int)) = ((4 + (valueD x).length : Nat) : Int) := by simp [IntKind.wrap, IntKind.bits, IntKind.signed]; omega
 rw [List.length_append] at hl
 unfold chunkL at hb
 rw [hq, List.append_assoc, List.append_assoc, List.append_assoc] at hb
 obtain ⟨a, r, rfl, ha, h1⟩ := ints_cons hb
 obtain ⟨c, r, rfl, hc1, h2⟩ := ints_cons h1
 obtain ⟨n1, n2⟩ := be2 (v := r) h2 (by unfold in16; omega)
 have n1' : be (r.take 2) = 4 + (valueD x).length := by omega
 unfold decC
 rw [if_neg (by omega)]
 rw [show ((a :: c :: r).drop 2).take 2 = r.take 2 from rfl, n1', if_neg (by omega), show (a :: c :: r).getD 0 0 = a from rfl, show (a :: c :: r).getD 1 0 = c from rfl, ha, hc1, fl_of h.bare]
 have hvv : ints (((a :: c :: r).take (4 + (valueD x).length)).drop 4) = valueD x := by
  rw [List.drop_take, show 4 + (valueD x).length - 4 = (valueD x).length by omega, ints_take, show (a :: c :: r).drop 4 = r.drop 2 from rfl, n2]
  exact List.take_left
 rw [read_back ok h hvv]
 dsimp only
 rw [show min ((4 + (valueD x).length + 3) / 4 * 4) (a :: c :: r).length = (chunkL x).length by omega]
noncomputable def flatL : List Chk → List Int
 | [] => []
 | x :: r => chunkL x ++ flatL r
theorem run_flat (xs : List Chk) : ∀ acc, (runE acc xs).2 = 0 → (runE acc xs).1 = acc ++ flatL xs ∧ (acc ++ flatL xs).length ≤ max 65536 acc.length := by
 induction xs with
 | nil => intro acc _; exact ⟨(List.append_nil _).symm, by rw [flatL, List.append_nil]; omega⟩
 | cons x r ih =>
  intro acc h
  unfold runE at h ⊢
  by_cases hl : 65536 < (acc ++ chunkL x).length
  ·rw [if_pos hl] at h; cases h
  ·rw [if_neg hl] at h ⊢
   obtain ⟨h1, h2⟩ := ih _ h
   rw [flatL, ← List.append_assoc]
   exact ⟨h1, by omega⟩
theorem run_bad (xs : List Chk) : ∀ acc, (runE acc xs).2 ≠ 0 → (runE acc xs).1 = [] := by
 induction xs with
 | nil => intro acc h; exact absurd rfl h
 | cons x r ih =>
  intro acc h
  unfold runE at h ⊢
  by_cases hl : 65536 < (acc ++ chunkL x).length
  ·rw [if_pos hl]
  ·rw [if_neg hl] at h ⊢
   exact ih _ h
theorem enc_bad {xs : List Chk} (h : (encD xs).2 ≠ 0) : (encD xs).1 = [] := by
 unfold encD at h ⊢
 by_cases hc : chkAll xs = 0
 ·rw [if_pos hc] at h ⊢; exact run_bad xs _ h
 ·rw [if_neg hc]
theorem enc_good {xs : List Chk} (h : (encD xs).2 = 0) : (∀ x ∈ xs, checkD x = 0) ∧ (encD xs).1 = flatL xs ∧ (flatL xs).length ≤ 65536 := by
 unfold encD at h ⊢
 by_cases hc : chkAll xs = 0
 ·rw [if_pos hc] at h ⊢
  obtain ⟨h1, h2⟩ := run_flat xs [] h
  exact ⟨fun x hx => chkAll_mem hc hx, h1, by simpa using h2⟩
 ·rw [if_neg hc] at h; exact absurd h hc
theorem all_back (xs : List Chk) : ∀ (n at_ : Nat) (b : List UInt8) (acc : List Chk), (∀ x ∈ xs, OkC x ∧ checkD x = 0) → ints (b.drop at_) = flatL xs → at_ ≤ b.length → b.length < n + at_ → allD n b at_ acc = (acc ++ xs, 0, 0) := by
 induction xs with
 | nil =>
  intro n at_ b acc _ hb ha hn
  have h0 := len_ints hb
  rw [List.length_drop] at h0
  have h0 : b.length - at_ = 0 := h0
  obtain ⟨m, rfl⟩ : ∃ m, n = m + 1 := ⟨n - 1, by omega⟩
  rw [allD, if_neg (by omega), List.append_nil]
 | cons x r ih =>
  intro n at_ b acc ho hb ha hn
  obtain ⟨o1, o2⟩ := ho x (List.mem_cons_self ..)
  have hd := dec_back o1 (check_ok.1 o2) hb
  have h0 := len_ints hb
  have hc := chunkL_len x
  rw [List.length_drop, flatL, List.length_append] at h0
  obtain ⟨m, rfl⟩ : ∃ m, n = m + 1 := ⟨n - 1, by omega⟩
  rw [allD, if_pos (by omega), hd, if_neg (by simp)]
  dsimp only
  rw [Int.toNat_natCast, ih m _ b _ (fun y hy => ho y (List.mem_cons_of_mem _ hy)) _ (by omega) (by omega), List.append_assoc, List.singleton_append]
  rw [← List.drop_drop, ints_dr, hb, flatL]
  exact List.drop_left
end Go.Proofs.YtdlamomabonkjaaDoor.Ch
end
section
namespace Go.Proofs.YtdlamomabonkjaaDoor.Ch
open Go.RowKit YtdlamomabonkjaaDoorW.PrintWords YtdlamomabonkjaaDoorW.PrintLast Base PCh ParDec ParEnc
theorem z16 : in16 0 := by unfold in16; omega
theorem z32 : in32 0 := by unfold in32; omega
theorem nog : ∀ g ∈ ([] : List GapS), okG g := fun _ h => by cases h
theorem noi {P : Int → Prop} : ∀ g ∈ ([] : List Int), P g := fun _ h => by cases h
theorem nop : ∀ p ∈ ([] : List PrmS), okQ p := fun _ h => by cases h
theorem fourL_in (l : List Int) : ∀ b ∈ fourL l, inB b := by
 induction l with
 | nil => intro b h; cases h
 | cons n r ih =>
  intro b h
  unfold fourL at h
  rcases List.mem_append.1 h with h | h
  ·simp only [List.mem_cons, List.not_mem_nil, or_false] at h
   unfold inB
   omega
  ·exact ih b h
theorem twoL_in (l : List Int) : ∀ b ∈ twoL l, inB b := by
 induction l with
 | nil => intro b h; cases h
 | cons n r ih =>
  intro b h
  unfold twoL at h
  rcases List.mem_append.1 h with h | h
  ·simp only [List.mem_cons, List.not_mem_nil, or_false] at h
   unfold inB
   omega
  ·exact ih b h
theorem nil_in : ∀ b ∈ ([] : List Int), inB b := fun _ h => by cases h
theorem app_in {a b : List Int} (ha : ∀ x ∈ a, inB x) (hb : ∀ x ∈ b, inB x) : ∀ x ∈ a ++ b, inB x := fun x h => (List.mem_append.1 h).elim (ha x) (hb x)
theorem encP_in {ps : List PrmS} (h : ∀ p ∈ ps, okQ p) : ∀ b ∈ (encP ps).1, inB b := by
 unfold encP
 by_cases hl : ps.length > 256
 ·rw [if_pos hl]; exact nil_in
 rw [if_neg hl]
 by_cases hs : allShort ps
 ·rw [runB_short ps hs]
  exact fold_in ps [] nil_in (fun q hq => ⟨(h q hq).1.1, (h q hq).1.2, by have := hs q hq; omega, fun x hx => (h q hq).2 x hx⟩)
 ·rw [runB_long ps hs]; exact nil_in
theorem value_in {x : Chk} (h : OkC x) : ∀ b ∈ valueD x, inB b := by
 unfold valueD
 split
 ·unfold valData; exact app_in (app_in (app_in (fourL_in _) (twoL_in _)) (fourL_in _)) h.r13
 split
 ·exact app_in (app_in (app_in (fourL_in _) (twoL_in _)) (fourL_in _)) (encP_in h.r14)
 split
 ·exact app_in (app_in (app_in (fourL_in _) (twoL_in _)) (twoL_in _)) (fourL_in _)
 split
 ·exact app_in (app_in (app_in (app_in (fourL_in _) (twoL_in _)) (twoL_in _)) (twoL_in _)) (fourL_in _)
 split
 ·exact encP_in h.r14
 split
 ·exact fourL_in _
 split
 ·exact nil_in
 ·exact h.r13
theorem chunk_in {x : Chk} (h : OkC x) : ∀ b ∈ chunkL x, inB b := by
 unfold chunkL
 refine app_in (app_in (app_in ?_ (twoL_in _)) (value_in h)) ?_
 ·intro b hb
  simp only [List.mem_cons, List.not_mem_nil, or_false] at hb
  rcases hb with rfl | rfl
  ·exact h.r0
  ·exact h.r1
 ·intro b hb
  unfold padL at hb
  rw [(List.mem_replicate.1 hb).2]
  unfold inB
  omega
theorem flat_in (l : List Chk) (h : ∀ x ∈ l, OkC x) : ∀ b ∈ flatL l, inB b := by
 induction l with
 | nil => exact nil_in
 | cons x r ih => exact app_in (chunk_in (h x (List.mem_cons_self ..))) (ih (fun y hy => h y (List.mem_cons_of_mem _ hy)))
theorem enc_in {l : List Chk} (h : ∀ x ∈ l, OkC x) : ∀ b ∈ (encD l).1, inB b := by
 by_cases e : (encD l).2 = 0
 ·rw [(enc_good e).2.1]; exact flat_in l h
 ·rw [enc_bad e]; exact nil_in
end Go.Proofs.YtdlamomabonkjaaDoor.Ch
end
section
namespace Go.Proofs.YtdlamomabonkjaaDoor.Pk
open Go.RowKit YtdlamomabonkjaaDoorW.PrintWords YtdlamomabonkjaaDoorW.PrintLast Base PCh ParDec ParEnc Ch Crc CrcMath
structure PX (w1 : World) (ys : List Int) (v : Value) (W : World) : Prop where
 bl : Below w1.heap.size w1 W
 r : (Kd.int .u8).R 5 W w1.heap.size (fun _ => True) v ys
theorem PX.nil {w1 W : World} (h : Below w1.heap.size w1 W) : PX w1 [] (.slice none 0 0) W := ⟨h, Kd.R_nil _ _ _ _ _⟩
theorem pu32 (n : Int) : IntKind.u32.wrap n = n % 4294967296 := by simp [IntKind.wrap, IntKind.bits, IntKind.signed]
theorem two32 (n : Int) : twoL [IntKind.u32.wrap n] = twoL [n] := by
 rw [pu32]
 simp only [twoL, List.append_nil, List.cons.injEq, and_true]
 omega
theorem put_two (l : List Int) (n : Int) (hl : l.length ≤ 140737488355000) : packet_put.f 3 l n 2 = some (l ++ twoL [n]) := by
 have e1 : shr .u32 n (wrap64 (8 * 1)) % 256 = n / 256 % 256 := by simp [shr, wrap64, IntKind.wrap, IntKind.bits, IntKind.signed]
 have e0 : shr .u32 n (wrap64 (8 * 0)) % 256 = n % 256 := by simp [shr, wrap64, IntKind.wrap, IntKind.bits, IntKind.signed]
 unfold packet_put.f
 rw [show wrap64 (2 - 1) = 1 by unfold wrap64; omega, packet_put.l0, if_pos (by decide), if_pos (by unfold wrap64; omega), if_pos (by omega), e1, show wrap64 (1 - 1) = 0 by unfold wrap64; omega, packet_put.l0, if_pos (by decide), if_pos (by unfold wrap64; omega), if_pos (by rw [List.length_append]; simp; omega), e0, show wrap64 (0 - 1) = -1 by unfold wrap64; omega, packet_put.l0, if_neg (by decide)]
 simp [twoL]
theorem put_four (l : List Int) (n : Int) (hl : l.length ≤ 140737488355000) : packet_put.f 5 l n 4 = some (l ++ fourL [n]) := by
 have e3 : shr .u32 n (wrap64 (8 * 3)) % 256 = n / 16777216 % 256 := by simp [shr, wrap64, IntKind.wrap, IntKind.bits, IntKind.signed]
 have e2 : shr .u32 n (wrap64 (8 * 2)) % 256 = n / 65536 % 256 := by simp [shr, wrap64, IntKind.wrap, IntKind.bits, IntKind.signed]
 have e1 : shr .u32 n (wrap64 (8 * 1)) % 256 = n / 256 % 256 := by simp [shr, wrap64, IntKind.wrap, IntKind.bits, IntKind.signed]
 have e0 : shr .u32 n (wrap64 (8 * 0)) % 256 = n % 256 := by simp [shr, wrap64, IntKind.wrap, IntKind.bits, IntKind.signed]
 unfold packet_put.f
 rw [show wrap64 (4 - 1) = 3 by unfold wrap64; omega, packet_put.l0, if_pos (by decide), if_pos (by unfold wrap64; omega), if_pos (by omega), e3, show wrap64 (3 - 1) = 2 by unfold wrap64; omega, packet_put.l0, if_pos (by decide), if_pos (by unfold wrap64; omega), if_pos (by rw [List.length_append]; simp; omega), e2, show wrap64 (2 - 1) = 1 by unfold wrap64; omega, packet_put.l0, if_pos (by decide), if_pos (by unfold wrap64; omega), if_pos (by simp only [List.length_append, List.length_cons, List.length_nil]; omega), e1, show wrap64 (1 - 1) = 0 by unfold wrap64; omega, packet_put.l0, if_pos (by decide), if_pos (by unfold wrap64; omega), if_pos (by simp only [List.length_append, List.length_cons, List.length_nil]; omega), e0, show wrap64 (0 - 1) = -1 by unfold wrap64; omega, packet_put.l0, if_neg (by decide)]
 simp [fourL]
theorem PX.put {w1 W : World} {ys zs : List Int} {v : Value} (h : PX w1 ys v W) (k : Nat) (n m : Int) (hf : packet_put.f k ys n m = some zs) :
  Calls Tryd.prog 29 #[v, .int .u32 n, .int .i64 m] W fun e w' => ∃ v', e = .returned v' ∧ PX w1 zs v' w' :=
 (packet_put.calls k (fun _ => True) v ys n m zs w1 W h.bl h.r hf).mono fun e w' ⟨v', h1, h2, h3, _⟩ => ⟨v', h1, h3, Kd.R_mono h2 (fun _ _ => trivial)⟩
theorem PX.two {w1 W : World} {ys : List Int} {v : Value} (h : PX w1 ys v W) (n : Int) (t : List Int) (ht : twoL [n] = t) (hl : ys.length ≤ 140737488355000) :
  Calls Tryd.prog 29 #[v, .int .u32 n, .int .i64 2] W fun e w' => ∃ v', e = .returned v' ∧ PX w1 (ys ++ t) v' w' := by
 subst ht
 exact h.put 3 n 2 (put_two ys n hl)
theorem PX.four {w1 W : World} {ys : List Int} {v : Value} (h : PX w1 ys v W) (n : Int) (hl : ys.length ≤ 140737488355000) :
  Calls Tryd.prog 29 #[v, .int .u32 n, .int .i64 4] W fun e w' => ∃ v', e = .returned v' ∧ PX w1 (ys ++ fourL [n]) v' w' := h.put 5 n 4 (put_four ys n hl)
def headL (f t q : Int) : List Int := twoL [f] ++ twoL [t] ++ fourL [q] ++ fourL [0]
theorem headL_length (f t q : Int) : (headL f t q).length = 12 := rfl
theorem head_in (f t q : Int) : ∀ b ∈ headL f t q, inB b := by
 intro b hb
 have h : ∀ x ∈ twoL [f], inB x := fun x hx => by simp [twoL] at hx; rcases hx with h | h <;> (subst h; unfold inB; omega)
 have h2 : ∀ x ∈ twoL [t], inB x := fun x hx => by simp [twoL] at hx; rcases hx with h | h <;> (subst h; unfold inB; omega)
 have h3 : ∀ n, ∀ x ∈ fourL [n], inB x := fun n x hx => by simp [fourL] at hx; rcases hx with h | h | h | h <;> (subst h; unfold inB; omega)
 unfold headL at hb
 simp only [List.mem_append] at hb
 rcases hb with ((hb | hb) | hb) | hb
 ·exact h b hb
 ·exact h2 b hb
 ·exact h3 q b hb
 ·exact h3 0 b hb
noncomputable def pencD (f t q : Int) (l : List Chk) : List UInt8 × Int :=
 if (decide (0 < f) && decide (0 < t)) = false then ([], 72) else if l.length = 0 then ([], 73) else if apartB l = true then ([], 74)
 else if (encD l).2 = 0 then (if 65536 < 12 + (encD l).1.length then ([], 2) else (putL (bytesOf (headL f t q ++ (encD l).1)), 0)) else ([], (encD l).2)
theorem ports_ok (f t q : Int) (l : List Chk) : packet_ports.f f t q l = some (decide (0 < f) && decide (0 < t)) := by
 unfold packet_ports.f
 by_cases h : f > 0
 ·rw [if_pos h, decide_eq_true (show 0 < f from h), Bool.true_and]
 ·rw [if_neg h, decide_eq_false (show ¬ 0 < f from h), Bool.false_and]
def pkeT12 : Bool × List (List Nat × List Nat) := (true, [([], []), ([0], [0]), ([1], [1]), ([2], [2]), ([], []), ([4], [4]), ([5], [5]), ([3, 6, 3], [3, 6]), ([], []), ([8], [8]), ([7, 9, 7], [7, 9]), ([10, 10, 0, 1, 2, 3, 4, 5, 6, 7, 8, 9, 10], [10])])
def pkeB12 : List Nat := [0, 1, 3, 7, 0, 16, 48, 127, 0, 256, 1023, 2047]
theorem pketab12 : Go.Proofs.YtdlamomabonkjaaDoorW.PrintLast.rtab .any (Go.Proofs.YtdlamomabonkjaaDoorW.PrintLast.opsOf Tryd.f10 12) = pkeT12 := by kernel_rfl
theorem pkebits12 : Go.Proofs.YtdlamomabonkjaaDoorW.PrintLast.waitsOk pkeT12.2 pkeB12 = true := by kernel_rfl
end Go.Proofs.YtdlamomabonkjaaDoor.Pk
end
section
namespace Go.Proofs.YtdlamomabonkjaaDoor.Base
open Go.RowKit YtdlamomabonkjaaDoorW.PrintWords YtdlamomabonkjaaDoorW.PrintLast
def GrK (C : List Nat) (I : Nat → World → Prop) (L : Sel) (a0 : Act) (b : Nat → Bool) (a : Act) (w : World) : Prop :=
 ∃ s, s ≤ C.length ∧ (∀ j c, C[j]? = some c → (j < s → b c = true) ∧ (s ≤ j → b c = false)) ∧ a = putSel a0 b L ∧ I s w
theorem putSel_skip {b : Nat → Bool} {i : Nat} {L : Sel} {a : Act} (h : L.all (fun e => !(e.1 == i)) = true) : putSel a (up b i) L = putSel a b L :=
 putSel_congr (fun e he => up_ne (by have := List.all_eq_true.1 h e he; simpa using this))
section
variable {P : Program} {ops : Array Oper} {Q : Exit → Act → World → Prop} {B O C : List Nat} {W : World} {I : Nat → World → Prop} {L : Sel} {a0 : Act} {i : Nat} {p : Tmp}
theorem gk_op (J : World → Prop) (i k : Nat) {t : Tmp} {u v : Value} {oi : Oper} (ho : ops[i]? = some oi) (hg : oi.guard = none) (hd : oi.dst = some t) (hL : L[k]? = some (i, t, v))
  (hdist : (L.take k ++ L.drop (k + 1)).all (fun e => !(e.1 == i) && !(e.2.1 == t)) = true) (hC : C.contains i = false) (hr : Rd O B i (fun _ => L) a0 p (fun _ => u)) (hJ : ∀ s w, I s w → J w)
  (hrun : ∀ (a : Act) (w : World), J w → a.tmps[p]? = some u → (execOp a.eval oi).run P w = .ok (.value v) w) : StepAt P ops Q B O (GrK C I L a0) i := by
 rintro b a w ⟨s, h0, h1, ha, hI⟩ hb hon hoff
 refine ⟨oi, ho, fun K hK => ?_⟩
 rw [hd]
 refine value_ (w1 := w) (v := v) (wanted_none0 hg) hd (hrun a w (hJ _ _ hI) (by rw [ha]; exact hr b (fun _ => undef) hon hoff)) (hK.out _ _ ⟨s, h0, fun j c hc => ?_, ?_, hI⟩)
 ·have hne : c ≠ i := fun e => by
   rw [e] at hc
   have := List.mem_of_getElem? hc
   rw [List.contains_iff_mem.2 this] at hC
   cases hC
  rw [up_ne hne]
  exact h1 j c hc
 ·rw [ha]
  exact putSel_upk k hb hL (set_same hL) hdist
theorem gk_step (i m : Nat) (hm : C[m]? = some i) (hnd : (C.take m ++ C.drop (m + 1)).contains i = false) (hprev : (C.take m).all (fun q => O.contains q && (B.getD i 0).testBit q) = true)
  {b : Nat → Bool} {a : Act} {w : World} (hI : GrK C I L a0 b a w) (hb : b i = false) (hon : ∀ j, (O.contains j && (B.getD i 0).testBit j) = true → b j = true) :
  a = putSel a0 b L ∧ I m w ∧ ∀ a' w', a' = putSel a0 (up b i) L → I (m + 1) w' → GrK C I L a0 (up b i) a' w' := by
 obtain ⟨s, h0, h1, ha, hI⟩ := hI
 have hs : s = m := by
  have e1 := h1 m i hm
  rcases Nat.lt_trichotomy s m with h | h | h
  ·have hlt : s < C.length := by
    have := (List.getElem?_eq_some_iff.1 hm).1
    omega
   have hc := List.getElem?_eq_getElem hlt
   have e2 := (h1 s _ hc).2 (Nat.le_refl _)
   have e3 := List.all_eq_true.1 hprev C[s] (List.mem_take_iff_getElem.2 ⟨s, by omega, rfl⟩)
   rw [hon _ e3] at e2
   cases e2
  ·exact h
  ·rw [e1.1 h] at hb
   cases hb
 subst hs
 refine ⟨ha, hI, fun a' w' ha' hI' => ⟨s + 1, ?_, fun j c hc => ?_, ha', hI'⟩⟩
 ·have := (List.getElem?_eq_some_iff.1 hm).1
  omega
 ·by_cases hj : j = s
  ·subst hj
   rw [hm] at hc
   injection hc with hc
   subst hc
   exact ⟨fun _ => up_self _ _, fun h => absurd h (by omega)⟩
  ·have hne : c ≠ i := fun e => by
    subst e
    have hmem : c ∈ C.take s ++ C.drop (s + 1) := by
     rw [List.mem_append]
     have hl := (List.getElem?_eq_some_iff.1 hc)
     obtain ⟨hl1, hl2⟩ := hl
     by_cases h : j < s
     ·exact Or.inl (List.mem_take_iff_getElem.2 ⟨j, by omega, hl2⟩)
     ·refine Or.inr (List.mem_drop_iff_getElem.2 ⟨j - (s + 1), by omega, ?_⟩)
      rw [← hl2]
      congr 1
      omega
    rw [List.contains_iff_mem.2 hmem] at hnd
    cases hnd
   rw [up_ne hne]
   have := h1 j c hc
   exact ⟨fun h => this.1 (by omega), fun h => this.2 (by omega)⟩
theorem gk_call (i k m : Nat) {t : Tmp} {v : Value} {vals : List Value} {oi : Oper} {f : FuncId} {fn : Func} {ax : Array Operand} {ts : Array TypeId} (ho : ops[i]? = some oi) (hg : oi.guard = none) (hd : oi.dst = some t) (hm : C[m]? = some i) (hL : L[k]? = some (i, t, v))
  (hdist : (L.take k ++ L.drop (k + 1)).all (fun e => !(e.1 == i) && !(e.2.1 == t)) = true) (hnd : (C.take m ++ C.drop (m + 1)).contains i = false) (hprev : (C.take m).all (fun q => O.contains q && (B.getD i 0).testBit q) = true)
  (hf : P.funcs[f]? = some fn) (hname : (fn.name == "runtime.NumGoroutine") = false) (hbd : fn.body.isSome = true) (hop : oi.op = .call { callee := .value (.func f), args := ax, argTypes := ts })
  (har : Ar O B i (fun _ => L) a0 ax.toList vals) (hcall : ∀ w, I m w → Calls P f vals.toArray w fun e w' => e = .returned v ∧ I (m + 1) w') : StepAt P ops Q B O (GrK C I L a0) i := by
 rintro b a w hG hb hon hoff
 obtain ⟨ha, hI, hK2⟩ := gk_step i m hm hnd hprev hG hb hon
 refine ⟨oi, ho, fun K hK => ?_⟩
 rw [hd]
 have e2 := har b (fun _ => undef) hon hoff
 refine goes_ hf hname hbd vals.toArray (wanted_none0 hg) hd hop ?_ ?_
 ·apply Array.toList_inj.1
  rw [Array.toList_map, ha, e2]
 ·refine (hcall w hI).mono ?_
  rintro e w' ⟨rfl, hI'⟩
  exact ⟨v, rfl, hK.out _ _ (hK2 _ w' (by rw [ha]; exact putSel_upk k hb hL (set_same hL) hdist) hI')⟩
theorem gk_store (i m : Nat) {s : Tmp} {u v : Value} {f : World → World} {oi : Oper} (ho : ops[i]? = some oi) (hg : oi.guard = none) (hd : oi.dst = none) (hm : C[m]? = some i) (hL : L.all (fun e => !(e.1 == i)) = true)
  (hnd : (C.take m ++ C.drop (m + 1)).contains i = false) (hprev : (C.take m).all (fun q => O.contains q && (B.getD i 0).testBit q) = true) (hp : Rd O B i (fun _ => L) a0 p (fun _ => u)) (hs : Rd O B i (fun _ => L) a0 s (fun _ => v))
  (hrun : ∀ (a : Act) (w : World), I m w → a.tmps[p]? = some u → a.tmps[s]? = some v → (execOp a.eval oi).run P w = .ok .skip (f w)) (hI : ∀ w, I m w → I (m + 1) (f w)) : StepAt P ops Q B O (GrK C I L a0) i := by
 rintro b a w hG hb hon hoff
 obtain ⟨ha, hIm, hK2⟩ := gk_step i m hm hnd hprev hG hb hon
 refine ⟨oi, ho, fun K hK => ?_⟩
 rw [hd]
 refine skip_ (w1 := f w) (wanted_none0 hg) hd (hrun a w hIm (by rw [ha]; exact hp b (fun _ => undef) hon hoff) (by rw [ha]; exact hs b (fun _ => undef) hon hoff)) (hK.out _ _ (hK2 _ _ ?_ (hI w hIm)))
 show a = _
 rw [ha]
 exact (putSel_skip hL).symm
theorem grow_known {id : Nat} (O C : List Nat) (I : Nat → World → Prop) (L : Sel) {n : Nat} {l : Array Bool} {Tb : Bool × List (List Nat × List Nat)} (hm : P.follows .mixedOrders = true) (hn : ops.size = n) (hl : Array.replicate n false = l) (hT : rtab .any ops = Tb) (hw : waitsOk Tb.2 B = true) (hk : baseOk Tb.2 O = true) (hl2 : (lof Tb.2.length O (fun _ => false) == l.toList && O.length == n) = true)
  (hLO : L.all (fun e => O.contains e.1) = true) (hCO : (C.all fun e => O.contains e) = true) (h0 : I 0 W.drew) (hs : ∀ i ∈ O, StepAt P ops Q B O (GrK C I L a0) i)
  (hend : ∀ (w : World), I C.length w → Q .normal (putSel a0 (fun _ => true) L) w) : Code.wp P (Code.region id ops true) Q a0 W := by
 refine start_ (S := fun _ => True) (ds := []) l hm hn hl trivial (fun _ => ?_)
 refine inv_at O (fun a0 => GrK C I L a0) hT hw hk hl2 ⟨0, Nat.zero_le _, fun j c _ => ⟨fun h => absurd h (Nat.not_lt_zero _), fun _ => rfl⟩, ?_, h0⟩ hs ?_
 ·clear hLO hs hend
  induction L with
  | nil => rfl
  | cons e r ih => unfold putSel; exact ih
 ·rintro b a w hall ⟨s, hs1, h1, ha, hI⟩
  have e1 : putSel a0 b L = putSel a0 (fun _ => true) L := putSel_congr (fun e he => hall _ (List.all_eq_true.1 (hLO) e he))
  have e2 : s = C.length := by
   rcases Nat.lt_or_ge s C.length with h | h
   ·have hc := List.getElem?_eq_getElem h
    have e2 := (h1 s _ hc).2 (Nat.le_refl _)
    rw [hall _ (List.all_eq_true.1 hCO _ (List.getElem_mem h))] at e2
    cases e2
   ·omega
  rw [ha, e1]
  rw [e2] at hI
  exact hend w hI
end
end Go.Proofs.YtdlamomabonkjaaDoor.Base
end
section
namespace Go.Proofs.YtdlamomabonkjaaDoor.Pk
open Go.RowKit YtdlamomabonkjaaDoorW.PrintWords YtdlamomabonkjaaDoorW.PrintLast Base PCh ParDec Ch Crc CrcMath
theorem PS.put1 {w0 W : World} {g : Nat} {v : List UInt8} {f t q : Int} {CH : Value} (h : PS w0 W g v f t q CH) (x : Int) : PS w0 (W.setCell ⟨g, 1, none⟩ (.int .u16 x)) g v x t q CH := by
 obtain ⟨A, c, hb, hc, hC⟩ := h
 exact ⟨A, c, blk_put hb 1 _ rfl, hc, hC⟩
theorem PS.put2 {w0 W : World} {g : Nat} {v : List UInt8} {f t q : Int} {CH : Value} (h : PS w0 W g v f t q CH) (x : Int) : PS w0 (W.setCell ⟨g, 2, none⟩ (.int .u16 x)) g v f x q CH := by
 obtain ⟨A, c, hb, hc, hC⟩ := h
 exact ⟨A, c, blk_put hb 2 _ rfl, hc, hC⟩
theorem PS.put3 {w0 W : World} {g : Nat} {v : List UInt8} {f t q : Int} {CH : Value} (h : PS w0 W g v f t q CH) (x : Int) : PS w0 (W.setCell ⟨g, 3, none⟩ (.int .u32 x)) g v f t x CH := by
 obtain ⟨A, c, hb, hc, hC⟩ := h
 exact ⟨A, c, blk_put hb 3 _ rfl, hc, hC⟩
theorem _root_.Go.Proofs.YtdlamomabonkjaaDoor.Base.Only.thn {S : Nat → Prop} {w W W' : World} (h : Only S w W) (hb : Below W.heap.size W W') : Only S w W' := h.trans (Only.of_below (S := fun _ => False) hb) (fun _ _ h => h.elim)
theorem PS.below {w0 W W' : World} {g : Nat} {v : List UInt8} {f t q : Int} {CH : Value} (h : PS w0 W g v f t q CH) (hB : Below W.heap.size W W') : PS w0 W' g v f t q CH := by
 obtain ⟨A, c, hb, hc, hC⟩ := h
 exact ⟨A, c, blk_below hb hB, hc, hC⟩
theorem u16_small (n : Int) (h : 0 ≤ n) (h2 : n < 65536) : IntKind.u16.wrap n = n := by simp only [IntKind.wrap, IntKind.bits, IntKind.signed]; simp; omega
theorem be_lt2 (l : List UInt8) (h : l.length ≤ 2) : be l < 65536 := by
 have h1 := fold_lt l 0
 have h2 : 256 ^ l.length ≤ 256 ^ 2 := Nat.pow_le_pow_right (by decide) h
 unfold be
 omega
def hdF (b : List UInt8) : Nat := be (b.take 2)
def hdT (b : List UInt8) : Nat := be ((b.drop 2).take 2)
def hdQ (b : List UInt8) : Nat := be (((b.drop 2).drop 2).take 4)
def headE (b : List UInt8) : Int := if 65536 < b.length then 2 else if checkL b = 0 then (if (decide (0 < (hdF b : Int)) && decide (0 < (hdT b : Int))) = true then 0 else 72) else checkL b
def pkhT3 : Bool × List (List Nat × List Nat) := (true, [([], []), ([], []), ([], []), ([], []), ([3], [3]), ([4], [4]), ([5], [5]), ([6], [6]), ([], []), ([8], [8]), ([9], [9]), ([10, 6], [10]), ([11], [11]), ([], []), ([13], [13]), ([14], [14]), ([15, 11], [15]), ([0, 0, 3, 4, 5, 6, 7, 11, 16], [0]), ([17, 0, 3, 4, 5, 6, 7, 11, 16], [17]), ([18, 0, 3, 4, 5, 6, 7, 11, 16], [18]), ([19, 7, 16, 0, 3, 4, 5, 6, 7, 11, 16], [7, 19]), ([1, 0, 1, 3, 4, 5, 6, 7, 8, 9, 10, 11, 12, 16, 17, 18, 19, 20], [1]), ([21, 0, 1, 3, 4, 5, 6, 7, 8, 9, 10, 11, 12, 16, 17, 18, 19, 20], [21]), ([22, 0, 1, 3, 4, 5, 6, 7, 8, 9, 10, 11, 12, 16, 17, 18, 19, 20], [22]), ([23, 12, 20, 0, 1, 3, 4, 5, 6, 7, 8, 9, 10, 11, 12, 16, 17, 18, 19, 20], [12, 23]), ([2, 0, 1, 2, 3, 4, 5, 6, 7, 8, 9, 10, 11, 12, 13, 14, 15, 16, 17, 18, 19, 20, 21, 22, 23, 24], [2]), ([25, 0, 1, 2, 3, 4, 5, 6, 7, 8, 9, 10, 11, 12, 13, 14, 15, 16, 17, 18, 19, 20, 21, 22, 23, 24], [25]), ([26, 0, 1, 2, 3, 4, 5, 6, 7, 8, 9, 10, 11, 12, 13, 14, 15, 16, 17, 18, 19, 20, 21, 22, 23, 24], [26]), ([27, 16, 24, 0, 1, 2, 3, 4, 5, 6, 7, 8, 9, 10, 11, 12, 13, 14, 15, 16, 17, 18, 19, 20, 21, 22, 23, 24], [16, 27])])
def pkhB3 : List Nat := [0, 0, 0, 0, 8, 24, 56, 120, 0, 256, 768, 1912, 3960, 0, 8192, 24576, 61304, 126969, 258041, 520185, 1044473, 2097147, 4194299, 8388603, 16777211, 33554431, 67108863, 134217727, 268435455]
theorem pkhtab3 : Go.Proofs.YtdlamomabonkjaaDoorW.PrintLast.rtab .any (Go.Proofs.YtdlamomabonkjaaDoorW.PrintLast.opsOf Tryd.f58 3) = pkhT3 := by kernel_rfl
theorem pkhbits3 : Go.Proofs.YtdlamomabonkjaaDoorW.PrintLast.waitsOk pkhT3.2 pkhB3 = true := by kernel_rfl
def HeadP (w0 w : World) (g : Nat) (v : List UInt8) (E nf nt nq : Int) (e : Ending) (w' : World) : Prop :=
 Only (· = g) w w' ∧ (E ≠ 0 → e = errP 0 E ∧ ∃ x0, w'.heap[g]? = some (.cells x0 99 (0, 0))) ∧ (E = 0 → e = .returned (.tuple #[]) ∧ PS w0 w' g (v.drop 12) nf nt nq (.slice none 0 0))
theorem blk_sub {w : World} {g : Nat} {t : TypeId} {cs : Array Value} (h : w.heap[g]? = some (.cells cs t (0, 0))) (k : Nat) (sub : Array Value) (hs : ∀ j v, sub.toList[j]? = some v → cs[k + j]? = some v) : ∀ j v, sub.toList[j]? = some v → w.cell? ((⟨g, k, none⟩ : Addr).add j) = some v := by
 intro j v hv
 rw [WideShapes.add_plain, blk_cell h]
 exact hs j v hv
theorem PS.sub {w0 W : World} {g : Nat} {v : List UInt8} {f t q : Int} {CH : Value} (h : PS w0 W g v f t q CH) : ∀ j u, (#[.int .u16 f, .int .u16 t, .int .u32 q, CH] : Array Value).toList[j]? = some u → W.cell? ((⟨g, 1, none⟩ : Addr).add j) = some u := by
 obtain ⟨A, c, hb, hc, hC⟩ := h
 refine blk_sub hb 1 _ fun j u hu => ?_
 match j, hu with
 | 0, hu => exact hu
 | 1, hu => exact hu
 | 2, hu => exact hu
 | 3, hu => exact hu
 | _ + 4, hu => simp at hu
theorem PS.blk {w0 W : World} {g : Nat} {v : List UInt8} {f t q : Int} {CH : Value} (h : PS w0 W g v f t q CH) : ∃ x0, W.heap[g]? = some (.cells x0 99 (0, 0)) := by
 obtain ⟨A, c, hb, hc, hC⟩ := h
 exact ⟨_, hb⟩
set_option maxHeartbeats 4000000 in
theorem head_calls (w0 w : World) (g : Nat) (v : List UInt8) (hT : Table w) (hs : PS w0 w g v 0 0 0 (.slice none 0 0)) (hB : Below w0.heap.size w0 w) (hg : w0.heap.size ≤ g) (hv : v.length ≤ 140737488355328) :
  Calls Tryd.prog 58 #[.pointer (some ⟨g, 0, none⟩)] w (HeadP w0 w g v (headE v) (hdF v : Nat) (hdT v : Nat) (hdQ v : Nat)) := by
 have HS0 := Lh hs
 have HHP := Lh (fun (W : World) (E nf nt nq : Int) (e : Ending) (h : Only (· = g) w W ∧ (E ≠ 0 → e = errP 0 E ∧ ∃ x0, W.heap[g]? = some (.cells x0 99 (0, 0))) ∧ (E = 0 → e = .returned (.tuple #[]) ∧ PS w0 W g (v.drop 12) nf nt nq (.slice none 0 0))) => (show HeadP w0 w g v E nf nt nq e W from h))
 have hlt : g < w.heap.size := by obtain ⟨A, c, hb, _⟩ := hs; exact blk_lt hb
 have HM := Lh (fun (W : World) (a c : Int) => must_bad W a c)
 have HMO := Lh (fun (W : World) (a c : Int) => must_ok W a c)
 obtain ⟨A, c, hb, hc, hC⟩ := hs
 have k0 : w.cell? ⟨g, 0, none⟩ = some (.slice A v.length c) := blk_cell hb 0
 have HBK := Lh (fun (W : World) (h : Below w.heap.size w W) => blk_below hb h)
 by_cases h6 : 65536 < v.length
 ·have hE : headE v = 2 := by unfold headE; rw [if_pos h6]
  have hz : decide ((v.length : Int) ≤ 65536) = false := decide_eq_false (by omega)
  rw [hE]
  clear hE hb hc hC HS0 hT h6 hv HMO
  generalize v.length = n at *
  clear HHP
  unfold errP at HM
  unfold HeadP errP
  go_enter Tryd.func58, Tryd.ntmps58
  go_wp2_with fail
  refine (HM.out _ _ _).mono ?_
  rintro e w1 ⟨rfl, rfl⟩
  exact ⟨rfl, Only.refl _ _, fun _ => ⟨rfl, _, HBK.out _ (Below.refl _ _)⟩, fun h => absurd h (by decide)⟩
 ·have hz : decide ((v.length : Int) ≤ 65536) = true := decide_eq_true (by omega)
  have HCK := Lh (fun (W : World) (h : Below w.heap.size w W) => Crc.check_calls A c v W (hT.below h) (Kd.C_below hC (below_then hB hB.size h)) hc hv)
  have k0 : w.cell? ⟨g, 0, none⟩ = some (.slice A v.length c) := blk_cell hb 0
  by_cases hcz : checkL v = 0
  ·have hlen : 12 ≤ v.length := by
    unfold checkL at hcz
    split at hcz
    ·cases hcz
    ·omega
   have hE : headE v = if (decide (0 < (hdF v : Int)) && decide (0 < (hdT v : Int))) = true then 0 else 72 := by unfold headE; rw [if_neg h6, if_pos hcz]
   have HPB := Lh (ports_ok ((hdF v : Nat) : Int) ((hdT v : Nat) : Int) ((hdQ v : Nat) : Int) [])
   rw [hE]
   obtain ⟨E, hEE⟩ : ∃ E : Int, (if (decide (0 < (hdF v : Int)) && decide (0 < (hdT v : Int))) = true then 0 else 72) = E := ⟨_, rfl⟩
   rw [hEE]
   have HEE := Lh hEE
   clear hEE
   rw [hcz] at HCK
   clear hE hcz
   have HS := Lh (fun (W : World) (h : Below w.heap.size w W) => (show PS w0 W g v 0 0 0 (.slice none 0 0) from ⟨A, c, blk_below hb h, hc, hC⟩))
   clear hb hc hC HS0 hT
   go_enter Tryd.func58, Tryd.ntmps58
   go_wp2_with fail
   refine (HMO.out _ _ _).mono ?_
   rintro e w1 ⟨rfl, rfl⟩
   go_wp2_with fail
   refine (HCK.out _ (Below.refl _ _)).mono ?_
   rintro e w1 ⟨rfl, hB1⟩
   have HB1 := Lh hB1
   clear hB1 HCK k0
   go_wp2_with fail
   refine (HMO.out _ _ _).mono ?_
   rintro e w2 ⟨rfl, rfl⟩
   go_upto_region 3 with (fail)
   clear hz
   have HW1 := Lh (show IntKind.u16.wrap ((hdF v : Nat) : Int) = ((hdF v : Nat) : Int) from u16_small _ (by omega) (by have := be_lt2 (v.take 2) (by rw [List.length_take]; omega); unfold hdF; omega))
   have HW2 := Lh (show IntKind.u16.wrap ((hdT v : Nat) : Int) = ((hdT v : Nat) : Int) from u16_small _ (by omega) (by have := be_lt2 ((v.drop 2).take 2) (by rw [List.length_take]; omega); unfold hdT; omega))
   have HS2 := Lh (show PS w0 w2.drew g v 0 0 0 (.slice none 0 0) from HS.out w2.drew (pw_below_drewN HB1.out 1))
   clear HS
   have HBW := Lh (fun (W : World) (h : Only (· = g) w2 W) => (show Below w0.heap.size w0 W from (below_then hB hB.size HB1.out).trans (h.below (Nat.le_trans hB.size HB1.out.size) (fun k hk => by subst hk; exact hg))))
   have HN1 := Lh (fun (W : World) (h : PS w0 W g v 0 0 0 (.slice none 0 0) ∧ Only (· = g) w2 W) => (number_calls w0 W g 2 v 0 0 0 _ h.1 (HBW.out W h.2) hg (by omega) (by omega) hv).mono fun e w' ⟨he, hp, ho⟩ => (⟨he, hp, h.2.trans ho (fun _ _ h => h)⟩ : _ ∧ PS w0 w' g (v.drop 2) 0 0 0 (.slice none 0 0) ∧ Only (· = g) w2 w'))
   have HN2 := Lh (fun (W : World) (h : PS w0 W g (v.drop 2) 0 0 0 (.slice none 0 0) ∧ Only (· = g) w2 W) => (number_calls w0 W g 2 (v.drop 2) 0 0 0 _ h.1 (HBW.out W h.2) hg (by rw [List.length_drop]; omega) (by omega) (by rw [List.length_drop]; omega)).mono fun e w' ⟨he, hp, ho⟩ => (⟨he, hp, h.2.trans ho (fun _ _ h => h)⟩ : _ ∧ PS w0 w' g ((v.drop 2).drop 2) 0 0 0 (.slice none 0 0) ∧ Only (· = g) w2 w'))
   have HN3 := Lh (fun (W : World) (h : PS w0 W g ((v.drop 2).drop 2) 0 0 0 (.slice none 0 0) ∧ Only (· = g) w2 W) => (number_calls w0 W g 4 ((v.drop 2).drop 2) 0 0 0 _ h.1 (HBW.out W h.2) hg (by simp only [List.length_drop]; omega) (by omega) (by simp only [List.length_drop]; omega)).mono fun e w' ⟨he, hp, ho⟩ => (⟨he, hp, h.2.trans ho (fun _ _ h => h)⟩ : _ ∧ PS w0 w' g (((v.drop 2).drop 2).drop 4) 0 0 0 (.slice none 0 0) ∧ Only (· = g) w2 w'))
   rw [show be (v.take 2) = hdF v from rfl] at HN1
   rw [show be ((v.drop 2).take 2) = hdT v from rfl] at HN2
   rw [show be (((v.drop 2).drop 2).take 4) = hdQ v from rfl] at HN3
   generalize ((hdF v : Nat) : Int) = nf at *
   generalize ((hdT v : Nat) : Int) = nt at *
   generalize ((hdQ v : Nat) : Int) = nq at *
   refine grow_known (B := pkhB3) [0, 1, 2, 3, 4, 5, 6, 7, 8, 9, 10, 11, 12, 13, 14, 15, 16, 17, 18, 19, 20, 21, 22, 23, 24, 25, 26, 27, 28] [6, 11, 16, 20, 24, 28] (fun s W => match s with | 0 => PS w0 W g v 0 0 0 (.slice none 0 0) ∧ Only (· = g) w2 W | 1 => PS w0 W g (v.drop 2) 0 0 0 (.slice none 0 0) ∧ Only (· = g) w2 W | 2 => PS w0 W g ((v.drop 2).drop 2) 0 0 0 (.slice none 0 0) ∧ Only (· = g) w2 W | 3 => PS w0 W g (((v.drop 2).drop 2).drop 4) 0 0 0 (.slice none 0 0) ∧ Only (· = g) w2 W | 4 => PS w0 W g (((v.drop 2).drop 2).drop 4) nf 0 0 (.slice none 0 0) ∧ Only (· = g) w2 W | 5 => PS w0 W g (((v.drop 2).drop 2).drop 4) nf nt 0 (.slice none 0 0) ∧ Only (· = g) w2 W | _ => PS w0 W g (((v.drop 2).drop 2).drop 4) nf nt nq (.slice none 0 0) ∧ Only (· = g) w2 W) [(0, 21, .pointer (some ⟨g, 0, none⟩)), (1, 22, .pointer (some ⟨g, 0, none⟩)), (2, 23, .pointer (some ⟨g, 0, none⟩)), (3, 24, .pointer (some ⟨g, 0, none⟩)), (4, 25, .pointer (some ⟨g, 0, none⟩)), (5, 26, .pointer (some ⟨g, 0, none⟩)), (6, 27, .int .u32 nf), (7, 28, .int .u16 nf), (8, 29, .pointer (some ⟨g, 0, none⟩)), (9, 30, .pointer (some ⟨g, 0, none⟩)), (10, 31, .pointer (some ⟨g, 0, none⟩)), (11, 32, .int .u32 nt), (12, 33, .int .u16 nt), (13, 34, .pointer (some ⟨g, 0, none⟩)), (14, 35, .pointer (some ⟨g, 0, none⟩)), (15, 36, .pointer (some ⟨g, 0, none⟩)), (16, 37, .int .u32 nq), (17, 38, .pointer (some ⟨g, 0, none⟩)), (18, 39, .pointer (some ⟨g, 1, none⟩)), (19, 40, .pointer (some ⟨g, 1, none⟩)), (21, 41, .pointer (some ⟨g, 0, none⟩)), (22, 42, .pointer (some ⟨g, 1, none⟩)), (23, 43, .pointer (some ⟨g, 2, none⟩)), (25, 44, .pointer (some ⟨g, 0, none⟩)), (26, 45, .pointer (some ⟨g, 1, none⟩)), (27, 46, .pointer (some ⟨g, 3, none⟩))] (by kernel_rfl) rfl (l := #[false, false, false, false, false, false, false, false, false, false, false, false, false, false, false, false, false, false, false, false, false, false, false, false, false, false, false, false, false]) rfl pkhtab3 pkhbits3 (by kernel_rfl) (by kernel_rfl) rfl rfl ?_ ?_ ?_
   ·exact ⟨HS2.out, (Only.refl _ _).drew⟩
   ·exact steps_cons (gk_op (p := 0) (fun _ => True) 0 0 rfl rfl rfl rfl rfl rfl (u := .pointer (some ⟨g, 0, none⟩)) (rd_off (p := 0) (fun _ => rfl) rfl) (fun _ _ _ => trivial) (fun a w hJ e => by go_simp)) (steps_cons (gk_op (p := 0) (fun _ => True) 1 1 rfl rfl rfl rfl rfl rfl (u := .pointer (some ⟨g, 0, none⟩)) (rd_off (p := 0) (fun _ => rfl) rfl) (fun _ _ _ => trivial) (fun a w hJ e => by go_simp)) (steps_cons (gk_op (p := 0) (fun _ => True) 2 2 rfl rfl rfl rfl rfl rfl (u := .pointer (some ⟨g, 0, none⟩)) (rd_off (p := 0) (fun _ => rfl) rfl) (fun _ _ _ => trivial) (fun a w hJ e => by go_simp)) (steps_cons (gk_op (p := 0) (fun _ => True) 3 3 rfl rfl rfl rfl rfl rfl (u := .pointer (some ⟨g, 0, none⟩)) (rd_off (p := 0) (fun _ => rfl) rfl) (fun _ _ _ => trivial) (fun a w hJ e => by go_simp)) (steps_cons (gk_op (p := 24) (fun _ => True) 4 4 rfl rfl rfl rfl rfl rfl (u := .pointer (some ⟨g, 0, none⟩)) (rd_on (p := 24) 3 3 (fun _ => rfl) (fun _ => rfl) (by kernel_rfl) rfl) (fun _ _ _ => trivial) (fun a w hJ e => by go_simp)) (steps_cons (gk_op (p := 25) (fun _ => True) 5 5 rfl rfl rfl rfl rfl rfl (u := .pointer (some ⟨g, 0, none⟩)) (rd_on (p := 25) 4 4 (fun _ => rfl) (fun _ => rfl) (by kernel_rfl) rfl) (fun _ _ _ => trivial) (fun a w hJ e => by go_simp)) (steps_cons (gk_call (v := .int .u32 nf) (vals := [.pointer (some ⟨g, 0, none⟩), .int .i64 2]) 6 6 0 rfl rfl rfl rfl rfl rfl rfl (by kernel_rfl) Tryd.func80 (by kernel_rfl) rfl rfl (ar_t (rd_on (p := 26) 5 5 (fun _ => rfl) (fun _ => rfl) (by kernel_rfl) rfl) (ar_c (.int .i64 2) (ar_n))) (fun w h => (HN1.out w h))) (steps_cons (gk_op (p := 27) (fun _ => True) 7 7 rfl rfl rfl rfl rfl rfl (u := .int .u32 nf) (rd_on (p := 27) 6 6 (fun _ => rfl) (fun _ => rfl) (by kernel_rfl) rfl) (fun _ _ _ => trivial) (fun a w hJ e => by have h16 := HW1.out; go_simp)) (steps_cons (gk_op (p := 0) (fun _ => True) 8 8 rfl rfl rfl rfl rfl rfl (u := .pointer (some ⟨g, 0, none⟩)) (rd_off (p := 0) (fun _ => rfl) rfl) (fun _ _ _ => trivial) (fun a w hJ e => by go_simp)) (steps_cons (gk_op (p := 29) (fun _ => True) 9 9 rfl rfl rfl rfl rfl rfl (u := .pointer (some ⟨g, 0, none⟩)) (rd_on (p := 29) 8 8 (fun _ => rfl) (fun _ => rfl) (by kernel_rfl) rfl) (fun _ _ _ => trivial) (fun a w hJ e => by go_simp)) (steps_cons (gk_op (p := 30) (fun _ => True) 10 10 rfl rfl rfl rfl rfl rfl (u := .pointer (some ⟨g, 0, none⟩)) (rd_on (p := 30) 9 9 (fun _ => rfl) (fun _ => rfl) (by kernel_rfl) rfl) (fun _ _ _ => trivial) (fun a w hJ e => by go_simp)) (steps_cons (gk_call (v := .int .u32 nt) (vals := [.pointer (some ⟨g, 0, none⟩), .int .i64 2]) 11 11 1 rfl rfl rfl rfl rfl rfl rfl (by kernel_rfl) Tryd.func80 (by kernel_rfl) rfl rfl (ar_t (rd_on (p := 31) 10 10 (fun _ => rfl) (fun _ => rfl) (by kernel_rfl) rfl) (ar_c (.int .i64 2) (ar_n))) (fun w h => (HN2.out w h))) (steps_cons (gk_op (p := 32) (fun _ => True) 12 12 rfl rfl rfl rfl rfl rfl (u := .int .u32 nt) (rd_on (p := 32) 11 11 (fun _ => rfl) (fun _ => rfl) (by kernel_rfl) rfl) (fun _ _ _ => trivial) (fun a w hJ e => by have h16 := HW2.out; go_simp)) (steps_cons (gk_op (p := 0) (fun _ => True) 13 13 rfl rfl rfl rfl rfl rfl (u := .pointer (some ⟨g, 0, none⟩)) (rd_off (p := 0) (fun _ => rfl) rfl) (fun _ _ _ => trivial) (fun a w hJ e => by go_simp)) (steps_cons (gk_op (p := 34) (fun _ => True) 14 14 rfl rfl rfl rfl rfl rfl (u := .pointer (some ⟨g, 0, none⟩)) (rd_on (p := 34) 13 13 (fun _ => rfl) (fun _ => rfl) (by kernel_rfl) rfl) (fun _ _ _ => trivial) (fun a w hJ e => by go_simp)) (steps_cons (gk_op (p := 35) (fun _ => True) 15 15 rfl rfl rfl rfl rfl rfl (u := .pointer (some ⟨g, 0, none⟩)) (rd_on (p := 35) 14 14 (fun _ => rfl) (fun _ => rfl) (by kernel_rfl) rfl) (fun _ _ _ => trivial) (fun a w hJ e => by go_simp)) (steps_cons (gk_call (v := .int .u32 nq) (vals := [.pointer (some ⟨g, 0, none⟩), .int .i64 4]) 16 16 2 rfl rfl rfl rfl rfl rfl rfl (by kernel_rfl) Tryd.func80 (by kernel_rfl) rfl rfl (ar_t (rd_on (p := 36) 15 15 (fun _ => rfl) (fun _ => rfl) (by kernel_rfl) rfl) (ar_c (.int .i64 4) (ar_n))) (fun w h => (HN3.out w h))) (steps_cons (gk_op (p := 21) (fun _ => True) 17 17 rfl rfl rfl rfl rfl rfl (u := .pointer (some ⟨g, 0, none⟩)) (rd_on (p := 21) 0 0 (fun _ => rfl) (fun _ => rfl) (by kernel_rfl) rfl) (fun _ _ _ => trivial) (fun a w hJ e => by go_simp)) (steps_cons (gk_op (p := 38) (fun _ => True) 18 18 rfl rfl rfl rfl rfl rfl (u := .pointer (some ⟨g, 0, none⟩)) (rd_on (p := 38) 17 17 (fun _ => rfl) (fun _ => rfl) (by kernel_rfl) rfl) (fun _ _ _ => trivial) (fun a w hJ e => by go_simp)) (steps_cons (gk_op (p := 39) (fun _ => True) 19 19 rfl rfl rfl rfl rfl rfl (u := .pointer (some ⟨g, 1, none⟩)) (rd_on (p := 39) 18 18 (fun _ => rfl) (fun _ => rfl) (by kernel_rfl) rfl) (fun _ _ _ => trivial) (fun a w hJ e => by go_simp)) (steps_cons (gk_store (p := 40) (s := 28) (u := .pointer (some ⟨g, 1, none⟩)) (v := .int .u16 nf) (f := fun W => W.setCell ⟨g, 1, none⟩ (.int .u16 nf)) 20 3 rfl rfl rfl rfl rfl rfl (by kernel_rfl) (rd_on (p := 40) 19 19 (fun _ => rfl) (fun _ => rfl) (by kernel_rfl) rfl) (rd_on (p := 28) 7 7 (fun _ => rfl) (fun _ => rfl) (by kernel_rfl) rfl) (fun a w h e1 e2 => by obtain ⟨A, c, hb, hc, hC⟩ := h.1; have f0 := blk_frozen hb 1; have k0 := blk_cell hb 1; go_simp) (fun w h => ⟨h.1.put1 _, h.2.setCell (fun _ => rfl) _⟩)) (steps_cons (gk_op (p := 22) (fun _ => True) 21 20 rfl rfl rfl rfl rfl rfl (u := .pointer (some ⟨g, 0, none⟩)) (rd_on (p := 22) 1 1 (fun _ => rfl) (fun _ => rfl) (by kernel_rfl) rfl) (fun _ _ _ => trivial) (fun a w hJ e => by go_simp)) (steps_cons (gk_op (p := 41) (fun _ => True) 22 21 rfl rfl rfl rfl rfl rfl (u := .pointer (some ⟨g, 0, none⟩)) (rd_on (p := 41) 20 21 (fun _ => rfl) (fun _ => rfl) (by kernel_rfl) rfl) (fun _ _ _ => trivial) (fun a w hJ e => by go_simp)) (steps_cons (gk_op (p := 42) (fun _ => True) 23 22 rfl rfl rfl rfl rfl rfl (u := .pointer (some ⟨g, 1, none⟩)) (rd_on (p := 42) 21 22 (fun _ => rfl) (fun _ => rfl) (by kernel_rfl) rfl) (fun _ _ _ => trivial) (fun a w hJ e => by go_simp)) (steps_cons (gk_store (p := 43) (s := 33) (u := .pointer (some ⟨g, 2, none⟩)) (v := .int .u16 nt) (f := fun W => W.setCell ⟨g, 2, none⟩ (.int .u16 nt)) 24 4 rfl rfl rfl rfl rfl rfl (by kernel_rfl) (rd_on (p := 43) 22 23 (fun _ => rfl) (fun _ => rfl) (by kernel_rfl) rfl) (rd_on (p := 33) 12 12 (fun _ => rfl) (fun _ => rfl) (by kernel_rfl) rfl) (fun a w h e1 e2 => by obtain ⟨A, c, hb, hc, hC⟩ := h.1; have f0 := blk_frozen hb 2; have k0 := blk_cell hb 2; go_simp) (fun w h => ⟨h.1.put2 _, h.2.setCell (fun _ => rfl) _⟩)) (steps_cons (gk_op (p := 23) (fun _ => True) 25 23 rfl rfl rfl rfl rfl rfl (u := .pointer (some ⟨g, 0, none⟩)) (rd_on (p := 23) 2 2 (fun _ => rfl) (fun _ => rfl) (by kernel_rfl) rfl) (fun _ _ _ => trivial) (fun a w hJ e => by go_simp)) (steps_cons (gk_op (p := 44) (fun _ => True) 26 24 rfl rfl rfl rfl rfl rfl (u := .pointer (some ⟨g, 0, none⟩)) (rd_on (p := 44) 23 25 (fun _ => rfl) (fun _ => rfl) (by kernel_rfl) rfl) (fun _ _ _ => trivial) (fun a w hJ e => by go_simp)) (steps_cons (gk_op (p := 45) (fun _ => True) 27 25 rfl rfl rfl rfl rfl rfl (u := .pointer (some ⟨g, 1, none⟩)) (rd_on (p := 45) 24 26 (fun _ => rfl) (fun _ => rfl) (by kernel_rfl) rfl) (fun _ _ _ => trivial) (fun a w hJ e => by go_simp)) (steps_cons (gk_store (p := 46) (s := 37) (u := .pointer (some ⟨g, 3, none⟩)) (v := .int .u32 nq) (f := fun W => W.setCell ⟨g, 3, none⟩ (.int .u32 nq)) 28 5 rfl rfl rfl rfl rfl rfl (by kernel_rfl) (rd_on (p := 46) 25 27 (fun _ => rfl) (fun _ => rfl) (by kernel_rfl) rfl) (rd_on (p := 37) 16 16 (fun _ => rfl) (fun _ => rfl) (by kernel_rfl) rfl) (fun a w h e1 e2 => by obtain ⟨A, c, hb, hc, hC⟩ := h.1; have f0 := blk_frozen hb 3; have k0 := blk_cell hb 3; go_simp) (fun w h => ⟨h.1.put3 _, h.2.setCell (fun _ => rfl) _⟩)) steps_nil))))))))))))))))))))))))))))
   intro W4 hI
   have HI := Lh (show PS w0 W4 g (((v.drop 2).drop 2).drop 4) nf nt nq (.slice none 0 0) ∧ Only (· = g) w2 W4 from hI)
   clear hI HN1 HN2 HN3 HS2
   simp only [putSel, if_true, Act.put, List.setIfInBounds_toArray, List.set_cons_zero, List.set_cons_succ]
   have HN4 := Lh ((number_calls w0 W4 g 4 (((v.drop 2).drop 2).drop 4) nf nt nq _ HI.out.1 (HBW.out W4 HI.out.2) hg (by simp only [List.length_drop]; omega) (by omega) (by simp only [List.length_drop]; omega)).mono fun e w' ⟨he, hp, ho⟩ => (⟨he, hp, HI.out.2.trans ho (fun _ _ h => h)⟩ : _ ∧ PS w0 w' g ((((v.drop 2).drop 2).drop 4).drop 4) nf nt nq (.slice none 0 0) ∧ Only (· = g) w2 w'))
   rw [show (((v.drop 2).drop 2).drop 4).drop 4 = v.drop 12 by simp only [List.drop_drop]] at HN4
   go_wp2_with fail
   refine HN4.out.mono ?_
   rintro e W5 ⟨rfl, hP5, hO5⟩
   have HP5 := Lh hP5
   have hO6 := HB1.out
   have HO5 := Lh ((Only.of_below (S := (· = g)) HB1.out).trans hO5 (fun _ _ h => h))
   have HPC := Lh (fun (W : World) => packet_ports.calls nf nt nq none 0 [] _ W (Kd.C_nil _ _) (Nat.le_refl _) HPB.out)
   clear hP5 hO5 hO6 HN4 HI HBW HB1 HPB HBK
   generalize (decide (0 < nf) && decide (0 < nt)) = pb at *
   have hsub := HP5.out.sub
   have HSB := Lh hsub
   clear hsub
   go_wp2_with (with_reducible refine gate_dst (N := 54) rfl ?_; go_must (refine wpList_load_cells rfl 26 (.tmp 53) rfl rfl #[.int .u16 nf, .int .u16 nt, .int .u32 nq, .slice none 0 0] _ (fun j v hv => HSB.out j v hv) Tryd.underlying26 rfl (by kernel_rfl) ?_))
   refine (HPC.out W5).mono ?_
   rintro e W6 ⟨rfl, hB6⟩
   have HB6 := Lh hB6
   clear hB6 HPC HSB
   cases pb with
   | true =>
    have hE0 := HEE.out
    rw [if_pos rfl] at hE0
    subst hE0
    go_wp2_with fail
    refine (HMO.out _ _ _).mono ?_
    rintro e W7 ⟨rfl, rfl⟩
    go_wp2
    exact ⟨rfl, _, results_none rfl _ _ _, HHP.out _ _ _ _ _ _ ⟨HO5.out.thn HB6.out, fun h => absurd rfl h, fun _ => ⟨rfl, HP5.out.below HB6.out⟩⟩⟩
   | false =>
    have hE0 := HEE.out
    rw [if_neg (by decide)] at hE0
    subst hE0
    unfold errP at HM HHP
    go_wp2_with fail
    refine (HM.out _ _ _).mono ?_
    rintro e W7 ⟨rfl, rfl⟩
    exact ⟨rfl, HHP.out _ _ _ _ _ _ ⟨HO5.out.thn HB6.out, fun _ => ⟨rfl, (HP5.out.below HB6.out).blk⟩, fun h => absurd h (by decide)⟩⟩
  ·have hE : headE v = checkL v := by unfold headE; rw [if_neg h6, if_neg hcz]
   rw [hE]
   have hez : (checkL v == 0) = false := by simp [hcz]
   have HCZ := Lh hcz
   clear hE hb hc hC HS0 hT h6 hv hcz
   generalize checkL v = cv at *
   generalize v.length = n at *
   clear HHP
   unfold errP at HM
   unfold HeadP errP
   go_enter Tryd.func58, Tryd.ntmps58
   go_wp2_with fail
   refine (HMO.out _ _ _).mono ?_
   rintro e w1 ⟨rfl, rfl⟩
   go_wp2_with fail
   refine (HCK.out _ (Below.refl _ _)).mono ?_
   rintro e w1 ⟨rfl, hB1⟩
   have HB1 := Lh hB1
   clear hB1 HCK
   go_wp2_with fail
   refine (HM.out _ _ _).mono ?_
   rintro e w2 ⟨rfl, rfl⟩
   exact ⟨rfl, Only.of_below HB1.out, fun _ => ⟨rfl, _, HBK.out _ HB1.out⟩, fun h => absurd h HCZ.out⟩
end Go.Proofs.YtdlamomabonkjaaDoor.Pk
end
section
namespace Go.Proofs.YtdlamomabonkjaaDoor.Pk
open Go.RowKit YtdlamomabonkjaaDoorW.PrintWords YtdlamomabonkjaaDoorW.PrintLast Base PCh ParDec Ch Crc CrcMath
theorem _root_.Go.Proofs.YtdlamomabonkjaaDoor.Base.Only.setRow {S : Nat → Prop} {a w : World} (h : Only S a w) {g : Nat} (hg : g < a.heap.size → S g) (cs : Array Value) : Only S a (w.setRow g cs) :=
 ⟨h.os, h.tape, h.output, by rw [setRow_size]; exact h.size, fun k hk hn => (setRow_other _ _ _ _ (fun e => hn (by subst e; exact hg hk))).trans (h.block k hk hn)⟩
def pkrT5 : Bool × List (List Nat × List Nat) := (true, [([], []), ([], []), ([1], [1]), ([], []), ([3], [3]), ([0, 0], [0]), ([2, 5, 0, 1, 2, 5], [2]), ([4, 6, 0, 1, 2, 3, 4, 5, 6], [4])])
def pkrB5 : List Nat := [0, 0, 2, 0, 8, 1, 39, 127]
theorem pkrtab5 : Go.Proofs.YtdlamomabonkjaaDoorW.PrintLast.rtab .any (Go.Proofs.YtdlamomabonkjaaDoorW.PrintLast.opsOf Tryd.f57 5) = pkrT5 := by kernel_rfl
theorem pkrbits5 : Go.Proofs.YtdlamomabonkjaaDoorW.PrintLast.waitsOk pkrT5.2 pkrB5 = true := by kernel_rfl
theorem pcatch_idle (a b c : Addr) (w : World) :
  CallsD Tryd.prog 57 #[.pointer (some a), .pointer (some b), .pointer (some c)] .returning w fun e u' w' => e = .returned (.tuple #[]) ∧ u' = .returning ∧ w' = w := by
 refine callsD_of_wpS Tryd.func57 rfl fun c₀ cs hu => ?_
 apply wpS_seq
 apply wpS_region
 simp [wpOpsS, go_sem, recoverD, hu, Tryd.ntmps57, Exit.thenS]
 have ht : (#[Value.pointer (some a), Value.pointer (some b), Value.pointer (some c)] ++ ((Array.replicate 19 undef).setIfInBounds 3 Value.nilIface).setIfInBounds 0 Value.nilIface) = #[.pointer (some a), .pointer (some b), .pointer (some c), .nilIface, undef, undef, .nilIface, undef, undef, undef, undef, undef, undef, undef, undef, undef, undef, undef, undef, undef, undef, undef] := by kernel_rfl
 rw [ht]
 refine wpS_of_wp ?_
 go_wp2
 cases c₀
 simp_all [bodyPostS, results, Tryd.results57]
def fltV (at_ code : Int) : Value := .iface 93 (.agg #[.int .i64 at_, .int .i64 code])
set_option maxHeartbeats 4000000 in
theorem pcatch_err (a b c : Nat) (at_ code : Int) (older : List PanicEntry) (w : World) (x0 : Array Value) (x1 x2 : Value) (t1 t2 : TypeId)
  (h0 : w.heap[a]? = some (.cells x0 26 (0, 0))) (hx0 : x0.size = 4) (h1 : w.heap[b]? = some (.cells #[x1] t1 (0, 0))) (h2 : w.heap[c]? = some (.cells #[x2] t2 (0, 0))) (hab : a ≠ b) (hac : a ≠ c) (hbc : b ≠ c) :
  CallsD Tryd.prog 57 #[.pointer (some ⟨a, 0, none⟩), .pointer (some ⟨b, 0, none⟩), .pointer (some ⟨c, 0, none⟩)] (.panicking ({ v := fltV at_ code, recovered := false } :: older)) w fun e u' w' => e = .returned (.tuple #[]) ∧ u' = .panicking ({ v := fltV at_ code, recovered := true } :: older) ∧
   w'.heap[a]? = some (.cells #[.int .u16 0, .int .u16 0, .int .u32 0, .slice none 0 0] 26 (0, 0)) ∧ w'.heap[b]? = some (.cells #[.int .i64 at_] t1 (0, 0)) ∧ w'.heap[c]? = some (.cells #[.int .i64 code] t2 (0, 0)) ∧ Only (fun k => k = a ∨ k = b ∨ k = c) w w' := by
 unfold fltV
 refine callsD_of_wpS Tryd.func57 rfl fun c₀ cs hu => ?_
 apply wpS_seq
 apply wpS_region
 simp [wpOpsS, go_sem, recoverD, hu, Tryd.ntmps57, Exit.thenS]
 generalize hfv : (Value.iface 93 (.agg #[.int .i64 at_, .int .i64 code])) = fv at *
 have ht : ∀ fv : Value, (#[Value.pointer (some ⟨a, 0, none⟩), Value.pointer (some ⟨b, 0, none⟩), Value.pointer (some ⟨c, 0, none⟩)] ++ ((Array.replicate 19 undef).setIfInBounds 3 fv).setIfInBounds 0 fv) = #[.pointer (some ⟨a, 0, none⟩), .pointer (some ⟨b, 0, none⟩), .pointer (some ⟨c, 0, none⟩), fv, undef, undef, fv, undef, undef, undef, undef, undef, undef, undef, undef, undef, undef, undef, undef, undef, undef, undef] := fun fv => by kernel_rfl
 rw [ht]
 subst hfv
 have hta : ∀ W : World, (Instr.typeAssert (Value.iface 93 (.agg #[.int .i64 at_, .int .i64 code])) 20 93 true).run Tryd.prog W = .ok (.tuple #[.agg #[.int .i64 at_, .int .i64 code], .bool true]) W := fun W => by rfl
 refine wpS_of_wp ?_
 have hl0 := blk_lt h0
 have hl1 := blk_lt h1
 have hl2 := blk_lt h2
 have H0 := Lh (fun (W : World) (h : Below w.heap.size w W) => (⟨blk_below h0 h, blk_below h1 h, blk_below h2 h⟩ : W.heap[a]? = some (.cells x0 26 (0, 0)) ∧ W.heap[b]? = some (.cells #[x1] t1 (0, 0)) ∧ W.heap[c]? = some (.cells #[x2] t2 (0, 0))))
 have HX0 := Lh (show x0.size = (#[.int .u16 0, .int .u16 0, .int .u32 0, .slice none 0 0] : Array Value).size from hx0)
 obtain ⟨gf, hgf⟩ : ∃ gf, w.heap.size = gf := ⟨_, rfl⟩
 have HNE := Lh (show (a ≠ b ∧ a ≠ c ∧ b ≠ c) ∧ a < gf ∧ b < gf ∧ c < gf from ⟨⟨hab, hac, hbc⟩, by omega, by omega, by omega⟩)
 clear h0 h1 h2 hx0 hab hac hbc hl0 hl1 hl2
 go_upto_region 5 with (fail)
 refine wp_gen (fun W => W.heap[w.heap.size]? = some (.cells #[.int .i64 at_, .int .i64 code] 93 (0, 0)) ∧ Below w.heap.size w W) ⟨by first | exact blk_new _ _ | exact blk_put (blk_new _ _) 0 _ rfl, below_alloc (Below.refl _ _) _⟩ ?_
 rintro W0 ⟨hf0, hB0⟩
 rw [hgf] at hf0
 try rw [hgf]
 obtain ⟨ka, kb, kc⟩ := H0.out W0 hB0
 have HI := Lh (⟨ka, kb, kc, hf0, Only.of_below hB0⟩ : W0.heap[a]? = some (.cells x0 26 (0, 0)) ∧ W0.heap[b]? = some (.cells #[x1] t1 (0, 0)) ∧ W0.heap[c]? = some (.cells #[x2] t2 (0, 0)) ∧ W0.heap[gf]? = some (.cells #[.int .i64 at_, .int .i64 code] 93 (0, 0)) ∧ Only (fun k => k = a ∨ k = b ∨ k = c) w W0)
 clear ka kb kc hf0 hB0 H0 hta ht
 refine grow_known (B := pkrB5) [0, 1, 2, 3, 4, 5, 6, 7] [5, 6, 7] (fun s W => match s with | 0 => W.heap[a]? = some (.cells x0 26 (0, 0)) ∧ W.heap[b]? = some (.cells #[x1] t1 (0, 0)) ∧ W.heap[c]? = some (.cells #[x2] t2 (0, 0)) ∧ W.heap[gf]? = some (.cells #[.int .i64 at_, .int .i64 code] 93 (0, 0)) ∧ Only (fun k => k = a ∨ k = b ∨ k = c) w W | 1 => W.heap[a]? = some (.cells #[.int .u16 0, .int .u16 0, .int .u32 0, .slice none 0 0] 26 (0, 0)) ∧ W.heap[b]? = some (.cells #[x1] t1 (0, 0)) ∧ W.heap[c]? = some (.cells #[x2] t2 (0, 0)) ∧ W.heap[gf]? = some (.cells #[.int .i64 at_, .int .i64 code] 93 (0, 0)) ∧ Only (fun k => k = a ∨ k = b ∨ k = c) w W | 2 => W.heap[a]? = some (.cells #[.int .u16 0, .int .u16 0, .int .u32 0, .slice none 0 0] 26 (0, 0)) ∧ W.heap[b]? = some (.cells #[.int .i64 at_] t1 (0, 0)) ∧ W.heap[c]? = some (.cells #[x2] t2 (0, 0)) ∧ W.heap[gf]? = some (.cells #[.int .i64 at_, .int .i64 code] 93 (0, 0)) ∧ Only (fun k => k = a ∨ k = b ∨ k = c) w W | _ => W.heap[a]? = some (.cells #[.int .u16 0, .int .u16 0, .int .u32 0, .slice none 0 0] 26 (0, 0)) ∧ W.heap[b]? = some (.cells #[.int .i64 at_] t1 (0, 0)) ∧ W.heap[c]? = some (.cells #[.int .i64 code] t2 (0, 0)) ∧ W.heap[gf]? = some (.cells #[.int .i64 at_, .int .i64 code] 93 (0, 0)) ∧ Only (fun k => k = a ∨ k = b ∨ k = c) w W) [(0, 17, .agg #[.int .u16 0, .int .u16 0, .int .u32 0, .slice none 0 0]), (1, 18, .pointer (some ⟨gf, 0, none⟩)), (2, 19, .int .i64 at_), (3, 20, .pointer (some ⟨gf, 1, none⟩)), (4, 21, .int .i64 code)] (by kernel_rfl) rfl (l := #[false, false, false, false, false, false, false, false]) rfl pkrtab5 pkrbits5 (by kernel_rfl) (by kernel_rfl) rfl rfl ?_ ?_ ?_
 ·exact ⟨blk_drewN HI.out.1 1, blk_drewN HI.out.2.1 1, blk_drewN HI.out.2.2.1 1, blk_drewN HI.out.2.2.2.1 1, HI.out.2.2.2.2.drew⟩
 ·exact steps_cons (gk_op (p := 0) (fun W => W.heap[gf]? = some (.cells #[.int .i64 at_, .int .i64 code] 93 (0, 0))) 0 0 rfl rfl rfl rfl rfl rfl (u := .pointer (some ⟨a, 0, none⟩)) (rd_off (p := 0) (fun _ => rfl) rfl) (fun s W h => by match s, h with | 0, h => exact h.2.2.2.1 | 1, h => exact h.2.2.2.1 | 2, h => exact h.2.2.2.1 | _ + 3, h => exact h.2.2.2.1) (fun a w hJ e => by go_simp; first | done | rfl)) (steps_cons (gk_op (p := 4) (fun W => W.heap[gf]? = some (.cells #[.int .i64 at_, .int .i64 code] 93 (0, 0))) 1 1 rfl rfl rfl rfl rfl rfl (u := .pointer (some ⟨gf, 0, none⟩)) (rd_off (p := 4) (fun _ => rfl) rfl) (fun s W h => by match s, h with | 0, h => exact h.2.2.2.1 | 1, h => exact h.2.2.2.1 | 2, h => exact h.2.2.2.1 | _ + 3, h => exact h.2.2.2.1) (fun a w hJ e => by go_simp)) (steps_cons (gk_op (p := 18) (fun W => W.heap[gf]? = some (.cells #[.int .i64 at_, .int .i64 code] 93 (0, 0))) 2 2 rfl rfl rfl rfl rfl rfl (u := .pointer (some ⟨gf, 0, none⟩)) (rd_on (p := 18) 1 1 (fun _ => rfl) (fun _ => rfl) (by kernel_rfl) rfl) (fun s W h => by match s, h with | 0, h => exact h.2.2.2.1 | 1, h => exact h.2.2.2.1 | 2, h => exact h.2.2.2.1 | _ + 3, h => exact h.2.2.2.1) (fun a w hJ e => by have k0 := blk_cell hJ 0; have hs : w.cell? ⟨gf, 0, none⟩ = some (.int .i64 at_) := k0; go_simp)) (steps_cons (gk_op (p := 4) (fun W => W.heap[gf]? = some (.cells #[.int .i64 at_, .int .i64 code] 93 (0, 0))) 3 3 rfl rfl rfl rfl rfl rfl (u := .pointer (some ⟨gf, 0, none⟩)) (rd_off (p := 4) (fun _ => rfl) rfl) (fun s W h => by match s, h with | 0, h => exact h.2.2.2.1 | 1, h => exact h.2.2.2.1 | 2, h => exact h.2.2.2.1 | _ + 3, h => exact h.2.2.2.1) (fun a w hJ e => by go_simp)) (steps_cons (gk_op (p := 20) (fun W => W.heap[gf]? = some (.cells #[.int .i64 at_, .int .i64 code] 93 (0, 0))) 4 4 rfl rfl rfl rfl rfl rfl (u := .pointer (some ⟨gf, 1, none⟩)) (rd_on (p := 20) 3 3 (fun _ => rfl) (fun _ => rfl) (by kernel_rfl) rfl) (fun s W h => by match s, h with | 0, h => exact h.2.2.2.1 | 1, h => exact h.2.2.2.1 | 2, h => exact h.2.2.2.1 | _ + 3, h => exact h.2.2.2.1) (fun a w hJ e => by have hs : w.cell? ⟨gf, 1, none⟩ = some (.int .i64 code) := blk_cell hJ 1; go_simp)) (steps_cons (gk_store (p := 0) (s := 17) (u := .pointer (some ⟨a, 0, none⟩)) (v := .agg #[.int .u16 0, .int .u16 0, .int .u32 0, .slice none 0 0]) (f := fun W => W.setRow a #[.int .u16 0, .int .u16 0, .int .u32 0, .slice none 0 0]) 5 0 rfl rfl rfl rfl rfl rfl (by kernel_rfl) (rd_off (p := 0) (fun _ => rfl) rfl) (rd_on (p := 17) 0 0 (fun _ => rfl) (fun _ => rfl) (by kernel_rfl) rfl) (fun a w h e1 e2 => by exact exec_store_row 26 (.tmp 0) (.tmp 17) rfl (eval_of e1) (eval_of e2) h.1 (by kernel_rfl) HX0.out (by simp [Value.oneCell'])) (fun W h => ⟨setRow_heap _ _ _ _ _ _ h.1, (setRow_other _ _ _ _ (by have := HNE.out; omega)).trans h.2.1, (setRow_other _ _ _ _ (by have := HNE.out; omega)).trans h.2.2.1, (setRow_other _ _ _ _ (by have := HNE.out; omega)).trans h.2.2.2.1, h.2.2.2.2.setRow (fun _ => Or.inl rfl) _⟩)) (steps_cons (gk_store (p := 1) (s := 19) (u := .pointer (some ⟨b, 0, none⟩)) (v := .int .i64 at_) (f := fun W => W.setCell ⟨b, 0, none⟩ (.int .i64 at_)) 6 1 rfl rfl rfl rfl rfl rfl (by kernel_rfl) (rd_off (p := 1) (fun _ => rfl) rfl) (rd_on (p := 19) 2 2 (fun _ => rfl) (fun _ => rfl) (by kernel_rfl) rfl) (fun a w h e1 e2 => by have hs : w.cell? ⟨b, 0, none⟩ = some x1 := blk_cell h.2.1 0; have hf := blk_frozen h.2.1 0; go_simp; first | done | rfl) (fun W h => ⟨blk_far (p := ⟨b, 0, none⟩) h.1 (by have := HNE.out; show a ≠ b; omega) _, blk_put h.2.1 0 _ rfl, blk_far (p := ⟨b, 0, none⟩) h.2.2.1 (by have := HNE.out; show c ≠ b; omega) _, blk_far (p := ⟨b, 0, none⟩) h.2.2.2.1 (by have := HNE.out; show gf ≠ b; omega) _, h.2.2.2.2.setCell (fun _ => Or.inr (Or.inl rfl)) _⟩)) (steps_cons (gk_store (p := 2) (s := 21) (u := .pointer (some ⟨c, 0, none⟩)) (v := .int .i64 code) (f := fun W => W.setCell ⟨c, 0, none⟩ (.int .i64 code)) 7 2 rfl rfl rfl rfl rfl rfl (by kernel_rfl) (rd_off (p := 2) (fun _ => rfl) rfl) (rd_on (p := 21) 4 4 (fun _ => rfl) (fun _ => rfl) (by kernel_rfl) rfl) (fun a w h e1 e2 => by have hs : w.cell? ⟨c, 0, none⟩ = some x2 := blk_cell h.2.2.1 0; have hf := blk_frozen h.2.2.1 0; go_simp; first | done | rfl) (fun W h => ⟨blk_far (p := ⟨c, 0, none⟩) h.1 (by have := HNE.out; show a ≠ c; omega) _, blk_far (p := ⟨c, 0, none⟩) h.2.1 (by have := HNE.out; show b ≠ c; omega) _, blk_put h.2.2.1 0 _ rfl, blk_far (p := ⟨c, 0, none⟩) h.2.2.2.1 (by have := HNE.out; show gf ≠ c; omega) _, h.2.2.2.2.setCell (fun _ => Or.inr (Or.inr rfl)) _⟩)) steps_nil)))))))
 intro W4 hI
 have HI2 := Lh hI
 clear hI HI
 simp only [putSel, if_true, Act.put, List.setIfInBounds_toArray, List.set_cons_zero, List.set_cons_succ]
 go_wp2
 show bodyPostS _ _ _ _ _ _ _ _ _
 cases c₀
 simp only at hu
 subst hu
 obtain ⟨r0, r1, r2, _, r4⟩ := HI2.out
 exact ⟨rfl, _, rfl, _, results_none rfl _ _ _, rfl, rfl, r0, r1, r2, r4⟩
end Go.Proofs.YtdlamomabonkjaaDoor.Pk
end
