/- How what is read as data is read by the walks: any kind; how much it weighs; how long its slices are at most. -/
import Derived.Test.YtgfkdebbdjojmaaOpens
namespace Go.Proofs.Ytgfkdebbdjojmaa.Base
open Go.ChangeShapes Go.WideShapes Go.ChangeAt Go.RowKit Go.Proofs.YtgfkdebbdjojmaaW.PrintWords
set_option linter.unusedVariables false
set_option linter.unusedSimpArgs false
/-- No slice in it passes the reach. -/
def Short {H : Type} (t : TypeId) (D : DataW H) : Prop := ∀ n ∈ D.weights Try.prog t, n ≤ reachBytes
/-- What reads as data, none of its slices past the reach, is of this kind, weighs no more than it, and Pr holds of it. -/
def OpensP {α : Type} (t : TypeId) (d : Kd α) (wt : α → Nat) (Pr : α → Prop) : Prop :=
  ∀ {H : Type} (enc : TypeId × Value → H) (W : World) (fuel : Nat) (cs : List Value) (D : DataW H) (p : List MemPlace), DataW.trod enc Try.prog W 0 (fun _ => true) true fuel t cs = some (D, p) → Short t D → ∃ x, d.K W x cs ∧ wt x ≤ Rows.uptoBulk D ∧ Pr x
theorem OpensP.of {α : Type} {t : TypeId} {d : Kd α} {wt : α → Nat} (h : Opens t d wt) : OpensP t d wt (fun _ => True) := by
  intro H enc W fuel cs D p hx _
  obtain ⟨x, h1, h2⟩ := h enc W fuel cs D p hx
  exact ⟨x, h1, h2, trivial⟩
theorem OpensP.mono {α : Type} {t : TypeId} {d : Kd α} {wt : α → Nat} {Pr Pr' : α → Prop} (h : OpensP t d wt Pr) (hp : ∀ x, Pr x → Pr' x) : OpensP t d wt Pr' := by
  intro H enc W fuel cs D p hx hs
  obtain ⟨x, h1, h2, h3⟩ := h enc W fuel cs D p hx hs
  exact ⟨x, h1, h2, hp x h3⟩
theorem weights_all {H : Type} {e : TypeId} {l : List (DataW H)} {D : DataW H} (h : D ∈ l) {n : Nat} (hn : n ∈ D.weights Try.prog e) : n ∈ DataW.weightsAll Try.prog e l := by
  induction l with
  | nil => cases h
  | cons x r ih =>
    simp only [DataW.weightsAll, List.mem_append]
    rcases List.mem_cons.1 h with rfl | h
    · exact Or.inl hn
    · exact Or.inr (ih h)
theorem OpensP.slice {α : Type} {t e : TypeId} {d : Kd α} {wt : α → Nat} {Pr : α → Prop} (ho : OpensP e d wt Pr) (ht : Try.prog.underlying t = some (.slice e)) (hc : Try.prog.cellsOf e = d.sz) (by_ : Nat) (hby : Try.prog.bytesOf e = by_) : OpensP t (Kd.slice e d) (fun xs => (xs.map wt).sum + 1) (fun xs => xs.length * by_ ≤ 140737488351232 ∧ ∀ x ∈ xs, Pr x) := by
  intro H enc W fuel cs D p h hs
  rcases Go.Deep.open_slice ht h with ⟨rfl, hx⟩ | ⟨a, len, cap, m, n, Ds, Pl, rfl, hb, hl, hm, hmm, hxx, hel⟩
  · exact ⟨[], ⟨none, 0, rfl, Nat.le_refl _, Kd.C_nil d W⟩, bulk_one D, by simp, fun x hx => by cases hx⟩
  · have hmc : m = cap := by simpa using hmm
    subst hmc
    simp only [Prod.mk.injEq] at hxx
    obtain ⟨rfl, rfl⟩ := hxx
    have hlen : len * by_ ≤ 140737488351232 := by
      have := hs ((((List.range len).map Ds).length + ((List.range (m - len)).map fun j => Ds (len + j)).length) * Try.prog.bytesOf e) (by simp only [DataW.weights, ht]; exact List.mem_cons_self ..)
      rw [hby] at this
      simp only [List.length_map, List.length_range] at this
      have h2 : len * by_ ≤ (len + (m - len)) * by_ := Nat.mul_le_mul_right _ (by omega)
      exact Nat.le_trans h2 this
    have hone : ∀ i, i < len → ∃ x cs', W.cells? 0 (a.add (i * d.sz)) d.sz = some cs' ∧ d.K W x cs' ∧ wt x ≤ Rows.uptoBulk (Ds i) ∧ Pr x := by
      intro i hi
      obtain ⟨cs', h1, h2⟩ := hel i (by omega)
      obtain ⟨x, hk, hw, hp⟩ := ho enc W n cs' (Ds i) (Pl i) h2 (fun q hq => hs q (by
        simp only [DataW.weights, ht]
        refine List.mem_cons_of_mem _ (List.mem_append_left _ (weights_all (D := Ds i) ?_ hq))
        exact List.mem_map.2 ⟨i, List.mem_range.2 hi, rfl⟩))
      rw [hc] at h1
      exact ⟨x, cs', h1, hk, hw, hp⟩
    cases hlen' : len with
    | zero =>
      refine ⟨[], ⟨some a, m, rfl, Nat.zero_le _, ⟨rfl, by simp, fun h0 => by simp at h0⟩⟩, ?_, by simp, fun x hx => by cases hx⟩
      exact bulk_one _
    | succ len' =>
      obtain ⟨x0, _⟩ := hone 0 (by omega)
      have hx : ∀ i, ∃ x, i < len → ∃ cs', W.cells? 0 (a.add (i * d.sz)) d.sz = some cs' ∧ d.K W x cs' ∧ wt x ≤ Rows.uptoBulk (Ds i) ∧ Pr x := by
        intro i
        by_cases hi : i < len
        · obtain ⟨x, hx⟩ := hone i hi
          exact ⟨x, fun _ => hx⟩
        · exact ⟨x0, fun h0 => absurd h0 hi⟩
      rw [← hlen']
      have hll : ((List.range len).map fun i => (hx i).choose).length = len := by simp
      have hget : ∀ j x, ((List.range len).map fun i => (hx i).choose)[j]? = some x → j < len ∧ x = (hx j).choose := by
        intro j x hj
        have hjl : j < len := by have := (List.getElem?_eq_some_iff.1 hj).1; simpa using this
        rw [List.getElem?_map, List.getElem?_range hjl] at hj
        exact ⟨hjl, (Option.some.inj hj).symm⟩
      refine ⟨(List.range len).map fun i => (hx i).choose, ⟨some a, m, by rw [hll], by rw [hll]; exact hl, ⟨rfl, by rw [hll]; simp only [maxLen] at hm; omega, fun _ => ⟨a, rfl, fun j x hj => ?_⟩⟩⟩, ?_, by rw [hll]; exact hlen, fun x hmem => ?_⟩
      · obtain ⟨hjl, rfl⟩ := hget j x hj
        obtain ⟨cs', h1, h2, _⟩ := (hx j).choose_spec hjl
        obtain ⟨_, hlen2, hcell⟩ := World.cells?_some h1
        refine ⟨cs', hlen2, h2, fun i u hu => ?_⟩
        have hi : i < d.sz := by have := (List.getElem?_eq_some_iff.1 hu).1; omega
        have := hcell i hi
        rw [hu] at this
        rw [← this, Go.Deep.add_add]
      · have hsm := bulk_sum ((List.range len).map Ds) ((List.range len).map fun i => (hx i).choose) wt (by simp) (fun i x D hxi hD => by
          obtain ⟨hjl, rfl⟩ := hget i x hxi
          rw [List.getElem?_map, List.getElem?_range hjl] at hD
          obtain rfl := Option.some.inj hD
          obtain ⟨_, _, _, h3, _⟩ := (hx i).choose_spec hjl
          exact h3)
        simp only [Rows.uptoBulk]
        omega
      · obtain ⟨j, hj, rfl⟩ := List.mem_iff_getElem.1 hmem
        obtain ⟨hjl, he⟩ := hget j _ (List.getElem?_eq_getElem hj)
        rw [he]
        obtain ⟨_, _, _, _, h4⟩ := (hx j).choose_spec hjl
        exact h4
/-- Fields in line, from a place on. -/
def Seg {α : Type} (fs : List Field) (off : Nat) (d : Kd α) (wt : α → Nat) (Pr : α → Prop) : Prop :=
  ∀ {H : Type} (enc : TypeId × Value → H) (W : World) (n : Nat) (cs : List Value) (xs : List (DataW H × List MemPlace)), xs.length = fs.length →
    (∀ (j : Nat) (f : Field), fs[j]? = some f → DataW.trod enc Try.prog W 0 (fun _ => true) true n f.type ((cs.drop f.offset).take (Try.prog.cellsOf f.type)) = xs[j]?) →
    (∀ q ∈ DataW.weightsEach Try.prog (fs.map (·.type)) (xs.map (·.1)), q ≤ reachBytes) → ∃ x, d.K W x ((cs.drop off).take d.sz) ∧ wt x ≤ Rows.uptoBulkAll (xs.map (·.1)) ∧ Pr x
theorem Seg.one {α : Type} {f : Field} {off : Nat} {d : Kd α} {wt : α → Nat} {Pr : α → Prop} (o : OpensP f.type d wt Pr) (ho : f.offset = off) (hc : Try.prog.cellsOf f.type = d.sz) : Seg [f] off d wt Pr := by
  intro H enc W n cs xs hl hx hs
  match xs, hl with
  | [x], _ =>
    have e := hx 0 f rfl
    rw [ho, hc] at e
    obtain ⟨v, h1, h2, h3⟩ := o enc W n _ x.1 x.2 e (fun q hq => hs q (by simp only [List.map_cons, List.map_nil, DataW.weightsEach, List.mem_append]; exact Or.inl hq))
    exact ⟨v, h1, by simp only [List.map_cons, List.map_nil, Rows.uptoBulkAll]; omega, h3⟩
theorem Seg.cons {α β : Type} {f : Field} {fs : List Field} {off : Nat} {a : Kd α} {b : Kd β} {wa : α → Nat} {wb : β → Nat} {Pa : α → Prop} {Pb : β → Prop} (o : OpensP f.type a wa Pa) (ho : f.offset = off) (hc : Try.prog.cellsOf f.type = a.sz) (s : Seg fs (off + a.sz) b wb Pb) :
    Seg (f :: fs) off (Kd.pair a b) (fun x => wa x.1 + wb x.2) (fun x => Pa x.1 ∧ Pb x.2) := by
  intro H enc W n cs xs hl hx hs
  match xs, hl with
  | x :: r, hl =>
    have e := hx 0 f rfl
    rw [ho, hc] at e
    obtain ⟨v, h1, h2, h3⟩ := o enc W n _ x.1 x.2 e (fun q hq => hs q (by simp only [List.map_cons, DataW.weightsEach, List.mem_append]; exact Or.inl hq))
    obtain ⟨u, g1, g2, g3⟩ := s enc W n cs r (by simpa using hl) (fun j f' hf => hx (j + 1) f' hf) (fun q hq => hs q (by simp only [List.map_cons, DataW.weightsEach, List.mem_append]; exact Or.inr hq))
    refine ⟨(v, u), ⟨_, _, ?_, h1, g1⟩, by simp only [List.map_cons, Rows.uptoBulkAll]; omega, h3, g3⟩
    show (cs.drop off).take (a.sz + b.sz) = _
    rw [List.take_add, List.drop_drop]
theorem OpensP.struct {α : Type} {t : TypeId} {fs : Array Field} {d : Kd α} {wt : α → Nat} {Pr : α → Prop} (ht : Try.prog.underlying t = some (.struct fs)) (hc : Try.prog.cellsOf t = d.sz) (s : Seg fs.toList 0 d wt Pr) : OpensP t d (fun x => wt x + 1) Pr := by
  intro H enc W fuel cs D p h hs
  obtain ⟨xs, n, _, hx, hlen, hl, hel⟩ := DataW.trod_struct ht h
  simp only [Prod.mk.injEq] at hx
  obtain ⟨v, h1, h2, h3⟩ := s enc W n cs xs (by simpa using hl) (fun j f hf => hel j f (by simpa using hf)) (fun q hq => hs q (by
    rw [hx.1]
    simp only [DataW.weights, ht]
    exact hq))
  rw [List.drop_zero, List.take_of_length_le (by omega)] at h1
  exact ⟨v, h1, by rw [hx.1]; simp only [Rows.uptoBulk]; omega, h3⟩
theorem OpensP.iso {α β : Type} {t : TypeId} {d : Kd α} {wt : α → Nat} {Pr : α → Prop} (o : OpensP t d wt Pr) (f : β → α) (g : α → β) (hfg : ∀ x, f (g x) = x) : OpensP t (Kd.iso d f) (fun x => wt (f x)) (fun x => Pr (f x)) := by
  intro H enc W fuel cs D p h hs
  obtain ⟨x, hk, hw, hp⟩ := o enc W fuel cs D p h hs
  exact ⟨g x, by show d.K W (f (g x)) cs; rw [hfg]; exact hk, by show wt (f (g x)) ≤ _; rw [hfg]; exact hw, by show Pr (f (g x)); rw [hfg]; exact hp⟩
/-- An argument is short. -/
theorem short_part {H : Type} {ts : List TypeId} {ds : List (DataW H)} (hsz : (DataW.weightsEach Try.prog ts ds).all (· ≤ reachBytes) = true) {j : Nat} {t : TypeId} {d : DataW H} (ht : ts[j]? = some t) (hd : ds[j]? = some d) : Short t d := fun n hn => by
  have := List.all_eq_true.1 hsz n (DataW.weights_mem_each ht hd n hn)
  simpa using this
/-- A slice handed in. -/
theorem OpensP.arg {α : Type} {t e : TypeId} {d : Kd α} {wt : List α → Nat} {Pr : List α → Prop} (ho : OpensP t (Kd.slice e d) wt Pr) {H : Type} {enc : TypeId × Value → H} {W : World} {a : Option Addr} {len cap : Nat} {D : DataW H} {p : List MemPlace} (h : DataW.Trod enc Try.prog W 0 (fun _ => true) true t (.slice a len cap) D p) (hs : Short t D) :
    ∃ xs : List α, len = xs.length ∧ xs.length ≤ cap ∧ d.C W a xs.length xs ∧ wt xs ≤ Rows.uptoBulk D ∧ Pr xs := by
  obtain ⟨fuel, hf⟩ := h
  obtain ⟨xs, ⟨A, c, he, hl, hC⟩, hw, hp⟩ := ho enc W fuel _ D p hf hs
  simp [Value.cells] at he
  obtain ⟨rfl, rfl, rfl⟩ := he
  exact ⟨xs, rfl, hl, hC, hw, hp⟩
theorem OpensP.bytes : OpensP 22 (Kd.slice 5 Base.byte) (fun xs => (xs.map (fun _ => 1)).sum + 1) (fun xs => xs.length * 1 ≤ 140737488351232 ∧ ∀ x ∈ xs, True) := OpensP.slice (OpensP.of Opens.byte) Try.underlying22 cells_u8 1 bytes_u8
end Go.Proofs.Ytgfkdebbdjojmaa.Base
