/- How what is read as data is read by the walks: any kind; and how much it weighs. -/
import Derived.Test.YtgfkdebbdjojmaaOpen
namespace Go.Proofs.Ytgfkdebbdjojmaa.Base
open Go.ChangeShapes Go.WideShapes Go.ChangeAt Go.RowKit Go.Proofs.YtgfkdebbdjojmaaW.PrintWords
set_option linter.unusedVariables false
set_option linter.unusedSimpArgs false
theorem bulk_one {H : Type} (d : DataW H) : 1 ≤ Rows.uptoBulk d := by
  cases d with
  | lit l => cases l <;> simp [Rows.uptoBulk]
  | nil => simp [Rows.uptoBulk]
  | ptr d => simp [Rows.uptoBulk]
  | slice elems spare => simp [Rows.uptoBulk]
  | agg parts => simp [Rows.uptoBulk]
  | iface t d => simp [Rows.uptoBulk]
  | map entries => simp [Rows.uptoBulk]
  | held h => simp [Rows.uptoBulk]
theorem bulk_sum {H : Type} {α : Type} (l : List (DataW H)) (xs : List α) (wt : α → Nat) (hl : xs.length = l.length) (h : ∀ (i : Nat) (x : α) (d : DataW H), xs[i]? = some x → l[i]? = some d → wt x ≤ Rows.uptoBulk d) : (xs.map wt).sum ≤ Rows.uptoBulkAll l := by
  induction l generalizing xs with
  | nil =>
    cases xs with
    | nil => simp
    | cons x xs => simp at hl
  | cons d l ih =>
    cases xs with
    | nil => simp at hl
    | cons x xs =>
      have h1 := h 0 x d rfl rfl
      have h2 := ih xs (by simpa using hl) (fun i x d hx hd => h (i + 1) x d (by simpa using hx) (by simpa using hd))
      simp only [List.map_cons, List.sum_cons, Rows.uptoBulkAll]
      omega
/-- What reads as data is of this kind, and weighs no more than it. -/
def Opens {α : Type} (t : TypeId) (d : Kd α) (wt : α → Nat) : Prop :=
  ∀ {H : Type} (enc : TypeId × Value → H) (W : World) (fuel : Nat) (cs : List Value) (D : DataW H) (p : List MemPlace), DataW.trod enc Try.prog W 0 (fun _ => true) true fuel t cs = some (D, p) → ∃ x, d.K W x cs ∧ wt x ≤ Rows.uptoBulk D
theorem Opens.int {α : Type} {t : TypeId} {k : IntKind} {enc : α → Value} {h1 : ∀ x : α, (enc x).oneCell' = true} (dec : Int → α) (ht : Try.prog.underlying t = some (.int k)) (hd : ∀ n, (Lit.int k n).wf = true → enc (dec n) = .int k n) : Opens t (Kd.scalar enc h1) (fun _ => 1) := by
  intro H enc W fuel cs D p h
  obtain ⟨n, rfl, hx, hw⟩ := DataW.trod_int ht h
  exact ⟨dec n, by show _ = _; rw [hd n hw], bulk_one D⟩
theorem Opens.bool {t : TypeId} (ht : Try.prog.underlying t = some .bool) : Opens t Kd.bool (fun _ => 1) := by
  intro H enc W fuel cs D p h
  obtain ⟨b, rfl, hx⟩ := DataW.trod_bool ht h
  exact ⟨b, rfl, bulk_one D⟩
theorem Opens.byte : Opens 5 Base.byte (fun _ => 1) := Opens.int (fun n => UInt8.ofNat n.toNat) Try.underlying5 (fun n hw => by rw [u8_of_wf hw])
theorem Opens.slice {α : Type} {t e : TypeId} {d : Kd α} {wt : α → Nat} (ho : Opens e d wt) (ht : Try.prog.underlying t = some (.slice e)) (hc : Try.prog.cellsOf e = d.sz) : Opens t (Kd.slice e d) (fun xs => (xs.map wt).sum + 1) := by
  intro H enc W fuel cs D p h
  rcases Go.Deep.open_slice ht h with ⟨rfl, hx⟩ | ⟨a, len, cap, m, n, Ds, Pl, rfl, hb, hl, hm, hmm, hxx, hel⟩
  · exact ⟨[], ⟨none, 0, rfl, Nat.le_refl _, Kd.C_nil d W⟩, bulk_one D⟩
  · have hmc : m = cap := by simpa using hmm
    subst hmc
    simp only [Prod.mk.injEq] at hxx
    obtain ⟨rfl, rfl⟩ := hxx
    have hone : ∀ i, i < len → ∃ x cs', W.cells? 0 (a.add (i * d.sz)) d.sz = some cs' ∧ d.K W x cs' ∧ wt x ≤ Rows.uptoBulk (Ds i) := by
      intro i hi
      obtain ⟨cs', h1, h2⟩ := hel i (by omega)
      obtain ⟨x, hk, hw⟩ := ho enc W n cs' (Ds i) (Pl i) h2
      rw [hc] at h1
      exact ⟨x, cs', h1, hk, hw⟩
    cases hlen : len with
    | zero =>
      refine ⟨[], ⟨some a, m, rfl, Nat.zero_le _, ⟨rfl, by simp, fun h0 => by simp at h0⟩⟩, ?_⟩
      exact bulk_one _
    | succ len' =>
      obtain ⟨x0, _⟩ := hone 0 (by omega)
      have hx : ∀ i, ∃ x, i < len → ∃ cs', W.cells? 0 (a.add (i * d.sz)) d.sz = some cs' ∧ d.K W x cs' ∧ wt x ≤ Rows.uptoBulk (Ds i) := by
        intro i
        by_cases hi : i < len
        · obtain ⟨x, hx⟩ := hone i hi
          exact ⟨x, fun _ => hx⟩
        · exact ⟨x0, fun h0 => absurd h0 hi⟩
      rw [← hlen]
      have hll : ((List.range len).map fun i => (hx i).choose).length = len := by simp
      have hget : ∀ j x, ((List.range len).map fun i => (hx i).choose)[j]? = some x → j < len ∧ x = (hx j).choose := by
        intro j x hj
        have hjl : j < len := by have := (List.getElem?_eq_some_iff.1 hj).1; simpa using this
        rw [List.getElem?_map, List.getElem?_range hjl] at hj
        exact ⟨hjl, (Option.some.inj hj).symm⟩
      refine ⟨(List.range len).map fun i => (hx i).choose, ⟨some a, m, by rw [hll], by rw [hll]; exact hl, ⟨rfl, by rw [hll]; simp only [maxLen] at hm; omega, fun _ => ⟨a, rfl, fun j x hj => ?_⟩⟩⟩, ?_⟩
      · obtain ⟨hjl, rfl⟩ := hget j x hj
        obtain ⟨cs', h1, h2, _⟩ := (hx j).choose_spec hjl
        obtain ⟨_, hlen2, hcell⟩ := World.cells?_some h1
        refine ⟨cs', hlen2, h2, fun i u hu => ?_⟩
        have hi : i < d.sz := by have := (List.getElem?_eq_some_iff.1 hu).1; omega
        have := hcell i hi
        rw [hu] at this
        rw [← this, Go.Deep.add_add]
      · have hs := bulk_sum ((List.range len).map Ds) ((List.range len).map fun i => (hx i).choose) wt (by simp) (fun i x D hxi hD => by
          obtain ⟨hjl, rfl⟩ := hget i x hxi
          rw [List.getElem?_map, List.getElem?_range hjl] at hD
          obtain rfl := Option.some.inj hD
          obtain ⟨_, _, _, h3⟩ := (hx i).choose_spec hjl
          exact h3)
        simp only [Rows.uptoBulk]
        omega
/-- A slice handed in. -/
theorem Opens.arg {α : Type} {t e : TypeId} {d : Kd α} {wt : List α → Nat} (ho : Opens t (Kd.slice e d) wt) {H : Type} {enc : TypeId × Value → H} {W : World} {a : Option Addr} {len cap : Nat} {D : DataW H} {p : List MemPlace} (h : DataW.Trod enc Try.prog W 0 (fun _ => true) true t (.slice a len cap) D p) :
    ∃ xs : List α, len = xs.length ∧ xs.length ≤ cap ∧ d.C W a xs.length xs ∧ wt xs ≤ Rows.uptoBulk D := by
  obtain ⟨fuel, hf⟩ := h
  obtain ⟨xs, ⟨A, c, he, hl, hC⟩, hw⟩ := ho enc W fuel _ D p hf
  simp [Value.cells] at he
  obtain ⟨rfl, rfl, rfl⟩ := he
  exact ⟨xs, rfl, hl, hC, hw⟩
theorem Opens.bytes : Opens 22 (Kd.slice 5 Base.byte) (fun xs => (xs.map (fun _ => 1)).sum + 1) := Opens.slice Opens.byte Try.underlying22 cells_u8
theorem sum_ones {α : Type} (l : List α) : (l.map (fun _ => 1)).sum = l.length := by
  induction l with
  | nil => rfl
  | cons x l ih => simp only [List.map_cons, List.sum_cons, List.length_cons, ih]; omega
/-- What one argument weighs. -/
theorem bulk_part {H : Type} {l gs : List (DataW H)} (hk : Rows.uptoSmall H (l ++ gs) = true) {j : Nat} {d : DataW H} (hj : l[j]? = some d) : Rows.uptoBulk d ≤ 1048576 := by
  have h1 : Rows.uptoBulkAll (l ++ gs) ≤ 1048576 := by simpa [Rows.uptoSmall] using hk
  have h2 : ∀ (m : List (DataW H)), d ∈ m → Rows.uptoBulk d ≤ Rows.uptoBulkAll m := by
    intro m
    induction m with
    | nil => intro h; cases h
    | cons x r ih =>
      intro h
      simp only [Rows.uptoBulkAll]
      rcases List.mem_cons.1 h with rfl | h
      · omega
      · have := ih h
        omega
  have := h2 (l ++ gs) (List.mem_append_left _ (List.mem_of_getElem? hj))
  omega
/-- A structure of two fields. -/
theorem Opens.pair2 {α β : Type} {t : TypeId} {f0 f1 : Field} {d0 : Kd α} {d1 : Kd β} {w0 : α → Nat} {w1 : β → Nat} (ht : Try.prog.underlying t = some (.struct #[f0, f1])) (h0 : f0.offset = 0) (h1 : f1.offset = d0.sz)
    (c0 : Try.prog.cellsOf f0.type = d0.sz) (c1 : Try.prog.cellsOf f1.type = d1.sz) (hc : Try.prog.cellsOf t = d0.sz + d1.sz) (o0 : Opens f0.type d0 w0) (o1 : Opens f1.type d1 w1) : Opens t (Kd.pair d0 d1) (fun x => w0 x.1 + w1 x.2 + 1) := by
  intro H enc W fuel cs D p h
  obtain ⟨xs, n, _, hx, hlen, hl, hel⟩ := DataW.trod_struct ht h
  have hl2 : xs.length = 2 := hl
  match xs, hl2 with
  | [x0, x1], _ =>
    have e0 := hel 0 f0 rfl
    have e1 := hel 1 f1 rfl
    rw [h0, c0] at e0
    rw [h1, c1] at e1
    obtain ⟨a, ha, wa⟩ := o0 enc W n _ x0.1 x0.2 e0
    obtain ⟨b, hb, wb⟩ := o1 enc W n _ x1.1 x1.2 e1
    rw [hc] at hlen
    refine ⟨(a, b), ⟨_, _, ?_, ha, hb⟩, ?_⟩
    · rw [List.drop_zero, List.take_of_length_le (by rw [List.length_drop]; omega : (cs.drop d0.sz).length ≤ d1.sz), List.take_append_drop]
    · simp only [Prod.mk.injEq] at hx
      rw [hx.1]
      simp only [List.map_cons, List.map_nil, Rows.uptoBulk, Rows.uptoBulkAll]
      omega
theorem Opens.iso {α β : Type} {t : TypeId} {d : Kd α} {wt : α → Nat} (o : Opens t d wt) (f : β → α) (g : α → β) (hfg : ∀ x, f (g x) = x) : Opens t (Kd.iso d f) (fun x => wt (f x)) := by
  intro H enc W fuel cs D p h
  obtain ⟨x, hk, hw⟩ := o enc W fuel cs D p h
  exact ⟨g x, by show d.K W (f (g x)) cs; rw [hfg]; exact hk, by show wt (f (g x)) ≤ _; rw [hfg]; exact hw⟩
end Go.Proofs.Ytgfkdebbdjojmaa.Base
