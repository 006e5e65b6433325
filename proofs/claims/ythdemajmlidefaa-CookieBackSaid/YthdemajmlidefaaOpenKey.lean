/- A key handed in by value: sixteen bytes. -/
import Derived.Test.YthdemajmlidefaaOpen
import Derived.Test.YthdemajmlidefaaBaseB
namespace Go.Proofs.Ythdemajmlidefaa.Base
open Go.ChangeShapes Go.WideShapes Go.ChangeAt Go.RowKit Go.Proofs.YthdemajmlidefaaW.PrintWords
set_option linter.unusedVariables false
set_option linter.unusedSimpArgs false
section
variable {H : Type} {enc : TypeId × Value → H} {W : World}
theorem open_key {v : Value} {d : DataW H} {p : List MemPlace} {r : Reach} {b0 : Nat} (hv : Value.okWide Try.prog W r b0 23 v) (h : DataW.Trod enc Try.prog W 0 (fun _ => true) true 23 v d p) :
    ∃ k : List UInt8, k.length = 16 ∧ v = .agg (keyV k) := by
  obtain ⟨fuel, hf⟩ := h
  obtain ⟨xs, m, _, ex, hlen, hl, hel⟩ := DataW.trod_array Try.underlying23 hf
  have hc : Try.prog.cellsOf 23 = 16 := by kernel_rfl
  rw [hc] at hlen
  rw [cells_u8] at hel
  obtain ⟨cs, rfl⟩ : ∃ cs, v = .agg cs := by
    cases v with
    | agg cs => exact ⟨cs, rfl⟩
    | _ => simp [Value.cells] at hlen
  have hs : cs.size = 16 := by simpa [Value.cells] using hlen
  have hcell : ∀ i, i < 16 → ∃ b : UInt8, cs[i]? = some (.int .u8 (b.toNat : Int)) := by
    intro i hi
    have h1 := hel i hi
    obtain ⟨y, hy⟩ : ∃ y, xs[i]? = some y := ⟨xs[i]'(by omega), List.getElem?_eq_getElem (by omega)⟩
    rw [hy] at h1
    obtain ⟨n, h2, _, hw⟩ := DataW.trod_int Try.underlying5 h1
    refine ⟨UInt8.ofNat n.toNat, ?_⟩
    rw [u8_of_wf hw]
    have h3 : ((Value.agg cs).cells.toList.drop (i * 1)).take 1 = [cs[i]'(by omega)] := by
      simp only [Value.cells, Nat.mul_one]
      rw [List.drop_eq_getElem_cons (by simp; omega)]
      simp
    rw [h3] at h2
    injection h2 with h2
    rw [Array.getElem?_eq_getElem (by omega), h2]
  refine ⟨(List.range 16).map fun i => if h : i < 16 then (hcell i h).choose else 0, by simp, ?_⟩
  congr 1
  apply Array.ext
  · simp [keyV, hs]
  · intro i h1 h2
    have hi : i < 16 := by omega
    have := (hcell i hi).choose_spec
    have e := (Array.getElem?_eq_getElem h1).symm.trans this
    rw [Option.some.inj e]
    simp [keyV, hi]
end
end Go.Proofs.Ythdemajmlidefaa.Base
