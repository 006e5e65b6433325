/- The reference's Decode: the same list. -/
import Derived.Test.YtjlgddmcjccbeaaParH
import Derived.Test.YtjlgddmcjccbeaaPParamDecodesx2
namespace Go.Proofs.Ytjlgddmcjccbeaa.ParDec
open Go.RowKit Go.Proofs.YtjlgddmcjccbeaaW.PrintWords Go.Proofs.Ytjlgddmcjccbeaa.PParamCauses Go.Proofs.Ytjlgddmcjccbeaa.ParCauses Go.Proofs.Ytjlgddmcjccbeaa.Base
set_option linter.unusedVariables false
set_option linter.unusedSimpArgs false
/-- One structure in two texts. -/
def vc (x : S36) : PParamDecodes.S36 := ⟨x.f0, x.f1⟩
theorem vc_C {w : World} {A : Option Addr} {n : Nat} {xs : List S36} (h : Kd.C PParamDecodes.k36 w A n (xs.map vc)) : Kd.C k36 w A n xs := by
  obtain ⟨h1, h2, h3⟩ := h
  refine ⟨by rw [← h1, List.length_map], h2, fun hn => ?_⟩
  obtain ⟨ad, e, hc⟩ := h3 hn
  refine ⟨ad, e, fun j p hj => ?_⟩
  exact hc j (vc p) (by rw [List.getElem?_map, hj]; rfl)
theorem vc_R {w : World} {e base : Nat} {ok : Nat → Prop} {v : Value} {xs : List S36} (h : Kd.R PParamDecodes.k36 e w base ok v (xs.map vc)) : Kd.R k36 e w base ok v xs := by
  obtain ⟨h0, inner, ho, hr⟩ := h
  rw [List.length_map] at ho
  refine ⟨h0, inner, ho, ?_⟩
  obtain ⟨h1, h2⟩ := hr
  rw [List.length_map] at h1
  exact ⟨h1, fun j p hj => h2 j (vc p) (by rw [List.getElem?_map, hj]; rfl)⟩
def ints (l : List UInt8) : List Int := l.map fun b => (b.toNat : Int)
theorem ints_length (l : List UInt8) : (ints l).length = l.length := List.length_map ..
theorem rd_ints (l : List UInt8) (i : Nat) (h : i < l.length) : rd (ints l) (i : Int) = ((l.getD i 0).toNat : Int) := by
  unfold rd ints
  rw [Int.toNat_natCast]
  simp [List.getD_eq_getElem?_getD, h]
theorem w64 (a : Int) (h0 : -9223372036854775808 ≤ a) (h1 : a < 9223372036854775808) : wrap64 a = a := by unfold wrap64; omega
theorem u16n (n : Int) : IntKind.u16.wrap n = n % 65536 := by simp [IntKind.wrap, IntKind.bits, IntKind.signed]
def outR (r : Except (Nat × Int) (List S36)) : List PParamDecodes.S36 × Int × Int :=
  match r with
  | .ok ps => (ps.map vc, 0, 0)
  | .error (p, c) => ([], (p : Int), c)
theorem ref_run (l : List UInt8) (hn : l.length ≤ 140737488355327) (n p pr : Nat) (ps : List S36) (hpl : p ≤ l.length) (hpn : l.length < n + p) (hps : ps.length ≤ 256) (hp : pr = p ∨ (p = l.length ∧ l.length ≤ pr)) : PParamDecodes.ropewalkref05_Decode.l0 n (ints l) (ps.map vc) (pr : Int) = some (outR (runD l n p ps)) := by
  induction n generalizing p pr ps with
  | zero => omega
  | succ n ih =>
    unfold PParamDecodes.ropewalkref05_Decode.l0
    conv => rhs; unfold runD
    rw [ints_length, List.length_map]
    by_cases hlt : p < l.length
    · obtain rfl : pr = p := by omega
      rw [if_pos (by omega), if_pos hlt]
      unfold stepD
      by_cases h1 : ps.length = 256
      · rw [if_pos (by omega), if_pos h1]
        rfl
      rw [if_neg (by omega), if_neg h1]
      have ed : wrap64 ((l.length : Int) - (pr : Int)) = ((l.length - pr : Nat) : Int) := by rw [w64 _ (by omega) (by omega)]; omega
      rw [ed]
      clear ed
      by_cases h2 : l.length - pr < 4
      · rw [if_pos (by omega), if_pos h2]
        rfl
      rw [if_neg (by omega), if_neg h2]
      have e1 : wrap64 ((pr : Int) + 1) = ((pr + 1 : Nat) : Int) := by rw [w64 _ (by omega) (by omega)]; omega
      have e2 : wrap64 ((pr : Int) + 2) = ((pr + 2 : Nat) : Int) := by rw [w64 _ (by omega) (by omega)]; omega
      have e3 : wrap64 ((pr : Int) + 3) = ((pr + 2 + 1 : Nat) : Int) := by rw [w64 _ (by omega) (by omega)]; omega
      have e4 : wrap64 ((pr : Int) + 4) = ((pr + 4 : Nat) : Int) := by rw [w64 _ (by omega) (by omega)]; omega
      rw [e1, e2, e3, e4]
      clear e1 e2 e3 e4
      rw [if_pos (by omega), if_pos (by omega), if_pos (by omega), if_pos (by omega)]
      rw [rd_ints l (pr + 2) (by omega), rd_ints l (pr + 2 + 1) (by omega), rd_ints l pr (by omega), rd_ints l (pr + 1) (by omega)]
      have b0 : (l.getD pr 0).toNat < 256 := UInt8.toNat_lt _
      have b1 : (l.getD (pr + 1) 0).toNat < 256 := UInt8.toNat_lt _
      have b2 : (l.getD (pr + 2) 0).toNat < 256 := UInt8.toNat_lt _
      have b3 : (l.getD (pr + 2 + 1) 0).toNat < 256 := UInt8.toNat_lt _
      have en : wrap64 (wrap64 (wrap64 ((l.getD (pr + 2) 0).toNat : Int) * 256) + wrap64 ((l.getD (pr + 2 + 1) 0).toNat : Int)) = ((nI l (pr + 2) : Nat) : Int) := by
        unfold nI
        rw [w64 ((l.getD (pr + 2) 0).toNat : Int) (by omega) (by omega), w64 ((l.getD (pr + 2 + 1) 0).toNat : Int) (by omega) (by omega), w64 (((l.getD (pr + 2) 0).toNat : Int) * 256) (by omega) (by omega), w64 _ (by omega) (by omega)]
        omega
      have et : IntKind.u16.wrap (IntKind.u16.wrap (IntKind.u16.wrap ((l.getD pr 0).toNat : Int) * 256) + IntKind.u16.wrap ((l.getD (pr + 1) 0).toNat : Int)) = ((nI l pr : Nat) : Int) := by
        unfold nI
        simp only [u16n]
        omega
      rw [en, et]
      clear en et
      have hx65 : nI l (pr + 2) ≤ 65535 := by unfold nI; omega
      by_cases h3 : nI l (pr + 2) < 4
      · rw [if_pos (by omega), if_pos (Or.inl h3)]
        rfl
      rw [if_neg (by omega)]
      by_cases h4 : l.length - pr < nI l (pr + 2)
      · rw [if_pos (by omega), if_pos (Or.inr h4)]
        rfl
      rw [if_neg (by omega), if_neg (show ¬ (nI l (pr + 2) < 4 ∨ l.length - pr < nI l (pr + 2)) by omega)]
      rw [if_pos (by omega), if_pos (by omega), if_pos (by omega), Option.bind_some]
      have ex : wrap64 ((pr : Int) + ((nI l (pr + 2) : Nat) : Int)) = ((pr + nI l (pr + 2) : Nat) : Int) := by rw [w64 _ (by omega) (by omega)]; omega
      rw [ex]
      clear ex
      have g1 : (0 : Int) ≤ ((pr + 4 : Nat) : Int) := by omega
      have g2 : ((pr + 4 : Nat) : Int) ≤ ((pr + nI l (pr + 2) : Nat) : Int) := by omega
      have g3 : ((pr + nI l (pr + 2) : Nat) : Int) ≤ (l.length : Int) := by omega
      rw [if_pos g1, if_pos g2, if_pos g3]
      rw [Int.toNat_natCast, Int.toNat_natCast]
      have eb : ([] : List Int) ++ ((ints l).take (pr + nI l (pr + 2))).drop (pr + 4) = ((l.drop (pr + 4)).take (nI l (pr + 2) - 4)).map fun b => (b.toNat : Int) := by
        unfold ints
        rw [List.nil_append, ← List.map_take, ← List.map_drop, List.drop_take, show pr + nI l (pr + 2) - (pr + 4) = nI l (pr + 2) - 4 by omega]
      have el : ([] : List Int).length + (((ints l).take (pr + nI l (pr + 2))).drop (pr + 4)).length < 140737488355328 := by
        rw [List.length_drop, List.length_take, ints_length, List.length_nil]
        omega
      have g5 : ps.length < 4398046511104 := by omega
      rw [if_pos el, if_pos g5, eb]
      clear el eb
      have ep : wrap64 ((pr : Int) + wrap64 (wrap64 (Int.tdiv (wrap64 (((nI l (pr + 2) : Nat) : Int) + 3)) 4) * 4)) = ((pr + (nI l (pr + 2) + 3) / 4 * 4 : Nat) : Int) := by
        generalize nI l (pr + 2) = x at *
        rw [w64 ((x : Int) + 3) (by omega) (by omega), Int.tdiv_eq_ediv_of_nonneg (by omega)]
        rw [w64 (((x : Int) + 3) / 4) (by omega) (by omega), w64 (((x : Int) + 3) / 4 * 4) (by omega) (by omega), w64 _ (by omega) (by omega)]
        omega
      rw [ep]
      have em : ps.map vc ++ [(⟨((nI l pr : Nat) : Int), ((l.drop (pr + 4)).take (nI l (pr + 2) - 4)).map fun b => (b.toNat : Int)⟩ : PParamDecodes.S36)] = (ps ++ [(⟨((nI l pr : Nat) : Int), ((l.drop (pr + 4)).take (nI l (pr + 2) - 4)).map fun b => (b.toNat : Int)⟩ : S36)]).map vc := by rw [List.map_append]; rfl
      rw [em]
      clear em ep
      exact ih _ _ _ (by omega) (by omega) (by rw [List.length_append, List.length_singleton]; omega) (by omega)
    · rw [if_neg (by omega), if_neg hlt]
      rfl
theorem ref_f (l : List UInt8) (hn : l.length ≤ 140737488355327) : PParamDecodes.ropewalkref05_Decode.f (l.length + 1) (ints l) = some ((decD l).1.map vc, (decD l).2.1, (decD l).2.2) := by
  unfold PParamDecodes.ropewalkref05_Decode.f
  have := ref_run l hn (l.length + 1) 0 0 [] (Nat.zero_le _) (by omega) (by simp) (Or.inl rfl)
  rw [show ((([] : List S36).map vc) : List PParamDecodes.S36) = [] from rfl] at this
  refine this.trans ?_
  unfold decD outR
  cases runD l (l.length + 1) 0 [] with
  | ok ps => rfl
  | error pc => rfl
theorem refDecode_calls (w : World) (A : Option Addr) (l : List UInt8) (c : Nat) (hb : byte.C w A l.length l) (hc : l.length ≤ c) (hn : l.length ≤ 140737488355327) :
    Calls Try.prog 25 #[.slice A l.length c] w fun e w' => ∃ A1 c1, e = .returned (.tuple #[.slice A1 (decD l).1.length c1, .int .i64 (decD l).2.1, .int .i64 (decD l).2.2]) ∧ Kd.R k36 36 w' w.heap.size (fun _ => True) (.slice A1 (decD l).1.length c1) (decD l).1 ∧ Below w.heap.size w w' := by
  have hi : (Kd.int .u8).C w A (ints l).length (ints l) := by
    rw [ints_length]
    exact Kd.C_of_reads (d := (0 : Int)) (ints_of_bytes hb)
  have := PParamDecodes.ropewalkref05_Decode.calls (l.length + 1) A c (ints l) _ _ _ w hi (by rw [ints_length]; exact hc) (ref_f l hn)
  rw [ints_length] at this
  refine this.mono fun e w' h => ?_
  obtain ⟨v, he, hS, hB⟩ := h
  have hR := vc_R (Kd.S_R hS)
  obtain ⟨A1, c1, rfl⟩ := Kd.R_slice hR
  exact ⟨A1, c1, he, hR, hB⟩
end Go.Proofs.Ytjlgddmcjccbeaa.ParDec
