/- The statement ParamAgain, walked. -/
import Derived.Test.YtjlgddmcjccbeaaParDecLaw
import Derived.Test.YtjlgddmcjccbeaaParBackP
namespace Go.Proofs.Ytjlgddmcjccbeaa.ParDec
open Go.RowKit Go.Proofs.YtjlgddmcjccbeaaW.PrintWords Go.Proofs.Ytjlgddmcjccbeaa.PParamCauses Go.Proofs.Ytjlgddmcjccbeaa.ParCauses Go.Proofs.Ytjlgddmcjccbeaa.Base Go.Proofs.Ytjlgddmcjccbeaa.ParEnc
set_option linter.unusedVariables false
set_option linter.unusedSimpArgs false
theorem byte_of_int {w : World} {A : Option Addr} {l : List UInt8} (h : (Kd.int .u8).C w A (ints l).length (ints l)) : byte.C w A l.length l := by
  obtain ⟨h1, h2, h3⟩ := h
  rw [ints_length] at h2 h3
  refine ⟨rfl, h2, fun hn => ?_⟩
  obtain ⟨ad, e, hc⟩ := h3 hn
  refine ⟨ad, e, fun j p hj => ?_⟩
  exact hc j (p.toNat : Int) (by unfold ints; rw [List.getElem?_map, hj]; rfl)
/-- Encode of a list that may be. -/
theorem encode_calls (w : World) (A : Option Addr) (c : Nat) (ps : List S36) (hC : Kd.C k36 w A ps.length ps) (hc : ps.length ≤ c) (hl : ps.length ≤ 256) (hok : ∀ q ∈ ps, okP q) :
    Calls Try.prog 10 #[.slice A ps.length c] w fun e w' => ∃ A1 c1, e = .returned (.tuple #[.slice A1 (bytesOf (foldB [] ps)).length c1, .int .i64 0]) ∧ (bytesOf (foldB [] ps)).length ≤ c1 ∧ byte.C w' A1 (bytesOf (foldB [] ps)).length (bytesOf (foldB [] ps)) ∧ Below w.heap.size w w' := by
  obtain ⟨k, hk⟩ := enc_back ps hl hok
  refine (param_Encode.calls k A c ps _ _ w hC hc hk).mono fun e w' h => ?_
  obtain ⟨v, he, hR, hB⟩ := h
  obtain ⟨A1, c1, rfl, hle, hC1⟩ := Kd.R_reads hR
  have hi := ints_bytesOf (foldB [] ps) (fold_in ps [] (fun x hx => by cases hx) hok)
  have hb : byte.C w' A1 (bytesOf (foldB [] ps)).length (bytesOf (foldB [] ps)) := byte_of_int (by rw [hi]; exact hC1)
  rw [← bytesOf_length] at he hle
  exact ⟨A1, c1, he, hle, hb, hB⟩
/-- .. and what comes of reading it again. -/
theorem again_calls (w : World) (A : Option Addr) (c : Nat) (ps : List S36) (hl : ps.length ≤ 256) (hok : ∀ q ∈ ps, okP q) (hb : byte.C w A (bytesOf (foldB [] ps)).length (bytesOf (foldB [] ps))) (hc : (bytesOf (foldB [] ps)).length ≤ c) :
    Calls Try.prog 24 #[.slice A (bytesOf (foldB [] ps)).length c] w fun e w' => ∃ A1 c1, e = .returned (.tuple #[.slice A1 ps.length c1, .int .i64 0, .int .i64 0]) ∧ Kd.C k36 w' A1 ps.length ps ∧ Below w.heap.size w w' := by
  have hlen := fold_len ps [] hok
  refine (decode_calls w A _ c hb hc (by rw [bytesOf_length]; simp only [List.length_nil] at hlen; omega)).mono fun e w' h => ?_
  obtain ⟨v, he, hR, hB⟩ := h
  rw [back_dec ps hl hok] at he hR
  obtain ⟨A1, c1, rfl, hle, hC1⟩ := Kd.R_reads hR
  exact ⟨A1, c1, he, hC1, hB⟩
theorem paramAgain_row {w : World} (A : Option Addr) (c : Nat) (l : List UInt8) (hb : byte.C w A l.length l) (hc : l.length ≤ c) (hm : c ≤ 140737488351232) :
    Calls Try.prog 7 #[.slice A l.length c] w fun e w' => e = .returned (.bool true) ∧ Below w.heap.size w w' := by
  have hn : l.length ≤ 140737488351232 := by omega
  have HD := Lib.hid (decode_calls w A l c hb hc (by omega))
  unfold DecPost at HD
  clear hb
  by_cases hcode : (decD l).2.2 = 0
  · obtain ⟨h1, h2, h3, h4⟩ := dec_ok l hcode
    rw [hcode] at HD
    generalize (decD l).2.1 = at_ at *
    generalize (decD l).1 = ps at *
    rw [← bytesOf_length] at h3 h4
    have HE := Lib.hid (fun (W : World) (A1 : Option Addr) (c1 : Nat) (h : Kd.C k36 W A1 ps.length ps) (hle : ps.length ≤ c1) => encode_calls W A1 c1 ps h hle h1 h2)
    have HA := Lib.hid (fun (W : World) (A1 : Option Addr) (c1 : Nat) h hle => again_calls W A1 c1 ps h1 h2 h hle)
    generalize bytesOf (foldB [] ps) = q at *
    have hq1 : ((q.length : Nat) : Int) ≤ ((l.length : Nat) : Int) := by omega
    have hq2 : ((l.length : Nat) : Int) - ((q.length : Nat) : Int) < 4 := by omega
    have hq0 : 0 ≤ ((l.length : Nat) : Int) - ((q.length : Nat) : Int) := by omega
    clear hcode h1 h2
    go_enter Try.func7, Try.ntmps7
    go_wp2_with fail
    refine HD.out.mono ?_
    rintro e w1 ⟨v, rfl, hR, hB1⟩
    obtain ⟨A1, c1, rfl, hle, hC1⟩ := Kd.R_reads hR
    have HC1 := Lib.hid hC1
    have HB1 := Lib.hid hB1
    clear hR hC1 hB1
    go_wp2_with fail
    refine (HE.out w1 A1 c1 HC1.out hle).mono ?_
    rintro e w2 ⟨A2, c2, rfl, hle2, hC2, hB2⟩
    have HC2 := Lib.hid hC2
    have HC12 := Lib.hid (Kd.C_below HC1.out hB2)
    have HB2 := Lib.hid (below_then HB1.out HB1.out.size hB2)
    clear hC2 hB2
    go_wp2_with fail
    refine (HA.out w2 A2 c2 HC2.out hle2).mono ?_
    rintro e w3 ⟨A3, c3, rfl, hC3, hB3⟩
    have HSM := Lib.hid (same_calls w3 A1 c1 A3 c3 ps (Kd.C_below HC12.out hB3) hC3)
    have HB3 := Lib.hid (below_then HB2.out HB2.out.size hB3)
    clear hC3 hB3
    go_wp2_with fail
    refine HSM.out.mono ?_
    rintro e w8 ⟨rfl, ⟨m8, rfl⟩⟩
    go_wp2_with fail
    refine (alive_calls _).mono ?_
    rintro e w9 ⟨rfl, hB9⟩
    go_wp2
    go_ret
    exact ⟨rfl, (pw_below_drewN HB3.out m8).trans (hB9.mono HB3.out.size)⟩
  · have hps := dec_bad l hcode
    rw [hps] at HD
    generalize (decD l).2.1 = at_ at *
    generalize (decD l).2.2 = code at *
    have hc1 : (code != 0) = true := by simp [hcode]
    clear hcode hps
    go_enter Try.func7, Try.ntmps7
    go_wp2_with fail
    refine HD.out.mono ?_
    rintro e w1 ⟨v, rfl, hR, hB1⟩
    obtain ⟨A1, c1, rfl⟩ := Kd.R_slice hR
    have HB1 := Lib.hid hB1
    clear hR hB1
    go_wp2_with fail
    refine (alive_calls _).mono ?_
    rintro e w9 ⟨rfl, hB9⟩
    go_wp2
    go_ret
    exact ⟨rfl, HB1.out.trans (hB9.mono HB1.out.size)⟩
end Go.Proofs.Ytjlgddmcjccbeaa.ParDec
