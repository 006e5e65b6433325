/- The statement ParamBack, walked; lists of parameters handed in, number by number. -/
import Derived.Test.YtjlgddmcjccbeaaParAgainLaw
import Derived.Test.YtjlgddmcjccbeaaOpens
namespace Go.Proofs.Ytjlgddmcjccbeaa.ParDec
open Go.RowKit Go.Proofs.YtjlgddmcjccbeaaW.PrintWords Go.Proofs.Ytjlgddmcjccbeaa.PParamCauses Go.Proofs.Ytjlgddmcjccbeaa.ParCauses Go.Proofs.Ytjlgddmcjccbeaa.Base Go.Proofs.Ytjlgddmcjccbeaa.ParEnc
set_option linter.unusedVariables false
set_option linter.unusedSimpArgs false
def k16 : Kd UInt16 := Kd.scalar (fun x => .int .u16 (x.toNat : Int)) (fun _ => rfl)
theorem u16_of_wf {n : Int} (h : (Lit.int .u16 n).wf = true) : ((UInt16.ofNat n.toNat).toNat : Int) = n := by
  have h1 := bounds_u16 h
  rw [UInt16.toNat_ofNat']
  omega
def prmK : Kd (UInt16 × List UInt8) := Kd.pair k16 (Kd.slice 5 byte)
theorem open_u16b : Opens 34 k16 (fun _ => 1) := Opens.int (fun n => UInt16.ofNat n.toNat) Try.underlying34 (fun n hw => by rw [u16_of_wf hw])
theorem open_prmB : Opens 36 prmK (fun x => 1 + ((x.2.map fun _ => 1).sum + 1) + 1) :=
  Opens.pair2 Try.underlying36 rfl rfl (by kernel_rfl) (by kernel_rfl) (by kernel_rfl) open_u16b Opens.bytes
theorem open_prmsB : Opens 22 (Kd.slice 36 prmK) (fun xs => (xs.map fun x : UInt16 × List UInt8 => 1 + ((x.2.map fun _ => 1).sum + 1) + 1).sum + 1) := Opens.slice open_prmB Try.underlying22 (by kernel_rfl)
def toS (q : UInt16 × List UInt8) : S36 := ⟨(q.1.toNat : Int), ints q.2⟩
theorem toS_C {w : World} {A : Option Addr} {n : Nat} {qs : List (UInt16 × List UInt8)} (h : Kd.C prmK w A n qs) : Kd.C k36 w A n (qs.map toS) := by
  obtain ⟨h1, h2, h3⟩ := h
  refine ⟨by rw [List.length_map]; exact h1, h2, fun hn => ?_⟩
  obtain ⟨ad, e, hc⟩ := h3 hn
  refine ⟨ad, e, fun j p hj => ?_⟩
  rw [List.getElem?_map] at hj
  obtain ⟨q, hq, rfl⟩ := Option.map_eq_some_iff.1 hj
  obtain ⟨c, hl, ⟨c0, c1, rfl, k0, B, d, rfl, hle, hB⟩, hcell⟩ := hc j q hq
  refine ⟨_, hl, ?_, hcell⟩
  have hi : (Kd.int .u8).C w B (ints q.2).length (ints q.2) := by
    rw [ints_length]
    exact Kd.C_of_reads (d := (0 : Int)) (ints_of_bytes hB)
  have hk := k36_mk w (toS q) (A1 := B) (c1 := d) (by show (ints q.2).length ≤ d; rw [ints_length]; exact hle) hi
  obtain rfl : c0 = [.int .u16 (q.1.toNat : Int)] := k0
  have he : (toS q).f1.length = q.2.length := ints_length _
  rw [he] at hk
  exact hk
theorem toS_ok (q : UInt16 × List UInt8) (h : q.2.length ≤ 65531) : okP (toS q) := by
  have := q.1.toNat_lt
  refine ⟨by show (0 : Int) ≤ (q.1.toNat : Int); omega, by show (q.1.toNat : Int) < 65536; omega, by show (ints q.2).length ≤ 65531; rw [ints_length]; exact h, fun x hx => ?_⟩
  obtain ⟨b, _, rfl⟩ := List.mem_map.1 hx
  have hb : b.toNat < 256 := b.toNat_lt
  show (0 : Int) ≤ (b.toNat : Int) ∧ (b.toNat : Int) < 256
  omega
theorem encode_bad (w : World) (A : Option Addr) (c : Nat) (ps : List S36) (code : Int) (hC : Kd.C k36 w A ps.length ps) (hc : ps.length ≤ c) (h : ∃ k, param_Encode.f k ps = some ([], code)) :
    Calls Try.prog 10 #[.slice A ps.length c] w fun e w' => ∃ A1 c1, e = .returned (.tuple #[.slice A1 0 c1, .int .i64 code]) ∧ Below w.heap.size w w' := by
  obtain ⟨k, hk⟩ := h
  refine (param_Encode.calls k A c ps _ _ w hC hc hk).mono fun e w' h => ?_
  obtain ⟨v, he, hR, hB⟩ := h
  obtain ⟨A1, c1, rfl⟩ := Kd.R_slice hR
  exact ⟨A1, c1, he, hB⟩
theorem enc_cases (qs : List (UInt16 × List UInt8)) : (qs.length ≤ 256 ∧ ∀ q ∈ qs.map toS, okP q) ∨ ∃ code : Int, (code = 3 ∨ code = 2) ∧ ∃ k, param_Encode.f k (qs.map toS) = some ([], code) := by
  obtain ⟨k, hk⟩ := encode_run (qs.map toS)
  by_cases h : qs.length ≤ 256
  · rw [if_neg (by rw [List.length_map]; omega)] at hk
    by_cases hs : allShort (qs.map toS)
    · refine Or.inl ⟨h, fun x hx => ?_⟩
      have h1 := hs x hx
      obtain ⟨q, hq, rfl⟩ := List.mem_map.1 hx
      refine toS_ok q ?_
      have h2 : (toS q).f1.length = q.2.length := ints_length _
      rw [h2] at h1
      omega
    · rw [runB_long _ hs] at hk
      exact Or.inr ⟨2, Or.inr rfl, k, hk⟩
  · rw [if_pos (by rw [List.length_map]; omega)] at hk
    exact Or.inr ⟨3, Or.inl rfl, k, hk⟩
theorem paramBack_row {w : World} (A : Option Addr) (c : Nat) (qs : List (UInt16 × List UInt8)) (hp : Kd.C prmK w A qs.length qs) (hc : qs.length ≤ c) :
    Calls Try.prog 6 #[.slice A qs.length c] w fun e w' => e = .returned (.bool true) ∧ Below w.heap.size w w' := by
  have hC := toS_C hp
  have hl : (qs.map toS).length = qs.length := List.length_map ..
  have hcs := enc_cases qs
  rw [← hl] at hC hc hcs ⊢
  clear hp hl
  generalize qs.map toS = ps at *
  clear qs
  rcases hcs with ⟨h1, h2⟩ | ⟨code, hcode, hk⟩
  · have HE := Lib.hid (encode_calls w A c ps hC hc h1 h2)
    have HA := Lib.hid (fun (W : World) (A1 : Option Addr) (c1 : Nat) h hle => again_calls W A1 c1 ps h1 h2 h hle)
    have HC := Lib.hid hC
    generalize bytesOf (foldB [] ps) = q at *
    clear h1 h2 hC
    go_enter Try.func6, Try.ntmps6
    go_wp2_with fail
    refine HE.out.mono ?_
    rintro e w2 ⟨A2, c2, rfl, hle2, hC2, hB2⟩
    have HC2 := Lib.hid hC2
    have HC12 := Lib.hid (Kd.C_below HC.out hB2)
    have HB2 := Lib.hid hB2
    clear hC2 hB2
    go_wp2_with fail
    refine (HA.out w2 A2 c2 HC2.out hle2).mono ?_
    rintro e w3 ⟨A3, c3, rfl, hC3, hB3⟩
    have HSM := Lib.hid (same_calls w3 A c A3 c3 ps (Kd.C_below HC12.out hB3) hC3)
    have HB3 := Lib.hid (below_then HB2.out HB2.out.size hB3)
    clear hC3 hB3
    go_wp2_with fail
    refine HSM.out.mono ?_
    rintro e w8 ⟨rfl, ⟨m8, rfl⟩⟩
    go_wp2_with fail
    refine (alive_calls _).mono ?_
    rintro e w9 ⟨rfl, hB9⟩
    go_wp2
    go_ret
    exact ⟨rfl, (pw_below_drewN HB3.out m8).trans (hB9.mono HB3.out.size)⟩
  · have HE := Lib.hid (encode_bad w A c ps code hC hc hk)
    clear hk hC
    rcases hcode with rfl | rfl
    all_goals
      go_enter Try.func6, Try.ntmps6
      go_wp2_with fail
      refine HE.out.mono ?_
      rintro e w2 ⟨A2, c2, rfl, hB2⟩
      have HB2 := Lib.hid hB2
      clear hB2
      go_wp2_with fail
      refine (alive_calls _).mono ?_
      rintro e w9 ⟨rfl, hB9⟩
      go_wp2
      go_ret
      exact ⟨rfl, HB2.out.trans (hB9.mono HB2.out.size)⟩
end Go.Proofs.Ytjlgddmcjccbeaa.ParDec
