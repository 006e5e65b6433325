/- The statement ParamDecodes, walked. -/
import Derived.Test.YtjlgddmcjccbeaaParRef
import Derived.Test.YtjlgddmcjccbeaaParLaw
namespace Go.Proofs.Ytjlgddmcjccbeaa.ParDec
open Go.RowKit Go.Proofs.YtjlgddmcjccbeaaW.PrintWords Go.Proofs.Ytjlgddmcjccbeaa.PParamCauses Go.Proofs.Ytjlgddmcjccbeaa.ParCauses Go.Proofs.Ytjlgddmcjccbeaa.Base
set_option linter.unusedVariables false
set_option linter.unusedSimpArgs false
theorem same_calls (w : World) (A0 : Option Addr) (c0 : Nat) (A1 : Option Addr) (c1 : Nat) (ps : List S36) (h0 : Kd.C k36 w A0 ps.length ps) (h1 : Kd.C k36 w A1 ps.length ps) :
    Calls Try.prog 23 #[.slice A0 ps.length c0, .slice A1 ps.length c1] w fun e w' => e = .returned (.bool true) ∧ Drawn0 w w' := by
  have := refSame_calls w A0 c0 ps A1 c1 ps h0 h1
  rwa [sameP_refl] at this
theorem paramDecodes_row {w : World} (A : Option Addr) (c : Nat) (l : List UInt8) (hb : byte.C w A l.length l) (hc : l.length ≤ c) (hm : c ≤ 140737488351232) :
    Calls Try.prog 5 #[.slice A l.length c] w fun e w' => e = .returned (.bool true) ∧ Below w.heap.size w w' := by
  have HB0 := Lib.hid hb
  have hn : l.length ≤ 140737488351232 := by omega
  have HD := Lib.hid (decode_calls w A l c hb hc (by omega))
  have HRD := Lib.hid (fun (W : World) (h : byte.C W A l.length l) => refDecode_calls W A l c h hc (by omega))
  clear hb
  unfold DecPost at HD
  generalize (decD l).2.1 = at_ at *
  generalize (decD l).2.2 = code at *
  generalize (decD l).1 = ps at *
  go_enter Try.func5, Try.ntmps5
  go_wp2_with fail
  refine HD.out.mono ?_
  rintro e w1 ⟨v, rfl, hR, hB1⟩
  obtain ⟨A1, c1, rfl, hle, hC1⟩ := Kd.R_reads hR
  have HC1 := Lib.hid hC1
  have HB1 := Lib.hid hB1
  clear hR hC1 hB1
  go_wp2_with fail
  refine (HRD.out w1 (Kd.C_below HB0.out HB1.out)).mono ?_
  rintro e w2 ⟨A2, c2, rfl, hR2, hB2⟩
  have hC2 := (Kd.R_reads' hR2).2.2
  clear hR2
  have HSM := Lib.hid (same_calls w2 A1 c1 A2 c2 ps (Kd.C_below HC1.out hB2) hC2)
  have HB2 := Lib.hid (HB1.out.trans (hB2.mono HB1.out.size))
  clear hC2 hB2
  go_wp2_with fail
  refine HSM.out.mono ?_
  rintro e w8 ⟨rfl, ⟨m8, rfl⟩⟩
  go_wp2_with fail
  refine (alive_calls _).mono ?_
  rintro e w9 ⟨rfl, hB9⟩
  go_wp2
  go_ret
  exact ⟨rfl, (pw_below_drewN HB2.out m8).trans (hB9.mono HB2.out.size)⟩
end Go.Proofs.Ytjlgddmcjccbeaa.ParDec
