/- The walk of the statement CrcPuts. -/
import Derived.Test.YtdgahdfegpkmfaaDoorCrcF
namespace Go.Proofs.YtdgahdfegpkmfaaDoor.Crc
open Go.RowKit Go.Proofs.YtdgahdfegpkmfaaDoorW.PrintWords Go.Proofs.YtdgahdfegpkmfaaDoor.Base CrcMath
set_option linter.unusedVariables false
set_option linter.unusedSimpArgs false

theorem crcPuts_row {w : World} (A : Option Addr) (c : Nat) (l : List UInt8) (hb : byte.C w A l.length l) (hc : l.length ≤ c) (hm0 : c ≤ 140737488351232) (ht : Table w) :
    Calls Tryd.prog 7 #[.slice A l.length c] w fun e w' => e = .returned (.bool true) ∧ Below w.heap.size w w' := by
  have hm : l.length ≤ 140737488355328 := by omega
  have hck := fun (w1 : World) (h : Below w.heap.size w w1) => check_calls A c l w1 (ht.below h) (Kd.C_below hb h) hc hm
  have hrc := fun (w1 : World) (h : Below w.heap.size w w1) => refCheck_calls A c l w1 (Kd.C_below hb h) hc hm
  have haw := fun (w1 : World) (h : Below w.heap.size w w1) => awake_calls w1 (ht.below h)
  have e0 : ∀ x : Int, (x != x) = false := fun x => by simp
  by_cases hl : l.length < 12
  · have h1 := put_brief A c l w hl
    have h2 := refPut_brief A c l w hl
    have rn := run_bstr (w := w) (A := none) (n := 0) (c := 0) (l := []) (Kd.C_nil byte w)
    have hs := bstr_eq [] []
    rw [decide_eq_true rfl] at hs
    generalize checkL l = x at *
    have hx := e0 x
    clear ht hb e0
    have H1 := Lib.hid h1
    have H2 := Lib.hid h2
    have HCK := Lib.hid hck
    have HRC := Lib.hid hrc
    have HAW := Lib.hid haw
    clear h1 h2 hck hrc haw
    go_enter Tryd.func7, Tryd.ntmps7
    go_wp2_with fail
    refine H1.out.mono ?_
    rintro e w1 ⟨rfl, rfl⟩
    go_wp2_with fail
    refine H2.out.mono ?_
    rintro e w1 ⟨rfl, rfl⟩
    go_wp2_with fail
    refine (HCK.out w (Below.refl _ _)).mono ?_
    rintro e w1 ⟨rfl, hB1⟩
    go_wp2_with fail
    refine (HRC.out w1 hB1).mono ?_
    rintro e w2 ⟨rfl, hB2⟩
    have hB2' := below_then hB1 hB1.size hB2
    go_wp2_with fail
    refine (HAW.out w2 hB2').mono ?_
    rintro e w3 ⟨rfl, hB3⟩
    have hB3' := below_then hB2' hB2'.size hB3
    go_wp2
    go_ret
    exact ⟨rfl, hB3'⟩
  · have h1 := put_calls A c l w ht hb hc hm (by omega)
    have h2 := fun (w1 : World) (h : Below w.heap.size w w1) => refPut_calls A c l w1 (Kd.C_below hb h) hc hm (by omega)
    have hp := check_put l (by omega)
    have hlen := putL_length l
    rw [← putL_eq] at h1
    generalize putL l = q at *
    have h3 := fun (w1 : World) (h : Below w.heap.size w w1) (A1 : Option Addr) (c1 : Nat) (hC : byte.C w1 A1 q.length q) (hle : q.length ≤ c1) => check_calls A1 c1 q w1 (ht.below h) hC hle (by omega)
    rw [hp] at h3
    have hs := bstr_eq q q
    rw [decide_eq_true rfl] at hs
    generalize checkL l = x at *
    have hx := e0 x
    have H1 := Lib.hid h1
    have H2 := Lib.hid h2
    have H3 := Lib.hid h3
    have HCK := Lib.hid hck
    have HRC := Lib.hid hrc
    have HAW := Lib.hid haw
    clear h1 h2 h3 hck hrc haw ht hb e0 hp hlen
    go_enter Tryd.func7, Tryd.ntmps7
    go_wp2_with fail
    refine H1.out.mono ?_
    rintro e w1 ⟨v, rfl, hR1, hB1⟩
    obtain ⟨A1, c1, rfl, hle1, hC1⟩ := Kd.R_reads hR1
    clear hR1
    go_wp2_with fail
    refine (H2.out w1 hB1).mono ?_
    rintro e w2 ⟨v, rfl, hR2, hB2⟩
    obtain ⟨A2, c2, rfl, hle2, hC2⟩ := Kd.R_reads hR2
    have hB2' := below_then hB1 hB1.size hB2
    have hC1' := Kd.C_below hC1 hB2
    have r1 := run_bstr (c := c1) hC1'
    have r2 := run_bstr (c := c2) hC2
    clear hR2 hC1 hB1 hB2 hC2
    go_wp2_with fail
    refine (HCK.out w2 hB2').mono ?_
    rintro e w3 ⟨rfl, hB3⟩
    have hB3' := below_then hB2' hB2'.size hB3
    have hC3 := Kd.C_below hC1' hB3
    clear hC1' hB2' hB3 r1 r2
    go_wp2_with fail
    refine (HRC.out w3 hB3').mono ?_
    rintro e w4 ⟨rfl, hB4⟩
    have hB4' := below_then hB3' hB3'.size hB4
    have hC4 := Kd.C_below hC3 hB4
    clear hC3 hB3' hB4
    go_wp2_with fail
    refine (HAW.out w4 hB4').mono ?_
    rintro e w5 ⟨rfl, hB5⟩
    have hB5' := below_then hB4' hB4'.size hB5
    have hC5 := Kd.C_below hC4 hB5
    clear hC4 hB4' hB5
    go_wp2_with fail
    refine (H3.out w5 hB5' A1 c1 hC5 hle1).mono ?_
    rintro e w6 ⟨rfl, hB6⟩
    have hB6' := below_then hB5' hB5'.size hB6
    go_wp2
    go_ret
    exact ⟨rfl, hB6'⟩
end Go.Proofs.YtdgahdfegpkmfaaDoor.Crc
