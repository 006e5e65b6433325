/- The statement CookieLooks, walked. -/
import Derived.Test.YthdemajmlidefaaCkO
namespace Go.Proofs.Ythdemajmlidefaa.Ck
open Go.RowKit Go.Proofs.YthdemajmlidefaaW.PrintWords Go.Proofs.YthdemajmlidefaaW.PrintLast Go.Proofs.Ythdemajmlidefaa.Base Go.Proofs.Ythdemajmlidefaa.Mac
set_option linter.unusedVariables false
set_option linter.unusedSimpArgs false
theorem looks_both (A : Option Addr) (c : Nat) (l : List UInt8) (hc : l.length ≤ c) : ∃ (y : Nat → Nat) (t f e : Int),
    (∀ w, byte.C w A l.length l → Calls Try.prog 13 #[.slice A l.length c] w fun r w' => r = .returned (.tuple #[.agg #[.int .u16 (y 2 : Nat), .int .u16 (y 3 : Nat), .int .u32 (y 4 : Nat), .int .u32 (y 5 : Nat), .int .u32 (y 6 : Nat), .int .u32 (y 7 : Nat), .int .u32 (y 8 : Nat), .int .u16 (y 9 : Nat), .int .u16 (y 10 : Nat), .int .u32 (y 11 : Nat), .int .u32 (y 12 : Nat)], .int .i64 t, .int .i64 f, .int .i64 e]) ∧ Below w.heap.size w w') ∧
    (∀ w, byte.C w A l.length l → Calls Try.prog 14 #[.slice A l.length c] w fun r w' => r = .returned (.tuple #[.agg #[.int .u16 (y 2 : Nat), .int .u16 (y 3 : Nat), .int .u32 (y 4 : Nat), .int .u32 (y 5 : Nat), .int .u32 (y 6 : Nat), .int .u32 (y 7 : Nat), .int .u32 (y 8 : Nat), .int .u16 (y 9 : Nat), .int .u16 (y 10 : Nat), .int .u32 (y 11 : Nat), .int .u32 (y 12 : Nat)], .int .i64 t, .int .i64 f, .int .i64 e]) ∧ Below w.heap.size w w') := by
  cases h : lookB l with
  | true => exact ⟨valF l, _, _, _, fun w hb => look_good w A c l hb hc h, fun w hb => refLook_good w A c l hb hc h⟩
  | false => exact ⟨zF, _, _, _, fun w hb => look_bad w A c l hb hc h, fun w hb => refLook_bad w A c l hb hc h⟩
set_option maxRecDepth 100000 in
set_option maxHeartbeats 1000000 in
theorem cookieLooks_row {w : World} (A : Option Addr) (c : Nat) (l : List UInt8) (hb : byte.C w A l.length l) (hc : l.length ≤ c) (hm : c ≤ 140737488351232) :
    Calls Try.prog 5 #[.slice A l.length c] w fun e w' => e = .returned (.bool true) ∧ Below w.heap.size w w' := by
  obtain ⟨y, t, f, e, h1, h2⟩ := looks_both A c l hc
  have H1 := Lib.hid (h1 w hb)
  have H2 := Lib.hid (fun (W : World) (h : Below w.heap.size w W) => h2 W (Kd.C_below hb h))
  clear h1 h2 hb
  generalize l.length = N at *
  have e1 : (t == t) = true := by simp
  have e2 : (f == f) = true := by simp
  have e3 : (e == e) = true := by simp
  go_enter Try.func5, Try.ntmps5
  go_wp2_with fail
  refine H1.out.mono ?_
  rintro e0 w1 ⟨rfl, hB1⟩
  have HO := Lib.hid (blk_new w1 (.cells #[.int .u16 (y 2 : Nat), .int .u16 (y 3 : Nat), .int .u32 (y 4 : Nat), .int .u32 (y 5 : Nat), .int .u32 (y 6 : Nat), .int .u32 (y 7 : Nat), .int .u32 (y 8 : Nat), .int .u16 (y 9 : Nat), .int .u16 (y 10 : Nat), .int .u32 (y 11 : Nat), .int .u32 (y 12 : Nat)] 27))
  have HB := Lib.hid (hB1.alloc hB1.size (.cells #[.int .u16 (y 2 : Nat), .int .u16 (y 3 : Nat), .int .u32 (y 4 : Nat), .int .u32 (y 5 : Nat), .int .u32 (y 6 : Nat), .int .u32 (y 7 : Nat), .int .u32 (y 8 : Nat), .int .u16 (y 9 : Nat), .int .u16 (y 10 : Nat), .int .u32 (y 11 : Nat), .int .u32 (y 12 : Nat)] 27))
  clear hB1
  go_wp2_with fail
  refine (H2.out _ HB.out).mono ?_
  rintro e0 w2 ⟨rfl, hB2⟩
  have HO2 := Lib.hid (blk_alloc (blk_below HO.out hB2) (.cells #[.int .u16 (y 2 : Nat), .int .u16 (y 3 : Nat), .int .u32 (y 4 : Nat), .int .u32 (y 5 : Nat), .int .u32 (y 6 : Nat), .int .u32 (y 7 : Nat), .int .u32 (y 8 : Nat), .int .u16 (y 9 : Nat), .int .u16 (y 10 : Nat), .int .u32 (y 11 : Nat), .int .u32 (y 12 : Nat)] 27))
  have HO3 := Lib.hid (blk_new w2 (.cells #[.int .u16 (y 2 : Nat), .int .u16 (y 3 : Nat), .int .u32 (y 4 : Nat), .int .u32 (y 5 : Nat), .int .u32 (y 6 : Nat), .int .u32 (y 7 : Nat), .int .u32 (y 8 : Nat), .int .u16 (y 9 : Nat), .int .u16 (y 10 : Nat), .int .u32 (y 11 : Nat), .int .u32 (y 12 : Nat)] 27))
  have HB2 := Lib.hid ((below_then HB.out HB.out.size hB2).alloc (below_then HB.out HB.out.size hB2).size (.cells #[.int .u16 (y 2 : Nat), .int .u16 (y 3 : Nat), .int .u32 (y 4 : Nat), .int .u32 (y 5 : Nat), .int .u32 (y 6 : Nat), .int .u32 (y 7 : Nat), .int .u32 (y 8 : Nat), .int .u16 (y 9 : Nat), .int .u16 (y 10 : Nat), .int .u32 (y 11 : Nat), .int .u32 (y 12 : Nat)] 27))
  clear hB2 HO HB H1 H2
  have a0 := (blk_cell HO2.out 0).trans (show (#[.int .u16 (y 2 : Nat), .int .u16 (y 3 : Nat), .int .u32 (y 4 : Nat), .int .u32 (y 5 : Nat), .int .u32 (y 6 : Nat), .int .u32 (y 7 : Nat), .int .u32 (y 8 : Nat), .int .u16 (y 9 : Nat), .int .u16 (y 10 : Nat), .int .u32 (y 11 : Nat), .int .u32 (y 12 : Nat)] : Array Value)[0]? = some (.int .u16 (y 2 : Nat)) from rfl)
  have b0 := (blk_cell HO3.out 0).trans (show (#[.int .u16 (y 2 : Nat), .int .u16 (y 3 : Nat), .int .u32 (y 4 : Nat), .int .u32 (y 5 : Nat), .int .u32 (y 6 : Nat), .int .u32 (y 7 : Nat), .int .u32 (y 8 : Nat), .int .u16 (y 9 : Nat), .int .u16 (y 10 : Nat), .int .u32 (y 11 : Nat), .int .u32 (y 12 : Nat)] : Array Value)[0]? = some (.int .u16 (y 2 : Nat)) from rfl)
  have a1 := (blk_cell HO2.out 1).trans (show (#[.int .u16 (y 2 : Nat), .int .u16 (y 3 : Nat), .int .u32 (y 4 : Nat), .int .u32 (y 5 : Nat), .int .u32 (y 6 : Nat), .int .u32 (y 7 : Nat), .int .u32 (y 8 : Nat), .int .u16 (y 9 : Nat), .int .u16 (y 10 : Nat), .int .u32 (y 11 : Nat), .int .u32 (y 12 : Nat)] : Array Value)[1]? = some (.int .u16 (y 3 : Nat)) from rfl)
  have b1 := (blk_cell HO3.out 1).trans (show (#[.int .u16 (y 2 : Nat), .int .u16 (y 3 : Nat), .int .u32 (y 4 : Nat), .int .u32 (y 5 : Nat), .int .u32 (y 6 : Nat), .int .u32 (y 7 : Nat), .int .u32 (y 8 : Nat), .int .u16 (y 9 : Nat), .int .u16 (y 10 : Nat), .int .u32 (y 11 : Nat), .int .u32 (y 12 : Nat)] : Array Value)[1]? = some (.int .u16 (y 3 : Nat)) from rfl)
  have a2 := (blk_cell HO2.out 2).trans (show (#[.int .u16 (y 2 : Nat), .int .u16 (y 3 : Nat), .int .u32 (y 4 : Nat), .int .u32 (y 5 : Nat), .int .u32 (y 6 : Nat), .int .u32 (y 7 : Nat), .int .u32 (y 8 : Nat), .int .u16 (y 9 : Nat), .int .u16 (y 10 : Nat), .int .u32 (y 11 : Nat), .int .u32 (y 12 : Nat)] : Array Value)[2]? = some (.int .u32 (y 4 : Nat)) from rfl)
  have b2 := (blk_cell HO3.out 2).trans (show (#[.int .u16 (y 2 : Nat), .int .u16 (y 3 : Nat), .int .u32 (y 4 : Nat), .int .u32 (y 5 : Nat), .int .u32 (y 6 : Nat), .int .u32 (y 7 : Nat), .int .u32 (y 8 : Nat), .int .u16 (y 9 : Nat), .int .u16 (y 10 : Nat), .int .u32 (y 11 : Nat), .int .u32 (y 12 : Nat)] : Array Value)[2]? = some (.int .u32 (y 4 : Nat)) from rfl)
  have a3 := (blk_cell HO2.out 3).trans (show (#[.int .u16 (y 2 : Nat), .int .u16 (y 3 : Nat), .int .u32 (y 4 : Nat), .int .u32 (y 5 : Nat), .int .u32 (y 6 : Nat), .int .u32 (y 7 : Nat), .int .u32 (y 8 : Nat), .int .u16 (y 9 : Nat), .int .u16 (y 10 : Nat), .int .u32 (y 11 : Nat), .int .u32 (y 12 : Nat)] : Array Value)[3]? = some (.int .u32 (y 5 : Nat)) from rfl)
  have b3 := (blk_cell HO3.out 3).trans (show (#[.int .u16 (y 2 : Nat), .int .u16 (y 3 : Nat), .int .u32 (y 4 : Nat), .int .u32 (y 5 : Nat), .int .u32 (y 6 : Nat), .int .u32 (y 7 : Nat), .int .u32 (y 8 : Nat), .int .u16 (y 9 : Nat), .int .u16 (y 10 : Nat), .int .u32 (y 11 : Nat), .int .u32 (y 12 : Nat)] : Array Value)[3]? = some (.int .u32 (y 5 : Nat)) from rfl)
  have a4 := (blk_cell HO2.out 4).trans (show (#[.int .u16 (y 2 : Nat), .int .u16 (y 3 : Nat), .int .u32 (y 4 : Nat), .int .u32 (y 5 : Nat), .int .u32 (y 6 : Nat), .int .u32 (y 7 : Nat), .int .u32 (y 8 : Nat), .int .u16 (y 9 : Nat), .int .u16 (y 10 : Nat), .int .u32 (y 11 : Nat), .int .u32 (y 12 : Nat)] : Array Value)[4]? = some (.int .u32 (y 6 : Nat)) from rfl)
  have b4 := (blk_cell HO3.out 4).trans (show (#[.int .u16 (y 2 : Nat), .int .u16 (y 3 : Nat), .int .u32 (y 4 : Nat), .int .u32 (y 5 : Nat), .int .u32 (y 6 : Nat), .int .u32 (y 7 : Nat), .int .u32 (y 8 : Nat), .int .u16 (y 9 : Nat), .int .u16 (y 10 : Nat), .int .u32 (y 11 : Nat), .int .u32 (y 12 : Nat)] : Array Value)[4]? = some (.int .u32 (y 6 : Nat)) from rfl)
  have a5 := (blk_cell HO2.out 5).trans (show (#[.int .u16 (y 2 : Nat), .int .u16 (y 3 : Nat), .int .u32 (y 4 : Nat), .int .u32 (y 5 : Nat), .int .u32 (y 6 : Nat), .int .u32 (y 7 : Nat), .int .u32 (y 8 : Nat), .int .u16 (y 9 : Nat), .int .u16 (y 10 : Nat), .int .u32 (y 11 : Nat), .int .u32 (y 12 : Nat)] : Array Value)[5]? = some (.int .u32 (y 7 : Nat)) from rfl)
  have b5 := (blk_cell HO3.out 5).trans (show (#[.int .u16 (y 2 : Nat), .int .u16 (y 3 : Nat), .int .u32 (y 4 : Nat), .int .u32 (y 5 : Nat), .int .u32 (y 6 : Nat), .int .u32 (y 7 : Nat), .int .u32 (y 8 : Nat), .int .u16 (y 9 : Nat), .int .u16 (y 10 : Nat), .int .u32 (y 11 : Nat), .int .u32 (y 12 : Nat)] : Array Value)[5]? = some (.int .u32 (y 7 : Nat)) from rfl)
  have a6 := (blk_cell HO2.out 6).trans (show (#[.int .u16 (y 2 : Nat), .int .u16 (y 3 : Nat), .int .u32 (y 4 : Nat), .int .u32 (y 5 : Nat), .int .u32 (y 6 : Nat), .int .u32 (y 7 : Nat), .int .u32 (y 8 : Nat), .int .u16 (y 9 : Nat), .int .u16 (y 10 : Nat), .int .u32 (y 11 : Nat), .int .u32 (y 12 : Nat)] : Array Value)[6]? = some (.int .u32 (y 8 : Nat)) from rfl)
  have b6 := (blk_cell HO3.out 6).trans (show (#[.int .u16 (y 2 : Nat), .int .u16 (y 3 : Nat), .int .u32 (y 4 : Nat), .int .u32 (y 5 : Nat), .int .u32 (y 6 : Nat), .int .u32 (y 7 : Nat), .int .u32 (y 8 : Nat), .int .u16 (y 9 : Nat), .int .u16 (y 10 : Nat), .int .u32 (y 11 : Nat), .int .u32 (y 12 : Nat)] : Array Value)[6]? = some (.int .u32 (y 8 : Nat)) from rfl)
  have a7 := (blk_cell HO2.out 7).trans (show (#[.int .u16 (y 2 : Nat), .int .u16 (y 3 : Nat), .int .u32 (y 4 : Nat), .int .u32 (y 5 : Nat), .int .u32 (y 6 : Nat), .int .u32 (y 7 : Nat), .int .u32 (y 8 : Nat), .int .u16 (y 9 : Nat), .int .u16 (y 10 : Nat), .int .u32 (y 11 : Nat), .int .u32 (y 12 : Nat)] : Array Value)[7]? = some (.int .u16 (y 9 : Nat)) from rfl)
  have b7 := (blk_cell HO3.out 7).trans (show (#[.int .u16 (y 2 : Nat), .int .u16 (y 3 : Nat), .int .u32 (y 4 : Nat), .int .u32 (y 5 : Nat), .int .u32 (y 6 : Nat), .int .u32 (y 7 : Nat), .int .u32 (y 8 : Nat), .int .u16 (y 9 : Nat), .int .u16 (y 10 : Nat), .int .u32 (y 11 : Nat), .int .u32 (y 12 : Nat)] : Array Value)[7]? = some (.int .u16 (y 9 : Nat)) from rfl)
  have a8 := (blk_cell HO2.out 8).trans (show (#[.int .u16 (y 2 : Nat), .int .u16 (y 3 : Nat), .int .u32 (y 4 : Nat), .int .u32 (y 5 : Nat), .int .u32 (y 6 : Nat), .int .u32 (y 7 : Nat), .int .u32 (y 8 : Nat), .int .u16 (y 9 : Nat), .int .u16 (y 10 : Nat), .int .u32 (y 11 : Nat), .int .u32 (y 12 : Nat)] : Array Value)[8]? = some (.int .u16 (y 10 : Nat)) from rfl)
  have b8 := (blk_cell HO3.out 8).trans (show (#[.int .u16 (y 2 : Nat), .int .u16 (y 3 : Nat), .int .u32 (y 4 : Nat), .int .u32 (y 5 : Nat), .int .u32 (y 6 : Nat), .int .u32 (y 7 : Nat), .int .u32 (y 8 : Nat), .int .u16 (y 9 : Nat), .int .u16 (y 10 : Nat), .int .u32 (y 11 : Nat), .int .u32 (y 12 : Nat)] : Array Value)[8]? = some (.int .u16 (y 10 : Nat)) from rfl)
  have a9 := (blk_cell HO2.out 9).trans (show (#[.int .u16 (y 2 : Nat), .int .u16 (y 3 : Nat), .int .u32 (y 4 : Nat), .int .u32 (y 5 : Nat), .int .u32 (y 6 : Nat), .int .u32 (y 7 : Nat), .int .u32 (y 8 : Nat), .int .u16 (y 9 : Nat), .int .u16 (y 10 : Nat), .int .u32 (y 11 : Nat), .int .u32 (y 12 : Nat)] : Array Value)[9]? = some (.int .u32 (y 11 : Nat)) from rfl)
  have b9 := (blk_cell HO3.out 9).trans (show (#[.int .u16 (y 2 : Nat), .int .u16 (y 3 : Nat), .int .u32 (y 4 : Nat), .int .u32 (y 5 : Nat), .int .u32 (y 6 : Nat), .int .u32 (y 7 : Nat), .int .u32 (y 8 : Nat), .int .u16 (y 9 : Nat), .int .u16 (y 10 : Nat), .int .u32 (y 11 : Nat), .int .u32 (y 12 : Nat)] : Array Value)[9]? = some (.int .u32 (y 11 : Nat)) from rfl)
  have a10 := (blk_cell HO2.out 10).trans (show (#[.int .u16 (y 2 : Nat), .int .u16 (y 3 : Nat), .int .u32 (y 4 : Nat), .int .u32 (y 5 : Nat), .int .u32 (y 6 : Nat), .int .u32 (y 7 : Nat), .int .u32 (y 8 : Nat), .int .u16 (y 9 : Nat), .int .u16 (y 10 : Nat), .int .u32 (y 11 : Nat), .int .u32 (y 12 : Nat)] : Array Value)[10]? = some (.int .u32 (y 12 : Nat)) from rfl)
  have b10 := (blk_cell HO3.out 10).trans (show (#[.int .u16 (y 2 : Nat), .int .u16 (y 3 : Nat), .int .u32 (y 4 : Nat), .int .u32 (y 5 : Nat), .int .u32 (y 6 : Nat), .int .u32 (y 7 : Nat), .int .u32 (y 8 : Nat), .int .u16 (y 9 : Nat), .int .u16 (y 10 : Nat), .int .u32 (y 11 : Nat), .int .u32 (y 12 : Nat)] : Array Value)[10]? = some (.int .u32 (y 12 : Nat)) from rfl)
  go_wp2_with fail
  refine (alive_calls _).mono ?_
  rintro e0 w9 ⟨rfl, hB9⟩
  go_wp2
  go_ret
  exact ⟨rfl, below_then HB2.out HB2.out.size hB9⟩
end Go.Proofs.Ythdemajmlidefaa.Ck
