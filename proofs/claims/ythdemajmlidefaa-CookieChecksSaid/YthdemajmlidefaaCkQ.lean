/- The statement CookieChecks, walked. -/
import Derived.Test.YthdemajmlidefaaCkP
namespace Go.Proofs.Ythdemajmlidefaa.Ck
open Go.RowKit Go.Proofs.YthdemajmlidefaaW.PrintWords Go.Proofs.YthdemajmlidefaaW.PrintLast Go.Proofs.Ythdemajmlidefaa.Base Go.Proofs.Ythdemajmlidefaa.Mac
set_option linter.unusedVariables false
set_option linter.unusedSimpArgs false
theorem checks_both (k : List UInt8) (hk : k.length = 16) (A : Option Addr) (c : Nat) (l : List UInt8) (hc : l.length ≤ c) (now : Int) : ∃ (y : Nat → Nat) (t e : Int),
    (∀ w, byte.C w A l.length l → Calls Try.prog 11 #[.agg (keyV k), .int .i64 now, .slice A l.length c] w fun r w' => r = .returned (.tuple #[.agg #[.int .u16 (y 2 : Nat), .int .u16 (y 3 : Nat), .int .u32 (y 4 : Nat), .int .u32 (y 5 : Nat), .int .u32 (y 6 : Nat), .int .u32 (y 7 : Nat), .int .u32 (y 8 : Nat), .int .u16 (y 9 : Nat), .int .u16 (y 10 : Nat), .int .u32 (y 11 : Nat), .int .u32 (y 12 : Nat)], .int .i64 t, .int .i64 e]) ∧ Below w.heap.size w w') ∧
    (∀ w, byte.C w A l.length l → Calls Try.prog 12 #[.agg (keyV k), .int .i64 now, .slice A l.length c] w fun r w' => r = .returned (.tuple #[.agg #[.int .u16 (y 2 : Nat), .int .u16 (y 3 : Nat), .int .u32 (y 4 : Nat), .int .u32 (y 5 : Nat), .int .u32 (y 6 : Nat), .int .u32 (y 7 : Nat), .int .u32 (y 8 : Nat), .int .u16 (y 9 : Nat), .int .u16 (y 10 : Nat), .int .u32 (y 11 : Nat), .int .u32 (y 12 : Nat)], .int .i64 t, .int .i64 e]) ∧ Below w.heap.size w w') :=
  ⟨(chkA k l now).1, (chkA k l now).2.1, (chkA k l now).2.2, fun w hb => check_calls w k hk A c l hb hc now, fun w hb => refCheck_calls w k hk A c l hb hc now⟩
set_option maxRecDepth 100000 in
set_option maxHeartbeats 1000000 in
theorem cookieChecks_row (k : List UInt8) (hk : k.length = 16) (now : Int) (hn : (Lit.int .i64 now).wf = true) {w : World} (A : Option Addr) (c : Nat) (l : List UInt8) (hb : byte.C w A l.length l) (hc : l.length ≤ c) (hm : c ≤ 140737488351232) :
    Calls Try.prog 4 #[.agg (keyV k), .int .i64 now, .slice A l.length c] w fun e w' => e = .returned (.bool true) ∧ Below w.heap.size w w' := by
  obtain ⟨y, t, e, h1, h2⟩ := checks_both k hk A c l hc now
  have HK := Lib.hid (blk_new w (.cells (keyV k) 23))
  have HKS := Lib.hid (key_size hk)
  have HB := Lib.hid (below_alloc (Below.refl w.heap.size w) (.cells (keyV k) 23))
  have H1 := Lib.hid (fun (W : World) (h : Below w.heap.size w W) => h1 W (Kd.C_below hb h))
  have H2 := Lib.hid (fun (W : World) (h : Below w.heap.size w W) => h2 W (Kd.C_below hb h))
  clear h1 h2 hb hn
  generalize l.length = N at *
  generalize keyV k = KV at *
  have e1 : (t == t) = true := by simp
  have e3 : (e == e) = true := by simp
  go_enter Try.func4, Try.ntmps4
  go_wp2_with (refine wpList_load_row rfl 23 _ rfl w.heap.size rfl 23 KV (0, 0) _ HK.out Try.underlying23 rfl HKS.out ?_)
  refine (H1.out _ HB.out).mono ?_
  rintro e0 w1 ⟨rfl, hB1⟩
  have HO := Lib.hid (blk_new w1 (.cells #[.int .u16 (y 2 : Nat), .int .u16 (y 3 : Nat), .int .u32 (y 4 : Nat), .int .u32 (y 5 : Nat), .int .u32 (y 6 : Nat), .int .u32 (y 7 : Nat), .int .u32 (y 8 : Nat), .int .u16 (y 9 : Nat), .int .u16 (y 10 : Nat), .int .u32 (y 11 : Nat), .int .u32 (y 12 : Nat)] 27))
  replace HK := Lib.hid (blk_alloc (blk_below HK.out hB1) (.cells #[.int .u16 (y 2 : Nat), .int .u16 (y 3 : Nat), .int .u32 (y 4 : Nat), .int .u32 (y 5 : Nat), .int .u32 (y 6 : Nat), .int .u32 (y 7 : Nat), .int .u32 (y 8 : Nat), .int .u16 (y 9 : Nat), .int .u16 (y 10 : Nat), .int .u32 (y 11 : Nat), .int .u32 (y 12 : Nat)] 27))
  replace HB := Lib.hid ((below_then HB.out HB.out.size hB1).alloc (below_then HB.out HB.out.size hB1).size (.cells #[.int .u16 (y 2 : Nat), .int .u16 (y 3 : Nat), .int .u32 (y 4 : Nat), .int .u32 (y 5 : Nat), .int .u32 (y 6 : Nat), .int .u32 (y 7 : Nat), .int .u32 (y 8 : Nat), .int .u16 (y 9 : Nat), .int .u16 (y 10 : Nat), .int .u32 (y 11 : Nat), .int .u32 (y 12 : Nat)] 27))
  clear hB1
  go_wp2_with (refine wpList_load_row rfl 23 _ rfl w.heap.size rfl 23 KV (0, 0) _ HK.out Try.underlying23 rfl HKS.out ?_)
  refine (H2.out _ HB.out).mono ?_
  rintro e0 w2 ⟨rfl, hB2⟩
  have HO2 := Lib.hid (blk_alloc (blk_below HO.out hB2) (.cells #[.int .u16 (y 2 : Nat), .int .u16 (y 3 : Nat), .int .u32 (y 4 : Nat), .int .u32 (y 5 : Nat), .int .u32 (y 6 : Nat), .int .u32 (y 7 : Nat), .int .u32 (y 8 : Nat), .int .u16 (y 9 : Nat), .int .u16 (y 10 : Nat), .int .u32 (y 11 : Nat), .int .u32 (y 12 : Nat)] 27))
  have HO3 := Lib.hid (blk_new w2 (.cells #[.int .u16 (y 2 : Nat), .int .u16 (y 3 : Nat), .int .u32 (y 4 : Nat), .int .u32 (y 5 : Nat), .int .u32 (y 6 : Nat), .int .u32 (y 7 : Nat), .int .u32 (y 8 : Nat), .int .u16 (y 9 : Nat), .int .u16 (y 10 : Nat), .int .u32 (y 11 : Nat), .int .u32 (y 12 : Nat)] 27))
  have HB2 := Lib.hid ((below_then HB.out HB.out.size hB2).alloc (below_then HB.out HB.out.size hB2).size (.cells #[.int .u16 (y 2 : Nat), .int .u16 (y 3 : Nat), .int .u32 (y 4 : Nat), .int .u32 (y 5 : Nat), .int .u32 (y 6 : Nat), .int .u32 (y 7 : Nat), .int .u32 (y 8 : Nat), .int .u16 (y 9 : Nat), .int .u16 (y 10 : Nat), .int .u32 (y 11 : Nat), .int .u32 (y 12 : Nat)] 27))
  clear hB2 HO HB H1 H2 HK
  have a0 := (blk_cell HO2.out 0).trans (show (#[.int .u16 (y 2 : Nat), .int .u16 (y 3 : Nat), .int .u32 (y 4 : Nat), .int .u32 (y 5 : Nat), .int .u32 (y 6 : Nat), .int .u32 (y 7 : Nat), .int .u32 (y 8 : Nat), .int .u16 (y 9 : Nat), .int .u16 (y 10 : Nat), .int .u32 (y 11 : Nat), .int .u32 (y 12 : Nat)] : Array Value)[0]? = some (.int .u16 (y 2 : Nat)) from rfl)
  have b0 := (blk_cell HO3.out 0).trans (show (#[.int .u16 (y 2 : Nat), .int .u16 (y 3 : Nat), .int .u32 (y 4 : Nat), .int .u32 (y 5 : Nat), .int .u32 (y 6 : Nat), .int .u32 (y 7 : Nat), .int .u32 (y 8 : Nat), .int .u16 (y 9 : Nat), .int .u16 (y 10 : Nat), .int .u32 (y 11 : Nat), .int .u32 (y 12 : Nat)] : Array Value)[0]? = some (.int .u16 (y 2 : Nat)) from rfl)
  have a1 := (blk_cell HO2.out 1).trans (show (#[.int .u16 (y 2 : Nat), .int .u16 (y 3 : Nat), .int .u32 (y 4 : Nat), .int .u32 (y 5 : Nat), .int .u32 (y 6 : Nat), .int .u32 (y 7 : Nat), .int .u32 (y 8 : Nat), .int .u16 (y 9 : Nat), .int .u16 (y 10 : Nat), .int .u32 (y 11 : Nat), .int .u32 (y 12 : Nat)] : Array Value)[1]? = some (.int .u16 (y 3 : Nat)) from rfl)
  have b1 := (blk_cell HO3.out 1).trans (show (#[.int .u16 (y 2 : Nat), .int .u16 (y 3 : Nat), .int .u32 (y 4 : Nat), .int .u32 (y 5 : Nat), .int .u32 (y 6 : Nat), .int .u32 (y 7 : Nat), .int .u32 (y 8 : Nat), .int .u16 (y 9 : Nat), .int .u16 (y 10 : Nat), .int .u32 (y 11 : Nat), .int .u32 (y 12 : Nat)] : Array Value)[1]? = some (.int .u16 (y 3 : Nat)) from rfl)
  have a2 := (blk_cell HO2.out 2).trans (show (#[.int .u16 (y 2 : Nat), .int .u16 (y 3 : Nat), .int .u32 (y 4 : Nat), .int .u32 (y 5 : Nat), .int .u32 (y 6 : Nat), .int .u32 (y 7 : Nat), .int .u32 (y 8 : Nat), .int .u16 (y 9 : Nat), .int .u16 (y 10 : Nat), .int .u32 (y 11 : Nat), .int .u32 (y 12 : Nat)] : Array Value)[2]? = some (.int .u32 (y 4 : Nat)) from rfl)
  have b2 := (blk_cell HO3.out 2).trans (show (#[.int .u16 (y 2 : Nat), .int .u16 (y 3 : Nat), .int .u32 (y 4 : Nat), .int .u32 (y 5 : Nat), .int .u32 (y 6 : Nat), .int .u32 (y 7 : Nat), .int .u32 (y 8 : Nat), .int .u16 (y 9 : Nat), .int .u16 (y 10 : Nat), .int .u32 (y 11 : Nat), .int .u32 (y 12 : Nat)] : Array Value)[2]? = some (.int .u32 (y 4 : Nat)) from rfl)
  have a3 := (blk_cell HO2.out 3).trans (show (#[.int .u16 (y 2 : Nat), .int .u16 (y 3 : Nat), .int .u32 (y 4 : Nat), .int .u32 (y 5 : Nat), .int .u32 (y 6 : Nat), .int .u32 (y 7 : Nat), .int .u32 (y 8 : Nat), .int .u16 (y 9 : Nat), .int .u16 (y 10 : Nat), .int .u32 (y 11 : Nat), .int .u32 (y 12 : Nat)] : Array Value)[3]? = some (.int .u32 (y 5 : Nat)) from rfl)
  have b3 := (blk_cell HO3.out 3).trans (show (#[.int .u16 (y 2 : Nat), .int .u16 (y 3 : Nat), .int .u32 (y 4 : Nat), .int .u32 (y 5 : Nat), .int .u32 (y 6 : Nat), .int .u32 (y 7 : Nat), .int .u32 (y 8 : Nat), .int .u16 (y 9 : Nat), .int .u16 (y 10 : Nat), .int .u32 (y 11 : Nat), .int .u32 (y 12 : Nat)] : Array Value)[3]? = some (.int .u32 (y 5 : Nat)) from rfl)
  have a4 := (blk_cell HO2.out 4).trans (show (#[.int .u16 (y 2 : Nat), .int .u16 (y 3 : Nat), .int .u32 (y 4 : Nat), .int .u32 (y 5 : Nat), .int .u32 (y 6 : Nat), .int .u32 (y 7 : Nat), .int .u32 (y 8 : Nat), .int .u16 (y 9 : Nat), .int .u16 (y 10 : Nat), .int .u32 (y 11 : Nat), .int .u32 (y 12 : Nat)] : Array Value)[4]? = some (.int .u32 (y 6 : Nat)) from rfl)
  have b4 := (blk_cell HO3.out 4).trans (show (#[.int .u16 (y 2 : Nat), .int .u16 (y 3 : Nat), .int .u32 (y 4 : Nat), .int .u32 (y 5 : Nat), .int .u32 (y 6 : Nat), .int .u32 (y 7 : Nat), .int .u32 (y 8 : Nat), .int .u16 (y 9 : Nat), .int .u16 (y 10 : Nat), .int .u32 (y 11 : Nat), .int .u32 (y 12 : Nat)] : Array Value)[4]? = some (.int .u32 (y 6 : Nat)) from rfl)
  have a5 := (blk_cell HO2.out 5).trans (show (#[.int .u16 (y 2 : Nat), .int .u16 (y 3 : Nat), .int .u32 (y 4 : Nat), .int .u32 (y 5 : Nat), .int .u32 (y 6 : Nat), .int .u32 (y 7 : Nat), .int .u32 (y 8 : Nat), .int .u16 (y 9 : Nat), .int .u16 (y 10 : Nat), .int .u32 (y 11 : Nat), .int .u32 (y 12 : Nat)] : Array Value)[5]? = some (.int .u32 (y 7 : Nat)) from rfl)
  have b5 := (blk_cell HO3.out 5).trans (show (#[.int .u16 (y 2 : Nat), .int .u16 (y 3 : Nat), .int .u32 (y 4 : Nat), .int .u32 (y 5 : Nat), .int .u32 (y 6 : Nat), .int .u32 (y 7 : Nat), .int .u32 (y 8 : Nat), .int .u16 (y 9 : Nat), .int .u16 (y 10 : Nat), .int .u32 (y 11 : Nat), .int .u32 (y 12 : Nat)] : Array Value)[5]? = some (.int .u32 (y 7 : Nat)) from rfl)
  have a6 := (blk_cell HO2.out 6).trans (show (#[.int .u16 (y 2 : Nat), .int .u16 (y 3 : Nat), .int .u32 (y 4 : Nat), .int .u32 (y 5 : Nat), .int .u32 (y 6 : Nat), .int .u32 (y 7 : Nat), .int .u32 (y 8 : Nat), .int .u16 (y 9 : Nat), .int .u16 (y 10 : Nat), .int .u32 (y 11 : Nat), .int .u32 (y 12 : Nat)] : Array Value)[6]? = some (.int .u32 (y 8 : Nat)) from rfl)
  have b6 := (blk_cell HO3.out 6).trans (show (#[.int .u16 (y 2 : Nat), .int .u16 (y 3 : Nat), .int .u32 (y 4 : Nat), .int .u32 (y 5 : Nat), .int .u32 (y 6 : Nat), .int .u32 (y 7 : Nat), .int .u32 (y 8 : Nat), .int .u16 (y 9 : Nat), .int .u16 (y 10 : Nat), .int .u32 (y 11 : Nat), .int .u32 (y 12 : Nat)] : Array Value)[6]? = some (.int .u32 (y 8 : Nat)) from rfl)
  have a7 := (blk_cell HO2.out 7).trans (show (#[.int .u16 (y 2 : Nat), .int .u16 (y 3 : Nat), .int .u32 (y 4 : Nat), .int .u32 (y 5 : Nat), .int .u32 (y 6 : Nat), .int .u32 (y 7 : Nat), .int .u32 (y 8 : Nat), .int .u16 (y 9 : Nat), .int .u16 (y 10 : Nat), .int .u32 (y 11 : Nat), .int .u32 (y 12 : Nat)] : Array Value)[7]? = some (.int .u16 (y 9 : Nat)) from rfl)
  have b7 := (blk_cell HO3.out 7).trans (show (#[.int .u16 (y 2 : Nat), .int .u16 (y 3 : Nat), .int .u32 (y 4 : Nat), .int .u32 (y 5 : Nat), .int .u32 (y 6 : Nat), .int .u32 (y 7 : Nat), .int .u32 (y 8 : Nat), .int .u16 (y 9 : Nat), .int .u16 (y 10 : Nat), .int .u32 (y 11 : Nat), .int .u32 (y 12 : Nat)] : Array Value)[7]? = some (.int .u16 (y 9 : Nat)) from rfl)
  have a8 := (blk_cell HO2.out 8).trans (show (#[.int .u16 (y 2 : Nat), .int .u16 (y 3 : Nat), .int .u32 (y 4 : Nat), .int .u32 (y 5 : Nat), .int .u32 (y 6 : Nat), .int .u32 (y 7 : Nat), .int .u32 (y 8 : Nat), .int .u16 (y 9 : Nat), .int .u16 (y 10 : Nat), .int .u32 (y 11 : Nat), .int .u32 (y 12 : Nat)] : Array Value)[8]? = some (.int .u16 (y 10 : Nat)) from rfl)
  have b8 := (blk_cell HO3.out 8).trans (show (#[.int .u16 (y 2 : Nat), .int .u16 (y 3 : Nat), .int .u32 (y 4 : Nat), .int .u32 (y 5 : Nat), .int .u32 (y 6 : Nat), .int .u32 (y 7 : Nat), .int .u32 (y 8 : Nat), .int .u16 (y 9 : Nat), .int .u16 (y 10 : Nat), .int .u32 (y 11 : Nat), .int .u32 (y 12 : Nat)] : Array Value)[8]? = some (.int .u16 (y 10 : Nat)) from rfl)
  have a9 := (blk_cell HO2.out 9).trans (show (#[.int .u16 (y 2 : Nat), .int .u16 (y 3 : Nat), .int .u32 (y 4 : Nat), .int .u32 (y 5 : Nat), .int .u32 (y 6 : Nat), .int .u32 (y 7 : Nat), .int .u32 (y 8 : Nat), .int .u16 (y 9 : Nat), .int .u16 (y 10 : Nat), .int .u32 (y 11 : Nat), .int .u32 (y 12 : Nat)] : Array Value)[9]? = some (.int .u32 (y 11 : Nat)) from rfl)
  have b9 := (blk_cell HO3.out 9).trans (show (#[.int .u16 (y 2 : Nat), .int .u16 (y 3 : Nat), .int .u32 (y 4 : Nat), .int .u32 (y 5 : Nat), .int .u32 (y 6 : Nat), .int .u32 (y 7 : Nat), .int .u32 (y 8 : Nat), .int .u16 (y 9 : Nat), .int .u16 (y 10 : Nat), .int .u32 (y 11 : Nat), .int .u32 (y 12 : Nat)] : Array Value)[9]? = some (.int .u32 (y 11 : Nat)) from rfl)
  have a10 := (blk_cell HO2.out 10).trans (show (#[.int .u16 (y 2 : Nat), .int .u16 (y 3 : Nat), .int .u32 (y 4 : Nat), .int .u32 (y 5 : Nat), .int .u32 (y 6 : Nat), .int .u32 (y 7 : Nat), .int .u32 (y 8 : Nat), .int .u16 (y 9 : Nat), .int .u16 (y 10 : Nat), .int .u32 (y 11 : Nat), .int .u32 (y 12 : Nat)] : Array Value)[10]? = some (.int .u32 (y 12 : Nat)) from rfl)
  have b10 := (blk_cell HO3.out 10).trans (show (#[.int .u16 (y 2 : Nat), .int .u16 (y 3 : Nat), .int .u32 (y 4 : Nat), .int .u32 (y 5 : Nat), .int .u32 (y 6 : Nat), .int .u32 (y 7 : Nat), .int .u32 (y 8 : Nat), .int .u16 (y 9 : Nat), .int .u16 (y 10 : Nat), .int .u32 (y 11 : Nat), .int .u32 (y 12 : Nat)] : Array Value)[10]? = some (.int .u32 (y 12 : Nat)) from rfl)
  go_wp2_with fail
  refine (alive_calls _).mono ?_
  rintro e0 w9 ⟨rfl, hB9⟩
  go_wp2
  go_ret
  exact ⟨rfl, below_then HB2.out HB2.out.size hB9⟩
end Go.Proofs.Ythdemajmlidefaa.Ck
