/- The cookie that is good for sixty: walked. -/
import Derived.Test.YthdemajmlidefaaCkN
namespace Go.Proofs.Ythdemajmlidefaa.Ck
open Go.RowKit Go.Proofs.YthdemajmlidefaaW.PrintWords Go.Proofs.YthdemajmlidefaaW.PrintLast Go.Proofs.Ythdemajmlidefaa.Base Go.Proofs.Ythdemajmlidefaa.Mac
set_option linter.unusedVariables false
set_option linter.unusedSimpArgs false
theorem chk_make (k : List UInt8) (x : Nat → Nat) (now : Int) (ht : timeB now = true) (h0 : x 0 ≤ 1099511627776) (h1 : 1 ≤ x 1) (h2 : x 1 ≤ 2147483648) (hx : ∀ i, i < 13 → x i < 256 ^ nF i) :
    chkA k (makeL k x) now = if now > (x 0 : Nat) + (x 1 : Nat) then (zF, now - (x 0 : Nat) - (x 1 : Nat), 211) else (valF (makeL k x), 0, 0) := by
  have hs : sealOk k (makeL k x) = true := by unfold sealOk; rw [make_text, make_sealed]; exact decide_eq_true rfl
  unfold chkA chkS
  rw [ht, make_look k x h0 h1 h2 hx, hs, if_neg (by decide), if_neg (by decide), if_neg (by decide), val_make k x hx 0 (by decide), val_make k x hx 1 (by decide)]
def alX : Nat → Nat
  | 0 => 100
  | 1 => 60
  | 4 => 7
  | 7 => 9
  | _ => 0
def alK : List UInt8 := [1, 0, 0, 0, 0, 0, 0, 0, 0, 0, 0, 0, 0, 0, 0, 0]
theorem alX_fit : ∀ i, i < 13 → alX i < 256 ^ nF i := by
  intro i hi
  match i, hi with
  | 0, _ | 1, _ | 2, _ | 3, _ | 4, _ | 5, _ | 6, _ | 7, _ | 8, _ | 9, _ | 10, _ | 11, _ | 12, _ => decide
theorem size_calls (w : World) : Calls Try.prog 24 #[] w fun e w' => e = .returned (.int .i64 56) ∧ w = w' := by
  go_enter Try.func24, Try.ntmps24
  go_wp2
  go_ret
  exact ⟨rfl, rfl⟩
set_option maxRecDepth 100000 in
set_option maxHeartbeats 1000000 in
theorem alive_calls (w : World) : Calls Try.prog 10 #[] w fun e w' => e = .returned (.bool true) ∧ Below w.heap.size w w' := by
  have HM := Lib.hid (fun W : World => make_good W alK rfl alX (by decide) (by decide) (by decide) alX_fit)
  have HCH := Lib.hid (fun (W : World) (A : Option Addr) (c : Nat) (h : byte.C W A (makeL alK alX).length (makeL alK alX)) (hc : (makeL alK alX).length ≤ c) => (show Calls Try.prog 11 #[.agg (keyV alK), .int .i64 160, .slice A (makeL alK alX).length c] W fun e W' => e = .returned (.tuple #[.agg #[.int .u16 0, .int .u16 0, .int .u32 7, .int .u32 0, .int .u32 0, .int .u32 9, .int .u32 0, .int .u16 0, .int .u16 0, .int .u32 0, .int .u32 0], .int .i64 0, .int .i64 0]) ∧ Below W.heap.size W W' from by
    have := check_calls W alK rfl A c _ h hc 160
    rw [chk_make alK alX 160 (by decide) (by decide) (by decide) (by decide) alX_fit, if_neg (by decide)] at this
    unfold ChkP at this
    rw [make_off alK alX alX_fit] at this
    exact this))
  have HCH2 := Lib.hid (fun (W : World) (A : Option Addr) (c : Nat) (h : byte.C W A (makeL alK alX).length (makeL alK alX)) (hc : (makeL alK alX).length ≤ c) => (show Calls Try.prog 11 #[.agg (keyV alK), .int .i64 161, .slice A (makeL alK alX).length c] W fun e W' => e = .returned (.tuple #[.agg #[.int .u16 0, .int .u16 0, .int .u32 0, .int .u32 0, .int .u32 0, .int .u32 0, .int .u32 0, .int .u16 0, .int .u16 0, .int .u32 0, .int .u32 0], .int .i64 1, .int .i64 211]) ∧ Below W.heap.size W W' from by
    have := check_calls W alK rfl A c _ h hc 161
    rw [chk_make alK alX 161 (by decide) (by decide) (by decide) (by decide) alX_fit, if_pos (by decide)] at this
    exact this))
  unfold MakeP at HM
  have hl := make_length alK alX
  generalize makeL alK alX = L at *
  have HLEN := Lib.hid hl
  have hle : (L.length == 56) = true := by rw [hl]; rfl
  have hlei : ((L.length : Int) == 56) = true := by rw [hl]; rfl
  generalize hN : L.length = N at *
  clear hl
  have HO := Lib.hid (blk_new w (.cells #[.int .u16 0, .int .u16 0, .int .u32 7, .int .u32 0, .int .u32 0, .int .u32 9, .int .u32 0, .int .u16 0, .int .u16 0, .int .u32 0, .int .u32 0] 27))
  have HB := Lib.hid (below_alloc (Below.refl w.heap.size w) (.cells #[.int .u16 0, .int .u16 0, .int .u32 7, .int .u32 0, .int .u32 0, .int .u32 9, .int .u32 0, .int .u16 0, .int .u16 0, .int .u32 0, .int .u32 0] 27))
  go_enter Try.func10, Try.ntmps10
  go_wp2_with (refine wpList_load_row rfl 27 _ rfl w.heap.size rfl 27 #[.int .u16 0, .int .u16 0, .int .u32 7, .int .u32 0, .int .u32 0, .int .u32 9, .int .u32 0, .int .u16 0, .int .u16 0, .int .u32 0, .int .u32 0] (0, 0) _ HO.out Try.underlying27 rfl (by kernel_rfl) ?_)
  refine (HM.out _).mono ?_
  rintro e w1 ⟨v1, rfl, hR, hB1⟩
  obtain ⟨A1, c1, rfl, hle1, hC1⟩ := Kd.R_reads hR
  rw [hN] at hle1 hC1 ⊢
  replace HO := Lib.hid (blk_below HO.out hB1)
  replace HB := Lib.hid (below_then HB.out HB.out.size hB1)
  have HC := Lib.hid hC1
  clear hR hB1 hC1
  go_wp2_with fail
  refine (HCH.out _ A1 c1 HC.out hle1).mono ?_
  rintro e w2 ⟨rfl, hB2⟩
  replace HO := Lib.hid (blk_alloc (blk_below HO.out hB2) (.cells #[.int .u16 0, .int .u16 0, .int .u32 7, .int .u32 0, .int .u32 0, .int .u32 9, .int .u32 0, .int .u16 0, .int .u16 0, .int .u32 0, .int .u32 0] 27))
  have HO4 := Lib.hid (blk_new w2 (.cells #[.int .u16 0, .int .u16 0, .int .u32 7, .int .u32 0, .int .u32 0, .int .u32 9, .int .u32 0, .int .u16 0, .int .u16 0, .int .u32 0, .int .u32 0] 27))
  replace HB := Lib.hid ((below_then HB.out HB.out.size hB2).alloc (below_then HB.out HB.out.size hB2).size (.cells #[.int .u16 0, .int .u16 0, .int .u32 7, .int .u32 0, .int .u32 0, .int .u32 9, .int .u32 0, .int .u16 0, .int .u16 0, .int .u32 0, .int .u32 0] 27))
  replace HC := Lib.hid (Kd.C_alloc (Kd.C_below HC.out hB2) (.cells #[.int .u16 0, .int .u16 0, .int .u32 7, .int .u32 0, .int .u32 0, .int .u32 9, .int .u32 0, .int .u16 0, .int .u16 0, .int .u32 0, .int .u32 0] 27))
  clear hB2
  go_wp2_with fail
  refine (HCH2.out _ A1 c1 HC.out hle1).mono ?_
  rintro e w3 ⟨rfl, hB3⟩
  replace HO := Lib.hid (blk_alloc (blk_below HO.out hB3) (.cells #[.int .u16 0, .int .u16 0, .int .u32 0, .int .u32 0, .int .u32 0, .int .u32 0, .int .u32 0, .int .u16 0, .int .u16 0, .int .u32 0, .int .u32 0] 27))
  replace HO4 := Lib.hid (blk_alloc (blk_below HO4.out hB3) (.cells #[.int .u16 0, .int .u16 0, .int .u32 0, .int .u32 0, .int .u32 0, .int .u32 0, .int .u32 0, .int .u16 0, .int .u16 0, .int .u32 0, .int .u32 0] 27))
  replace HB := Lib.hid ((below_then HB.out HB.out.size hB3).alloc (below_then HB.out HB.out.size hB3).size (.cells #[.int .u16 0, .int .u16 0, .int .u32 0, .int .u32 0, .int .u32 0, .int .u32 0, .int .u32 0, .int .u16 0, .int .u16 0, .int .u32 0, .int .u32 0] 27))
  clear hB3 HC HCH HCH2 HM
  have a0 := (blk_cell HO.out 0).trans (show (#[.int .u16 0, .int .u16 0, .int .u32 7, .int .u32 0, .int .u32 0, .int .u32 9, .int .u32 0, .int .u16 0, .int .u16 0, .int .u32 0, .int .u32 0] : Array Value)[0]? = some (.int .u16 0) from rfl)
  have b0 := (blk_cell HO4.out 0).trans (show (#[.int .u16 0, .int .u16 0, .int .u32 7, .int .u32 0, .int .u32 0, .int .u32 9, .int .u32 0, .int .u16 0, .int .u16 0, .int .u32 0, .int .u32 0] : Array Value)[0]? = some (.int .u16 0) from rfl)
  have a1 := (blk_cell HO.out 1).trans (show (#[.int .u16 0, .int .u16 0, .int .u32 7, .int .u32 0, .int .u32 0, .int .u32 9, .int .u32 0, .int .u16 0, .int .u16 0, .int .u32 0, .int .u32 0] : Array Value)[1]? = some (.int .u16 0) from rfl)
  have b1 := (blk_cell HO4.out 1).trans (show (#[.int .u16 0, .int .u16 0, .int .u32 7, .int .u32 0, .int .u32 0, .int .u32 9, .int .u32 0, .int .u16 0, .int .u16 0, .int .u32 0, .int .u32 0] : Array Value)[1]? = some (.int .u16 0) from rfl)
  have a2 := (blk_cell HO.out 2).trans (show (#[.int .u16 0, .int .u16 0, .int .u32 7, .int .u32 0, .int .u32 0, .int .u32 9, .int .u32 0, .int .u16 0, .int .u16 0, .int .u32 0, .int .u32 0] : Array Value)[2]? = some (.int .u32 7) from rfl)
  have b2 := (blk_cell HO4.out 2).trans (show (#[.int .u16 0, .int .u16 0, .int .u32 7, .int .u32 0, .int .u32 0, .int .u32 9, .int .u32 0, .int .u16 0, .int .u16 0, .int .u32 0, .int .u32 0] : Array Value)[2]? = some (.int .u32 7) from rfl)
  have a3 := (blk_cell HO.out 3).trans (show (#[.int .u16 0, .int .u16 0, .int .u32 7, .int .u32 0, .int .u32 0, .int .u32 9, .int .u32 0, .int .u16 0, .int .u16 0, .int .u32 0, .int .u32 0] : Array Value)[3]? = some (.int .u32 0) from rfl)
  have b3 := (blk_cell HO4.out 3).trans (show (#[.int .u16 0, .int .u16 0, .int .u32 7, .int .u32 0, .int .u32 0, .int .u32 9, .int .u32 0, .int .u16 0, .int .u16 0, .int .u32 0, .int .u32 0] : Array Value)[3]? = some (.int .u32 0) from rfl)
  have a4 := (blk_cell HO.out 4).trans (show (#[.int .u16 0, .int .u16 0, .int .u32 7, .int .u32 0, .int .u32 0, .int .u32 9, .int .u32 0, .int .u16 0, .int .u16 0, .int .u32 0, .int .u32 0] : Array Value)[4]? = some (.int .u32 0) from rfl)
  have b4 := (blk_cell HO4.out 4).trans (show (#[.int .u16 0, .int .u16 0, .int .u32 7, .int .u32 0, .int .u32 0, .int .u32 9, .int .u32 0, .int .u16 0, .int .u16 0, .int .u32 0, .int .u32 0] : Array Value)[4]? = some (.int .u32 0) from rfl)
  have a5 := (blk_cell HO.out 5).trans (show (#[.int .u16 0, .int .u16 0, .int .u32 7, .int .u32 0, .int .u32 0, .int .u32 9, .int .u32 0, .int .u16 0, .int .u16 0, .int .u32 0, .int .u32 0] : Array Value)[5]? = some (.int .u32 9) from rfl)
  have b5 := (blk_cell HO4.out 5).trans (show (#[.int .u16 0, .int .u16 0, .int .u32 7, .int .u32 0, .int .u32 0, .int .u32 9, .int .u32 0, .int .u16 0, .int .u16 0, .int .u32 0, .int .u32 0] : Array Value)[5]? = some (.int .u32 9) from rfl)
  have a6 := (blk_cell HO.out 6).trans (show (#[.int .u16 0, .int .u16 0, .int .u32 7, .int .u32 0, .int .u32 0, .int .u32 9, .int .u32 0, .int .u16 0, .int .u16 0, .int .u32 0, .int .u32 0] : Array Value)[6]? = some (.int .u32 0) from rfl)
  have b6 := (blk_cell HO4.out 6).trans (show (#[.int .u16 0, .int .u16 0, .int .u32 7, .int .u32 0, .int .u32 0, .int .u32 9, .int .u32 0, .int .u16 0, .int .u16 0, .int .u32 0, .int .u32 0] : Array Value)[6]? = some (.int .u32 0) from rfl)
  have a7 := (blk_cell HO.out 7).trans (show (#[.int .u16 0, .int .u16 0, .int .u32 7, .int .u32 0, .int .u32 0, .int .u32 9, .int .u32 0, .int .u16 0, .int .u16 0, .int .u32 0, .int .u32 0] : Array Value)[7]? = some (.int .u16 0) from rfl)
  have b7 := (blk_cell HO4.out 7).trans (show (#[.int .u16 0, .int .u16 0, .int .u32 7, .int .u32 0, .int .u32 0, .int .u32 9, .int .u32 0, .int .u16 0, .int .u16 0, .int .u32 0, .int .u32 0] : Array Value)[7]? = some (.int .u16 0) from rfl)
  have a8 := (blk_cell HO.out 8).trans (show (#[.int .u16 0, .int .u16 0, .int .u32 7, .int .u32 0, .int .u32 0, .int .u32 9, .int .u32 0, .int .u16 0, .int .u16 0, .int .u32 0, .int .u32 0] : Array Value)[8]? = some (.int .u16 0) from rfl)
  have b8 := (blk_cell HO4.out 8).trans (show (#[.int .u16 0, .int .u16 0, .int .u32 7, .int .u32 0, .int .u32 0, .int .u32 9, .int .u32 0, .int .u16 0, .int .u16 0, .int .u32 0, .int .u32 0] : Array Value)[8]? = some (.int .u16 0) from rfl)
  have a9 := (blk_cell HO.out 9).trans (show (#[.int .u16 0, .int .u16 0, .int .u32 7, .int .u32 0, .int .u32 0, .int .u32 9, .int .u32 0, .int .u16 0, .int .u16 0, .int .u32 0, .int .u32 0] : Array Value)[9]? = some (.int .u32 0) from rfl)
  have b9 := (blk_cell HO4.out 9).trans (show (#[.int .u16 0, .int .u16 0, .int .u32 7, .int .u32 0, .int .u32 0, .int .u32 9, .int .u32 0, .int .u16 0, .int .u16 0, .int .u32 0, .int .u32 0] : Array Value)[9]? = some (.int .u32 0) from rfl)
  have a10 := (blk_cell HO.out 10).trans (show (#[.int .u16 0, .int .u16 0, .int .u32 7, .int .u32 0, .int .u32 0, .int .u32 9, .int .u32 0, .int .u16 0, .int .u16 0, .int .u32 0, .int .u32 0] : Array Value)[10]? = some (.int .u32 0) from rfl)
  have b10 := (blk_cell HO4.out 10).trans (show (#[.int .u16 0, .int .u16 0, .int .u32 7, .int .u32 0, .int .u32 0, .int .u32 9, .int .u32 0, .int .u16 0, .int .u16 0, .int .u32 0, .int .u32 0] : Array Value)[10]? = some (.int .u32 0) from rfl)
  go_wp2_with (go_at_call 24; refine (size_calls _).mono ?_; rintro e w' ⟨rfl, rfl⟩)
  go_ret
  exact ⟨rfl, HB.out⟩
end Go.Proofs.Ythdemajmlidefaa.Ck
