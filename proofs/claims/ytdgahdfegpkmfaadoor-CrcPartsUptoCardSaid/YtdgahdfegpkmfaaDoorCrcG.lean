/- What the listed table gives the walks; the walks as the rows ask for them. -/
import Derived.Test.YtdgahdfegpkmfaaDoorCrcK
import Derived.Test.YtdgahdfegpkmfaaDoorOpen
namespace Go.Proofs.YtdgahdfegpkmfaaDoor.Crc
open Go.RowKit Go.Proofs.YtdgahdfegpkmfaaDoorW.PrintWords Go.Proofs.YtdgahdfegpkmfaaDoor.Base CrcMath
theorem gSteps : Tryd.prog.globalNamed "ropewalk/crc.steps" = some 0 := by kernel_rfl
theorem gStepsType : (Tryd.prog.globals[0]?).map (·.type) = some 40 := by kernel_rfl
theorem cells16 : Tryd.prog.cellsOf 40 = 16 := by kernel_rfl
theorem cells32 : Tryd.prog.cellsOf 23 = 1 := by kernel_rfl
theorem table_of {W : World} (h : laidMetH Tryd.prog [("ropewalk/crc.steps", Rows.laid_ropewalk_crc_steps)] W) : Table W := by
  have ht : Lib.TabIs Tryd.prog W "ropewalk/crc.steps" .u32 [0, 274646895, 549293790, 820201905, 1098587580, 1361435347, 1640403810, 1905808397, 2197175160, 2460548119, 2722870694, 2987750089, 3280807620, 3553878443, 3811616794, 4084100981] :=
    Lib.tabIs_of_head (rest := []) gSteps gStepsType Tryd.underlying40 Tryd.underlying23 cells32 cells16 h
  refine ⟨fun i hi => ?_⟩
  have := ht.cell gSteps i (by simpa using hi)
  rw [this]
  have hn : ∀ i : Nat, i < 16 → ([0, 274646895, 549293790, 820201905, 1098587580, 1361435347, 1640403810, 1905808397, 2197175160, 2460548119, 2722870694, 2987750089, 3280807620, 3553878443, 3811616794, 4084100981] : List Int).getD i 0 = (nib i : Int) := by decide +kernel
  rw [← hn i hi]
theorem crcSums_row {W : World} (a0 : Option Addr) (cap0 : Nat) (l0 : List UInt8) (hb : byte.C W a0 l0.length l0) (hc : l0.length ≤ cap0) (hm : cap0 ≤ 140737488351232) (a1 : Int) (w1 : (Lit.int .u32 a1).wf = true) (ht : Table W) :
    Calls Tryd.prog 3 #[.slice a0 l0.length cap0, .int .u32 a1] W fun e w' => e = .returned (.bool true) ∧ Below W.heap.size W w' := by
  obtain ⟨r, rfl, hr⟩ := nat_of_u32 w1
  exact crcSums_walk a0 cap0 l0 r hr W ht hb hc
end Go.Proofs.YtdgahdfegpkmfaaDoor.Crc
