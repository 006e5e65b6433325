/- Lists of parameters handed in; the statement ParamEncodes' walk. -/
import Derived.Test.YtjlgddmcjccbeaaOpens
import Derived.Test.YtjlgddmcjccbeaaParPure
namespace Go.Proofs.Ytjlgddmcjccbeaa.ParPure
open Go.RowKit Go.Proofs.YtjlgddmcjccbeaaW.PrintWords Go.Proofs.Ytjlgddmcjccbeaa.Base Go.Proofs.Ytjlgddmcjccbeaa.PParamEncodes
theorem open_u16 : Opens 34 (Kd.int .u16) (fun _ => 1) := Opens.int (fun n => n) Try.underlying34 (fun n _ => rfl)
theorem open_u8 : Opens 5 (Kd.int .u8) (fun _ => 1) := Opens.int (fun n => n) Try.underlying5 (fun n _ => rfl)
theorem open_body : Opens 23 (Kd.slice 5 (Kd.int .u8)) (fun xs => (xs.map fun _ => 1).sum + 1) := Opens.slice open_u8 Try.underlying23 (by kernel_rfl)
theorem open_prm : Opens 36 k36 (fun x => 1 + ((x.f1.map fun _ => 1).sum + 1) + 1) :=
  Opens.iso (Opens.pair2 Try.underlying36 rfl rfl (by kernel_rfl) (by kernel_rfl) (by kernel_rfl) open_u16 open_body) (fun x : S36 => (x.f0, x.f1)) (fun q => ⟨q.1, q.2⟩) (fun _ => rfl)
theorem open_prms : Opens 22 (Kd.slice 36 k36) (fun xs => (xs.map fun x : S36 => 1 + ((x.f1.map fun _ => 1).sum + 1) + 1).sum + 1) := Opens.slice open_prm Try.underlying22 (by kernel_rfl)
theorem paramEncodes_row {w : World} (A : Option Addr) (c : Nat) (ps : List S36) (hp : Kd.C k36 w A ps.length ps) (hc : ps.length ≤ c) :
    Calls Try.prog 3 #[.slice A ps.length c] w fun e w' => e = .returned (.bool true) ∧ Below w.heap.size w w' := by
  obtain ⟨k, hk⟩ := paramEncodes_true ps
  exact ropewalklaw05_ParamEncodes.calls k A c ps true w hp hc hk
end Go.Proofs.Ytjlgddmcjccbeaa.ParPure
