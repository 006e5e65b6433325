/- One parameter is read: walked. -/
import Derived.Test.YtjlgddmcjccbeaaParD
import Derived.Test.YtjlgddmcjccbeaaCrcC
namespace Go.Proofs.Ytjlgddmcjccbeaa.ParDec
open Go.RowKit Go.Proofs.YtjlgddmcjccbeaaW.PrintWords Go.Proofs.Ytjlgddmcjccbeaa.PParamCauses Go.Proofs.Ytjlgddmcjccbeaa.ParCauses Go.Proofs.Ytjlgddmcjccbeaa.Base
set_option linter.unusedVariables false
set_option linter.unusedSimpArgs false

def nI (l : List UInt8) (p : Nat) : Nat := (l.getD p 0).toNat * 256 + (l.getD (p + 1) 0).toNat
/-- What the next parameter is, or the fault. -/
def stepD (l : List UInt8) (p m : Nat) : Except Int (S36 × Nat) :=
  if m = 256 then .error 3
  else if l.length - p < 4 then .error 50
  else if nI l (p + 2) < 4 ∨ l.length - p < nI l (p + 2) then .error 50
  else .ok (⟨(nI l p : Int), ((l.drop (p + 4)).take (nI l (p + 2) - 4)).map fun b => (b.toNat : Int)⟩, p + min ((nI l (p + 2) + 3) / 4 * 4) (l.length - p))
def faultV (p : Nat) (code : Int) : Value := .iface 57 (.agg #[.int .i64 (p : Int), .int .i64 code])
def NextPost (w : World) (base g : Nat) (A : Option Addr) (l : List UInt8) (c p : Nat) (ps : List S36) (e : Ending) (w' : World) : Prop :=
  match stepD l p ps.length with
  | .error code => e = .panicked [{ v := faultV p code, recovered := false }] ∧ Drawn0 w w'
  | .ok (q, p') => e = .returned (.tuple #[]) ∧ ∃ v', LS w' g A l.length c p' v' ∧ Kd.R k36 36 w' base (fun k => k ≠ g) v' (ps ++ [q]) ∧ Below base w w'
theorem next_fault (w : World) (base g : Nat) (A : Option Addr) (l : List UInt8) (c p : Nat) (v : Value) (ps : List S36) (hs : LS w g A l.length c p v) (hR : Kd.R k36 36 w base (fun k => k ≠ g) v ps) (hb : byte.C w A l.length l) (hp : p < l.length) (hn : l.length ≤ 140737488355328) (hl : ps.length ≤ 256) (hg : base ≤ g) (hgw : base ≤ w.heap.size) (code : Int) (he : stepD l p ps.length = .error code) :
    Calls Try.prog 35 #[.pointer (some ⟨g, 0, none⟩)] w fun e w' => e = .panicked [{ v := faultV p code, recovered := false }] ∧ Drawn0 w w' := by
  have k0 : w.cell? ⟨g, 0, none⟩ = some (.slice A l.length c) := blk_cell hs.out 0
  have k1 : w.cell? ⟨g, 1, none⟩ = some (.int .i64 (p : Int)) := blk_cell hs.out 1
  have k2 : w.cell? ⟨g, 2, none⟩ = some v := blk_cell hs.out 2
  obtain ⟨Av, cv, rfl⟩ := Kd.R_slice hR
  unfold stepD at he
  by_cases h1 : ps.length = 256
  · rw [if_pos h1] at he
    injection he with he
    subst he
    have h1' : (ps.length : Int) = 256 := by omega
    go_enter Try.func35, Try.ntmps35
    go_wp2_with fail
    refine (fail_calls _ g p 3 k1).mono ?_
    rintro e w' ⟨rfl, rfl⟩
    exact ⟨rfl, rfl, Drawn0.refl _⟩
  · rw [if_neg h1] at he
    have h1' : ¬ (ps.length : Int) = 256 := by omega
    by_cases h2 : l.length - p < 4
    · rw [if_pos h2] at he
      injection he with he
      subst he
      have hlf := left_calls w g A l.length c p k0 k1 (by omega) hn
      have h2' : ((l.length - p : Nat) : Int) < 4 := by omega
      generalize l.length - p = d at *
      go_enter Try.func35, Try.ntmps35
      go_wp2_with fail
      refine hlf.mono ?_
      rintro e w' ⟨rfl, ⟨m, rfl⟩⟩
      go_wp2_with fail
      refine (fail_calls (w.drewN m) g p 50 k1).mono ?_
      rintro e w' ⟨rfl, rfl⟩
      exact ⟨rfl, rfl, drawn2 ⟨_, rfl⟩⟩
    · rw [if_neg h2] at he
      have hlf := fun q : Nat => left_calls (w.drewN q) g A l.length c p k0 k1 (by omega) hn
      have hsh := fun q : Nat => short_calls (w.drewN q) g A l c p 2 k0 k1 (Kd.C_drewN hb q) (by omega) hn
      have h2' : ¬ ((l.length - p : Nat) : Int) < 4 := by omega
      have hd : l.length - p ≤ 140737488355328 := by omega
      have hsn : (l.getD (p + 2) 0).toNat * 256 + (l.getD (p + 2 + 1) 0).toNat = nI l (p + 2) := rfl
      rw [hsn] at hsh
      generalize l.length - p = d at *
      by_cases h3 : nI l (p + 2) < 4
      · rw [if_pos (Or.inl h3)] at he
        injection he with he
        subst he
        have h3' : ((nI l (p + 2) : Nat) : Int) < 4 := by omega
        generalize nI l (p + 2) = x at *
        go_enter Try.func35, Try.ntmps35
        go_wp2_with fail
        refine (hlf 0).mono ?_
        rintro e w' ⟨rfl, ⟨m, rfl⟩⟩
        rw [World.drewN_drewN]
        go_wp2_with fail
        refine (hsh _).mono ?_
        rintro e w' ⟨rfl, ⟨m2, rfl⟩⟩
        rw [World.drewN_drewN]
        go_wp2_with fail
        refine (fail_calls (w.drewN _) g p 50 k1).mono ?_
        rintro e w' ⟨rfl, rfl⟩
        exact ⟨rfl, rfl, drawn2 ⟨_, rfl⟩⟩
      · have h4 : d < nI l (p + 2) := by
          refine Classical.byContradiction fun h5 => ?_
          rw [if_neg (by omega)] at he
          cases he
        rw [if_pos (Or.inr h4)] at he
        injection he with he
        subst he
        have h3' : ¬ ((nI l (p + 2) : Nat) : Int) < 4 := by omega
        have h4' : (d : Int) < ((nI l (p + 2) : Nat) : Int) := by omega
        generalize nI l (p + 2) = x at *
        go_enter Try.func35, Try.ntmps35
        go_wp2_with fail
        refine (hlf 0).mono ?_
        rintro e w' ⟨rfl, ⟨m, rfl⟩⟩
        rw [World.drewN_drewN]
        go_wp2_with fail
        refine (hsh _).mono ?_
        rintro e w' ⟨rfl, ⟨m2, rfl⟩⟩
        rw [World.drewN_drewN]
        go_wp2_with fail
        refine (hlf _).mono ?_
        rintro e w' ⟨rfl, ⟨m3, rfl⟩⟩
        rw [World.drewN_drewN]
        go_wp2_with fail
        refine (fail_calls (w.drewN _) g p 50 k1).mono ?_
        rintro e w' ⟨rfl, rfl⟩
        exact ⟨rfl, rfl, drawn2 ⟨_, rfl⟩⟩
end Go.Proofs.Ytjlgddmcjccbeaa.ParDec
