/- The first parameter of a type; lists that are alike: walked. -/
import Derived.Test.YtjlgddmcjccbeaaParBackLaw
import Derived.Test.YtjlgddmcjccbeaaCrcC
namespace Go.Proofs.Ytjlgddmcjccbeaa.ParDec
open Go.RowKit Go.Proofs.YtjlgddmcjccbeaaW.PrintWords Go.Proofs.Ytjlgddmcjccbeaa.PParamCauses Go.Proofs.Ytjlgddmcjccbeaa.ParCauses Go.Proofs.Ytjlgddmcjccbeaa.Base
set_option linter.unusedVariables false
set_option linter.unusedSimpArgs false
abbrev Prm := UInt16 × List UInt8
def zP : Prm := (0, [])
theorem at_prm {w : World} {A : Option Addr} {n : Nat} {qs : List Prm} (h : Kd.C prmK w A n qs) (i : Nat) (hi : i < n) :
    ∃ ad B d, A = some ad ∧ w.cell? (ad.add (i * 2)) = some (.int .u16 ((qs.getD i zP).1.toNat : Int)) ∧ w.cell? ⟨(ad.add (i * 2)).block, (ad.add (i * 2)).off + 1, none⟩ = some (.slice B (qs.getD i zP).2.length d) ∧ (qs.getD i zP).2.length ≤ d ∧ byte.C w B (qs.getD i zP).2.length (qs.getD i zP).2 := by
  obtain ⟨ad, c, e, hl, ⟨c0, c1, rfl, k0, B, d, rfl, hle, hB⟩, hc⟩ := Kd.C_get h zP (i : Int) (by omega) (by omega)
  obtain rfl : c0 = [_] := k0
  rw [Int.toNat_natCast] at *
  have h0 := hc 0 _ rfl
  have h1 := hc 1 _ rfl
  exact ⟨ad, B, d, e, h0, by rw [← add_field _ _ 1 (by omega)]; exact h1, hle, hB⟩
def prmV (q : Prm) (B : Option Addr) (d : Nat) : Value := .agg #[.int .u16 (q.1.toNat : Int), .slice B q.2.length d]
theorem u16_eq (a b : UInt16) : decide ((a.toNat : Int) = (b.toNat : Int)) = decide (a = b) := by
  by_cases h : a = b
  · subst h; simp
  · have : ¬ (a.toNat : Int) = (b.toNat : Int) := fun e => h (UInt16.toNat_inj.1 (by omega))
    rw [decide_eq_false this, decide_eq_false h]
/-- The closure of Same. -/
theorem same1_calls (p q : Prm) (B B' : Option Addr) (d d' : Nat) (w : World) (hb : byte.C w B p.2.length p.2) (hb' : byte.C w B' q.2.length q.2) :
    Calls Try.prog 40 #[prmV p B d, prmV q B' d'] w fun e w' => e = .returned (.bool (decide (p = q))) ∧ Below w.heap.size w w' := by
  have HB := Lib.hid hb
  have HB' := Lib.hid hb'
  clear hb hb'
  unfold prmV
  by_cases h : p.1 = q.1
  · have hq : decide (p = q) = decide (p.2 = q.2) := by
      by_cases h2 : p.2 = q.2
      · rw [decide_eq_true (Prod.ext h h2), decide_eq_true h2]
      · rw [decide_eq_false (fun e => h2 (congrArg Prod.snd e)), decide_eq_false h2]
    rw [hq, h]
    have HE := Lib.hid (fun (W : World) (g : byte.C W B p.2.length p.2) (g' : byte.C W B' q.2.length q.2) => equal_calls B B' d d' p.2 q.2 W g g')
    clear h hq
    generalize (q.1.toNat : Int) = t at *
    generalize decide (p.2 = q.2) = r at *
    generalize p.2.length = n at *
    generalize q.2.length = n' at *
    go_enter Try.func40, Try.ntmps40
    go_wp2_with fail
    refine (HE.out _ (Kd.C_alloc (Kd.C_alloc HB.out _) _) (Kd.C_alloc (Kd.C_alloc HB'.out _) _)).mono ?_
    rintro e w1 ⟨rfl, ⟨m, rfl⟩⟩
    go_wp2
    go_ret
    exact ⟨rfl, pw_below_drewN (below_alloc (below_alloc (Below.refl _ _) _) _) m⟩
  · have hq : decide (p = q) = false := decide_eq_false (fun e => h (congrArg Prod.fst e))
    have ht : ((p.1.toNat : Int) == (q.1.toNat : Int)) = false := by
      have : ¬ (p.1.toNat : Int) = (q.1.toNat : Int) := fun e => h (UInt16.toNat_inj.1 (by omega))
      simpa using this
    rw [hq]
    clear h hq
    generalize (p.1.toNat : Int) = t at *
    generalize (q.1.toNat : Int) = t' at *
    generalize p.2.length = n at *
    generalize q.2.length = n' at *
    go_enter Try.func40, Try.ntmps40
    go_wp2
    go_ret
    exact ⟨rfl, below_alloc (below_alloc (Below.refl _ _) _) _⟩
/-- The closure of Find. -/
theorem find1_calls (p : Prm) (B : Option Addr) (d g : Nat) (kind : UInt16) (w : World) (hg : w.cell? ⟨g, 0, none⟩ = some (.int .u16 (kind.toNat : Int))) :
    Calls Try.prog 37 #[prmV p B d, .pointer (some ⟨g, 0, none⟩)] w fun e w' => e = .returned (.bool (decide (p.1 = kind))) ∧ Below w.heap.size w w' := by
  have hlt := World.block_lt_of_cell? w _ hg
  have hk : (w.alloc (.cells #[.int .u16 (p.1.toNat : Int), .slice B p.2.length d] 36)).cell? ⟨g, 0, none⟩ = some (.int .u16 (kind.toNat : Int)) := pw_cell_below (below_alloc (Below.refl _ _) _) hg
  have hr : ((p.1.toNat : Int) == (kind.toNat : Int)) = decide (p.1 = kind) := by
    rw [← u16_eq]
    rfl
  unfold prmV
  generalize decide (p.1 = kind) = r at *
  generalize (p.1.toNat : Int) = t at *
  generalize (kind.toNat : Int) = t' at *
  clear hg
  go_enter Try.func37, Try.ntmps37
  go_wp2
  go_ret
  exact ⟨by first | rfl | rw [hr], below_alloc (Below.refl _ _) _⟩
end Go.Proofs.Ytjlgddmcjccbeaa.ParDec
