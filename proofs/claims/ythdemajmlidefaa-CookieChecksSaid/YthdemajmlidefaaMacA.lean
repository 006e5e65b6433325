/- The rounds of a seal. -/
import Derived.Test.YthdemajmlidefaaBase
import Derived.RegionTactic
import Derived.ChangeAlike
import Derived.BigRegion
import Derived.StillTailTactics
namespace Go.Proofs.Ythdemajmlidefaa.Mac
open Go.RowKit Go.Proofs.YthdemajmlidefaaW.PrintWords Go.Proofs.Ythdemajmlidefaa.Base
set_option linter.unusedVariables false
set_option linter.unusedSimpArgs false

/-- A number turned to the left. -/
def rol (x : UInt64) (k : Nat) : UInt64 := UInt64.ofNat ((x.toNat * 2 ^ k % 18446744073709551616) ||| (x.toNat / 2 ^ (64 - k)))
theorem u64w (n : Int) : IntKind.u64.wrap n = n % 18446744073709551616 := by simp [IntKind.wrap, IntKind.bits, IntKind.signed]
theorem rol_eq (x : UInt64) (k : Nat) (hk : k < 64) (h0 : 0 < k) : bits .or .u64 (IntKind.u64.wrap ((x.toNat : Int) * 2 ^ k)) ((x.toNat : Int) / 2 ^ (64 - k)) = ((rol x k).toNat : Int) := by
  have hx := x.toNat_lt
  have h1 : x.toNat * 2 ^ k % 18446744073709551616 < 2 ^ 64 := Nat.mod_lt _ (by decide)
  have h2 : x.toNat / 2 ^ (64 - k) < 2 ^ 64 := Nat.lt_of_le_of_lt (Nat.div_le_self _ _) hx
  have e1 : IntKind.u64.wrap ((x.toNat : Int) * 2 ^ k) = ((x.toNat * 2 ^ k % 18446744073709551616 : Nat) : Int) := by
    rw [u64w]
    simp
  have e2 : ((x.toNat : Int) / 2 ^ (64 - k)) = ((x.toNat / 2 ^ (64 - k) : Nat) : Int) := by simp
  have h3 := (bits_nat .u64 64 (by decide) (fun n h0 h1 => by rw [u64w]; omega) _ _ h1 h2).2
  have h4 := Nat.or_lt_two_pow h1 h2
  rw [e1, e2, h3]
  unfold rol
  rw [UInt64.toNat_ofNat', Nat.mod_eq_of_lt h4]
theorem rol_calls (x : UInt64) (k : Nat) (j : Int) (hj : j = k) (h0 : 0 < k) (hk : k < 64) (w : World) :
    Calls Try.prog 62 #[.int .u64 (x.toNat : Int), .int .i64 j] w fun e w' => e = .returned (.int .u64 ((rol x k).toNat : Int)) ∧ w = w' := by
  subst hj
  have e := rol_eq x k hk h0
  have e63 : bits .and .u64 (k : Int) 63 = (k : Int) := by
    have := bits_mask .u64 64 (by decide) (fun n h0 h1 => by rw [u64w]; omega) 6 (by decide) (k : Int) (by omega) (by omega)
    rw [show (2 : Int) ^ 6 - 1 = 63 from rfl] at this
    rw [this]
    omega
  generalize ((rol x k).toNat : Int) = y at *
  generalize ((x.toNat : Nat) : Int) = z at *
  go_enter Try.func62, Try.ntmps62
  go_wp2
  go_ret
  exact ⟨rfl, rfl⟩
theorem add64 (x y : UInt64) : IntKind.u64.wrap ((x.toNat : Int) + (y.toNat : Int)) = ((x + y).toNat : Int) := by
  rw [u64w, UInt64.toNat_add]
  omega
theorem xor64 (x y : UInt64) : bits .xor .u64 (x.toNat : Int) (y.toNat : Int) = ((x ^^^ y).toNat : Int) := by
  have hx := x.toNat_lt
  have hy := y.toNat_lt
  have hx' : x.toNat % 2 ^ 64 = x.toNat := Nat.mod_eq_of_lt hx
  have hy' : y.toNat % 2 ^ 64 = y.toNat := Nat.mod_eq_of_lt hy
  have h := Nat.xor_lt_two_pow (n := 64) hx hy
  have e : (BitVec.ofNat 64 x.toNat ^^^ BitVec.ofNat 64 y.toNat).toNat = x.toNat ^^^ y.toNat := by rw [BitVec.toNat_xor, BitVec.toNat_ofNat, BitVec.toNat_ofNat, hx', hy']
  have e2 : bits .xor .u64 (x.toNat : Int) (y.toNat : Int) = IntKind.u64.wrap ((BitVec.ofNat 64 x.toNat ^^^ BitVec.ofNat 64 y.toNat).toNat : Nat) := rfl
  rw [e2, e, u64w, UInt64.toNat_xor]
  omega
/-- The four numbers at the head of a block. -/
structure Four (w : World) (g t : Nat) (a b c d : UInt64) (r : List Value) : Prop where mk :: (out : w.heap[g]? = some (.cells (#[.int .u64 (a.toNat : Int), .int .u64 (b.toNat : Int), .int .u64 (c.toNat : Int), .int .u64 (d.toNat : Int)] ++ r.toArray) t (0, 0)))
section
variable {w : World} {g t : Nat} {a b c d : UInt64} {r : List Value}
theorem Four.c0 (h : Four w g t a b c d r) : w.cell? ⟨g, 0, none⟩ = some (.int .u64 (a.toNat : Int)) := by rw [blk_cell h.out 0]; simp
theorem Four.c1 (h : Four w g t a b c d r) : w.cell? ⟨g, 1, none⟩ = some (.int .u64 (b.toNat : Int)) := by rw [blk_cell h.out 1]; simp
theorem Four.c2 (h : Four w g t a b c d r) : w.cell? ⟨g, 2, none⟩ = some (.int .u64 (c.toNat : Int)) := by rw [blk_cell h.out 2]; simp
theorem Four.c3 (h : Four w g t a b c d r) : w.cell? ⟨g, 3, none⟩ = some (.int .u64 (d.toNat : Int)) := by rw [blk_cell h.out 3]; simp
theorem Four.f (h : Four w g t a b c d r) (i : Nat) : w.frozen? ⟨g, i, none⟩ = false := blk_frozen h.out i
theorem Four.drew (h : Four w g t a b c d r) : Four w.drew g t a b c d r := ⟨h.out⟩
theorem Four.s0 (h : Four w g t a b c d r) (x : UInt64) : Four (w.setCell ⟨g, 0, none⟩ (.int .u64 (x.toNat : Int))) g t x b c d r := ⟨blk_put h.out 0 _ (by simp)⟩
theorem Four.s1 (h : Four w g t a b c d r) (x : UInt64) : Four (w.setCell ⟨g, 1, none⟩ (.int .u64 (x.toNat : Int))) g t a x c d r := ⟨blk_put h.out 1 _ (by simp)⟩
theorem Four.s2 (h : Four w g t a b c d r) (x : UInt64) : Four (w.setCell ⟨g, 2, none⟩ (.int .u64 (x.toNat : Int))) g t a b x d r := ⟨blk_put h.out 2 _ (by simp)⟩
theorem Four.s3 (h : Four w g t a b c d r) (x : UInt64) : Four (w.setCell ⟨g, 3, none⟩ (.int .u64 (x.toNat : Int))) g t a b c x r := ⟨blk_put h.out 3 _ (by simp)⟩
end
end Go.Proofs.Ythdemajmlidefaa.Mac
