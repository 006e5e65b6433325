/- Cookies: plain: a number's bytes; a state's. -/
import Derived.Test.YthdemajmlidefaaBase
namespace Go.Proofs.Ythdemajmlidefaa.Ck
open Go.RowKit Go.Proofs.YthdemajmlidefaaW.PrintWords Go.Proofs.Ythdemajmlidefaa.Base
set_option linter.unusedVariables false
set_option linter.unusedSimpArgs false
/-- A number's bytes, the greatest first. -/
def beN : Nat → Nat → List UInt8
  | 0, _ => []
  | n + 1, x => UInt8.ofNat (x / 256 ^ n) :: beN n x
theorem beN_length (n x : Nat) : (beN n x).length = n := by
  induction n with
  | zero => rfl
  | succ n ih => rw [beN, List.length_cons, ih]
/-- The number of bytes. -/
def numBE (a : Nat) (l : List UInt8) : Nat := l.foldl (fun a c => a * 256 + c.toNat) a
theorem numBE_nil (a : Nat) : numBE a [] = a := rfl
theorem numBE_snoc (a : Nat) (l : List UInt8) (c : UInt8) : numBE a (l ++ [c]) = numBE a l * 256 + c.toNat := by unfold numBE; rw [List.foldl_append]; rfl
theorem num_be' (n x a : Nat) : numBE a (beN n x) = a * 256 ^ n + x % 256 ^ n := by
  induction n generalizing a with
  | zero => simp [beN, numBE, Nat.mod_one]
  | succ n ih =>
    have : numBE a (beN (n + 1) x) = numBE (a * 256 + (UInt8.ofNat (x / 256 ^ n)).toNat) (beN n x) := rfl
    have e1 : (UInt8.ofNat (x / 256 ^ n)).toNat = x / 256 ^ n % 256 := UInt8.toNat_ofNat'
    have e2 : x % 256 ^ (n + 1) = x % 256 ^ n + 256 ^ n * (x / 256 ^ n % 256) := Nat.mod_pow_succ
    rw [this, ih, e1, e2, Nat.pow_succ, Nat.add_mul, Nat.mul_assoc a 256, Nat.mul_comm 256 (256 ^ n), Nat.mul_comm (x / 256 ^ n % 256)]
    generalize a * (256 ^ n * 256) = p
    generalize 256 ^ n * (x / 256 ^ n % 256) = q
    generalize x % 256 ^ n = r
    omega
theorem num_be (n x : Nat) (h : x < 256 ^ n) : numBE 0 (beN n x) = x := by rw [num_be', Nat.mod_eq_of_lt h]; omega
theorem numBE_lt (l : List UInt8) (a : Nat) : numBE a l < (a + 1) * 256 ^ l.length := by
  induction l generalizing a with
  | nil => simp [numBE]
  | cons c r ih =>
    have h : numBE a (c :: r) = numBE (a * 256 + c.toNat) r := rfl
    rw [h, List.length_cons, Nat.pow_succ, Nat.mul_comm (256 ^ r.length) 256, ← Nat.mul_assoc]
    refine Nat.lt_of_lt_of_le (ih _) (Nat.mul_le_mul_right _ ?_)
    have := c.toNat_lt
    omega
/-- How many bytes each number of a state has. -/
def fldN : List Nat := [8, 4, 2, 2, 4, 4, 4, 4, 4, 2, 2, 4, 4]
def sealB : List Nat → List Nat → List UInt8
  | n :: ns, x :: xs => beN n x ++ sealB ns xs
  | _, _ => []
def readB : List Nat → List UInt8 → List Nat
  | [], _ => []
  | n :: ns, b => numBE 0 (b.take n) :: readB ns (b.drop n)
/-- Each number fits. -/
def Fit : List Nat → List Nat → Prop
  | n :: ns, x :: xs => x < 256 ^ n ∧ Fit ns xs
  | [], [] => True
  | _, _ => False
theorem read_seal (ns xs : List Nat) (h : Fit ns xs) (r : List UInt8) : readB ns (sealB ns xs ++ r) = xs := by
  induction ns generalizing xs with
  | nil => cases xs with
    | nil => rfl
    | cons x xs => exact h.elim
  | cons n ns ih => cases xs with
    | nil => exact h.elim
    | cons x xs =>
      obtain ⟨h1, h2⟩ := h
      unfold readB sealB
      rw [List.append_assoc, List.take_left' (beN_length n x), List.drop_left' (beN_length n x), num_be n x h1, ih xs h2]
theorem seal_length (ns xs : List Nat) (h : Fit ns xs) : (sealB ns xs).length = ns.sum := by
  induction ns generalizing xs with
  | nil => cases xs with
    | nil => rfl
    | cons x xs => exact h.elim
  | cons n ns ih => cases xs with
    | nil => exact h.elim
    | cons x xs =>
      unfold sealB
      rw [List.length_append, beN_length, ih xs h.2, List.sum_cons]
theorem read_length (ns : List Nat) (b : List UInt8) : (readB ns b).length = ns.length := by
  induction ns generalizing b with
  | nil => rfl
  | cons n ns ih => unfold readB; rw [List.length_cons, ih, List.length_cons]
theorem read_fit (ns : List Nat) (b : List UInt8) : Fit ns (readB ns b) := by
  induction ns generalizing b with
  | nil => trivial
  | cons n ns ih =>
    refine ⟨?_, ih _⟩
    refine Nat.lt_of_lt_of_le (numBE_lt _ 0) ?_
    rw [Nat.zero_add, Nat.one_mul]
    exact Nat.pow_le_pow_right (by decide) (by rw [List.length_take]; omega)
end Go.Proofs.Ythdemajmlidefaa.Ck
