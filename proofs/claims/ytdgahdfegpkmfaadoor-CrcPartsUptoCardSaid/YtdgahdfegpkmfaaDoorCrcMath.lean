/- Plain mathematics of the remainder: no Go in it. -/
namespace CrcMath
/-- One bit of the remainder, over numbers of any length. -/
def poly : Nat := 2197175160
theorem poly_eq : poly = 2197175160 := rfl
attribute [irreducible] poly
def bitStep (n : Nat) : Nat := if n % 2 = 1 then (n / 2) ^^^ poly else n / 2
def bitSteps : Nat → Nat → Nat
  | 0, n => n
  | k + 1, n => bitSteps k (bitStep n)

theorem half_xor (a b : Nat) : (a ^^^ b) / 2 = a / 2 ^^^ b / 2 := by
  have := Nat.xor_div_two (a := a) (b := b)
  exact this
theorem bitStep_xor (a b : Nat) : bitStep (a ^^^ b) = bitStep a ^^^ bitStep b := by
  unfold bitStep
  have h : (a ^^^ b) % 2 = (a % 2 + b % 2) % 2 := by
    have := Nat.xor_mod_two_pow (a := a) (b := b) (n := 1)
    rcases Nat.mod_two_eq_zero_or_one a with ha | ha <;> rcases Nat.mod_two_eq_zero_or_one b with hb | hb <;> simp [ha, hb] at this ⊢ <;> omega
  rw [h, half_xor]
  generalize poly = p
  rcases Nat.mod_two_eq_zero_or_one a with ha | ha <;> rcases Nat.mod_two_eq_zero_or_one b with hb | hb <;> simp [ha, hb]
  · exact (Nat.xor_assoc _ _ _)
  · ac_rfl
  · rw [show a / 2 ^^^ p ^^^ (b / 2 ^^^ p) = (a / 2 ^^^ b / 2) ^^^ (p ^^^ p) by ac_rfl, Nat.xor_self, Nat.xor_zero]
theorem bitSteps_xor (k a b : Nat) : bitSteps k (a ^^^ b) = bitSteps k a ^^^ bitSteps k b := by
  induction k generalizing a b with
  | zero => rfl
  | succ k ih => simp only [bitSteps, bitStep_xor, ih]
theorem bitSteps_add (j k n : Nat) : bitSteps (j + k) n = bitSteps k (bitSteps j n) := by
  induction j generalizing n with
  | zero => simp [bitSteps]
  | succ j ih => rw [Nat.succ_add]; simp only [bitSteps, ih]
theorem bitSteps_shift (k n : Nat) : bitSteps k (n <<< k) = n := by
  induction k generalizing n with
  | zero => simp [bitSteps]
  | succ k ih =>
    have : n <<< (k + 1) = 2 * (n <<< k) := by simp [Nat.shiftLeft_eq, Nat.pow_succ]; ac_rfl
    simp only [bitSteps, bitStep]
    rw [this, if_neg (by omega), Nat.mul_div_cancel_left _ (by decide)]
    exact ih n
theorem bitSteps_nil (n : Nat) : bitSteps 0 n = n := rfl
theorem bitSteps_one (n : Nat) : bitSteps 1 n = if n % 2 = 1 then (n / 2) ^^^ poly else n / 2 := rfl
theorem bitStep_lt {n : Nat} (h : n < 4294967296) : bitStep n < 4294967296 := by
  unfold bitStep
  have h1 : n / 2 < 4294967296 := by omega
  split
  · exact Nat.xor_lt_two_pow (n := 32) h1 (by rw [poly_eq]; decide)
  · exact h1
theorem bitSteps_lt {k n : Nat} (h : n < 4294967296) : bitSteps k n < 4294967296 := by
  induction k generalizing n with
  | zero => exact h
  | succ k ih => exact ih (bitStep_lt h)
theorem bitStep_ne {n : Nat} (h : n < 4294967296) (h0 : n ≠ 0) : bitStep n ≠ 0 := by
  unfold bitStep
  split
  · intro hx
    have : n / 2 = poly := by
      have h2 := congrArg (· ^^^ poly) hx
      simpa [Nat.xor_assoc] using h2
    rw [poly_eq] at this
    omega
  · omega
theorem bitSteps_ne {k n : Nat} (h : n < 4294967296) (h0 : n ≠ 0) : bitSteps k n ≠ 0 := by
  induction k generalizing n with
  | zero => exact h0
  | succ k ih => exact ih (bitStep_lt h) (bitStep_ne h h0)
theorem bitSteps_zero (k : Nat) : bitSteps k 0 = 0 := by
  induction k with
  | zero => rfl
  | succ k ih => simpa [bitSteps, bitStep] using ih

/-- The remainder of bytes. -/
def byteStep (r : Nat) (c : UInt8) : Nat := bitSteps 8 (r ^^^ c.toNat)
theorem byteStep_lt {r : Nat} (h : r < 4294967296) (c : UInt8) : byteStep r c < 4294967296 :=
  bitSteps_lt (Nat.xor_lt_two_pow (n := 32) h (by have := c.toNat_lt; omega))
theorem byteStep_xor (r s : Nat) (c d : UInt8) : byteStep (r ^^^ s) (c ^^^ d) = byteStep r c ^^^ byteStep s d := by
  unfold byteStep
  rw [← bitSteps_xor, UInt8.toNat_xor]
  rw [show r ^^^ s ^^^ (c.toNat ^^^ d.toNat) = r ^^^ c.toNat ^^^ (s ^^^ d.toNat) by ac_rfl]
theorem byteStep_eq (r : Nat) (c : UInt8) : byteStep r c = bitSteps 8 (r ^^^ c.toNat) := rfl
attribute [irreducible] byteStep
def ext (r : Nat) (l : List UInt8) : Nat := l.foldl byteStep r
theorem ext_nil (r : Nat) : ext r [] = r := rfl
theorem ext_cons (r : Nat) (c : UInt8) (l : List UInt8) : ext r (c :: l) = ext (byteStep r c) l := rfl
theorem ext_append (r : Nat) (a b : List UInt8) : ext r (a ++ b) = ext (ext r a) b := List.foldl_append
theorem ext_lt {r : Nat} (h : r < 4294967296) (l : List UInt8) : ext r l < 4294967296 := by
  induction l generalizing r with
  | nil => exact h
  | cons c l ih => exact ih (byteStep_lt h c)
/-- Four bits at once. -/
def nib : Nat → Nat := fun i => [0, 274646895, 549293790, 820201905, 1098587580, 1361435347, 1640403810, 1905808397, 2197175160, 2460548119, 2722870694, 2987750089, 3280807620, 3553878443, 3811616794, 4084100981].getD i 0
theorem nib_tab : ∀ i : Nat, i < 16 → bitSteps 4 i = nib i := by
  unfold bitSteps bitSteps bitSteps bitSteps bitSteps bitStep
  rw [poly_eq]
  decide +kernel
theorem split4 (r : Nat) : r = (r / 2 ^ 4) <<< 4 ^^^ (r % 2 ^ 4) := by
  apply Nat.eq_of_testBit_eq
  intro i
  rw [Nat.testBit_xor, Nat.testBit_shiftLeft, Nat.testBit_mod_two_pow, Nat.testBit_div_two_pow]
  by_cases h : i < 4
  · simp [h, show ¬ 4 ≤ i by omega]
  · simp [h, show 4 ≤ i by omega, show i - 4 + 4 = i by omega]
attribute [irreducible] nib bitSteps
theorem four' (r a b : Nat) (h1 : r = a <<< 4 ^^^ b) : bitSteps 4 r = a ^^^ bitSteps 4 b := by
  rw [h1, bitSteps_xor, bitSteps_shift]
theorem four (r : Nat) : bitSteps 4 r = r / 16 ^^^ nib (r % 16) :=
  (four' r _ _ (split4 r)).trans (congrArg (r / 16 ^^^ ·) (nib_tab _ (Nat.mod_lt _ (by decide))))
theorem eight (r : Nat) : bitSteps 8 r = (r / 16 ^^^ nib (r % 16)) / 16 ^^^ nib ((r / 16 ^^^ nib (r % 16)) % 16) := by
  rw [show (8 : Nat) = 4 + 4 from rfl, bitSteps_add, four (bitSteps 4 r), four r]
theorem ext_xor (r s : Nat) (a b : List UInt8) (h : a.length = b.length) : ext (r ^^^ s) (List.zipWith (fun x y => x ^^^ y) a b) = ext r a ^^^ ext s b := by
  induction a generalizing r s b with
  | nil => cases b with
    | nil => rfl
    | cons _ _ => cases h
  | cons x a ih =>
    cases b with
    | nil => cases h
    | cons y b => rw [List.zipWith_cons_cons, ext_cons, ext_cons, ext_cons, byteStep_xor, ih _ _ b (by simpa using h)]
/-- The bytes as one number, the first the lowest. -/
def le : List UInt8 → Nat
  | [] => 0
  | c :: l => c.toNat ^^^ (le l) <<< 8
theorem le_cons (c : UInt8) (l : List UInt8) : le (c :: l) = c.toNat ^^^ (le l) <<< 8 := rfl
theorem ext_le (r : Nat) (l : List UInt8) (h : r < 4294967296) : ext r l = bitSteps (8 * l.length) (r ^^^ le l) := by
  induction l generalizing r with
  | nil => simp [ext_nil, le, bitSteps]
  | cons c l ih =>
    rw [ext_cons, ih _ (byteStep_lt h c), le_cons, byteStep_eq, List.length_cons, Nat.mul_add, Nat.mul_one, Nat.add_comm, bitSteps_add, ← Nat.xor_assoc, bitSteps_xor 8 (r ^^^ c.toNat), bitSteps_shift]
theorem le_set (l : List UInt8) (i : Nat) (d : UInt8) (h : i < l.length) : le (l.set i (l.getD i 0 ^^^ d)) = le l ^^^ d.toNat <<< (8 * i) := by
  induction l generalizing i with
  | nil => simp at h
  | cons c l ih =>
    cases i with
    | zero =>
      simp only [List.set_cons_zero, List.getD_cons_zero, le_cons, UInt8.toNat_xor]
      simp only [Nat.mul_zero, Nat.shiftLeft_zero]
      ac_rfl
    | succ i =>
      simp only [List.set_cons_succ, List.getD_cons_succ, le_cons]
      rw [ih i (by simpa using h), Nat.shiftLeft_xor_distrib, ← Nat.shiftLeft_add, Nat.xor_assoc, show 8 * i + 8 = 8 * (i + 1) by omega]

def turnBit (l : List UInt8) (k : Nat) : List UInt8 := l.set (k / 8) (l.getD (k / 8) 0 ^^^ ((1 : UInt8) <<< UInt8.ofNat (k % 8)))
theorem turnBit_length (l : List UInt8) (k : Nat) : (turnBit l k).length = l.length := by simp [turnBit]
theorem one_shl (j : Nat) (h : j < 8) : ((1 : UInt8) <<< UInt8.ofNat j).toNat = 2 ^ j := by
  have : ∀ j : Nat, j < 8 → ((1 : UInt8) <<< UInt8.ofNat j).toNat = 2 ^ j := by decide
  exact this j h
theorem le_turnBit (l : List UInt8) (k : Nat) (h : k < 8 * l.length) : le (turnBit l k) = le l ^^^ 2 ^ k := by
  unfold turnBit
  rw [le_set _ _ _ (by omega), one_shl _ (Nat.mod_lt _ (by decide)), Nat.shiftLeft_eq, ← Nat.pow_add, show k % 8 + 8 * (k / 8) = k by omega]
/-- The bits of a number turned from a place on. -/
def flips (l : List UInt8) (at_ bits : Nat) : Nat → List UInt8
  | 0 => l
  | i + 1 => if bits.testBit i then turnBit (flips l at_ bits i) (at_ + i) else flips l at_ bits i
theorem flips_length (l : List UInt8) (at_ bits i : Nat) : (flips l at_ bits i).length = l.length := by
  induction i with
  | zero => rfl
  | succ i ih => unfold flips; split <;> simp [turnBit_length, ih]
theorem le_flips (l : List UInt8) (at_ bits i : Nat) (h : at_ + i ≤ 8 * l.length) : le (flips l at_ bits i) = le l ^^^ (bits % 2 ^ i) <<< at_ := by
  induction i with
  | zero => simp [flips, Nat.mod_one]
  | succ i ih =>
    have hb : bits % 2 ^ (i + 1) = (bits % 2 ^ i) ^^^ (if bits.testBit i then 2 ^ i else 0) := by
      apply Nat.eq_of_testBit_eq
      intro j
      rw [Nat.testBit_xor, Nat.testBit_mod_two_pow, Nat.testBit_mod_two_pow]
      by_cases hj : j = i
      · subst hj
        by_cases hx : bits.testBit j <;> simp [hx, Nat.testBit_two_pow_self]
      · have : (if bits.testBit i then 2 ^ i else 0).testBit j = false := by
          split
          · exact Nat.testBit_two_pow_of_ne (Ne.symm hj)
          · exact Nat.zero_testBit j
        rw [this]
        by_cases h1 : j < i
        · simp [h1, show j < i + 1 by omega]
        · simp [h1, show ¬ j < i + 1 by omega]
    rw [hb, Nat.shiftLeft_xor_distrib, ← Nat.xor_assoc, ← ih (by omega)]
    have e : flips l at_ bits (i + 1) = if bits.testBit i then turnBit (flips l at_ bits i) (at_ + i) else flips l at_ bits i := rfl
    rw [e]
    by_cases hb1 : bits.testBit i = true
    · rw [if_pos hb1, if_pos hb1, le_turnBit _ _ (by rw [flips_length]; omega), Nat.shiftLeft_eq, ← Nat.pow_add, Nat.add_comm at_ i]
    · rw [if_neg hb1, if_neg hb1]
      simp

/-- The sum of bytes. -/
def sumL (l : List UInt8) : Nat := ext 4294967295 l ^^^ 4294967295
theorem sumL_eq (l : List UInt8) : sumL l = ext 4294967295 l ^^^ 4294967295 := rfl
theorem sumL_lt (l : List UInt8) : sumL l < 4294967296 := Nat.xor_lt_two_pow (n := 32) (ext_lt (by decide) l) (by decide)
/-- A number's bytes, the lowest first, written from the eighth place on. -/
def puts (l : List UInt8) (s : Nat) : Nat → List UInt8
  | 0 => l
  | i + 1 => (puts l s i).set (8 + i) (UInt8.ofNat (s >>> (8 * i)))
theorem puts_length (l : List UInt8) (s k : Nat) : (puts l s k).length = l.length := by
  induction k with
  | zero => rfl
  | succ k ih => simp [puts, ih]
/-- A packet with 0 in its sum's place. -/
def noSum (l : List UInt8) : List UInt8 := l.take 8 ++ [0, 0, 0, 0] ++ l.drop 12
theorem puts_four (l : List UInt8) (s : Nat) (h : 12 ≤ l.length) : puts l s 4 = l.take 8 ++ [UInt8.ofNat s, UInt8.ofNat (s >>> 8), UInt8.ofNat (s >>> 16), UInt8.ofNat (s >>> 24)] ++ l.drop 12 := by
  match l, h with
  | _ :: _ :: _ :: _ :: _ :: _ :: _ :: _ :: _ :: _ :: _ :: _ :: r, _ => rfl
theorem noSum_length (l : List UInt8) (h : 12 ≤ l.length) : (noSum l).length = l.length := by simp [noSum]; omega
theorem puts_noSum (l : List UInt8) (h : 12 ≤ l.length) : puts l 0 4 = noSum l := by rw [puts_four l 0 h]; rfl
theorem puts_again (l : List UInt8) (s t : Nat) (h : 12 ≤ l.length) : puts (puts l s 4) t 4 = puts l t 4 := by
  match l, h with
  | _ :: _ :: _ :: _ :: _ :: _ :: _ :: _ :: _ :: _ :: _ :: _ :: r, _ => rfl
theorem noSum_puts (l : List UInt8) (s : Nat) (h : 12 ≤ l.length) : noSum (puts l s 4) = noSum l := by
  match l, h with
  | _ :: _ :: _ :: _ :: _ :: _ :: _ :: _ :: _ :: _ :: _ :: _ :: r, _ => rfl
/-- What crc.Put answers. -/
def putL (l : List UInt8) : List UInt8 := puts l (sumL (noSum l)) 4
theorem putL_eq (l : List UInt8) : putL l = puts l (sumL (noSum l)) 4 := rfl
theorem putL_length (l : List UInt8) : (putL l).length = l.length := puts_length _ _ _
/-- What crc.Check answers. -/
def checkL (l : List UInt8) : Int := if l.length < 12 then 20 else if putL l = l then 0 else 21
theorem check_put (l : List UInt8) (h : 12 ≤ l.length) : checkL (putL l) = 0 := by
  have h1 : putL (putL l) = putL l := by
    rw [putL_eq (putL l), putL_eq l, noSum_puts _ _ h, puts_again _ _ _ h]
  rw [checkL, if_neg (by rw [putL_length]; omega), if_pos h1]
attribute [irreducible] sumL
theorem noSum_set (y : List UInt8) (i : Nat) (v : UInt8) (h : 12 ≤ y.length) (hi : i < 8 ∨ 12 ≤ i) : noSum (y.set i v) = (noSum y).set i v ∧ (noSum y).getD i 0 = y.getD i 0 := by
  match y, h with
  | _ :: _ :: _ :: _ :: _ :: _ :: _ :: _ :: _ :: _ :: _ :: _ :: r, _ =>
    rcases hi with hi | hi
    · match i, hi with
      | 0, _ | 1, _ | 2, _ | 3, _ | 4, _ | 5, _ | 6, _ | 7, _ => exact ⟨rfl, rfl⟩
    · obtain ⟨j, rfl⟩ : ∃ j, i = j + 12 := ⟨i - 12, by omega⟩
      exact ⟨rfl, rfl⟩
theorem noSum_turnBit (y : List UInt8) (k : Nat) (h : 12 ≤ y.length) (hi : k / 8 < 8 ∨ 12 ≤ k / 8) : noSum (turnBit y k) = turnBit (noSum y) k := by
  unfold turnBit
  obtain ⟨h1, h2⟩ := noSum_set y (k / 8) (y.getD (k / 8) 0 ^^^ ((1 : UInt8) <<< UInt8.ofNat (k % 8))) h hi
  rw [h1, h2]
theorem noSum_flips (y : List UInt8) (at_ b n : Nat) (h : 12 ≤ y.length) (hi : 96 ≤ at_ ∨ at_ + n ≤ 64) : noSum (flips y at_ b n) = flips (noSum y) at_ b n := by
  induction n with
  | zero => rfl
  | succ n ih =>
    have e : ∀ z, flips z at_ b (n + 1) = if b.testBit n then turnBit (flips z at_ b n) (at_ + n) else flips z at_ b n := fun _ => rfl
    rw [e, e, ← ih (by omega)]
    by_cases hb : b.testBit n = true
    · rw [if_pos hb, if_pos hb, noSum_turnBit _ _ (by rw [flips_length]; exact h) (by omega)]
    · rw [if_neg hb, if_neg hb]
theorem getD_turnBit (y : List UInt8) (k j : Nat) (hj : k / 8 ≠ j) : (turnBit y k).getD j 0 = y.getD j 0 := by
  unfold turnBit
  simp [List.getD_eq_getElem?_getD, List.getElem?_set_ne hj]
theorem getD_flips (y : List UInt8) (at_ b n j : Nat) (hi : 96 ≤ at_ ∨ at_ + n ≤ 64) (h8 : 8 ≤ j) (h12 : j < 12) : (flips y at_ b n).getD j 0 = y.getD j 0 := by
  induction n with
  | zero => rfl
  | succ n ih =>
    have e : flips y at_ b (n + 1) = if b.testBit n then turnBit (flips y at_ b n) (at_ + n) else flips y at_ b n := rfl
    rw [e]
    by_cases hb : b.testBit n = true
    · rw [if_pos hb, getD_turnBit _ _ _ (by omega), ih (by omega)]
    · rw [if_neg hb, ih (by omega)]
theorem puts_bytes (y : List UInt8) (s : Nat) (h : 12 ≤ y.length) : (puts y s 4).getD 8 0 = UInt8.ofNat s ∧ (puts y s 4).getD 9 0 = UInt8.ofNat (s >>> 8) ∧ (puts y s 4).getD 10 0 = UInt8.ofNat (s >>> 16) ∧ (puts y s 4).getD 11 0 = UInt8.ofNat (s >>> 24) := by
  match y, h with
  | _ :: _ :: _ :: _ :: _ :: _ :: _ :: _ :: _ :: _ :: _ :: _ :: r, _ => exact ⟨rfl, rfl, rfl, rfl⟩
theorem ofNat_inj4 (s t : Nat) (hs : s < 4294967296) (ht : t < 4294967296) (h0 : UInt8.ofNat s = UInt8.ofNat t) (h1 : UInt8.ofNat (s >>> 8) = UInt8.ofNat (t >>> 8)) (h2 : UInt8.ofNat (s >>> 16) = UInt8.ofNat (t >>> 16)) (h3 : UInt8.ofNat (s >>> 24) = UInt8.ofNat (t >>> 24)) : s = t := by
  have g0 := congrArg UInt8.toNat h0
  have g1 := congrArg UInt8.toNat h1
  have g2 := congrArg UInt8.toNat h2
  have g3 := congrArg UInt8.toNat h3
  simp only [UInt8.toNat_ofNat', Nat.shiftRight_eq_div_pow] at g0 g1 g2 g3
  omega
/-- Rows of one length that differ by a burst have other sums. -/
theorem sum_flips (y : List UInt8) (at_ b : Nat) (hb : b < 4294967296) (h0 : b ≠ 0) (h : at_ + 32 ≤ 8 * y.length) : sumL (flips y at_ b 32) ≠ sumL y := by
  rw [sumL_eq, sumL_eq]
  intro he
  have he2 : ext 4294967295 (flips y at_ b 32) = ext 4294967295 y := by
    have := congrArg (· ^^^ 4294967295) he
    simpa [Nat.xor_assoc] using this
  rw [ext_le _ _ (by decide), ext_le _ _ (by decide), flips_length, le_flips _ _ _ _ h, ← Nat.xor_assoc, bitSteps_xor] at he2
  have hz : bitSteps (8 * y.length) ((b % 2 ^ 32) <<< at_) = 0 := by
    have := congrArg (bitSteps (8 * y.length) (4294967295 ^^^ le y) ^^^ ·) he2
    simpa [← Nat.xor_assoc] using this
  rw [show 8 * y.length = at_ + (8 * y.length - at_) by omega, bitSteps_add, bitSteps_shift, Nat.mod_eq_of_lt hb] at hz
  exact bitSteps_ne hb h0 hz
theorem check_flips (l : List UInt8) (at_ b : Nat) (hl : 12 ≤ l.length) (hb : b < 4294967296) (h0 : b ≠ 0) (h : at_ + 32 ≤ 8 * l.length) (hi : 96 ≤ at_ ∨ at_ + 32 ≤ 64) : checkL (flips (putL l) at_ b 32) = 21 := by
  have hlen : (flips (putL l) at_ b 32).length = l.length := by rw [flips_length, putL_length]
  rw [checkL, if_neg (by omega), if_neg]
  intro he
  have e1 := puts_bytes (flips (putL l) at_ b 32) (sumL (noSum (flips (putL l) at_ b 32))) (by omega)
  rw [← putL_eq, he] at e1
  have e2 := puts_bytes l (sumL (noSum l)) hl
  rw [← putL_eq] at e2
  rw [getD_flips _ _ _ _ 8 hi (by omega) (by omega), getD_flips _ _ _ _ 9 hi (by omega) (by omega), getD_flips _ _ _ _ 10 hi (by omega) (by omega), getD_flips _ _ _ _ 11 hi (by omega) (by omega)] at e1
  have hs := ofNat_inj4 _ _ (sumL_lt _) (sumL_lt _) (e1.1.symm.trans e2.1) (e1.2.1.symm.trans e2.2.1) (e1.2.2.1.symm.trans e2.2.2.1) (e1.2.2.2.symm.trans e2.2.2.2)
  rw [noSum_flips _ _ _ _ (by rw [putL_length]; exact hl) hi, putL_eq, noSum_puts _ _ hl] at hs
  exact sum_flips (noSum l) at_ b hb h0 (by rw [noSum_length _ hl]; exact h) hs
end CrcMath
