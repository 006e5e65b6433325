/- The walk of crc.Extend: the remainder of parts. -/
import Derived.Test.YtdgahdfegpkmfaaDoorProg
import Derived.Test.YtdgahdfegpkmfaaDoorBase
import Derived.Test.YtdgahdfegpkmfaaDoorCrcMath






namespace Go.Proofs.YtdgahdfegpkmfaaDoor.Crc
open Go.RowKit Go.Proofs.YtdgahdfegpkmfaaDoorW.PrintWords Go.Proofs.YtdgahdfegpkmfaaDoor.Base CrcMath
set_option linter.unusedVariables false
set_option linter.unusedSimpArgs false

/-- The table as the program's text lays it. -/
structure Table (w : World) : Prop where mk :: (out : ∀ i : Nat, i < 16 → w.cell? ⟨0, i, none⟩ = some (.int .u32 (nib i : Int)))

theorem xor32 (a b : Nat) (ha : a < 4294967296) (hb : b < 4294967296) : bits .xor .u32 (a : Int) (b : Int) = ((a ^^^ b : Nat) : Int) := by
  have ha' : a % 2 ^ 32 = a := Nat.mod_eq_of_lt ha
  have hb' : b % 2 ^ 32 = b := Nat.mod_eq_of_lt hb
  have := Nat.xor_lt_two_pow (n := 32) ha hb
  have e : (BitVec.ofNat 32 a ^^^ BitVec.ofNat 32 b).toNat = a ^^^ b := by rw [BitVec.toNat_xor, BitVec.toNat_ofNat, BitVec.toNat_ofNat, ha', hb']
  have e2 : bits .xor .u32 (a : Int) (b : Int) = IntKind.u32.wrap ((BitVec.ofNat 32 a ^^^ BitVec.ofNat 32 b).toNat : Nat) := by
    rfl
  rw [e2, e, IntKind.wrap_u32]
  omega
theorem and15 (a : Nat) (ha : a < 4294967296) : bits .and .u32 (a : Int) 15 = ((a % 16 : Nat) : Int) := by
  have := bits_mask .u32 32 (by decide) (fun n h0 h1 => by rw [IntKind.wrap_u32]; omega) 4 (by decide) (a : Int) (by omega) (by omega)
  rw [show (2 : Int) ^ 4 - 1 = 15 from rfl] at this
  rw [this]
  rfl
theorem and15_lt (a : Nat) : a % 16 < 16 := Nat.mod_lt _ (by decide)
theorem nib_lt (i : Nat) (h : i < 16) : nib i < 4294967296 := by
  have : ∀ i : Nat, i < 16 → nib i < 4294967296 := by decide +kernel
  exact this i h
/-- What a byte's round reckons, in the walk's spelling. -/
theorem byte_round {w : World} (ht : Table w) (r : Nat) (hr : r < 4294967296) (c : UInt8) : ∃ x i n y i2 n2 : Nat,
    bits .xor .u32 (r : Int) ((c.toNat : Int) % 4294967296) = (x : Int) ∧ bits .and .u32 (x : Int) 15 = (i : Int) ∧ i < 16 ∧ w.cell? ⟨0, i, none⟩ = some (.int .u32 (n : Int)) ∧
    bits .xor .u32 ((x : Int) / 16) (n : Int) = (y : Int) ∧ bits .and .u32 (y : Int) 15 = (i2 : Int) ∧ i2 < 16 ∧ w.cell? ⟨0, i2, none⟩ = some (.int .u32 (n2 : Int)) ∧
    bits .xor .u32 ((y : Int) / 16) (n2 : Int) = (byteStep r c : Nat) := by
  have hc : c.toNat < 4294967296 := by have := c.toNat_lt; omega
  have h1 : r ^^^ c.toNat < 4294967296 := Nat.xor_lt_two_pow (n := 32) hr hc
  have h2 : ∀ x : Nat, x < 4294967296 → x / 16 ^^^ nib (x % 16) < 4294967296 := fun x hx => Nat.xor_lt_two_pow (n := 32) (by omega) (nib_lt _ (and15_lt _))
  have h3 : ∀ x : Nat, x < 4294967296 → bits .xor .u32 ((x : Int) / 16) (nib (x % 16) : Int) = ((x / 16 ^^^ nib (x % 16) : Nat) : Int) := fun x hx => by
    rw [show ((x : Int) / 16) = ((x / 16 : Nat) : Int) from rfl]
    exact xor32 _ _ (by omega) (nib_lt _ (and15_lt _))
  refine ⟨_, _, _, _, _, _, by rw [Int.emod_eq_of_lt (by omega) (by omega)]; exact xor32 r c.toNat hr hc, and15 _ h1, and15_lt _, ht.out _ (and15_lt _), h3 _ h1, and15 _ (h2 _ h1), and15_lt _, ht.out _ (and15_lt _), ?_⟩
  rw [h3 _ (h2 _ h1), byteStep_eq, eight]
theorem ext_take_succ (r : Nat) (p : List UInt8) (j : Nat) (h : j < p.length) : ext r (p.take (j + 1)) = byteStep (ext r (p.take j)) (p.getD j 0) := by
  rw [List.take_succ_eq_append_getElem h, ext_append, getD_lt _ _ _ h]
  rfl
theorem flatten_take_succ (r : Nat) (l : List (List UInt8)) (k : Nat) (h : k < l.length) : ext r (l.take (k + 1)).flatten = ext (ext r (l.take k).flatten) (l.getD k []) := by
  rw [List.take_succ_eq_append_getElem h, List.flatten_append, ext_append, getD_lt _ _ _ h]
  simp
theorem extend_calls (r : Nat) (hr : r < 4294967296) (A : Option Addr) (c : Nat) (parts : List (List UInt8)) (w : World) (ht : Table w) (hp : bytesK.C w A parts.length parts) :
    Calls Tryd.prog 11 #[.int .u32 (r : Int), .slice A parts.length c] w fun e w' => e = .returned (.int .u32 (ext r parts.flatten : Nat)) ∧ w = w' := by
  have hlen := hp.2.1
  go_enter Tryd.func11, Tryd.ntmps11
  go_wp2
  go_loop [0, 11] (fun v0 v11 => ∃ k : Nat, k ≤ parts.length ∧ v11 = .int .i64 k ∧ v0 = .int .u32 (ext r (parts.take k).flatten : Nat)) (fun _ i => parts.length - (intOf i).toNat)
  case atStart => exact ⟨0, Nat.zero_le _, rfl, rfl⟩
  case round =>
    obtain ⟨k, hk, rfl, rfl⟩ := hrel
    by_cases hlt : k < parts.length
    · obtain ⟨ad, A0, c0, rfl, hx, hl0, hb⟩ := bytes_at hp k hlt
      have hlen0 := hb.2.1
      generalize hP : parts.getD k [] = p at *
      have HP := Lib.hid hP
      clear hP
      generalize hR : ext r (parts.take k).flatten = r0 at *
      have HR := Lib.hid hR
      have hr0 : r0 < 4294967296 := hR ▸ ext_lt hr _
      clear hR
      go_wp2
      go_loop [0, 17] (fun v0 v17 => ∃ j : Nat, j ≤ p.length ∧ v17 = .int .i64 j ∧ v0 = .int .u32 (ext r0 (p.take j) : Nat)) (fun _ i => p.length - (intOf i).toNat)
      case atStart => exact ⟨0, Nat.zero_le _, rfl, rfl⟩
      case round =>
        obtain ⟨j, hj, rfl, rfl⟩ := hrel
        by_cases hjl : j < p.length
        · obtain ⟨ad1, rfl, hy⟩ := byte_at hb j hjl
          generalize hR1 : ext r0 (p.take j) = r1 at *
          have hr1 : r1 < 4294967296 := hR1 ▸ ext_lt hr0 _
          have HR1 := Lib.hid hR1
          clear hR1
          obtain ⟨x, i, n, y, i2, n2, e1, e2, l1, t1, e3, e4, l2, t2, e5⟩ := byte_round ht r1 hr1 (p.getD j 0)
          generalize hB : byteStep r1 (p.getD j 0) = b at *
          have HB := Lib.hid hB
          clear hB
          generalize hC : (p.getD j 0).toNat = cn at *
          clear hC
          go_wp2
          go_round
          case rel => exact ⟨j + 1, by omega, by go_num, by rw [ext_take_succ _ _ _ hjl, HR1.out, HB.out]⟩
          case measure => simp [intOf]; omega
        · obtain rfl : j = p.length := by omega
          go_wp2
          go_round
          case rel => exact ⟨k + 1, by omega, by go_num, by rw [flatten_take_succ _ _ _ hlt, HR.out, HP.out, List.take_length]⟩
          case measure => simp [intOf]; omega
    · obtain rfl : k = parts.length := by omega
      go_wp2
      go_ret
      exact ⟨rfl, rfl⟩
end Go.Proofs.YtdgahdfegpkmfaaDoor.Crc
