/- The walks of crc.sum, crc.Put, crc.Check. -/
import Derived.Test.YtdgahdfegpkmfaaDoorCrcB
import Derived.Test.YtdgahdfegpkmfaaDoorCrcC
import Derived.Deep.RegionWith
namespace Go.Proofs.YtdgahdfegpkmfaaDoor.Crc
open Go.RowKit Go.Proofs.YtdgahdfegpkmfaaDoorW.PrintWords Go.Proofs.YtdgahdfegpkmfaaDoor.Base CrcMath
set_option linter.unusedVariables false
set_option linter.unusedSimpArgs false

/-- The sum of three parts in a row that has just been made. -/
theorem call3 {w : World} (ht : Table w) {lits : Array Value} {n1 : Nat} {A0 A1 A2 : Option Addr} {c0 c1 c2 : Nat} {p0 p1 p2 : List UInt8}
    (h0 : byte.C w A0 p0.length p0) (k0 : p0.length ≤ c0) (h1 : byte.C (w.alloc (.cells lits 5)) A1 n1 p1) (k1 : n1 ≤ c1) (h2 : byte.C w A2 p2.length p2) (k2 : p2.length ≤ c2) :
    Calls Tryd.prog 9 #[.slice (some ⟨w.heap.size + 1, 0, none⟩) 3 3]
      ((w.alloc (.cells lits 5)).alloc (.cells #[.slice A0 p0.length c0, .slice A1 n1 c1, .slice A2 p2.length c2] 22)).drew
      fun e w' => e = .returned (.int .u32 (sumL [p0, p1, p2].flatten : Nat)) ∧ Below w.heap.size w w' := by
  have hn : p1.length = n1 := h1.1
  have hz : (w.alloc (.cells lits 5)).heap.size = w.heap.size + 1 := by simp
  have hrow : bytesK.C ((w.alloc (.cells lits 5)).alloc (.cells [.slice A0 p0.length c0, .slice A1 n1 c1, .slice A2 p2.length c2].toArray 22)) (some ⟨(w.alloc (.cells lits 5)).heap.size, 0, none⟩) 3 [p0, p1, p2] := by
    refine row_lit bytesK rfl _ _ [.slice A0 p0.length c0, .slice A1 n1 c1, .slice A2 p2.length c2] [p0, p1, p2] rfl (by simp) ?_
    intro j v p hv hp
    match j, hv, hp with
    | 0, hv, hp => obtain rfl := Option.some.inj hv; obtain rfl := Option.some.inj hp; exact K_bytes (Kd.C_alloc h0 _) k0
    | 1, hv, hp => obtain rfl := Option.some.inj hv; obtain rfl := Option.some.inj hp; subst hn; exact K_bytes h1 k1
    | 2, hv, hp => obtain rfl := Option.some.inj hv; obtain rfl := Option.some.inj hp; exact K_bytes (Kd.C_alloc h2 _) k2
    | j + 3, hv, hp => cases hv
  have hB : Below w.heap.size w ((w.alloc (.cells lits 5)).alloc (.cells #[.slice A0 p0.length c0, .slice A1 n1 c1, .slice A2 p2.length c2] 22)).drew :=
    (((Below.refl _ _).alloc (Nat.le_refl _) _).alloc (by simp) _).drew
  rw [hz] at hrow
  refine (sum_calls _ 3 [p0, p1, p2] _ (ht.below hB) (Kd.C_drew hrow)).mono ?_
  rintro e w' ⟨rfl, rfl⟩
  exact ⟨rfl, hB⟩
theorem low_calls (A : Option Addr) (c : Nat) (l : List UInt8) (w : World) (ht : Table w) (hb : byte.C w A l.length l) (hc : l.length ≤ c) (hl : 12 ≤ l.length) :
    Calls Tryd.prog 19 #[.slice A l.length c] w fun e w' => e = .returned (.int .u32 (sumL (noSum l) : Nat)) ∧ Below w.heap.size w w' := by
  have hlen := hb.2.1
  obtain ⟨s1, b1, c1⟩ := take_bytes hb hc 8 8 rfl (by omega)
  obtain ⟨A2, s2, b2, c2⟩ := drop_bytes hb hc 12 12 rfl hl
  have hB : noSum l = [l.take 8, [0, 0, 0, 0], l.drop 12].flatten := by simp [noSum]
  rw [hB]
  clear hB
  generalize l.take 8 = l1 at *
  generalize l.drop 12 = l2 at *
  have b0 : byte.C (w.alloc (.cells #[.int .u8 0, .int .u8 0, .int .u8 0, .int .u8 0] 5)) (some ⟨w.heap.size, 0, none⟩) 4 [0, 0, 0, 0] :=
    row_lit byte rfl w 5 [.int .u8 0, .int .u8 0, .int .u8 0, .int .u8 0] [0, 0, 0, 0] rfl (by decide) (lit_byte _ _ (by rfl))
  have h := call3 ht (lits := #[.int .u8 0, .int .u8 0, .int .u8 0, .int .u8 0]) b1 c1 b0 (Nat.le_refl 4) b2 c2
  clear ht hb b1 b2 b0
  generalize sumL [l1, [0, 0, 0, 0], l2].flatten = s at *
  go_enter Tryd.func19, Tryd.ntmps19
  go_wp2
  go_region_with (go_at_call 9; refine h.mono ?_; rintro e w' ⟨rfl, hB⟩)
  all_goals
    go_wp2
    go_ret
    exact ⟨rfl, hB⟩
/-- A packet with its sum, and that there was no fault. -/
def PutDone (l : List UInt8) (w : World) (e : Ending) (w' : World) : Prop := ∃ v, e = .returned (.tuple #[v, .int .i64 0]) ∧ byte.R 5 w' w.heap.size (fun _ => True) v l ∧ Below w.heap.size w w'
theorem ofNat_shr (s k : Nat) : ((UInt8.ofNat (s >>> k)).toNat : Int) = (s : Int) / (2 ^ k : Nat) % 256 := by
  rw [UInt8.toNat_ofNat', Nat.shiftRight_eq_div_pow]
  omega
theorem put_brief (A : Option Addr) (c : Nat) (l : List UInt8) (w : World) (hl : l.length < 12) :
    Calls Tryd.prog 14 #[.slice A l.length c] w fun e w' => e = .returned (.tuple #[.slice none 0 0, .int .i64 20]) ∧ w = w' := by
  go_enter Tryd.func14, Tryd.ntmps14
  go_wp2
  go_ret2
  exact ⟨rfl, rfl⟩
theorem put_calls (A : Option Addr) (c : Nat) (l : List UInt8) (w : World) (ht : Table w) (hb : byte.C w A l.length l) (hc : l.length ≤ c) (hm : l.length ≤ 140737488355328) (hl : 12 ≤ l.length) :
    Calls Tryd.prog 14 #[.slice A l.length c] w (PutDone (puts l (sumL (noSum l)) 4) w) := by
  have hcl := clone_calls A c l w hb hm
  have hlow := fun (w1 : World) (h : Below w.heap.size w w1) => low_calls A c l w1 (ht.below h) (Kd.C_below hb h) hc hl
  have hs : sumL (noSum l) < 4294967296 := sumL_lt _
  generalize sumL (noSum l) = s at *
  go_enter Tryd.func14, Tryd.ntmps14
  go_wp2_with fail
  refine hcl.mono ?_
  rintro e w1 ⟨v, rfl, hR, hB⟩
  obtain ⟨g, cap, rfl, hg, hg1⟩ := (Kd.R_own hR).elim fun _ h => h.form (by omega)
  clear hcl hb ht
  go_wp2_with fail
  refine (hlow w1 hB).mono ?_
  rintro e w2 ⟨rfl, hB2⟩
  have hR2 := Kd.R_below hR hB2
  have hB3 : Below w.heap.size w w2 := below_then hB hB.size hB2
  clear hlow hR hB hB2 hg1
  go_wp2
  go_loopw [14] (fun v14 w' => ∃ k : Nat, k ≤ 4 ∧ v14 = .int .i64 k ∧ byte.R 5 w' w.heap.size (fun _ => True) (.slice (some ⟨g, 0, none⟩) l.length cap) (puts l s k) ∧ Below w.heap.size w w') (fun v14 _ => 4 - (intOf v14).toNat)
  case atStart => exact ⟨0, by omega, rfl, hR2, hB3⟩
  case round =>
    obtain ⟨k, hk, rfl, hR, hB⟩ := hrel
    have hpl := puts_length l s k
    rcases (by omega : k = 0 ∨ k = 1 ∨ k = 2 ∨ k = 3 ∨ k = 4) with rfl | rfl | rfl | rfl | rfl
    · obtain ⟨hcl, hfr⟩ := byte_cell hR 8 (by omega)
      go_wp2
      go_roundw
      case rel => exact ⟨1, by omega, rfl, byte_put hR 8 _ _ (by rw [show (8 * 0) = 0 from rfl, ofNat_shr, show ((2 ^ 0 : Nat) : Int) = 1 from rfl]; omega), hB.setCell hg _⟩
      case measure => simp [intOf]
    · obtain ⟨hcl, hfr⟩ := byte_cell hR 9 (by omega)
      go_wp2
      go_roundw
      case rel => exact ⟨2, by omega, rfl, byte_put hR 9 _ _ (by rw [show (8 * 1) = 8 from rfl, ofNat_shr, show ((2 ^ 8 : Nat) : Int) = 256 from rfl]), hB.setCell hg _⟩
      case measure => simp [intOf]
    · obtain ⟨hcl, hfr⟩ := byte_cell hR 10 (by omega)
      go_wp2
      go_roundw
      case rel => exact ⟨3, by omega, rfl, byte_put hR 10 _ _ (by rw [show (8 * 2) = 16 from rfl, ofNat_shr, show ((2 ^ 16 : Nat) : Int) = 65536 from rfl]), hB.setCell hg _⟩
      case measure => simp [intOf]
    · obtain ⟨hcl, hfr⟩ := byte_cell hR 11 (by omega)
      go_wp2
      go_roundw
      case rel => exact ⟨4, by omega, rfl, byte_put hR 11 _ _ (by rw [show (8 * 3) = 24 from rfl, ofNat_shr, show ((2 ^ 24 : Nat) : Int) = 16777216 from rfl]; omega), hB.setCell hg _⟩
      case measure => simp [intOf]
    · go_wp2
      go_ret2
      exact ⟨_, rfl, hR, hB⟩
theorem check_calls (A : Option Addr) (c : Nat) (l : List UInt8) (w : World) (ht : Table w) (hb : byte.C w A l.length l) (hc : l.length ≤ c) (hm : l.length ≤ 140737488355328) :
    Calls Tryd.prog 16 #[.slice A l.length c] w fun e w' => e = .returned (.int .i64 (checkL l)) ∧ Below w.heap.size w w' := by
  by_cases hl : l.length < 12
  · have h := put_brief A c l w hl
    have hL : checkL l = 20 := if_pos hl
    rw [hL]
    go_enter Tryd.func16, Tryd.ntmps16
    go_wp2_with fail
    refine h.mono ?_
    rintro e w' ⟨rfl, rfl⟩
    go_wp2
    go_ret
    exact ⟨rfl, Below.refl _ _⟩
  · have h := put_calls A c l w ht hb hc hm (by omega)
    have hL : checkL l = if putL l = l then 0 else 21 := if_neg hl
    rw [hL]
    have hlen := puts_length l (sumL (noSum l)) 4
    have hP : puts l (sumL (noSum l)) 4 = putL l := rfl
    rw [hP] at h hlen
    generalize putL l = q at *
    by_cases hq : q = l
    · rw [if_pos hq]
      have HQ := Lib.hid hq
      have HL := Lib.hid hlen
      clear hq hlen hP hL
      go_enter Tryd.func16, Tryd.ntmps16
      go_wp2_with fail
      refine h.mono ?_
      rintro e w1 ⟨v, rfl, hR, hB⟩
      obtain ⟨A1, c1, rfl, hle, hC⟩ := Kd.R_reads hR
      have he := equal_calls A1 A c1 c q l w1 hC (Kd.C_below hb hB)
      rw [decide_eq_true HQ.out] at he
      clear h hR hb
      go_wp2_with fail
      refine he.mono ?_
      rintro e w' ⟨rfl, hD⟩
      go_wp2
      go_ret
      exact ⟨rfl, below_then hB hB.size hD.below⟩
    · rw [if_neg hq]
      have HQ := Lib.hid hq
      have HL := Lib.hid hlen
      clear hq hlen hP hL
      go_enter Tryd.func16, Tryd.ntmps16
      go_wp2_with fail
      refine h.mono ?_
      rintro e w1 ⟨v, rfl, hR, hB⟩
      obtain ⟨A1, c1, rfl, hle, hC⟩ := Kd.R_reads hR
      have he := equal_calls A1 A c1 c q l w1 hC (Kd.C_below hb hB)
      rw [decide_eq_false HQ.out] at he
      clear h hR hb
      go_wp2_with fail
      refine he.mono ?_
      rintro e w' ⟨rfl, hD⟩
      go_wp2
      go_ret
      exact ⟨rfl, below_then hB hB.size hD.below⟩
end Go.Proofs.YtdgahdfegpkmfaaDoor.Crc
