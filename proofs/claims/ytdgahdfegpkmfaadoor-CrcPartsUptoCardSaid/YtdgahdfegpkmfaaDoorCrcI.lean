/- The walk of the statement CrcOwn. -/
import Derived.Test.YtdgahdfegpkmfaaDoorCrcH
namespace Go.Proofs.YtdgahdfegpkmfaaDoor.Crc
open Go.RowKit Go.Proofs.YtdgahdfegpkmfaaDoorW.PrintWords Go.Proofs.YtdgahdfegpkmfaaDoor.Base CrcMath
set_option linter.unusedVariables false
set_option linter.unusedSimpArgs false

theorem not8 (a : UInt8) : bits .xor .u8 255 (a.toNat : Int) = ((~~~a).toNat : Int) := by
  have h : ∀ n : Nat, n < 256 → bits .xor .u8 255 (n : Int) = ((~~~(UInt8.ofNat n)).toNat : Int) := by decide +kernel
  have := h a.toNat a.toNat_lt
  rwa [UInt8.ofNat_toNat] at this
theorem xor8 (a b : UInt8) : bits .xor .u8 (a.toNat : Int) (b.toNat : Int) = ((a ^^^ b).toNat : Int) := by
  have ha := a.toNat_lt
  have hb := b.toNat_lt
  have ha' : a.toNat % 2 ^ 8 = a.toNat := Nat.mod_eq_of_lt ha
  have hb' : b.toNat % 2 ^ 8 = b.toNat := Nat.mod_eq_of_lt hb
  have h := Nat.xor_lt_two_pow (n := 8) ha hb
  have e : (BitVec.ofNat 8 a.toNat ^^^ BitVec.ofNat 8 b.toNat).toNat = a.toNat ^^^ b.toNat := by rw [BitVec.toNat_xor, BitVec.toNat_ofNat, BitVec.toNat_ofNat, ha', hb']
  have e2 : bits .xor .u8 (a.toNat : Int) (b.toNat : Int) = IntKind.u8.wrap ((BitVec.ofNat 8 a.toNat ^^^ BitVec.ofNat 8 b.toNat).toNat : Nat) := by
    rfl
  rw [e2, e, IntKind.wrap_u8, UInt8.toNat_xor]
  omega
theorem getD_set_ne {α : Type} (l : List α) (i j : Nat) (x d : α) (h : i ≠ j) : (l.set i x).getD j d = l.getD j d := by
  simp [List.getD_eq_getElem?_getD, List.getElem?_set_ne h]
/-- What Put answers, brief packets too. -/
def putR (l : List UInt8) : List UInt8 := if l.length < 12 then [] else putL l
def putCode (l : List UInt8) : Int := if l.length < 12 then 20 else 0
def PutAll (l q : List UInt8) (x : Int) (w : World) (e : Ending) (w' : World) : Prop := ∃ A1 c1, e = .returned (.tuple #[.slice A1 q.length c1, .int .i64 x]) ∧ byte.R 5 w' w.heap.size (fun k => w.heap.size ≤ k) (.slice A1 q.length c1) q ∧ Below w.heap.size w w'
theorem base_R {w : World} {base : Nat} {v : Value} {q : List UInt8} (h : byte.R 5 w base (fun _ => True) v q) : byte.R 5 w base (fun k => base ≤ k) v q := Kd.R_mono (Kd.R_bound h) fun _ hk => hk.2.1
theorem put_all (A : Option Addr) (c : Nat) (l : List UInt8) (w : World) (ht : Table w) (hb : byte.C w A l.length l) (hc : l.length ≤ c) (hm : l.length ≤ 140737488355328) :
    Calls Tryd.prog 14 #[.slice A l.length c] w (PutAll l (putR l) (putCode l) w) := by
  unfold putR putCode
  by_cases hl : l.length < 12
  · rw [if_pos hl, if_pos hl]
    refine (put_brief A c l w hl).mono ?_
    rintro e w' ⟨rfl, rfl⟩
    exact ⟨none, 0, rfl, Kd.R_nil _ _ _ _ _, Below.refl _ _⟩
  · rw [if_neg hl, if_neg hl]
    refine (put_calls A c l w ht hb hc hm (by omega)).mono ?_
    rintro e w' ⟨v, rfl, hR, hB⟩
    obtain ⟨A1, c1, rfl⟩ := Kd.R_slice hR
    rw [← putL_eq] at hR
    have := putL_length l
    rw [puts_length, ← this] at *
    exact ⟨A1, c1, rfl, base_R hR, hB⟩
theorem refPut_all (A : Option Addr) (c : Nat) (l : List UInt8) (w : World) (hb : byte.C w A l.length l) (hc : l.length ≤ c) (hm : l.length ≤ 140737488355328) :
    Calls Tryd.prog 15 #[.slice A l.length c] w (PutAll l (putR l) (putCode l) w) := by
  unfold putR putCode
  by_cases hl : l.length < 12
  · rw [if_pos hl, if_pos hl]
    refine (refPut_brief A c l w hl).mono ?_
    rintro e w' ⟨rfl, rfl⟩
    exact ⟨none, 0, rfl, Kd.R_nil _ _ _ _ _, Below.refl _ _⟩
  · rw [if_neg hl, if_neg hl]
    refine (refPut_calls A c l w hb hc hm (by omega)).mono ?_
    rintro e w' ⟨v, rfl, hR, hB⟩
    obtain ⟨A1, c1, rfl⟩ := Kd.R_slice hR
    exact ⟨A1, c1, rfl, base_R hR, hB⟩
theorem crcOwn_row {w : World} (A : Option Addr) (c : Nat) (l : List UInt8) (hb : byte.C w A l.length l) (hc : l.length ≤ c) (hm0 : c ≤ 140737488351232) (ht : Table w) :
    Calls Tryd.prog 6 #[.slice A l.length c] w fun e w' => e = .returned (.bool true) ∧ Below w.heap.size w w' := by
  have hm : l.length ≤ 140737488355328 := by omega
  have hmax : l.length ≤ 9223372036854775807 := by omega
  have hO : byte.R 5 (w.alloc (.cells #[] 5)) w.heap.size (fun _ => True) (.slice (some ⟨w.heap.size, 0, none⟩) 0 0) [] := Kd.R_of_own (own_lit_of (enc := fun b : UInt8 => Value.int .u8 (b.toNat : Int)) w w.heap.size 5 [] (Nat.le_refl _) (by simp)) (fun _ _ => trivial)
  have HO := Lib.hid hO
  clear hO
  have hmx : IntKind.u8.max = 255 := rfl
  have hsg : IntKind.u8.signed = false := rfl
  have haw := fun (w1 : World) (h : Below w.heap.size w w1) => awake_calls w1 (ht.below h)
  have h1 := fun (w1 : World) (h : Below w.heap.size w w1) (A1 : Option Addr) (c1 : Nat) (hC : byte.C w1 A1 l.length l) (hle : l.length ≤ c1) => put_all A1 c1 l w1 (ht.below h) hC hle hm
  have h2 := fun (w1 : World) (h : Below w.heap.size w w1) => refPut_all A c l w1 (Kd.C_below hb h) hc hm
  generalize putR l = q at *
  generalize hx : putCode l = x at *
  clear hx
  have hs := bstr_eq q q
  rw [decide_eq_true rfl] at hs
  have he : (x == x) = true := by simp
  have H1 := Lib.hid h1
  have H2 := Lib.hid h2
  have HAW := Lib.hid haw
  have HB := Lib.hid hb
  clear hb ht haw h1 h2
  go_enter Tryd.func6, Tryd.ntmps6
  go_wp2_with (at_builtin; go_must (refine Kd.R_append_row (fun b : UInt8 => .int .u8 (b.toNat : Int)) (0 : UInt8) (w0 := w) w.heap.size rfl _ _ 22 5 _ 1 rfl Tryd.underlying22 info_u8 rfl (by decide) _ [] l A l.length c (fun _ => True) rfl rfl (fun _ _ => trivial) HO.out (Kd.C_alloc HB.out _) ((Below.refl _ _).alloc (Nat.le_refl _) _) (by simp) (by simpa using hm) ?_); intro v1 w1 hR1 hB1 _ _)
  rw [List.nil_append] at hR1
  have hR : byte.R 5 w1 w.heap.size (fun _ => True) v1 l := hR1
  clear hR1
  obtain ⟨A1, c1, rfl, hle1, hC1⟩ := Kd.R_reads hR
  refine (H1.out w1 hB1 A1 c1 hC1 hle1).mono ?_
  rintro e w2 ⟨A2, c2, rfl, hP, hB2⟩
  have hlt : ∀ ad, A1 = some ad → ad.block < w1.heap.size := fun ad e => by
    subst e
    exact R_lt_block hR
  have hR2 := Kd.R_below hR hB2
  have hB2' := below_then hB1 hB1.size hB2
  clear hC1 hR hB1 hB2
  go_wp2
  go_loopw [19] (fun v19 w' => ∃ (k : Nat) (xs : List UInt8), k ≤ l.length ∧ v19 = .int .i64 k ∧ Hid (xs.length = l.length) ∧ Hid (∀ j, k ≤ j → xs.getD j 0 = l.getD j 0) ∧ byte.R 5 w' w.heap.size (fun _ => True) (.slice A1 l.length c1) xs ∧ byte.R 5 w' w1.heap.size (fun k => w1.heap.size ≤ k) (.slice A2 q.length c2) q ∧ Below w.heap.size w w') (fun v19 _ => l.length - (intOf v19).toNat)
  case atStart => exact ⟨0, l, by omega, rfl, rfl, fun _ _ => rfl, hR2, hP, hB2'⟩
  case round =>
    clear hR2 hP hB2'
    obtain ⟨k, xs, hk, rfl, HX, HJ, hR, hP, hB⟩ := hrel
    by_cases hkl : k < l.length
    · obtain ⟨g, cap, hge, hg, hg1⟩ := (Kd.R_own hR).elim fun _ h => h.form (by rw [HX.out]; omega)
      injection hge with hA hlen hcap
      subst hA
      have hgw : g < w1.heap.size := hlt _ rfl
      have HLen := Lib.hid hlen
      have HCap := Lib.hid hcap
      clear hlen hcap hg1 hlt
      obtain ⟨hcl, hfr⟩ := byte_cell hR k hkl
      obtain ⟨ad, rfl, hcb⟩ := byte_at (Kd.C_below HB.out hB) k hkl
      rw [HJ.out k (Nat.le_refl _)] at hcl
      have hn := not8 (l.getD k 0)
      have HJN : Hid (∀ j, k + 1 ≤ j → (xs.set k (~~~(l.getD k 0))).getD j 0 = l.getD j 0) := fun j hj => by rw [getD_set_ne _ _ _ _ _ (by omega)]; exact HJ.out j (by omega)
      have HR := Lib.hid hR
      have HP := Lib.hid hP
      have HBW := Lib.hid hB
      clear hR hP hB
      generalize hz : ((~~~(l.getD k 0)).toNat : Int) = z at *
      have HZ := Lib.hid hz
      clear hz
      generalize ((l.getD k 0).toNat : Int) = y at *
      have hyy : (y != y) = false := by simp
      go_wp2
      go_quiet (fail)
      go_wp2
      go_roundw
      case rel => exact ⟨k + 1, xs.set k (~~~(l.getD k 0)), by omega, by go_num, by rw [List.length_set]; exact HX.out, HJN, byte_put (Kd.R_drewN HR.out nq) k _ _ HZ.out.symm, Kd.R_far (Kd.R_drewN HP.out nq) (p := ⟨g, k, none⟩) (fun k' hk' => by show k' ≠ g; omega) _, (pw_below_drewN HBW.out nq).setCell (p := ⟨g, k, none⟩) hg _⟩
      case measure => simp [intOf]; omega
    · obtain rfl : k = l.length := by omega
      clear hlt
      go_wp2_with fail
      refine (H2.out wr hB).mono ?_
      rintro e w3 ⟨A3, c3, rfl, hP3, hB3⟩
      have hB3' := below_then hB hB.size hB3
      have r1 := run_bstr (c := c2) (R_C (Kd.R_below hP hB3))
      have r2 := run_bstr (c := c3) (R_C hP3)
      clear hP hR hB hB3 hP3
      go_wp2_with fail
      refine (HAW.out w3 hB3').mono ?_
      rintro e w4 ⟨rfl, hB4⟩
      have hB4' := below_then hB3' hB3'.size hB4
      go_wp2
      go_ret
      exact ⟨rfl, hB4'⟩
end Go.Proofs.YtdgahdfegpkmfaaDoor.Crc
