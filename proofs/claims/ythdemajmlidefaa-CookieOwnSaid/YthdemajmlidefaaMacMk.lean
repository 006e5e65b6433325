/- The seal of parts, walked; the row they make. -/
import Derived.Test.YthdemajmlidefaaMacIk
import Derived.Test.YthdemajmlidefaaRegB
import Derived.Test.YthdemajmlidefaaWMore
namespace Go.Proofs.Ythdemajmlidefaa.Mac
open Go.RowKit Go.Proofs.YthdemajmlidefaaW.PrintWords Go.Proofs.Ythdemajmlidefaa.Base
set_option linter.unusedVariables false
set_option linter.unusedSimpArgs false
theorem key_size {k : List UInt8} (hk : k.length = 16) : (Try.prog.info? 23).map (·.size) = some (keyV k).size := by
  have hs : (keyV k).size = 16 := by rw [keyV_size, hk]
  have e : (Try.prog.info? 23).map (·.size) = some 16 := by kernel_rfl
  rw [hs]
  exact e
/-- What is loaded of a key. -/
theorem key_load {w : World} {g : Nat} {k : List UInt8} (hk : k.length = 16) (h : w.heap[g]? = some (.cells (keyV k) 23 (0, 0))) : (loadVar 23 ⟨g, 0, none⟩).run Try.prog w = .ok (.agg (keyV k)) w := by
  have hs : (keyV k).size = 16 := by rw [keyV_size, hk]
  exact run_loadVar_row w g 23 23 (keyV k) (0, 0) _ h Try.underlying23 rfl (by rw [hs]; kernel_rfl)

theorem R_ge_block {w : World} {base n c t : Nat} {ok : Nat → Prop} {ad : Addr} {q : List UInt8} (h : byte.R t w base ok (.slice (some ad) n c) q) : base ≤ ad.block := by
  obtain ⟨inner, ho⟩ := Kd.R_own h
  rcases ho.2 with ⟨h0, _⟩ | ⟨g, cap, cur, h0, hb, _⟩
  · cases h0
  · injection h0 with h0
    injection h0 with h0
    subst h0
    exact hb
/-- The row that parts make: each one's length ahead of it. -/
def rowL (ps : List (List UInt8)) : List UInt8 := (ps.map fun p => textL (UInt64.ofNat p.length) ++ p).flatten
theorem rowL_succ (ps : List (List UInt8)) (i : Nat) (h : i < ps.length) : rowL (ps.take (i + 1)) = rowL (ps.take i) ++ textL (UInt64.ofNat (ps.getD i []).length) ++ ps.getD i [] := by
  unfold rowL
  rw [List.take_succ_eq_append_getElem h, List.map_append, List.flatten_append, getD_lt _ _ _ h]
  simp
theorem rowL_le (ps : List (List UInt8)) (i : Nat) : (rowL (ps.take i)).length ≤ (rowL ps).length := by
  have := congrArg List.length (congrArg rowL (List.take_append_drop i ps))
  unfold rowL at *
  rw [List.map_append, List.flatten_append, List.length_append] at this
  omega
def sumS (k : List UInt8) (ps : List (List UInt8)) : UInt64 := bytesS k (rowL ps)
theorem textL_length (x : UInt64) : (textL x).length = 8 := rfl
theorem text_len (W : World) (n : Nat) (hn : n ≤ 9223372036854775807) : Calls Try.prog 21 #[.int .u64 (n : Int)] W (RetR byte 5 (textL (UInt64.ofNat n)) W) := by
  have := text_calls W (UInt64.ofNat n)
  rw [UInt64.toNat_ofNat', Nat.mod_eq_of_lt (by omega)] at this
  exact this
theorem refText_len (W : World) (n : Nat) (hn : n ≤ 9223372036854775807) : Calls Try.prog 15 #[.int .u64 (n : Int)] W (RetR byte 5 (textL (UInt64.ofNat n)) W) := by
  have := refText_calls W (UInt64.ofNat n)
  rw [UInt64.toNat_ofNat', Nat.mod_eq_of_lt (by omega)] at this
  exact this
set_option maxHeartbeats 1000000 in
theorem sum_calls (w : World) (k : List UInt8) (hk : k.length = 16) (A : Option Addr) (c : Nat) (ps : List (List UInt8)) (hp : bytesK.C w A ps.length ps) (hm : (rowL ps).length ≤ 4611686018427387904) :
    Calls Try.prog 22 #[.agg (keyV k), .slice A ps.length c] w fun e w' => e = .returned (.int .u64 ((sumS k ps).toNat : Int)) ∧ Below w.heap.size w w' := by
  have hlen := hp.2.1
  have hst := fun W : World => start_calls W k hk
  have hkk : (keyV k).size = 16 := by rw [keyV_size, hk]
  have hbs : Hid (sumS k ps = sealS (putL ⟨startQ k, 0, 0⟩ (rowL ps))) := rfl
  generalize sumS k ps = z at *
  generalize keyV k = K at *
  generalize startQ k = Q at *
  have HK := Lib.hid hkk
  have HST := Lib.hid hst
  have HP := Lib.hid hp
  clear hkk hst hp
  go_enter Try.func22, Try.ntmps22
  go_wp2_with (refine wpList_load_row rfl 23 _ rfl w.heap.size rfl 23 K (0, 0) _ (heap_alloc_new _ _) Try.underlying23 rfl (by rw [HK.out]; kernel_rfl) ?_)
  refine (HST.out _).mono ?_
  rintro e w1 ⟨g, rfl, hg, hS, hB⟩
  have hB1 : Below w.heap.size w w1 := ((Below.refl _ _).alloc (Nat.le_refl _) _).trans (hB.mono (by simp))
  have hg1 : w.heap.size < g := by simp at hg; omega
  have HB1 := Lib.hid hB1
  have HS1 := Lib.hid hS
  clear hB hg hB1 hS
  go_wp2
  go_loopw [12] (fun v12 w' => ∃ i : Nat, i ≤ ps.length ∧ v12 = .int .i64 i ∧ Hid (St w' g (putL ⟨Q, 0, 0⟩ (rowL (ps.take i)))) ∧ Hid (Below w.heap.size w w')) (fun v12 _ => ps.length - (intOf v12).toNat)
  case atStart => exact ⟨0, by omega, rfl, HS1, HB1⟩
  case round =>
    clear HS1 HB1
    obtain ⟨i, hi, rfl, HS, HB⟩ := hrel
    by_cases hlt : i < ps.length
    · obtain ⟨ad, A0, c0, rfl, hx0, hl0, hb0⟩ := bytes_at HP.out i hlt
      have hx := pw_cell_below HB.out hx0
      have hold : Hid (∀ ad, A0 = some ad → 0 < (ps.getD i []).length → ad.block ≠ g) := by
        intro ad e hn
        subst e
        have := C_block hb0 hn
        omega
      have hb := Kd.C_below hb0 HB.out
      have HC0 := Lib.hid hb0
      have hsucc := Lib.hid (rowL_succ ps i hlt)
      have hle := rowL_le ps (i + 1)
      rw [hsucc.out, List.length_append, List.length_append] at hle
      generalize ps.getD i [] = p at *
      have hpl := hb.2.1
      have HT := Lib.hid (fun W => text_len W p.length hpl)
      generalize hxs : rowL (ps.take i) = xs at *
      have hSn : Hid ((putL ⟨Q, 0, 0⟩ xs).n = xs.length) := by show _ = _; rw [putL_n]; show 0 + _ = _; omega
      generalize textL (UInt64.ofNat p.length) = tx at *
      have hap : Hid (putL ⟨Q, 0, 0⟩ (rowL (ps.take (i + 1))) = putL (putL (putL ⟨Q, 0, 0⟩ xs) tx) p) := by show _ = _; rw [hsucc.out, putL_append, putL_append]
      generalize putL ⟨Q, 0, 0⟩ xs = s at *
      have hn1 : s.n + tx.length ≤ 4611686018427387904 := by rw [hSn.out]; omega
      have hn2 : (putL s tx).n + p.length ≤ 4611686018427387904 := by rw [putL_n, hSn.out]; omega
      have HN := Lib.hid (And.intro hn1 hn2)
      have hgl := blk_lt HS.out.out.out
      have HLE := Lib.hid hle
      clear hn1 hn2 hb hb0 hx0 hle hsucc hxs
      go_wp2_with fail
      refine (HT.out _).mono ?_
      rintro e w2 ⟨v, rfl, hR, hB2⟩
      obtain ⟨A1, c1, rfl, hle1, hC1⟩ := Kd.R_reads hR
      have hne : ∀ ad, A1 = some ad → 0 < tx.length → ad.block ≠ g := by
        intro ad e _
        subst e
        have := R_ge_block hR
        omega
      have HNE := Lib.hid hne
      have HC1 := Lib.hid hC1
      have HS2 := Lib.hid (show St w2 g s from ⟨⟨blk_below HS.out.out.out hB2⟩⟩)
      have HB2 := Lib.hid (HB.out.trans (hB2.mono HB.out.size))
      clear hR hB2 hC1 hne HS HB HT
      go_wp2_with fail
      refine (write_calls w2 g s A1 c1 tx HC1.out HNE.out HN.out.1 HS2.out).mono ?_
      rintro e w3 ⟨rfl, hS3, hO3⟩
      have HB3 := Lib.hid (HB2.out.trans (hO3.below HB2.out.size (fun k hk => by omega)))
      have HC3 := Lib.hid (Kd.C_below HC0.out HB3.out)
      have HS3 := Lib.hid hS3
      clear hS3 hO3 HS2 HB2
      go_wp2_with fail
      refine (write_calls w3 g _ A0 c0 p HC3.out hold.out HN.out.2 HS3.out).mono ?_
      rintro e w4 ⟨rfl, hS4, hO4⟩
      have HB4 := Lib.hid (HB3.out.trans (hO4.below HB3.out.size (fun k hk => by omega)))
      have HS4 := Lib.hid hS4
      clear hS4 hO4 HC3 HS3 HB3
      go_wp2
      go_roundw
      case rel => exact ⟨i + 1, by omega, by go_num, by rw [hap.out]; exact HS4, HB4⟩
      case measure => simp [intOf]; omega
    · obtain rfl : i = ps.length := by omega
      rw [List.take_length] at HS
      have hn : (putL ⟨Q, 0, 0⟩ (rowL ps)).n ≤ 4611686018427387904 := by rw [putL_n]; show 0 + _ ≤ _; omega
      have HN := Lib.hid hn
      clear hn
      generalize putL ⟨Q, 0, 0⟩ (rowL ps) = s at *
      go_wp2_with fail
      refine (seal_calls wr g _ HN.out HS.out).mono ?_
      rintro e w3 ⟨rfl, hO3⟩
      have hB3 : Below w.heap.size w w3 := HB.out.trans (hO3.below HB.out.size (fun k hk => by omega))
      go_wp2
      go_ret
      exact ⟨by rw [hbs.out]; rfl, hB3⟩
theorem refRow_calls (w : World) (A : Option Addr) (c : Nat) (ps : List (List UInt8)) (hp : bytesK.C w A ps.length ps) (hm : (rowL ps).length ≤ 140737488355328) :
    Calls Try.prog 29 #[.slice A ps.length c] w (RetR byte 5 (rowL ps) w) := by
  have hlen := hp.2.1
  have HP := Lib.hid hp
  clear hp
  go_enter Try.func29, Try.ntmps29
  go_wp2
  go_loopw [3, 4] (fun v3 v4 w' => ∃ i : Nat, i ≤ ps.length ∧ v4 = .int .i64 i ∧ Hid (byte.R 5 w' w.heap.size (fun _ => True) v3 (rowL (ps.take i))) ∧ Hid (Below w.heap.size w w')) (fun _ v4 _ => ps.length - (intOf v4).toNat)
  case atStart => exact ⟨0, by omega, rfl, Kd.R_nil _ _ _ _ _, Below.refl _ _⟩
  case round =>
    obtain ⟨i, hi, rfl, HR, HB⟩ := hrel
    by_cases hlt : i < ps.length
    · obtain ⟨ad, A0, c0, rfl, hx0, hl0, hb0⟩ := bytes_at HP.out i hlt
      have hx := pw_cell_below HB.out hx0
      have hsucc := Lib.hid (rowL_succ ps i hlt)
      have hle := rowL_le ps (i + 1)
      rw [hsucc.out, List.length_append, List.length_append] at hle
      generalize ps.getD i [] = p at *
      have hpl := hb0.2.1
      have HT := Lib.hid (fun W => refText_len W p.length hpl)
      generalize rowL (ps.take i) = xs at *
      generalize textL (UInt64.ofNat p.length) = tx at *
      have HC0 := Lib.hid hb0
      have HLE := Lib.hid hle
      obtain ⟨Av, cv, rfl⟩ := Kd.R_slice HR.out
      clear hb0 hle
      go_wp2_with fail
      refine (HT.out _).mono ?_
      rintro e w2 ⟨v, rfl, hR2, hB2⟩
      obtain ⟨A1, c1, rfl, hle1, hC1⟩ := Kd.R_reads hR2
      have HC1 := Lib.hid hC1
      have HR2 := Lib.hid (Kd.R_below HR.out hB2)
      have HB2 := Lib.hid (HB.out.trans (hB2.mono HB.out.size))
      have hx2 := pw_cell_below HB2.out hx0
      clear hR2 hB2 hC1 HR HB HT
      go_upto_region 6 with (at_builtin; go_must (refine Kd.R_append_row (fun b : UInt8 => .int .u8 (b.toNat : Int)) (0 : UInt8) (w0 := w) w.heap.size rfl _ _ 28 5 _ 1 rfl Try.underlying28 info_u8 rfl (by decide) _ xs tx A1 tx.length c1 (fun _ => True) rfl rfl (fun _ _ => trivial) HR2.out HC1.out HB2.out HB2.out.size (by have := HLE.out; omega) ?_); intro v3 w3 hR3 hB3 _ _; generalize hys : xs ++ tx = ys at *; have HYS := Lib.hid hys; clear hys; obtain ⟨A3, c3, rfl⟩ := Kd.R_slice hR3; have hx3 := pw_cell_below hB3 hx0)
      have HC3 := Lib.hid (Kd.C_below HC0.out hB3)
      have HR3 := Lib.hid hR3
      have HB3 := Lib.hid hB3
      clear hR3 hB3 HR2 HC1 HB2 hx2
      have hlx2 : ys.length + p.length ≤ 140737488355328 := by rw [← HYS.out, List.length_append]; have := HLE.out; omega
      have hap : Hid (rowL (ps.take (i + 1)) = ys ++ p) := hsucc
      go_wp2_with (at_builtin; go_must (refine Kd.R_append_row (fun b : UInt8 => .int .u8 (b.toNat : Int)) (0 : UInt8) (w0 := w) w.heap.size rfl _ _ 28 5 _ 1 rfl Try.underlying28 info_u8 rfl (by decide) _ ys p A0 p.length c0 (fun _ => True) rfl rfl (fun _ _ => trivial) HR3.out HC3.out HB3.out HB3.out.size (by omega) ?_); intro v4 w4 hR4 hB4 _ _)
      go_roundw
      case rel => exact ⟨i + 1, by omega, by go_num, by rw [hap.out]; exact hR4, hB4⟩
      case measure => simp [intOf]; omega
    · obtain rfl : i = ps.length := by omega
      rw [List.take_length] at HR
      go_wp2
      go_ret
      exact ⟨_, rfl, HR.out, HB.out⟩
end Go.Proofs.Ythdemajmlidefaa.Mac
