/- Cut of anything; the message in three pieces: walked. -/
import Derived.Test.YtgfkdebbdjojmaaFragH
import Derived.Lib.SlBytesConst
namespace Go.Proofs.Ytgfkdebbdjojmaa.Frag
open Go.RowKit Go.Proofs.YtgfkdebbdjojmaaW.PrintWords Go.Proofs.Ytgfkdebbdjojmaa.Base
set_option linter.unusedVariables false
set_option linter.unusedSimpArgs false
/-- What Cut hands back. -/
def cutA (l : List UInt8) (n : Int) : List Pc × Int := if (countS l.length n).2 = 0 then (cutL l n.toNat, 0) else ([], (countS l.length n).2)
theorem countS_ok {s n : Int} (h : (countS s n).2 = 0) : 1 ≤ n ∧ n ≤ 65536 ∧ 1 ≤ s ∧ s ≤ 65536 := by
  unfold countS at h
  by_cases h1 : n < 1 ∨ n > 65536 ∨ s < 1
  · rw [if_pos h1] at h; cases h
  rw [if_neg h1] at h
  by_cases h2 : s > 65536
  · rw [if_pos h2] at h; cases h
  omega
theorem countS_bad {s n : Int} (h : (countS s n).2 ≠ 0) : countS s n = (0, (countS s n).2) := by
  unfold countS at h ⊢
  by_cases h1 : n < 1 ∨ n > 65536 ∨ s < 1
  · rw [if_pos h1]
  rw [if_neg h1] at h ⊢
  by_cases h2 : s > 65536
  · rw [if_pos h2]
  · rw [if_neg h2] at h; exact absurd rfl h
def CutAny (l : List UInt8) (n : Int) (w : World) (e : Ending) (w' : World) : Prop :=
  ∃ v, e = .returned (.tuple #[v, .int .i64 (cutA l n).2]) ∧ Kd.R pcK 42 w' w.heap.size (fun _ => True) v (cutA l n).1 ∧ Below w.heap.size w w'
theorem cut_any (w : World) (A : Option Addr) (l : List UInt8) (c : Nat) (n : Int) (hb : byte.C w A l.length l) (hc : l.length ≤ c) (hl : l.length ≤ 140737488355328) :
    Calls Try.prog 8 #[.slice A l.length c, .int .i64 n] w (CutAny l n w) := by
  by_cases h : (countS l.length n).2 = 0
  · obtain ⟨h1, h2, h3, h4⟩ := countS_ok h
    have hn : n = ((n.toNat : Nat) : Int) := by omega
    have := cut_calls w A l c n.toNat hb hc (by omega) (by omega) (by omega) (by omega)
    rw [← hn] at this
    refine this.mono fun e w' hp => ?_
    obtain ⟨v, he, hR, hB⟩ := hp
    unfold CutAny cutA
    rw [if_pos h]
    exact ⟨v, he, hR, hB⟩
  · have hct := count_calls w (l.length : Int) n
    rw [countS_bad h] at hct
    unfold CutAny cutA
    rw [if_neg h]
    have hne : ((countS (l.length : Int) n).2 != 0) = true := by simp [h]
    clear h hb
    generalize (countS (l.length : Int) n).2 = code at *
    have HCT := Lib.hid hct
    clear hct
    refine (callsIn_wide (n := 3)).1 (callsIn_of_wp_marks Try.func8 rfl trivial (wpIn_wide.2 ?_) rfl)
    simp only [Try.ntmps8, List.size_toArray, List.length_cons, List.length_nil, Nat.reduceAdd, Nat.reduceSub, Array.replicate_succ, Array.replicate_zero, List.push_toArray, List.append_toArray, List.nil_append, List.cons_append]
    go_wp2_with fail
    refine HCT.out.mono ?_
    rintro e w1 ⟨rfl, rfl⟩
    go_wp2
    exact ⟨_, results_list (rs := [.tmp 4, .tmp 5]) rfl (by simp) (.tmp (.tmp .nil)), .slice none 0 0, rfl, Kd.R_nil _ _ _ _ _, Below.refl _ _⟩
theorem refCut_any (w : World) (A : Option Addr) (l : List UInt8) (c : Nat) (n : Int) (hb : byte.C w A l.length l) (hc : l.length ≤ c) (hl : l.length ≤ 140737488355328) :
    Calls Try.prog 9 #[.slice A l.length c, .int .i64 n] w (CutAny l n w) := by
  by_cases h : (countS l.length n).2 = 0
  · obtain ⟨h1, h2, h3, h4⟩ := countS_ok h
    have hn : n = ((n.toNat : Nat) : Int) := by omega
    have := refCut_calls w A l c n.toNat hb hc (by omega) (by omega) (by omega) (by omega)
    rw [← hn] at this
    refine this.mono fun e w' hp => ?_
    obtain ⟨v, he, hR, hB⟩ := hp
    unfold CutAny cutA
    rw [if_pos h]
    exact ⟨v, he, hR, hB⟩
  · have hct := refCount_calls w (l.length : Int) n
    rw [countS_bad h] at hct
    unfold CutAny cutA
    rw [if_neg h]
    have hne : ((countS (l.length : Int) n).2 != 0) = true := by simp [h]
    clear h hb
    generalize (countS (l.length : Int) n).2 = code at *
    have HCT := Lib.hid hct
    clear hct
    go_enter Try.func9, Try.ntmps9
    go_wp2_with fail
    refine HCT.out.mono ?_
    rintro e w1 ⟨rfl, rfl⟩
    go_wp2
    go_ret2
    exact ⟨.slice none 0 0, rfl, Kd.R_nil _ _ _ _ _, Below.refl _ _⟩
def abcde : List UInt8 := [97, 98, 99, 100, 101]
def threeP : List Pc := [(true, false, [97, 98]), (false, false, [99, 100]), (false, true, [101])]
theorem alive_cut : cutA abcde 2 = (threeP, 0) := by decide +kernel
theorem alive_join : joinS threeP = (abcde, 0, 0) := by decide +kernel
set_option maxHeartbeats 1000000 in
theorem alive_calls (w : World) : Calls Try.prog 13 #[] w fun e w' => e = .returned (.bool true) ∧ Below w.heap.size w w' := by
  have hC0 : byte.C (w.alloc (.cells #[.int .u8 97, .int .u8 98, .int .u8 99, .int .u8 100, .int .u8 101] 5 (5, 6))) (some ⟨w.heap.size, 0, none⟩) 5 abcde :=
    row_lit byte rfl w 5 [.int .u8 97, .int .u8 98, .int .u8 99, .int .u8 100, .int .u8 101] abcde rfl (by decide) (lit_byte w abcde rfl) (fr := (5, 6))
  have HCUT := Lib.hid (cut_any (w.alloc (.cells #[.int .u8 97, .int .u8 98, .int .u8 99, .int .u8 100, .int .u8 101] 5 (5, 6))) (some ⟨w.heap.size, 0, none⟩) abcde 5 2 hC0 (by decide) (by decide))
  unfold CutAny at HCUT
  rw [alive_cut] at HCUT
  have HB0 := Lib.hid (below_alloc (Below.refl w.heap.size w) (.cells #[.int .u8 97, .int .u8 98, .int .u8 99, .int .u8 100, .int .u8 101] 5 (5, 6)))
  have HJ := Lib.hid (fun (W : World) (A : Option Addr) (c : Nat) (h : Kd.C pcK W A threeP.length threeP) => join_calls W A c threeP h (by decide) (by decide))
  unfold JoinPost at HJ
  rw [alive_join] at HJ
  have kc := fun (w : World) (C : Array Value) (n c : Nat) => Lib.run_convert_bytes_const (P := Try.prog) w 22 5 C n c Try.underlying22 Try.underlying5
  clear hC0
  go_enter Try.func13, Try.ntmps13
  go_wp2_with fail
  refine HCUT.out.mono ?_
  rintro e w1 ⟨v1, rfl, hR1, hB1⟩
  obtain ⟨gr, c1, rfl, _, _, _⟩ := Kd.R_form hR1 (by decide)
  have hC1 := (Kd.R_reads' hR1).2.2
  have HC1 := Lib.hid hC1
  have HB1 := Lib.hid (below_then HB0.out HB0.out.size hB1)
  clear hR1 hC1 hB1
  go_wp2_with fail
  refine (HJ.out w1 _ c1 HC1.out).mono ?_
  rintro e w2 ⟨v2, rfl, hR2, hB2⟩
  obtain ⟨A2, c2, rfl, hle2, hC2⟩ := Kd.R_reads hR2
  obtain ⟨_, B0, d0, e1, x0, y0, z0, l0, b0⟩ := at_pc (Kd.C_below HC1.out hB2) 0 (by decide)
  obtain ⟨_, B2, d2, e2, x2, y2, z2, l2, b2⟩ := at_pc (Kd.C_below HC1.out hB2) 2 (by decide)
  cases e1
  cases e2
  have r2 := run_bstr (c := d2) b2
  have r3 := run_bstr (c := c2) hC2
  have HB2 := Lib.hid (below_then HB1.out HB1.out.size hB2)
  clear hR2 hB2 hC2 b0 b2 l0 l2 hle2
  have hl3 : threeP.length = 3 := rfl
  have x0' : w2.cell? ⟨gr, 0, none⟩ = some (.bool true) := x0
  have y0' : w2.cell? ⟨gr, 1, none⟩ = some (.bool false) := y0
  have z2' : w2.cell? ⟨gr, 8, none⟩ = some (.slice B2 1 d2) := z2
  have r2' : (convert 22 9 (.slice B2 1 d2)).run Try.prog w2 = .ok (.string (bstr [101])) w2 := r2
  have r3' : (convert 22 9 (.slice A2 5 c2)).run Try.prog w2 = .ok (.string (bstr abcde)) w2 := r3
  have hla : abcde.length = 5 := rfl
  have s2 : (bstr [101]).toList = [101] := bstr_toList _
  have s3 : (bstr abcde).toList = [97, 98, 99, 100, 101] := bstr_toList _
  rw [hl3, hla]
  clear x0 y0 z0 x2 y2 z2 r2 r3
  go_wp2
  go_ret
  exact ⟨rfl, HB2.out⟩
end Go.Proofs.Ytgfkdebbdjojmaa.Frag
