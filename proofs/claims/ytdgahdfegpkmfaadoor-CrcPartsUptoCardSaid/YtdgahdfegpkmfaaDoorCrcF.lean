/- The walks of the statements CrcSums, CrcPuts. -/
import Derived.Test.YtdgahdfegpkmfaaDoorCrcE
import Derived.Lib.SmallJoins
namespace Go.Proofs.YtdgahdfegpkmfaaDoor.Crc
open Go.RowKit Go.Proofs.YtdgahdfegpkmfaaDoorW.PrintWords Go.Proofs.YtdgahdfegpkmfaaDoor.Base CrcMath
set_option linter.unusedVariables false
set_option linter.unusedSimpArgs false

theorem known : sumL [49, 50, 51, 52, 53, 54, 55, 56, 57] = 3808858755 := by rw [sumL_eq]; decide +kernel
theorem known2 : sumL ([[49, 50, 51, 52, 53], [54, 55, 56, 57]] : List (List UInt8)).flatten = 3808858755 := known
theorem lits_C (w : World) (l : List UInt8) (vs : Array Value) (n : Nat) (hn : l.length = n) (hm : n ≤ 1000) (h : vs = (l.map fun b => Value.int .u8 (b.toNat : Int)).toArray) (fr : Nat × Nat) : byte.C (w.alloc (.cells vs 5 fr)) (some ⟨w.heap.size, 0, none⟩) n l := by
  subst hn
  subst h
  exact row_lit byte rfl w 5 _ l (by simp) (by omega) (lit_byte _ _ rfl) fr
/-- A row of rows of bytes that has just been made. -/
theorem rows_C (w : World) (vs : Array Value) (ps : List (List UInt8)) (n : Nat) (hn : ps.length = n) (hv : vs.size = n) (hm : n ≤ 1000)
    (h : ∀ (j : Nat) (v : Value) (p : List UInt8), vs.toList[j]? = some v → ps[j]? = some p → ∃ A c, v = .slice A p.length c ∧ p.length ≤ c ∧ byte.C w A p.length p) : bytesK.C (w.alloc (.cells vs 22)) (some ⟨w.heap.size, 0, none⟩) n ps := by
  subst hn
  refine row_lit bytesK rfl w 22 vs.toList ps (by simpa using hv) (by omega) ?_
  intro j v p h1 h2
  obtain ⟨A, c, rfl, hc, hC⟩ := h j v p h1 h2
  exact K_bytes hC hc
theorem one_C {w : World} {A : Option Addr} {c : Nat} {p : List UInt8} (hC : byte.C w A p.length p) (hc : p.length ≤ c) : bytesK.C (w.alloc (.cells #[.slice A p.length c] 22)) (some ⟨w.heap.size, 0, none⟩) [p].length [p] := by
  refine rows_C w _ [p] 1 rfl rfl (by decide) ?_
  intro j v q h1 h2
  match j, h1, h2 with
  | 0, h1, h2 => obtain rfl := Option.some.inj h1; obtain rfl := Option.some.inj h2; exact ⟨A, c, rfl, hc, hC⟩
  | j + 1, h1, h2 => cases h1
theorem awake_calls (w : World) (ht : Table w) : Calls Tryd.prog 13 #[] w fun e w' => e = .returned (.bool true) ∧ Below w.heap.size w w' := by
  have h1 := lits_C w [49, 50, 51, 52, 53] #[.int .u8 49, .int .u8 50, .int .u8 51, .int .u8 52, .int .u8 53] 5 rfl (by decide) rfl (5, 6)
  have h2 := lits_C (w.alloc (.cells #[.int .u8 49, .int .u8 50, .int .u8 51, .int .u8 52, .int .u8 53] 5 (5, 6))) [54, 55, 56, 57] #[.int .u8 54, .int .u8 55, .int .u8 56, .int .u8 57] 4 rfl (by decide) rfl (4, 5)
  have h3 := rows_C ((w.alloc (.cells #[.int .u8 49, .int .u8 50, .int .u8 51, .int .u8 52, .int .u8 53] 5 (5, 6))).alloc (.cells #[.int .u8 54, .int .u8 55, .int .u8 56, .int .u8 57] 5 (4, 5))) #[.slice (some ⟨w.heap.size, 0, none⟩) 5 5, .slice (some ⟨w.heap.size + 1, 0, none⟩) 4 4] [[49, 50, 51, 52, 53], [54, 55, 56, 57]] 2 rfl rfl (by decide) (by
      intro j v p hv hp
      match j, hv, hp with
      | 0, hv, hp => obtain rfl := Option.some.inj hv; obtain rfl := Option.some.inj hp; exact ⟨_, 5, rfl, by decide, Kd.C_alloc h1 _⟩
      | 1, hv, hp => obtain rfl := Option.some.inj hv; obtain rfl := Option.some.inj hp; exact ⟨_, 4, rfl, by decide, by simpa using h2⟩
      | j + 2, hv, hp => cases hv)
  have hB : Below w.heap.size w ((w.alloc (.cells #[.int .u8 49, .int .u8 50, .int .u8 51, .int .u8 52, .int .u8 53] 5 (5, 6))).alloc (.cells #[.int .u8 54, .int .u8 55, .int .u8 56, .int .u8 57] 5 (4, 5))) := ((Below.refl _ _).alloc (Nat.le_refl _) _).alloc (by simp) _
  have hs := sum_calls _ 2 [[49, 50, 51, 52, 53], [54, 55, 56, 57]] _ (ht.below (hB.alloc (by simp; omega) _)) h3
  rw [known2] at hs
  have HB := hB.alloc (by simp; omega) (.cells #[.slice (some ⟨w.heap.size, 0, none⟩) 5 5, .slice (some ⟨w.heap.size + 1, 0, none⟩) 4 4] 22)
  clear h1 h2 h3 hB ht
  have hz : ((w.alloc (.cells #[.int .u8 49, .int .u8 50, .int .u8 51, .int .u8 52, .int .u8 53] 5 (5, 6))).alloc (.cells #[.int .u8 54, .int .u8 55, .int .u8 56, .int .u8 57] 5 (4, 5))).heap.size = w.heap.size + 2 := by simp
  rw [hz] at hs
  clear hz
  have k1 := Joins.run_convert_bytes_const_at (P := Tryd.prog) w 22 5 #[.int .u8 49, .int .u8 50, .int .u8 51, .int .u8 52, .int .u8 53] 5 5 w.heap.size rfl Tryd.underlying22 Tryd.underlying5
  have k2 := Joins.run_convert_bytes_const_at (P := Tryd.prog) (w.alloc (.cells #[.int .u8 49, .int .u8 50, .int .u8 51, .int .u8 52, .int .u8 53] 5 (5, 6))) 22 5 #[.int .u8 54, .int .u8 55, .int .u8 56, .int .u8 57] 4 4 (w.heap.size + 1) (by simp) Tryd.underlying22 Tryd.underlying5
  have HS := Lib.hid hs
  clear hs
  go_enter Tryd.func13, Tryd.ntmps13
  go_wp2_with fail
  refine HS.out.mono ?_
  rintro e w' ⟨rfl, rfl⟩
  go_wp2
  go_ret
  exact ⟨rfl, HB⟩
theorem crcSums_walk (A : Option Addr) (c : Nat) (l : List UInt8) (r : Nat) (hr : r < 4294967296) (w : World) (ht : Table w) (hb : byte.C w A l.length l) (hc : l.length ≤ c) :
    Calls Tryd.prog 3 #[.slice A l.length c, .int .u32 (r : Int)] w fun e w' => e = .returned (.bool true) ∧ Below w.heap.size w w' := by
  have hB1 : Below w.heap.size w (w.alloc (.cells #[.slice A l.length c] 22)) := (Below.refl _ _).alloc (Nat.le_refl _) _
  have hs1 := sum_calls _ 1 [l] _ (ht.below hB1) (one_C hb hc)
  have hs2 := refSum_calls A c l _ (Kd.C_below hb hB1)
  have hB2 : Below w.heap.size w ((w.alloc (.cells #[.slice A l.length c] 22)).alloc (.cells #[.slice A l.length c] 22)) := hB1.alloc (by simp) _
  have hs3 := extend_calls r hr _ 1 [l] _ (ht.below hB2) (one_C (Kd.C_below hb hB1) hc)
  have hs4 := refExtend_calls r hr A c l _ (Kd.C_below hb hB2)
  have hs5 := extend_calls r hr none 0 [] _ (ht.below hB2) ((Kd.C_nil bytesK _))
  have hs6 := awake_calls _ (ht.below hB2)
  have e1 : [l].flatten = l := by simp
  rw [e1] at hs1 hs3
  clear e1
  rw [show ([] : List (List UInt8)).flatten = [] from rfl, ext_nil] at hs5
  generalize sumL l = s at *
  generalize ext r l = x at *
  simp only [World.size_alloc] at hs3
  have HS : Hid _ := Lib.hid (And.intro hs1 (And.intro hs2 (And.intro hs3 (And.intro hs4 (And.intro hs5 hs6)))))
  clear hs1 hs2 hs3 hs4 hs5 hs6 ht hb hB1
  go_enter Tryd.func3, Tryd.ntmps3
  go_wp2_with fail
  refine HS.out.1.mono ?_
  rintro e w1 ⟨rfl, rfl⟩
  go_wp2_with fail
  refine HS.out.2.1.mono ?_
  rintro e w1 ⟨rfl, rfl⟩
  go_wp2_with fail
  refine HS.out.2.2.1.mono ?_
  rintro e w1 ⟨rfl, rfl⟩
  go_wp2_with fail
  refine HS.out.2.2.2.1.mono ?_
  rintro e w1 ⟨rfl, rfl⟩
  go_wp2_with fail
  refine HS.out.2.2.2.2.1.mono ?_
  rintro e w1 ⟨rfl, rfl⟩
  go_wp2_with fail
  refine HS.out.2.2.2.2.2.mono ?_
  rintro e w1 ⟨rfl, hB⟩
  go_wp2
  go_ret
  exact ⟨rfl, below_then hB2 hB2.size hB⟩

end Go.Proofs.YtdgahdfegpkmfaaDoor.Crc
