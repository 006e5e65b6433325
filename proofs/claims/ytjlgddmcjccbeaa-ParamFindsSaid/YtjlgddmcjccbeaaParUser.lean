/- A user's abort, walked. -/
import Derived.Test.YtjlgddmcjccbeaaPParamCausesx1
import Derived.Test.YtjlgddmcjccbeaaBaseB
import Derived.Lib.ConvBytes
namespace Go.Proofs.Ytjlgddmcjccbeaa.ParCauses
open Go.RowKit Go.Proofs.YtjlgddmcjccbeaaW.PrintWords Go.Proofs.Ytjlgddmcjccbeaa.PParamCauses Go.Proofs.Ytjlgddmcjccbeaa.Base
set_option linter.unusedVariables false
set_option linter.unusedSimpArgs false

def bodyS (s : ByteArray) : List Int := s.data.toList.map fun b => (b.toNat : Int)
def userP (s : ByteArray) : S36 := if s.size > 65531 then ⟨0, []⟩ else ⟨12, bodyS s⟩
def userE (s : ByteArray) : Int := if s.size > 65531 then 2 else 0
theorem bodyS_length (s : ByteArray) : (bodyS s).length = s.size := by
  unfold bodyS
  rw [List.length_map, Array.length_toList]
  rfl
theorem bw_below (w : World) (e : TypeId) (s : ByteArray) : Below w.heap.size w (Lib.bytesWorld w e s) :=
  ⟨rfl, rfl, rfl, by rw [Lib.bytesWorld_size]; omega, fun k hk => Lib.bytesWorld_at_old w e s k hk⟩
theorem bw_C (w : World) (s : ByteArray) (hs : s.size ≤ 65531) : (Kd.int .u8).C (Lib.bytesWorld w 5 s) (some ⟨w.heap.size, 0, none⟩) (bodyS s).length (bodyS s) := by
  refine Kd.C_of_reads (d := (0 : Int)) ⟨rfl, by rw [bodyS_length]; omega, fun _ => ⟨_, rfl, fun j hj => ?_⟩⟩
  rw [bodyS_length] at hj
  rw [add_plain, Lib.bytesWorld_cell w _ s j hj]
  congr 2
  have h2 : j < s.data.toList.length := by rw [Array.length_toList]; exact hj
  unfold bodyS
  rw [getD_lt _ _ _ h2, getD_lt _ _ _ (by rw [List.length_map]; exact h2), List.getElem_map]
theorem int_far {k : IntKind} {w : World} {A : Option Addr} {n : Nat} {xs : List Int} (h : (Kd.int k).C w A n xs) {p : Addr} (hp : ∀ ad, A = some ad → ad.block ≠ p.block) (u : Value) : (Kd.int k).C (w.setCell p u) A n xs := by
  obtain ⟨h1, h2, h3⟩ := Kd.reads_of_C (d := (0 : Int)) h
  refine Kd.C_of_reads (d := (0 : Int)) ⟨h1, h2, fun hn => ?_⟩
  obtain ⟨ad, e, hc⟩ := h3 hn
  refine ⟨ad, e, fun j hj => ?_⟩
  have hne : (ad.add j).block ≠ p.block := by rw [add_block]; exact hp ad e
  rw [← hc j hj]
  simp only [World.cell?]
  rw [Below.heap_setCell w p u _ hne]
theorem user_calls (w : World) (s : ByteArray) (hs : s.size ≤ 140737488355328) :
    Calls Try.prog 15 #[.string s] w fun e w' => ∃ A c, e = .returned (.tuple #[.agg #[.int .u16 (userP s).f0, .slice A (userP s).f1.length c], .int .i64 (userE s)]) ∧ (userP s).f1.length ≤ c ∧ (Kd.int .u8).C w' A (userP s).f1.length (userP s).f1 ∧ Below w.heap.size w w' := by
  by_cases h : s.size > 65531
  · have h1 : userP s = ⟨0, []⟩ := if_pos h
    have h2 : userE s = 2 := if_pos h
    rw [h1, h2]
    go_enter Try.func15, Try.ntmps15
    go_wp2
    refine bodyPost_ret (results_ct rfl _ _ w.heap.size 36 #[.int .u16 0, .slice none 0 0] (0, 0) _ rfl (heap_alloc_new _ _) Try.underlying36 rfl (by kernel_rfl)) rfl ?_
    exact ⟨none, 0, rfl, Nat.le_refl _, Kd.C_nil _ _, (Below.refl _ _).alloc (Nat.le_refl _) _⟩
  · have h1 : userP s = ⟨12, bodyS s⟩ := if_neg h
    have h2 : userE s = 0 := if_neg h
    rw [h1, h2]
    have hcv := Lib.run_convert_string_bytes (P := Try.prog) (w.alloc (.cells #[.int .u16 0, .slice none 0 0] 36)) 9 23 5 s Try.underlying9 Try.underlying23 Try.underlying5
    have hW : (Lib.bytesWorld (w.alloc (.cells #[.int .u16 0, .slice none 0 0] 36)) 5 s).heap[w.heap.size]? = some (.cells #[.int .u16 0, .slice none 0 0] 36 (0, 0)) := by
      rw [Lib.bytesWorld_at_old _ _ _ _ (by simp)]
      exact heap_alloc_new _ _
    have hC := bw_C (w.alloc (.cells #[.int .u16 0, .slice none 0 0] 36)) s (by omega)
    have hB : Below w.heap.size w (Lib.bytesWorld (w.alloc (.cells #[.int .u16 0, .slice none 0 0] 36)) 5 s) := ((Below.refl _ _).alloc (Nat.le_refl _) _).trans ((bw_below _ _ _).mono (by simp))
    rw [World.size_alloc] at hcv hC
    have hl := bodyS_length s
    rw [hl] at hC
    generalize hcap : grownCap (w.alloc (.cells #[.int .u16 0, .slice none 0 0] 36)) s.size 0 5 = cap at *
    have hcap2 : s.size ≤ cap := by rw [← hcap]; exact grownCap_ge _ _ _ _
    clear hcap
    generalize Lib.bytesWorld (w.alloc (.cells #[.int .u16 0, .slice none 0 0] 36)) 5 s = W1 at *
    have c0 := blk_cell hW 0
    have c1 := blk_cell hW 1
    have f0 := blk_frozen hW 0
    have f1 := blk_frozen hW 1
    have HC := Lib.hid hC
    have HB := Lib.hid hB
    have HW := Lib.hid hW
    have HL := Lib.hid hl
    clear hC hB hW hl h1 h2
    go_enter Try.func15, Try.ntmps15
    go_wp2
    refine bodyPost_ret (results_ct rfl _ _ w.heap.size 36 #[.int .u16 12, .slice (some ⟨w.heap.size + 1, 0, none⟩) s.size cap] (0, 0) _ rfl (blk_set (blk_set HW.out 0 _) 1 _) Try.underlying36 rfl (by kernel_rfl)) rfl ?_
    refine ⟨some ⟨w.heap.size + 1, 0, none⟩, cap, ?_, by rw [HL.out]; exact hcap2, ?_, (HB.out.setCell (p := ⟨w.heap.size, 0, none⟩) (Nat.le_refl _) _).setCell (p := ⟨w.heap.size, 1, none⟩) (Nat.le_refl _) _⟩
    · rw [HL.out]; rfl
    · rw [HL.out]
      exact int_far (int_far HC.out (by intro ad e; cases e; show w.heap.size + 1 ≠ w.heap.size; omega) _) (by intro ad e; cases e; show w.heap.size + 1 ≠ w.heap.size; omega) _
theorem refUser_calls (w : World) (s : ByteArray) (hs : s.size ≤ 140737488355328) :
    Calls Try.prog 16 #[.string s] w fun e w' => ∃ A c, e = .returned (.tuple #[.agg #[.int .u16 (userP s).f0, .slice A (userP s).f1.length c], .int .i64 (userE s)]) ∧ (userP s).f1.length ≤ c ∧ (Kd.int .u8).C w' A (userP s).f1.length (userP s).f1 ∧ Below w.heap.size w w' := by
  by_cases h : s.size > 65531
  · have h1 : userP s = ⟨0, []⟩ := if_pos h
    have h2 : userE s = 2 := if_pos h
    rw [h1, h2]
    go_enter Try.func16, Try.ntmps16
    go_wp2
    refine bodyPost_ret (results_ct rfl _ _ w.heap.size 36 #[.int .u16 0, .slice none 0 0] (0, 0) _ rfl (heap_alloc_new _ _) Try.underlying36 rfl (by kernel_rfl)) rfl ?_
    exact ⟨none, 0, rfl, Nat.le_refl _, Kd.C_nil _ _, (Below.refl _ _).alloc (Nat.le_refl _) _⟩
  · have h1 : userP s = ⟨12, bodyS s⟩ := if_neg h
    have h2 : userE s = 0 := if_neg h
    rw [h1, h2]
    have hcv := Lib.run_convert_string_bytes (P := Try.prog) (w.alloc (.cells #[.int .u16 0, .slice none 0 0] 36)) 9 23 5 s Try.underlying9 Try.underlying23 Try.underlying5
    have hW : (Lib.bytesWorld (w.alloc (.cells #[.int .u16 0, .slice none 0 0] 36)) 5 s).heap[w.heap.size]? = some (.cells #[.int .u16 0, .slice none 0 0] 36 (0, 0)) := by
      rw [Lib.bytesWorld_at_old _ _ _ _ (by simp)]
      exact heap_alloc_new _ _
    have hC := bw_C (w.alloc (.cells #[.int .u16 0, .slice none 0 0] 36)) s (by omega)
    have hB : Below w.heap.size w (Lib.bytesWorld (w.alloc (.cells #[.int .u16 0, .slice none 0 0] 36)) 5 s) := ((Below.refl _ _).alloc (Nat.le_refl _) _).trans ((bw_below _ _ _).mono (by simp))
    rw [World.size_alloc] at hcv hC
    have hl := bodyS_length s
    rw [hl] at hC
    generalize hcap : grownCap (w.alloc (.cells #[.int .u16 0, .slice none 0 0] 36)) s.size 0 5 = cap at *
    have hcap2 : s.size ≤ cap := by rw [← hcap]; exact grownCap_ge _ _ _ _
    clear hcap
    generalize Lib.bytesWorld (w.alloc (.cells #[.int .u16 0, .slice none 0 0] 36)) 5 s = W1 at *
    have c0 := blk_cell hW 0
    have c1 := blk_cell hW 1
    have f0 := blk_frozen hW 0
    have f1 := blk_frozen hW 1
    have HC := Lib.hid hC
    have HB := Lib.hid hB
    have HW := Lib.hid hW
    have HL := Lib.hid hl
    clear hC hB hW hl h1 h2
    go_enter Try.func16, Try.ntmps16
    go_wp2
    refine bodyPost_ret (results_ct rfl _ _ w.heap.size 36 #[.int .u16 12, .slice (some ⟨w.heap.size + 1, 0, none⟩) s.size cap] (0, 0) _ rfl (blk_set (blk_set HW.out 0 _) 1 _) Try.underlying36 rfl (by kernel_rfl)) rfl ?_
    refine ⟨some ⟨w.heap.size + 1, 0, none⟩, cap, ?_, by rw [HL.out]; exact hcap2, ?_, (HB.out.setCell (p := ⟨w.heap.size, 0, none⟩) (Nat.le_refl _) _).setCell (p := ⟨w.heap.size, 1, none⟩) (Nat.le_refl _) _⟩
    · rw [HL.out]; rfl
    · rw [HL.out]
      exact int_far (int_far HC.out (by intro ad e; cases e; show w.heap.size + 1 ≠ w.heap.size; omega) _) (by intro ad e; cases e; show w.heap.size + 1 ≠ w.heap.size; omega) _
end Go.Proofs.Ytjlgddmcjccbeaa.ParCauses
