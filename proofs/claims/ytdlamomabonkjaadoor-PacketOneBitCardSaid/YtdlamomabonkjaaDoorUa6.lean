/- Laws of packets: the statements OneBit Back, each proved (condition: the listed package variables read as the program's text lays them, tied by the card). -/
import Derived.Test.YtdlamomabonkjaaDoorUa5
import Derived.Lib.LaidTab
import Derived.Test.YtdlamomabonkjaaDoorCards
import Derived.Test.YtdlamomabonkjaaDoorTie
section
namespace Go.Proofs.YtdlamomabonkjaaDoor.Pk
open Go.RowKit Go.Proofs.YtdlamomabonkjaaDoorW.PrintWords Go.Proofs.YtdlamomabonkjaaDoorW.PrintLast Go.Proofs.YtdlamomabonkjaaDoor.Base Go.Proofs.YtdlamomabonkjaaDoor.PCh Go.Proofs.YtdlamomabonkjaaDoor.ParDec Go.Proofs.YtdlamomabonkjaaDoor.Ch Go.Proofs.YtdlamomabonkjaaDoor.Crc CrcMath
set_option maxRecDepth 100000
set_option linter.unusedVariables false
set_option linter.unusedSimpArgs false
theorem _root_.Go.Proofs.YtdlamomabonkjaaDoor.Base.Only.setRow {S : Nat → Prop} {a w : World} (h : Only S a w) {g : Nat} (hg : g < a.heap.size → S g) (cs : Array Value) : Only S a (w.setRow g cs) :=
 ⟨h.os, h.tape, h.output, by rw [setRow_size]; exact h.size, fun k hk hn => (setRow_other _ _ _ _ (fun e => hn (by subst e; exact hg hk))).trans (h.block k hk hn)⟩
def pkrT5 : Bool × List (List Nat × List Nat) := (true, [([], []), ([], []), ([1], [1]), ([], []), ([3], [3]), ([0, 0], [0]), ([2, 5, 0, 1, 2, 5], [2]), ([4, 6, 0, 1, 2, 3, 4, 5, 6], [4])])
def pkrB5 : List Nat := [0, 0, 2, 0, 8, 1, 39, 127]
theorem pkrtab5 : Go.Proofs.YtdlamomabonkjaaDoorW.PrintLast.rtab .any (Go.Proofs.YtdlamomabonkjaaDoorW.PrintLast.opsOf Tryd.f57 5) = pkrT5 := by kernel_rfl
theorem pkrbits5 : Go.Proofs.YtdlamomabonkjaaDoorW.PrintLast.waitsOk pkrT5.2 pkrB5 = true := by kernel_rfl
theorem pcatch_idle (a b c : Addr) (w : World) :
  CallsD Tryd.prog 57 #[.pointer (some a), .pointer (some b), .pointer (some c)] .returning w fun e u' w' => e = .returned (.tuple #[]) ∧ u' = .returning ∧ w' = w := by
 refine callsD_of_wpS Tryd.func57 rfl fun c₀ cs hu => ?_
 apply wpS_seq
 apply wpS_region
 simp [wpOpsS, go_sem, recoverD, hu, Tryd.ntmps57, Exit.thenS]
 have ht : (#[Value.pointer (some a), Value.pointer (some b), Value.pointer (some c)] ++ ((Array.replicate 19 undef).setIfInBounds 3 Value.nilIface).setIfInBounds 0 Value.nilIface) = #[.pointer (some a), .pointer (some b), .pointer (some c), .nilIface, undef, undef, .nilIface, undef, undef, undef, undef, undef, undef, undef, undef, undef, undef, undef, undef, undef, undef, undef] := by kernel_rfl
 rw [ht]
 refine wpS_of_wp ?_
 go_wp2
 cases c₀
 simp_all [bodyPostS, results, Tryd.results57]
def fltV (at_ code : Int) : Value := .iface 93 (.agg #[.int .i64 at_, .int .i64 code])
set_option maxHeartbeats 4000000 in
theorem pcatch_err (a b c : Nat) (at_ code : Int) (older : List PanicEntry) (w : World) (x0 : Array Value) (x1 x2 : Value) (t1 t2 : TypeId)
  (h0 : w.heap[a]? = some (.cells x0 26 (0, 0))) (hx0 : x0.size = 4) (h1 : w.heap[b]? = some (.cells #[x1] t1 (0, 0))) (h2 : w.heap[c]? = some (.cells #[x2] t2 (0, 0))) (hab : a ≠ b) (hac : a ≠ c) (hbc : b ≠ c) :
  CallsD Tryd.prog 57 #[.pointer (some ⟨a, 0, none⟩), .pointer (some ⟨b, 0, none⟩), .pointer (some ⟨c, 0, none⟩)] (.panicking ({ v := fltV at_ code, recovered := false } :: older)) w fun e u' w' => e = .returned (.tuple #[]) ∧ u' = .panicking ({ v := fltV at_ code, recovered := true } :: older) ∧
   w'.heap[a]? = some (.cells #[.int .u16 0, .int .u16 0, .int .u32 0, .slice none 0 0] 26 (0, 0)) ∧ w'.heap[b]? = some (.cells #[.int .i64 at_] t1 (0, 0)) ∧ w'.heap[c]? = some (.cells #[.int .i64 code] t2 (0, 0)) ∧ Only (fun k => k = a ∨ k = b ∨ k = c) w w' := by
 unfold fltV
 refine callsD_of_wpS Tryd.func57 rfl fun c₀ cs hu => ?_
 apply wpS_seq
 apply wpS_region
 simp [wpOpsS, go_sem, recoverD, hu, Tryd.ntmps57, Exit.thenS]
 generalize hfv : (Value.iface 93 (.agg #[.int .i64 at_, .int .i64 code])) = fv at *
 have ht : ∀ fv : Value, (#[Value.pointer (some ⟨a, 0, none⟩), Value.pointer (some ⟨b, 0, none⟩), Value.pointer (some ⟨c, 0, none⟩)] ++ ((Array.replicate 19 undef).setIfInBounds 3 fv).setIfInBounds 0 fv) = #[.pointer (some ⟨a, 0, none⟩), .pointer (some ⟨b, 0, none⟩), .pointer (some ⟨c, 0, none⟩), fv, undef, undef, fv, undef, undef, undef, undef, undef, undef, undef, undef, undef, undef, undef, undef, undef, undef, undef] := fun fv => by kernel_rfl
 rw [ht]
 subst hfv
 have hta : ∀ W : World, (Instr.typeAssert (Value.iface 93 (.agg #[.int .i64 at_, .int .i64 code])) 20 93 true).run Tryd.prog W = .ok (.tuple #[.agg #[.int .i64 at_, .int .i64 code], .bool true]) W := fun W => by rfl
 refine wpS_of_wp ?_
 have hl0 := blk_lt h0
 have hl1 := blk_lt h1
 have hl2 := blk_lt h2
 have H0 := Lib.hid (fun (W : World) (h : Below w.heap.size w W) => (⟨blk_below h0 h, blk_below h1 h, blk_below h2 h⟩ : W.heap[a]? = some (.cells x0 26 (0, 0)) ∧ W.heap[b]? = some (.cells #[x1] t1 (0, 0)) ∧ W.heap[c]? = some (.cells #[x2] t2 (0, 0))))
 have HX0 := Lib.hid (show x0.size = (#[.int .u16 0, .int .u16 0, .int .u32 0, .slice none 0 0] : Array Value).size from hx0)
 obtain ⟨gf, hgf⟩ : ∃ gf, w.heap.size = gf := ⟨_, rfl⟩
 have HNE := Lib.hid (show (a ≠ b ∧ a ≠ c ∧ b ≠ c) ∧ a < gf ∧ b < gf ∧ c < gf from ⟨⟨hab, hac, hbc⟩, by omega, by omega, by omega⟩)
 clear h0 h1 h2 hx0 hab hac hbc hl0 hl1 hl2
 go_upto_region 5 with (fail)
 refine wp_gen (fun W => W.heap[w.heap.size]? = some (.cells #[.int .i64 at_, .int .i64 code] 93 (0, 0)) ∧ Below w.heap.size w W) ⟨by first | exact blk_new _ _ | exact blk_put (blk_new _ _) 0 _ rfl, below_alloc (Below.refl _ _) _⟩ ?_
 rintro W0 ⟨hf0, hB0⟩
 rw [hgf] at hf0
 try rw [hgf]
 obtain ⟨ka, kb, kc⟩ := H0.out W0 hB0
 have HI := Lib.hid (⟨ka, kb, kc, hf0, Only.of_below hB0⟩ : W0.heap[a]? = some (.cells x0 26 (0, 0)) ∧ W0.heap[b]? = some (.cells #[x1] t1 (0, 0)) ∧ W0.heap[c]? = some (.cells #[x2] t2 (0, 0)) ∧ W0.heap[gf]? = some (.cells #[.int .i64 at_, .int .i64 code] 93 (0, 0)) ∧ Only (fun k => k = a ∨ k = b ∨ k = c) w W0)
 clear ka kb kc hf0 hB0 H0 hta ht
 refine grow_known (B := pkrB5) [0, 1, 2, 3, 4, 5, 6, 7] [5, 6, 7] (fun s W => match s with | 0 => W.heap[a]? = some (.cells x0 26 (0, 0)) ∧ W.heap[b]? = some (.cells #[x1] t1 (0, 0)) ∧ W.heap[c]? = some (.cells #[x2] t2 (0, 0)) ∧ W.heap[gf]? = some (.cells #[.int .i64 at_, .int .i64 code] 93 (0, 0)) ∧ Only (fun k => k = a ∨ k = b ∨ k = c) w W | 1 => W.heap[a]? = some (.cells #[.int .u16 0, .int .u16 0, .int .u32 0, .slice none 0 0] 26 (0, 0)) ∧ W.heap[b]? = some (.cells #[x1] t1 (0, 0)) ∧ W.heap[c]? = some (.cells #[x2] t2 (0, 0)) ∧ W.heap[gf]? = some (.cells #[.int .i64 at_, .int .i64 code] 93 (0, 0)) ∧ Only (fun k => k = a ∨ k = b ∨ k = c) w W | 2 => W.heap[a]? = some (.cells #[.int .u16 0, .int .u16 0, .int .u32 0, .slice none 0 0] 26 (0, 0)) ∧ W.heap[b]? = some (.cells #[.int .i64 at_] t1 (0, 0)) ∧ W.heap[c]? = some (.cells #[x2] t2 (0, 0)) ∧ W.heap[gf]? = some (.cells #[.int .i64 at_, .int .i64 code] 93 (0, 0)) ∧ Only (fun k => k = a ∨ k = b ∨ k = c) w W | _ => W.heap[a]? = some (.cells #[.int .u16 0, .int .u16 0, .int .u32 0, .slice none 0 0] 26 (0, 0)) ∧ W.heap[b]? = some (.cells #[.int .i64 at_] t1 (0, 0)) ∧ W.heap[c]? = some (.cells #[.int .i64 code] t2 (0, 0)) ∧ W.heap[gf]? = some (.cells #[.int .i64 at_, .int .i64 code] 93 (0, 0)) ∧ Only (fun k => k = a ∨ k = b ∨ k = c) w W) [(0, 17, .agg #[.int .u16 0, .int .u16 0, .int .u32 0, .slice none 0 0]), (1, 18, .pointer (some ⟨gf, 0, none⟩)), (2, 19, .int .i64 at_), (3, 20, .pointer (some ⟨gf, 1, none⟩)), (4, 21, .int .i64 code)] (by kernel_rfl) rfl (l := #[false, false, false, false, false, false, false, false]) rfl pkrtab5 pkrbits5 (by kernel_rfl) (by kernel_rfl) rfl rfl ?_ ?_ ?_
 ·exact ⟨blk_drewN HI.out.1 1, blk_drewN HI.out.2.1 1, blk_drewN HI.out.2.2.1 1, blk_drewN HI.out.2.2.2.1 1, HI.out.2.2.2.2.drew⟩
 ·exact steps_cons (gk_op (p := 0) (fun W => W.heap[gf]? = some (.cells #[.int .i64 at_, .int .i64 code] 93 (0, 0))) 0 0 rfl rfl rfl rfl rfl rfl (u := .pointer (some ⟨a, 0, none⟩)) (rd_off (p := 0) (fun _ => rfl) rfl) (fun s W h => by match s, h with | 0, h => exact h.2.2.2.1 | 1, h => exact h.2.2.2.1 | 2, h => exact h.2.2.2.1 | _ + 3, h => exact h.2.2.2.1) (fun a w hJ e => by go_simp; first | done | rfl)) (steps_cons (gk_op (p := 4) (fun W => W.heap[gf]? = some (.cells #[.int .i64 at_, .int .i64 code] 93 (0, 0))) 1 1 rfl rfl rfl rfl rfl rfl (u := .pointer (some ⟨gf, 0, none⟩)) (rd_off (p := 4) (fun _ => rfl) rfl) (fun s W h => by match s, h with | 0, h => exact h.2.2.2.1 | 1, h => exact h.2.2.2.1 | 2, h => exact h.2.2.2.1 | _ + 3, h => exact h.2.2.2.1) (fun a w hJ e => by go_simp)) (steps_cons (gk_op (p := 18) (fun W => W.heap[gf]? = some (.cells #[.int .i64 at_, .int .i64 code] 93 (0, 0))) 2 2 rfl rfl rfl rfl rfl rfl (u := .pointer (some ⟨gf, 0, none⟩)) (rd_on (p := 18) 1 1 (fun _ => rfl) (fun _ => rfl) (by kernel_rfl) rfl) (fun s W h => by match s, h with | 0, h => exact h.2.2.2.1 | 1, h => exact h.2.2.2.1 | 2, h => exact h.2.2.2.1 | _ + 3, h => exact h.2.2.2.1) (fun a w hJ e => by have k0 := blk_cell hJ 0; have hs : w.cell? ⟨gf, 0, none⟩ = some (.int .i64 at_) := k0; go_simp)) (steps_cons (gk_op (p := 4) (fun W => W.heap[gf]? = some (.cells #[.int .i64 at_, .int .i64 code] 93 (0, 0))) 3 3 rfl rfl rfl rfl rfl rfl (u := .pointer (some ⟨gf, 0, none⟩)) (rd_off (p := 4) (fun _ => rfl) rfl) (fun s W h => by match s, h with | 0, h => exact h.2.2.2.1 | 1, h => exact h.2.2.2.1 | 2, h => exact h.2.2.2.1 | _ + 3, h => exact h.2.2.2.1) (fun a w hJ e => by go_simp)) (steps_cons (gk_op (p := 20) (fun W => W.heap[gf]? = some (.cells #[.int .i64 at_, .int .i64 code] 93 (0, 0))) 4 4 rfl rfl rfl rfl rfl rfl (u := .pointer (some ⟨gf, 1, none⟩)) (rd_on (p := 20) 3 3 (fun _ => rfl) (fun _ => rfl) (by kernel_rfl) rfl) (fun s W h => by match s, h with | 0, h => exact h.2.2.2.1 | 1, h => exact h.2.2.2.1 | 2, h => exact h.2.2.2.1 | _ + 3, h => exact h.2.2.2.1) (fun a w hJ e => by have hs : w.cell? ⟨gf, 1, none⟩ = some (.int .i64 code) := blk_cell hJ 1; go_simp)) (steps_cons (gk_store (p := 0) (s := 17) (u := .pointer (some ⟨a, 0, none⟩)) (v := .agg #[.int .u16 0, .int .u16 0, .int .u32 0, .slice none 0 0]) (f := fun W => W.setRow a #[.int .u16 0, .int .u16 0, .int .u32 0, .slice none 0 0]) 5 0 rfl rfl rfl rfl rfl rfl (by kernel_rfl) (rd_off (p := 0) (fun _ => rfl) rfl) (rd_on (p := 17) 0 0 (fun _ => rfl) (fun _ => rfl) (by kernel_rfl) rfl) (fun a w h e1 e2 => by exact exec_store_row 26 (.tmp 0) (.tmp 17) rfl (eval_of e1) (eval_of e2) h.1 (by kernel_rfl) HX0.out (by simp [Value.oneCell'])) (fun W h => ⟨setRow_heap _ _ _ _ _ _ h.1, (setRow_other _ _ _ _ (by have := HNE.out; omega)).trans h.2.1, (setRow_other _ _ _ _ (by have := HNE.out; omega)).trans h.2.2.1, (setRow_other _ _ _ _ (by have := HNE.out; omega)).trans h.2.2.2.1, h.2.2.2.2.setRow (fun _ => Or.inl rfl) _⟩)) (steps_cons (gk_store (p := 1) (s := 19) (u := .pointer (some ⟨b, 0, none⟩)) (v := .int .i64 at_) (f := fun W => W.setCell ⟨b, 0, none⟩ (.int .i64 at_)) 6 1 rfl rfl rfl rfl rfl rfl (by kernel_rfl) (rd_off (p := 1) (fun _ => rfl) rfl) (rd_on (p := 19) 2 2 (fun _ => rfl) (fun _ => rfl) (by kernel_rfl) rfl) (fun a w h e1 e2 => by have hs : w.cell? ⟨b, 0, none⟩ = some x1 := blk_cell h.2.1 0; have hf := blk_frozen h.2.1 0; go_simp; first | done | rfl) (fun W h => ⟨blk_far (p := ⟨b, 0, none⟩) h.1 (by have := HNE.out; show a ≠ b; omega) _, blk_put h.2.1 0 _ rfl, blk_far (p := ⟨b, 0, none⟩) h.2.2.1 (by have := HNE.out; show c ≠ b; omega) _, blk_far (p := ⟨b, 0, none⟩) h.2.2.2.1 (by have := HNE.out; show gf ≠ b; omega) _, h.2.2.2.2.setCell (fun _ => Or.inr (Or.inl rfl)) _⟩)) (steps_cons (gk_store (p := 2) (s := 21) (u := .pointer (some ⟨c, 0, none⟩)) (v := .int .i64 code) (f := fun W => W.setCell ⟨c, 0, none⟩ (.int .i64 code)) 7 2 rfl rfl rfl rfl rfl rfl (by kernel_rfl) (rd_off (p := 2) (fun _ => rfl) rfl) (rd_on (p := 21) 4 4 (fun _ => rfl) (fun _ => rfl) (by kernel_rfl) rfl) (fun a w h e1 e2 => by have hs : w.cell? ⟨c, 0, none⟩ = some x2 := blk_cell h.2.2.1 0; have hf := blk_frozen h.2.2.1 0; go_simp; first | done | rfl) (fun W h => ⟨blk_far (p := ⟨c, 0, none⟩) h.1 (by have := HNE.out; show a ≠ c; omega) _, blk_far (p := ⟨c, 0, none⟩) h.2.1 (by have := HNE.out; show b ≠ c; omega) _, blk_put h.2.2.1 0 _ rfl, blk_far (p := ⟨c, 0, none⟩) h.2.2.2.1 (by have := HNE.out; show gf ≠ c; omega) _, h.2.2.2.2.setCell (fun _ => Or.inr (Or.inr rfl)) _⟩)) steps_nil)))))))
 intro W4 hI
 have HI2 := Lib.hid hI
 clear hI HI
 simp only [putSel, if_true, Act.put, List.setIfInBounds_toArray, List.set_cons_zero, List.set_cons_succ]
 go_wp2
 show bodyPostS _ _ _ _ _ _ _ _ _
 cases c₀
 simp only at hu
 subst hu
 obtain ⟨r0, r1, r2, _, r4⟩ := HI2.out
 exact ⟨rfl, _, rfl, _, results_none rfl _ _ _, rfl, rfl, r0, r1, r2, r4⟩
end Go.Proofs.YtdlamomabonkjaaDoor.Pk
end
section
namespace Go.Proofs.YtdlamomabonkjaaDoor.Pk
open Go.RowKit Go.Proofs.YtdlamomabonkjaaDoorW.PrintWords Go.Proofs.YtdlamomabonkjaaDoorW.PrintLast Go.Proofs.YtdlamomabonkjaaDoor.Base Go.Proofs.YtdlamomabonkjaaDoor.PCh Go.Proofs.YtdlamomabonkjaaDoor.ParDec Go.Proofs.YtdlamomabonkjaaDoor.Ch Go.Proofs.YtdlamomabonkjaaDoor.Crc CrcMath
set_option maxRecDepth 100000
set_option linter.unusedVariables false
set_option linter.unusedSimpArgs false
theorem sub4 (x0 x1 x2 x3 x4 : Value) : ∀ j v, (#[x1, x2, x3, x4] : Array Value).toList[j]? = some v → (#[x0, x1, x2, x3, x4] : Array Value)[1 + j]? = some v := by
 intro j u hu
 match j, hu with
 | 0, hu => exact hu
 | 1, hu => exact hu
 | 2, hu => exact hu
 | 3, hu => exact hu
 | _ + 4, hu => simp at hu
theorem boxes4 (w : World) (cs : Array Value) :
  ((((w.alloc (.cells #[.int .u16 0, .int .u16 0, .int .u32 0, .slice none 0 0] 26)).alloc (.cells #[.int .i64 0] 3)).alloc (.cells #[.int .i64 0] 28)).alloc (.cells cs 99)).heap[w.heap.size + 1 + 1 + 1]? = some (.cells cs 99 (0, 0)) ∧
  ((((w.alloc (.cells #[.int .u16 0, .int .u16 0, .int .u32 0, .slice none 0 0] 26)).alloc (.cells #[.int .i64 0] 3)).alloc (.cells #[.int .i64 0] 28)).alloc (.cells cs 99)).heap[w.heap.size]? = some (.cells #[.int .u16 0, .int .u16 0, .int .u32 0, .slice none 0 0] 26 (0, 0)) ∧
  ((((w.alloc (.cells #[.int .u16 0, .int .u16 0, .int .u32 0, .slice none 0 0] 26)).alloc (.cells #[.int .i64 0] 3)).alloc (.cells #[.int .i64 0] 28)).alloc (.cells cs 99)).heap[w.heap.size + 1]? = some (.cells #[.int .i64 0] 3 (0, 0)) ∧
  ((((w.alloc (.cells #[.int .u16 0, .int .u16 0, .int .u32 0, .slice none 0 0] 26)).alloc (.cells #[.int .i64 0] 3)).alloc (.cells #[.int .i64 0] 28)).alloc (.cells cs 99)).heap[w.heap.size + 1 + 1]? = some (.cells #[.int .i64 0] 28 (0, 0)) ∧
  Below w.heap.size w ((((w.alloc (.cells #[.int .u16 0, .int .u16 0, .int .u32 0, .slice none 0 0] 26)).alloc (.cells #[.int .i64 0] 3)).alloc (.cells #[.int .i64 0] 28)).alloc (.cells cs 99)) := by
 have s1 : (w.alloc (.cells #[.int .u16 0, .int .u16 0, .int .u32 0, .slice none 0 0] 26)).heap.size = w.heap.size + 1 := by simp
 have s2 : ((w.alloc (.cells #[.int .u16 0, .int .u16 0, .int .u32 0, .slice none 0 0] 26)).alloc (.cells #[.int .i64 0] 3)).heap.size = w.heap.size + 1 + 1 := by simp
 have s3 : (((w.alloc (.cells #[.int .u16 0, .int .u16 0, .int .u32 0, .slice none 0 0] 26)).alloc (.cells #[.int .i64 0] 3)).alloc (.cells #[.int .i64 0] 28)).heap.size = w.heap.size + 1 + 1 + 1 := by simp
 have h0 := blk_new w (.cells #[.int .u16 0, .int .u16 0, .int .u32 0, .slice none 0 0] 26)
 have h1 := blk_new (w.alloc (.cells #[.int .u16 0, .int .u16 0, .int .u32 0, .slice none 0 0] 26)) (.cells #[.int .i64 0] 3)
 have h2 := blk_new ((w.alloc (.cells #[.int .u16 0, .int .u16 0, .int .u32 0, .slice none 0 0] 26)).alloc (.cells #[.int .i64 0] 3)) (.cells #[.int .i64 0] 28)
 have h3 := blk_new (((w.alloc (.cells #[.int .u16 0, .int .u16 0, .int .u32 0, .slice none 0 0] 26)).alloc (.cells #[.int .i64 0] 3)).alloc (.cells #[.int .i64 0] 28)) (.cells cs 99)
 rw [s1] at h1
 rw [s2] at h2
 rw [s3] at h3
 exact ⟨h3, blk_alloc (blk_alloc (blk_alloc h0 _) _) _, blk_alloc (blk_alloc h1 _) _, blk_alloc h2 _, below_alloc (below_alloc (below_alloc (below_alloc (Below.refl _ _) _) _) _) _⟩
structure PD where
 f : Int
 t : Int
 q : Int
 l : List Chk
 a : Int
 e : Int
def pzero (a e : Int) : PD := ⟨0, 0, 0, [], a, e⟩
noncomputable def preadD (b : List UInt8) (wh : Bool) : PD :=
 if headE b = 0 then
  (if wh = false then ⟨(hdF b : Nat), (hdT b : Nat), (hdQ b : Nat), [], 0, 0⟩
  else if (b.drop 12).length = 0 then pzero 0 73
  else if (allL (b.drop 12)).2.2 = 0 then (if apartB (allL (b.drop 12)).1 = true then pzero 0 74 else ⟨(hdF b : Nat), (hdT b : Nat), (hdQ b : Nat), (allL (b.drop 12)).1, 0, 0⟩)
  else pzero (12 + (allL (b.drop 12)).2.1) (allL (b.drop 12)).2.2)
 else pzero 0 (headE b)
def ReadPP (w : World) (D : PD) (e : Ending) (w' : World) : Prop :=
 ∃ v, e = .returned (.tuple #[.agg #[.int .u16 D.f, .int .u16 D.t, .int .u32 D.q, v], .int .i64 D.a, .int .i64 D.e]) ∧ Kd.R k41 41 w' w.heap.size (fun _ => True) v D.l ∧ Below w.heap.size w w'
theorem pread_results (tmps : Array Value) (w : World) (a b c : Nat) (cs : Array Value) (v1 v2 : Value) (t0 : tmps.getD 4 undef = .pointer (some ⟨a, 0, none⟩)) (t1 : tmps.getD 5 undef = .pointer (some ⟨b, 0, none⟩)) (t2 : tmps.getD 6 undef = .pointer (some ⟨c, 0, none⟩))
  (h0 : w.heap[a]? = some (.cells cs 26 (0, 0))) (h1 : w.heap[b]? = some (.cells #[v1] 3 (0, 0))) (h2 : w.heap[c]? = some (.cells #[v2] 28 (0, 0))) (hcs : cs.size = 4 := by first | rfl | assumption) :
  (results Tryd.f31 tmps).run Tryd.prog w = .ok (.tuple #[.agg cs, v1, v2]) w := by
 have k1 := blk_cell h1 0
 have k2 := blk_cell h2 0
 have hi : (Tryd.prog.info? 26).map (·.size) = some cs.size := by rw [hcs]; kernel_rfl
 have hl := run_loadVar_row w a 26 26 cs (0, 0) _ h0 Tryd.underlying26 rfl hi
 rw [Array.getD_eq_getD_getElem?] at t0 t1 t2
 have l1 : (loadVar 3 ⟨b, 0, none⟩).run Tryd.prog w = .ok v1 w := by simp [go_sem, k1]
 have l2 : (loadVar 28 ⟨c, 0, none⟩).run Tryd.prog w = .ok v2 w := by simp [go_sem, k2]
 simp [results, Tryd.results31, asAddr, t0, t1, t2, hl, l1, l2]
theorem all_at (b : List UInt8) : ∀ (n at_ : Nat) (acc : List Chk), at_ ≤ b.length → 0 ≤ (allD n b at_ acc).2.1 ∧ (allD n b at_ acc).2.1 ≤ b.length := by
 intro n
 induction n with
 | zero => intro at_ acc _; unfold allD; exact ⟨Int.le_refl _, by simp⟩
 | succ n ih =>
  intro at_ acc ha
  unfold allD
  by_cases h : at_ < b.length
  ·rw [if_pos h]
   by_cases h2 : (decC (b.drop at_)).2.2 ≠ 0
   ·rw [if_pos h2]; dsimp only; omega
   ·rw [if_neg h2]
    obtain ⟨k, h3, h4, h5⟩ := decC_len (Classical.not_not.1 h2)
    rw [List.length_drop] at h5
    exact ih _ _ (by rw [h3]; simp; omega)
  ·rw [if_neg h]; exact ⟨Int.le_refl _, by simp⟩
theorem head_len {b : List UInt8} (h : headE b = 0) : 12 ≤ b.length ∧ b.length ≤ 65536 ∧ checkL b = 0 := by
 unfold headE at h
 by_cases h6 : 65536 < b.length
 ·rw [if_pos h6] at h; cases h
 rw [if_neg h6] at h
 by_cases hc : checkL b = 0
 ·refine ⟨?_, by omega, hc⟩
  unfold checkL at hc
  split at hc
  ·cases hc
  ·omega
 ·rw [if_neg hc] at h; exact absurd h hc
def AllOk (b : List UInt8) : Prop := ∀ (W : World) (A : Option Addr) (c : Nat), byte.C W A b.length b → b.length ≤ c → b.length ≤ 1048576 →
 Calls Tryd.prog 60 #[.slice A b.length c] W fun e w' => ∃ v, e = .returned (.tuple #[v, .int .i64 (allL b).2.1, .int .i64 (allL b).2.2]) ∧ Kd.R k41 41 w' W.heap.size (fun _ => True) v (allL b).1 ∧ Below W.heap.size W w'
theorem all_ok (b : List UInt8) : AllOk b := fun W A c hb hc hv => all_calls2 W A b c hb hc hv
set_option maxHeartbeats 4000000 in
theorem pread_with (w : World) (A : Option Addr) (b : List UInt8) (c : Nat) (wh : Bool) (hT : Table w) (hb : byte.C w A b.length b) (hc : b.length ≤ c) (hv : b.length ≤ 140737488355328) (HAC : wh = true → AllOk (b.drop 12)) :
  Calls Tryd.prog 31 #[.slice A b.length c, .bool wh] w (ReadPP w (preadD b wh)) := by
 have hmf : ∀ (fn : Fn) (first cap : Array Value) (w : World), (Instr.makeFunc fn first cap).run Tryd.prog w = .ok (.func fn first cap) w := fun _ _ _ _ => rfl
 have HAX := Lib.hid HAC
 clear HAC
 unfold AllOk at HAX
 obtain ⟨D, hD⟩ : ∃ D, preadD b wh = D := ⟨_, rfl⟩
 rw [hD]
 have HD := Lib.hid (show D = preadD b wh from hD.symm)
 have HT := Lib.hid (fun (W : World) (h : Below w.heap.size w W) => hT.below h)
 have HBC := Lib.hid hb
 have HM := Lib.hid (fun (W : World) (a c : Int) => must_bad W a c)
 have HMO := Lib.hid (fun (W : World) (a c : Int) => must_ok W a c)
 clear hb hD hT
 obtain ⟨n0, hn0⟩ : ∃ n, b.length = n := ⟨_, rfl⟩
 have HN0 := Lib.hid hn0
 rw [hn0] at hc hv ⊢
 clear hn0
 go_enter_defers Tryd.func31, Tryd.ntmps31
 go_upto_region 3 with (fail)
 refine wp_gen (fun W => W.heap[w.heap.size + 1 + 1 + 1]? = some (.cells #[.slice A n0 c, .int .u16 0, .int .u16 0, .int .u32 0, .slice none 0 0] 99 (0, 0)) ∧ W.heap[w.heap.size]? = some (.cells #[.int .u16 0, .int .u16 0, .int .u32 0, .slice none 0 0] 26 (0, 0)) ∧ W.heap[w.heap.size + 1]? = some (.cells #[.int .i64 0] 3 (0, 0)) ∧ W.heap[w.heap.size + 1 + 1]? = some (.cells #[.int .i64 0] 28 (0, 0)) ∧ Below w.heap.size w W) (boxes4 w _) ?_
 rintro W0 ⟨hg, hp, ha, he, hB⟩
 generalize hge : w.heap.size + 1 + 1 + 1 = g at *
 generalize hgn : w.heap.size + 1 + 1 = ge at *
 generalize hgm : w.heap.size + 1 = ga at *
 obtain ⟨gp, hgp⟩ : ∃ gp, w.heap.size = gp := ⟨_, rfl⟩
 have HG := Lib.hid (show w.heap.size = gp ∧ ga = gp + 1 ∧ ge = gp + 2 ∧ g = gp + 3 ∧ g < W0.heap.size from ⟨hgp, by omega, by omega, by omega, blk_lt hg⟩)
 have hps : PS w W0 g b 0 0 0 (.slice none 0 0) := ⟨A, c, by rw [HN0.out]; exact hg, by rw [HN0.out]; exact hc, HBC.out⟩
 have HHD := Lib.hid (head_calls w W0 g b (HT.out W0 hB) hps hB (by omega) (by rw [HN0.out]; exact hv))
 have HK := Lib.hid (fun (W : World) (h : Only (· = g) W0 W) => (⟨h.blk (by rw [← hgp]; exact hp) (by show gp ≠ g; omega), h.blk ha (by show ga ≠ g; omega), h.blk he (by show ge ≠ g; omega), hB.trans (h.below hB.size (fun k hk => by subst hk; omega))⟩ : W.heap[gp]? = some (.cells #[.int .u16 0, .int .u16 0, .int .u32 0, .slice none 0 0] 26 (0, 0)) ∧ W.heap[ga]? = some (.cells #[.int .i64 0] 3 (0, 0)) ∧ W.heap[ge]? = some (.cells #[.int .i64 0] 28 (0, 0)) ∧ Below w.heap.size w W))
 rw [hgp]
 clear hg hp ha he hB hge hgn hgm hgp hps hc hv
 go_wp2_with fail
 refine HHD.out.mono ?_
 intro e W3 hP
 unfold HeadP at hP
 obtain ⟨hO, hbad, hok⟩ := hP
 by_cases hh : headE b = 0
 ·obtain ⟨rfl, hP3⟩ := hok hh
  obtain ⟨hl12, hl6, hck⟩ := head_len hh
  have HSUB := Lib.hid (fun (W : World) (h : Below W3.heap.size W3 W) => (hP3.below h).sub)
  obtain ⟨A3, c3, hb3, hc3, hC3⟩ := hP3
  have HO := Lib.hid hO
  have HDH := Lib.hid (show preadD b wh = if wh = false then ⟨(hdF b : Nat), (hdT b : Nat), (hdQ b : Nat), [], 0, 0⟩
  else if (b.drop 12).length = 0 then pzero 0 73
  else if (allL (b.drop 12)).2.2 = 0 then (if apartB (allL (b.drop 12)).1 = true then pzero 0 74 else ⟨(hdF b : Nat), (hdT b : Nat), (hdQ b : Nat), (allL (b.drop 12)).1, 0, 0⟩)
  else pzero (12 + (allL (b.drop 12)).2.1) (allL (b.drop 12)).2.2 from by unfold preadD; rw [if_pos hh])
  have k0 : W3.cell? ⟨g, 0, none⟩ = some (.slice A3 (b.drop 12).length c3) := blk_cell hb3 0
  have HAL := Lib.hid (fun (hw : wh = true) (W : World) (h : Below w.heap.size w W) => HAX.out hw W A3 c3 (Kd.C_below hC3 h) hc3 (by rw [List.length_drop]; omega))
  have HAT := Lib.hid (show 0 ≤ (allL (b.drop 12)).2.1 ∧ (allL (b.drop 12)).2.1 ≤ 65536 from by
   have := all_at (b.drop 12) ((b.drop 12).length + 1) 0 [] (Nat.zero_le _)
   have h2 : (b.drop 12).length ≤ 65536 := by rw [List.length_drop]; omega
   exact ⟨this.1, Int.le_trans this.2 (by omega)⟩)
  have HB3 := Lib.hid hb3
  rw [HDH.out] at HD
  clear HAX hbad hok hh HHD hC3 hc3 hl12 hl6 hck hO hb3 HDH HBC HT HN0
  generalize ((hdF b : Nat) : Int) = nf at *
  generalize ((hdT b : Nat) : Int) = nt at *
  generalize ((hdQ b : Nat) : Int) = nq at *
  generalize allL (b.drop 12) = AL at *
  obtain ⟨xs, at_, er⟩ := AL
  dsimp only at HD HAL HAT
  generalize (b.drop 12).length = n at *
  cases wh with
  | false =>
   have HDE := Lib.hid (show D = ⟨nf, nt, nq, [], 0, 0⟩ from by rw [HD.out, if_pos rfl])
   have HOX := Lib.hid (show Only (· = g) W0 W3 from HO.out)
   have HSB := Lib.hid (HSUB.out W3 (Below.refl _ _))
   have HR := Lib.hid (fun (W : World) (h : Only (fun k => k = gp ∨ k = ga ∨ k = ge) W3 W) => (Kd.R_nil _ _ _ _ _ : Kd.R k41 41 W w.heap.size (fun _ => True) (.slice none 0 0) []))
   obtain ⟨CS, hCS⟩ : ∃ CS : Array Value, #[.int .u16 nf, .int .u16 nt, .int .u32 nq, (.slice none 0 0)] = CS := ⟨_, rfl⟩
   have HCZ := Lib.hid (show (#[.int .u16 0, .int .u16 0, .int .u32 0, .slice none 0 0] : Array Value).size = CS.size by rw [← hCS]; rfl)
   have HCI := Lib.hid (show (Tryd.prog.info? 26).map (·.size) = some CS.size by rw [← hCS]; kernel_rfl)
   have HC1 := Lib.hid (show CS.all (·.oneCell') = true by rw [← hCS]; simp [Value.oneCell'])
   rw [hCS] at HSB
   have HCS := Lib.hid hCS
   clear hCS
   obtain ⟨q0, q1, q2, qb⟩ := HK.out _ HOX.out
   have hb1 : (W3.setRow gp CS).heap[ga]? = some (.cells #[.int .i64 0] 3 (0, 0)) := (setRow_other _ _ _ _ (by have := HG.out; omega)).trans q1
   have hb2 : (W3.setRow gp CS).heap[ge]? = some (.cells #[.int .i64 0] 28 (0, 0)) := (setRow_other _ _ _ _ (by have := HG.out; omega)).trans q2
   have kb : (W3.setRow gp CS).cell? ⟨ga, 0, none⟩ = some (.int .i64 0) := blk_cell hb1 0
   have fb := blk_frozen hb1 0
   have hb3 := blk_far (p := ⟨ga, 0, none⟩) hb2 (show ge ≠ ga by have := HG.out; omega) (.int .i64 0)
   have kc : ((W3.setRow gp CS).setCell ⟨ga, 0, none⟩ (.int .i64 0)).cell? ⟨ge, 0, none⟩ = some (.int .i64 0) := blk_cell hb3 0
   have fc := blk_frozen hb3 0
   have HQ0 := Lib.hid q0
   have HX0 := Lib.hid (blk_far (p := ⟨ge, 0, none⟩) (blk_far (p := ⟨ga, 0, none⟩) (setRow_heap _ _ _ CS _ _ q0) (show gp ≠ ga by have := HG.out; omega) (.int .i64 0)) (show gp ≠ ge by have := HG.out; omega) (.int .i64 0))
   have HX1 := Lib.hid (blk_far (p := ⟨ge, 0, none⟩) (blk_put hb1 0 (.int .i64 0) rfl) (show ga ≠ ge by have := HG.out; omega) (.int .i64 0))
   have HX2 := Lib.hid (blk_put hb3 0 (.int .i64 0) rfl)
   have HXO := Lib.hid ((((Only.refl (fun k => k = gp ∨ k = ga ∨ k = ge) W3).setRow (g := gp) (fun _ => Or.inl rfl) CS).setCell (p := ⟨ga, 0, none⟩) (fun _ => Or.inr (Or.inl rfl)) (.int .i64 0)).setCell (p := ⟨ge, 0, none⟩) (fun _ => Or.inr (Or.inr rfl)) (.int .i64 0))
   have HQB := Lib.hid qb
   clear q0 q1 q2 qb hb1 hb2 hb3
   go_wp2_with (first | (with_reducible refine gate_dst (N := 23) rfl ?_; go_must (refine wpList_load_cells rfl 26 (.tmp 22) rfl rfl CS _ (fun j v hv => HSB.out j v hv) Tryd.underlying26 rfl HCI.out ?_)) | (refine wpList_store_row rfl 26 _ _ rfl gp CS rfl rfl 26 #[.int .u16 0, .int .u16 0, .int .u32 0, .slice none 0 0] HQ0.out HCI.out HCZ.out HC1.out ?_))
   refine leaves_cons (f := 57) (args := #[.pointer (some ⟨gp, 0, none⟩), .pointer (some ⟨ga, 0, none⟩), .pointer (some ⟨ge, 0, none⟩)]) (by simp) (by simp [go_sem]) ?_
   refine (pcatch_idle _ _ _ _).mono ?_
   rintro e u' w'' ⟨rfl, rfl, rfl⟩
   exact ⟨_, pread_results _ _ _ _ _ _ _ _ rfl rfl rfl HX0.out HX1.out HX2.out HCZ.out.symm, (.slice none 0 0), by rw [HDE.out, ← HCS.out], by rw [HDE.out]; exact HR.out _ HXO.out, HQB.out.trans (HXO.out.below HQB.out.size (fun k hk => by have := HG.out; omega))⟩
  | true =>
   rw [if_neg (by decide)] at HD
   by_cases hn : n = 0
   ·rw [if_pos hn] at HD
    have hz : decide (0 < n) = false := decide_eq_false (by omega)
    have HD0 := Lib.hid HD.out
    clear HD hn HAL
    unfold errP at HM
    go_wp2_with fail
    refine (HM.out _ _ _).mono ?_
    rintro e W3 ⟨rfl, rfl⟩
    clear hz k0 HM HMO
    have HDE := Lib.hid (show D = pzero (0) (73) from HD0.out)
    have HOX := Lib.hid (HO.out)
    go_wp2
    refine leaves_cons (f := 57) (args := #[.pointer (some ⟨gp, 0, none⟩), .pointer (some ⟨ga, 0, none⟩), .pointer (some ⟨ge, 0, none⟩)]) (by simp) (by simp [go_sem]) ?_
    refine (pcatch_err gp ga ge (0) (73) [] _ _ _ _ _ _ (HK.out _ HOX.out).1 rfl (HK.out _ HOX.out).2.1 (HK.out _ HOX.out).2.2.1 (by have := HG.out; omega) (by have := HG.out; omega) (by have := HG.out; omega)).mono ?_
    rintro e u' w'' ⟨rfl, rfl, s0, s1, s2, hO2⟩
    exact ⟨_, pread_results _ _ _ _ _ _ _ _ rfl rfl rfl s0 s1 s2, .slice none 0 0, by rw [HDE.out]; rfl, by rw [HDE.out]; exact Kd.R_nil _ _ _ _ _, (HK.out _ HOX.out).2.2.2.trans (hO2.below (HK.out _ HOX.out).2.2.2.size (fun k hk => by have := HG.out; omega))⟩
   ·rw [if_neg hn] at HD
    have hz : decide (0 < n) = true := decide_eq_true (by omega)
    clear hn
    go_wp2_with fail
    refine (HMO.out _ _ _).mono ?_
    rintro e W3 ⟨rfl, rfl⟩
    clear hz
    go_wp2_with fail
    refine (HAL.out (by first | trivial | rfl) _ (HK.out _ HO.out).2.2.2).mono ?_
    rintro e W5 ⟨v5, rfl, hR5, hB5⟩
    obtain ⟨A5, c5, rfl, hle5, hC5⟩ := Kd.R_reads hR5
    have HR5 := Lib.hid hR5
    have HB5 := Lib.hid hB5
    have HLE5 := Lib.hid hle5
    have HC5 := Lib.hid hC5
    clear hR5 hle5 hC5 hB5 HAL k0
    by_cases her : er = 0
    ·subst her
     rw [if_pos rfl] at HD
     go_wp2_with fail
     refine (HMO.out _ _ _).mono ?_
     rintro e W5 ⟨rfl, rfl⟩
     have HAP := Lib.hid (apart_calls W5 A5 c5 xs HC5.out)
     generalize apartB xs = ab at *
     go_wp2_with fail
     refine HAP.out.mono ?_
     rintro e W7 ⟨rfl, hB7⟩
     have HB7 := Lib.hid (below_then HB5.out HB5.out.size hB7)
     have HR7 := Lib.hid (Kd.R_below HR5.out hB7)
     clear hB7 HAP HC5
     cases ab with
     | true =>
      rw [if_pos rfl] at HD
      have HD0 := Lib.hid HD.out
      clear HD HR7 HR5
      unfold errP at HM
      go_wp2_with fail
      refine (HM.out _ _ _).mono ?_
      rintro e W7 ⟨rfl, rfl⟩
      clear HM HMO
      have HDE := Lib.hid (show D = pzero (0) (74) from HD0.out)
      have HOX := Lib.hid (HO.out.thn HB7.out)
      go_wp2
      refine leaves_cons (f := 57) (args := #[.pointer (some ⟨gp, 0, none⟩), .pointer (some ⟨ga, 0, none⟩), .pointer (some ⟨ge, 0, none⟩)]) (by simp) (by simp [go_sem]) ?_
      refine (pcatch_err gp ga ge (0) (74) [] _ _ _ _ _ _ (HK.out _ HOX.out).1 rfl (HK.out _ HOX.out).2.1 (HK.out _ HOX.out).2.2.1 (by have := HG.out; omega) (by have := HG.out; omega) (by have := HG.out; omega)).mono ?_
      rintro e u' w'' ⟨rfl, rfl, s0, s1, s2, hO2⟩
      exact ⟨_, pread_results _ _ _ _ _ _ _ _ rfl rfl rfl s0 s1 s2, .slice none 0 0, by rw [HDE.out]; rfl, by rw [HDE.out]; exact Kd.R_nil _ _ _ _ _, (HK.out _ HOX.out).2.2.2.trans (hO2.below (HK.out _ HOX.out).2.2.2.size (fun k hk => by have := HG.out; omega))⟩
     | false =>
      rw [if_neg (by decide)] at HD
      go_wp2_with fail
      refine (HMO.out _ _ _).mono ?_
      rintro e W7 ⟨rfl, rfl⟩
      have hbg := blk_below HB3.out HB7.out
      have fg := blk_frozen hbg 4
      have kg : W7.cell? ⟨g, 4, none⟩ = some (.slice none 0 0) := blk_cell hbg 4
      have HBG := Lib.hid hbg
      clear hbg
      go_upto_region 11 with (fail)
      have HOY := Lib.hid ((HO.out.thn HB7.out).setCell (p := ⟨g, 4, none⟩) (fun _ => rfl) (.slice A5 xs.length c5))
      have HBY := Lib.hid (blk_put HBG.out 4 (.slice A5 xs.length c5) rfl)
      have HRY := Lib.hid (R_only HR7.out ((Only.refl (· = g) W7).setCell (p := ⟨g, 4, none⟩) (fun _ => rfl) (.slice A5 xs.length c5)) (fun k hk _ h => by have h1 := HG.out; have h2 := HO.out.size; have h3 : k = g := h; omega))
      have HSZ := Lib.hid (show g < W3.heap.size from by have h1 := HG.out; have h2 := HO.out.size; omega)
      clear HR5 HR7 kg fg HBG
      refine wp_gen (fun W => W = W7.setCell ⟨g, 4, none⟩ (.slice A5 xs.length c5)) rfl ?_
      intro W9 hW9
      rw [← hW9] at HOY HBY HRY
      clear hW9
      have HDE := Lib.hid (show D = ⟨nf, nt, nq, xs, 0, 0⟩ from HD.out)
      have HOX := Lib.hid (show Only (· = g) W0 W9 from HOY.out)
      have HSB := Lib.hid (blk_sub HBY.out 1 #[.int .u16 nf, .int .u16 nt, .int .u32 nq, .slice A5 xs.length c5] (sub4 _ _ _ _ _))
      have HR := Lib.hid (fun (W : World) (h : Only (fun k => k = gp ∨ k = ga ∨ k = ge) W9 W) => (Kd.R_lower (R_only HRY.out h (fun k hk _ h2 => by have h1 := HG.out; have h3 := HSZ.out; omega)) (by have h1 := HG.out; have h3 := HSZ.out; omega) : Kd.R k41 41 W w.heap.size (fun _ => True) (.slice A5 xs.length c5) xs))
      obtain ⟨CS, hCS⟩ : ∃ CS : Array Value, #[.int .u16 nf, .int .u16 nt, .int .u32 nq, (.slice A5 xs.length c5)] = CS := ⟨_, rfl⟩
      have HCZ := Lib.hid (show (#[.int .u16 0, .int .u16 0, .int .u32 0, .slice none 0 0] : Array Value).size = CS.size by rw [← hCS]; rfl)
      have HCI := Lib.hid (show (Tryd.prog.info? 26).map (·.size) = some CS.size by rw [← hCS]; kernel_rfl)
      have HC1 := Lib.hid (show CS.all (·.oneCell') = true by rw [← hCS]; simp [Value.oneCell'])
      rw [hCS] at HSB
      have HCS := Lib.hid hCS
      clear hCS
      obtain ⟨q0, q1, q2, qb⟩ := HK.out _ HOX.out
      have hb1 : (W9.setRow gp CS).heap[ga]? = some (.cells #[.int .i64 0] 3 (0, 0)) := (setRow_other _ _ _ _ (by have := HG.out; omega)).trans q1
      have hb2 : (W9.setRow gp CS).heap[ge]? = some (.cells #[.int .i64 0] 28 (0, 0)) := (setRow_other _ _ _ _ (by have := HG.out; omega)).trans q2
      have kb : (W9.setRow gp CS).cell? ⟨ga, 0, none⟩ = some (.int .i64 0) := blk_cell hb1 0
      have fb := blk_frozen hb1 0
      have hb3 := blk_far (p := ⟨ga, 0, none⟩) hb2 (show ge ≠ ga by have := HG.out; omega) (.int .i64 0)
      have kc : ((W9.setRow gp CS).setCell ⟨ga, 0, none⟩ (.int .i64 0)).cell? ⟨ge, 0, none⟩ = some (.int .i64 0) := blk_cell hb3 0
      have fc := blk_frozen hb3 0
      have HQ0 := Lib.hid q0
      have HX0 := Lib.hid (blk_far (p := ⟨ge, 0, none⟩) (blk_far (p := ⟨ga, 0, none⟩) (setRow_heap _ _ _ CS _ _ q0) (show gp ≠ ga by have := HG.out; omega) (.int .i64 0)) (show gp ≠ ge by have := HG.out; omega) (.int .i64 0))
      have HX1 := Lib.hid (blk_far (p := ⟨ge, 0, none⟩) (blk_put hb1 0 (.int .i64 0) rfl) (show ga ≠ ge by have := HG.out; omega) (.int .i64 0))
      have HX2 := Lib.hid (blk_put hb3 0 (.int .i64 0) rfl)
      have HXO := Lib.hid ((((Only.refl (fun k => k = gp ∨ k = ga ∨ k = ge) W9).setRow (g := gp) (fun _ => Or.inl rfl) CS).setCell (p := ⟨ga, 0, none⟩) (fun _ => Or.inr (Or.inl rfl)) (.int .i64 0)).setCell (p := ⟨ge, 0, none⟩) (fun _ => Or.inr (Or.inr rfl)) (.int .i64 0))
      have HQB := Lib.hid qb
      clear q0 q1 q2 qb hb1 hb2 hb3
      go_wp2_with (first | (with_reducible refine gate_dst (N := 60) rfl ?_; go_must (refine wpList_load_cells rfl 26 (.tmp 59) rfl rfl CS _ (fun j v hv => HSB.out j v hv) Tryd.underlying26 rfl HCI.out ?_)) | (refine wpList_store_row rfl 26 _ _ rfl gp CS rfl rfl 26 #[.int .u16 0, .int .u16 0, .int .u32 0, .slice none 0 0] HQ0.out HCI.out HCZ.out HC1.out ?_))
      refine leaves_cons (f := 57) (args := #[.pointer (some ⟨gp, 0, none⟩), .pointer (some ⟨ga, 0, none⟩), .pointer (some ⟨ge, 0, none⟩)]) (by simp) (by simp [go_sem]) ?_
      refine (pcatch_idle _ _ _ _).mono ?_
      rintro e u' w'' ⟨rfl, rfl, rfl⟩
      exact ⟨_, pread_results _ _ _ _ _ _ _ _ rfl rfl rfl HX0.out HX1.out HX2.out HCZ.out.symm, (.slice A5 xs.length c5), by rw [HDE.out, ← HCS.out], by rw [HDE.out]; exact HR.out _ HXO.out, HQB.out.trans (HXO.out.below HQB.out.size (fun k hk => by have := HG.out; omega))⟩
    ·rw [if_neg her] at HD
     have hz : (er == 0) = false := by simp [her]
     have hwr : wrap64 (12 + at_) = 12 + at_ := by have := HAT.out; unfold wrap64; omega
     have HD0 := Lib.hid HD.out
     clear HD HR5 HC5 her
     unfold errP at HM
     go_wp2_with fail
     refine (HM.out _ _ _).mono ?_
     rintro e W5 ⟨rfl, rfl⟩
     clear hz hwr HM HMO
     have HDE := Lib.hid (show D = pzero (12 + at_) (er) from HD0.out)
     have HOX := Lib.hid (HO.out.thn HB5.out)
     go_wp2
     refine leaves_cons (f := 57) (args := #[.pointer (some ⟨gp, 0, none⟩), .pointer (some ⟨ga, 0, none⟩), .pointer (some ⟨ge, 0, none⟩)]) (by simp) (by simp [go_sem]) ?_
     refine (pcatch_err gp ga ge (12 + at_) (er) [] _ _ _ _ _ _ (HK.out _ HOX.out).1 rfl (HK.out _ HOX.out).2.1 (HK.out _ HOX.out).2.2.1 (by have := HG.out; omega) (by have := HG.out; omega) (by have := HG.out; omega)).mono ?_
     rintro e u' w'' ⟨rfl, rfl, s0, s1, s2, hO2⟩
     exact ⟨_, pread_results _ _ _ _ _ _ _ _ rfl rfl rfl s0 s1 s2, .slice none 0 0, by rw [HDE.out]; rfl, by rw [HDE.out]; exact Kd.R_nil _ _ _ _ _, (HK.out _ HOX.out).2.2.2.trans (hO2.below (HK.out _ HOX.out).2.2.2.size (fun k hk => by have := HG.out; omega))⟩
 ·obtain ⟨rfl, _⟩ := hbad hh
  have hde : preadD b wh = pzero 0 (headE b) := by unfold preadD; rw [if_neg hh]
  rw [hde] at HD
  have HD0 := Lib.hid HD.out
  have HO := Lib.hid hO
  clear hok hbad hh hde HD hO HHD HM HMO
  generalize headE b = hE at *
  unfold errP
  have HDE := Lib.hid (show D = pzero (0) (hE) from HD0.out)
  have HOX := Lib.hid (HO.out)
  go_wp2
  refine leaves_cons (f := 57) (args := #[.pointer (some ⟨gp, 0, none⟩), .pointer (some ⟨ga, 0, none⟩), .pointer (some ⟨ge, 0, none⟩)]) (by simp) (by simp [go_sem]) ?_
  refine (pcatch_err gp ga ge (0) (hE) [] _ _ _ _ _ _ (HK.out _ HOX.out).1 rfl (HK.out _ HOX.out).2.1 (HK.out _ HOX.out).2.2.1 (by have := HG.out; omega) (by have := HG.out; omega) (by have := HG.out; omega)).mono ?_
  rintro e u' w'' ⟨rfl, rfl, s0, s1, s2, hO2⟩
  exact ⟨_, pread_results _ _ _ _ _ _ _ _ rfl rfl rfl s0 s1 s2, .slice none 0 0, by rw [HDE.out]; rfl, by rw [HDE.out]; exact Kd.R_nil _ _ _ _ _, (HK.out _ HOX.out).2.2.2.trans (hO2.below (HK.out _ HOX.out).2.2.2.size (fun k hk => by have := HG.out; omega))⟩
theorem pdec_results (tmps : Array Value) (w : World) (g : Nat) (cs : Array Value) (v1 v2 : Value) (t0 : tmps.getD 2 undef = .pointer (some ⟨g, 0, none⟩)) (t1 : tmps.getD 3 undef = v1) (t2 : tmps.getD 4 undef = v2)
  (h0 : w.heap[g]? = some (.cells cs 26 (0, 0))) (hcs : cs.size = 4) :
  (results Tryd.f12 tmps).run Tryd.prog w = .ok (.tuple #[.agg cs, v1, v2]) w := by
 have hi : (Tryd.prog.info? 26).map (·.size) = some cs.size := by rw [hcs]; kernel_rfl
 have hl := run_loadVar_row w g 26 26 cs (0, 0) _ h0 Tryd.underlying26 rfl hi
 rw [Array.getD_eq_getD_getElem?] at t0 t1 t2
 simp [results, Tryd.results12, asAddr, t0, t1, t2, hl]
set_option maxHeartbeats 1000000 in
theorem pdecode_with (w : World) (A : Option Addr) (b : List UInt8) (c : Nat) (hT : Table w) (hb : byte.C w A b.length b) (hc : b.length ≤ c) (hv : b.length ≤ 140737488355328) (HAC : AllOk (b.drop 12)) :
  Calls Tryd.prog 12 #[.slice A b.length c] w (ReadPP w (preadD b true)) := by
 have HR := Lib.hid (fun (W : World) (h : Below w.heap.size w W) => pread_with W A b c true (hT.below h) (Kd.C_below hb h) hc hv (fun _ => HAC))
 clear HAC
 generalize preadD b true = D at *
 clear hb hc hT hv
 unfold ReadPP at HR ⊢
 generalize b.length = n at *
 obtain ⟨g, hg⟩ : ∃ g, w.heap.size = g := ⟨_, rfl⟩
 have HG := Lib.hid hg
 clear hg
 go_enter Tryd.func12, Tryd.ntmps12
 go_upto_region 1 with (fail)
 refine wp_gen (fun W => W.heap[w.heap.size]? = some (.cells #[.int .u16 0, .int .u16 0, .int .u32 0, .slice none 0 0] 26 (0, 0)) ∧ Below w.heap.size w W) ⟨blk_new _ _, below_alloc (Below.refl _ _) _⟩ ?_
 rintro W0 ⟨h0, hB⟩
 rw [HG.out] at h0 ⊢
 go_wp2_with fail
 refine (HR.out W0 hB).mono ?_
 rintro e W1 ⟨v, rfl, hR, hB1⟩
 obtain ⟨A1, c1, rfl, hle1, hC1⟩ := Kd.R_reads hR
 have HR1 := Lib.hid hR
 have HB1 := Lib.hid (below_then hB hB.size hB1)
 have H1 := Lib.hid (blk_below h0 hB1)
 have HGW := Lib.hid (show g < W0.heap.size from blk_lt h0)
 clear h0 hB hR hB1 HR hle1 hC1
 obtain ⟨CS, hCS⟩ : ∃ CS : Array Value, #[.int .u16 D.f, .int .u16 D.t, .int .u32 D.q, .slice A1 D.l.length c1] = CS := ⟨_, rfl⟩
 have HCZ := Lib.hid (show (#[.int .u16 0, .int .u16 0, .int .u32 0, .slice none 0 0] : Array Value).size = CS.size by rw [← hCS]; rfl)
 have HCI := Lib.hid (show (Tryd.prog.info? 26).map (·.size) = some CS.size by rw [← hCS]; kernel_rfl)
 have HC1 := Lib.hid (show CS.all (·.oneCell') = true by rw [← hCS]; simp [Value.oneCell'])
 have HCS := Lib.hid hCS
 rw [hCS]
 clear hCS
 go_wp2_with (refine wpList_store_row rfl 26 _ _ rfl g CS rfl rfl 26 #[.int .u16 0, .int .u16 0, .int .u32 0, .slice none 0 0] H1.out HCI.out HCZ.out HC1.out ?_)
 refine bodyPost_ret (pdec_results _ _ g CS _ _ rfl rfl rfl (setRow_heap _ _ _ _ _ _ H1.out) HCZ.out.symm) rfl ⟨_, by rw [← HCS.out]; first | done | rfl, Kd.R_lower (R_only HR1.out ((Only.refl (· = g) W1).setRow (fun _ => rfl) CS) (fun k hk _ h => by have h1 := HGW.out; have h3 : k = g := h; omega)) (by have h1 := HGW.out; have h2 := HG.out; omega), HB1.out.trans (((Only.refl (· = g) W1).setRow (fun _ => rfl) CS).below HB1.out.size (fun k hk => by have h2 := HG.out; have h3 : k = g := hk; omega))⟩
theorem pdecode_calls (w : World) (A : Option Addr) (b : List UInt8) (c : Nat) (hT : Table w) (hb : byte.C w A b.length b) (hc : b.length ≤ c) (hv : b.length ≤ 140737488355328) :
  Calls Tryd.prog 12 #[.slice A b.length c] w (ReadPP w (preadD b true)) := pdecode_with w A b c hT hb hc hv (all_ok _)
end Go.Proofs.YtdlamomabonkjaaDoor.Pk
end
section
namespace Go.Proofs.YtdlamomabonkjaaDoor.Ch
open Go.RowKit Go.Proofs.YtdlamomabonkjaaDoorW.PrintWords Go.Proofs.YtdlamomabonkjaaDoorW.PrintLast Go.Proofs.YtdlamomabonkjaaDoor.Base Go.Proofs.YtdlamomabonkjaaDoor.PCh Go.Proofs.YtdlamomabonkjaaDoor.ParDec Go.Proofs.YtdlamomabonkjaaDoor.ParEnc
set_option maxRecDepth 100000
set_option linter.unusedVariables false
set_option linter.unusedSimpArgs false
structure RX (w1 : World) (ys : List Int) (v : Value) (W : World) : Prop where
 bl : Below w1.heap.size w1 W
 r : (Kd.int .u8).R 5 W w1.heap.size (fun _ => True) v ys
theorem RX.drewN {w1 W : World} {ys : List Int} {v : Value} (h : RX w1 ys v W) (n : Nat) : RX w1 ys v (W.drewN n) := ⟨pw_below_drewN h.bl n, Kd.R_drewN h.r n⟩
theorem u32_mod (n : Int) : IntKind.u32.wrap n = n % 4294967296 := by simp [IntKind.wrap, IntKind.bits, IntKind.signed]
theorem two32 (n : Int) : twoL [IntKind.u32.wrap n] = twoL [n] := by
 rw [u32_mod]
 simp only [twoL, List.append_nil, List.cons.injEq, and_true]
 omega
theorem sh_nonneg (n : Int) : 0 ≤ IntKind.u64.wrap n := by simp [IntKind.wrap, IntKind.bits, IntKind.signed]; omega
theorem put_two (l : List Int) (n : Int) (hl : l.length ≤ 140737488355000) : ropewalkref06_put.f 3 l n 2 = some (l ++ twoL [n]) := by
 have e1 : shr .u32 n (IntKind.u64.wrap (wrap64 (8 * 1))) % 256 = n / 256 % 256 := by simp [shr, wrap64, IntKind.wrap, IntKind.bits, IntKind.signed]
 have e0 : shr .u32 n (IntKind.u64.wrap (wrap64 (8 * 0))) % 256 = n % 256 := by simp [shr, wrap64, IntKind.wrap, IntKind.bits, IntKind.signed]
 unfold ropewalkref06_put.f
 rw [show wrap64 (2 - 1) = 1 by unfold wrap64; omega, ropewalkref06_put.l0, if_pos (by decide), if_pos (sh_nonneg _), if_pos (by omega), e1, show wrap64 (1 - 1) = 0 by unfold wrap64; omega, ropewalkref06_put.l0, if_pos (by decide), if_pos (sh_nonneg _), if_pos (by rw [List.length_append]; simp; omega), e0, show wrap64 (0 - 1) = -1 by unfold wrap64; omega, ropewalkref06_put.l0, if_neg (by decide)]
 simp [twoL]
theorem put_four (l : List Int) (n : Int) (hl : l.length ≤ 140737488355000) : ropewalkref06_put.f 5 l n 4 = some (l ++ fourL [n]) := by
 have e3 : shr .u32 n (IntKind.u64.wrap (wrap64 (8 * 3))) % 256 = n / 16777216 % 256 := by simp [shr, wrap64, IntKind.wrap, IntKind.bits, IntKind.signed]
 have e2 : shr .u32 n (IntKind.u64.wrap (wrap64 (8 * 2))) % 256 = n / 65536 % 256 := by simp [shr, wrap64, IntKind.wrap, IntKind.bits, IntKind.signed]
 have e1 : shr .u32 n (IntKind.u64.wrap (wrap64 (8 * 1))) % 256 = n / 256 % 256 := by simp [shr, wrap64, IntKind.wrap, IntKind.bits, IntKind.signed]
 have e0 : shr .u32 n (IntKind.u64.wrap (wrap64 (8 * 0))) % 256 = n % 256 := by simp [shr, wrap64, IntKind.wrap, IntKind.bits, IntKind.signed]
 unfold ropewalkref06_put.f
 rw [show wrap64 (4 - 1) = 3 by unfold wrap64; omega, ropewalkref06_put.l0, if_pos (by decide), if_pos (sh_nonneg _), if_pos (by omega), e3, show wrap64 (3 - 1) = 2 by unfold wrap64; omega, ropewalkref06_put.l0, if_pos (by decide), if_pos (sh_nonneg _), if_pos (by rw [List.length_append]; simp; omega), e2, show wrap64 (2 - 1) = 1 by unfold wrap64; omega, ropewalkref06_put.l0, if_pos (by decide), if_pos (sh_nonneg _), if_pos (by simp only [List.length_append, List.length_cons, List.length_nil]; omega), e1, show wrap64 (1 - 1) = 0 by unfold wrap64; omega, ropewalkref06_put.l0, if_pos (by decide), if_pos (sh_nonneg _), if_pos (by simp only [List.length_append, List.length_cons, List.length_nil]; omega), e0, show wrap64 (0 - 1) = -1 by unfold wrap64; omega, ropewalkref06_put.l0, if_neg (by decide)]
 simp [fourL]
theorem RX.put {w1 W : World} {ys zs : List Int} {v : Value} (h : RX w1 ys v W) (k : Nat) (n m : Int) (hf : ropewalkref06_put.f k ys n m = some zs) :
  Calls Tryd.prog 63 #[v, .int .u32 n, .int .i64 m] W fun e w' => ∃ v', e = .returned v' ∧ RX w1 zs v' w' :=
 (ropewalkref06_put.calls k (fun _ => True) v ys n m zs w1 W h.bl h.r hf).mono fun e w' ⟨v', h1, h2, h3, _⟩ => ⟨v', h1, h3, Kd.R_mono h2 (fun _ _ => trivial)⟩
theorem RX.two {w1 W : World} {ys : List Int} {v : Value} (h : RX w1 ys v W) (n : Int) (t : List Int) (ht : twoL [n] = t) (hl : ys.length ≤ 140737488355000) :
  Calls Tryd.prog 63 #[v, .int .u32 n, .int .i64 2] W fun e w' => ∃ v', e = .returned v' ∧ RX w1 (ys ++ t) v' w' := by
 subst ht
 exact h.put 3 n 2 (put_two ys n hl)
theorem RX.four {w1 W : World} {ys : List Int} {v : Value} (h : RX w1 ys v W) (n : Int) (hl : ys.length ≤ 140737488355000) :
  Calls Tryd.prog 63 #[v, .int .u32 n, .int .i64 4] W fun e w' => ∃ v', e = .returned v' ∧ RX w1 (ys ++ fourL [n]) v' w' := h.put 5 n 4 (put_four ys n hl)
end Go.Proofs.YtdlamomabonkjaaDoor.Ch
end
section
namespace Go.Proofs.YtdlamomabonkjaaDoor.Pk
open Go.RowKit Go.Proofs.YtdlamomabonkjaaDoorW.PrintWords Go.Proofs.YtdlamomabonkjaaDoorW.PrintLast Go.Proofs.YtdlamomabonkjaaDoor.Base Go.Proofs.YtdlamomabonkjaaDoor.PCh Go.Proofs.YtdlamomabonkjaaDoor.ParDec Go.Proofs.YtdlamomabonkjaaDoor.ParEnc Go.Proofs.YtdlamomabonkjaaDoor.Ch Go.Proofs.YtdlamomabonkjaaDoor.Crc CrcMath
set_option maxRecDepth 100000
set_option linter.unusedVariables false
set_option linter.unusedSimpArgs false
theorem sum_turn (y : List UInt8) (k : Nat) (h : k < 8 * y.length) : sumL (turnBit y k) ≠ sumL y := by
 rw [sumL_eq, sumL_eq]
 intro he
 have he2 : ext 4294967295 (turnBit y k) = ext 4294967295 y := by
  have := congrArg (· ^^^ 4294967295) he
  simpa [Nat.xor_assoc] using this
 rw [ext_le _ _ (by decide), ext_le _ _ (by decide), turnBit_length, le_turnBit _ _ h, ← Nat.xor_assoc, bitSteps_xor] at he2
 have hz : bitSteps (8 * y.length) (2 ^ k) = 0 := by
  have := congrArg (bitSteps (8 * y.length) (4294967295 ^^^ le y) ^^^ ·) he2
  simpa [← Nat.xor_assoc] using this
 rw [show 8 * y.length = k + (8 * y.length - k) by omega, bitSteps_add, show (2 : Nat) ^ k = 1 <<< k by rw [Nat.shiftLeft_eq, Nat.one_mul], bitSteps_shift] at hz
 exact bitSteps_ne (by decide) (by decide) hz
theorem turn_ne (y : List UInt8) (k : Nat) (h : k < 8 * y.length) : turnBit y k ≠ y := fun e => sum_turn y k h (by rw [e])
theorem check_turn (l : List UInt8) (k : Nat) (hl : 12 ≤ l.length) (h : k < 8 * l.length) : checkL (turnBit (putL l) k) ≠ 0 := by
 have hlen : (turnBit (putL l) k).length = l.length := by rw [turnBit_length, putL_length]
 by_cases hi : k / 8 < 8 ∨ 12 ≤ k / 8
 ·rw [checkL, if_neg (by omega), if_neg]
  ·decide
  intro he
  have e1 := puts_bytes (turnBit (putL l) k) (sumL (noSum (turnBit (putL l) k))) (by omega)
  rw [← putL_eq, he] at e1
  have e2 := puts_bytes l (sumL (noSum l)) hl
  rw [← putL_eq] at e2
  rw [getD_turnBit _ _ 8 (by omega), getD_turnBit _ _ 9 (by omega), getD_turnBit _ _ 10 (by omega), getD_turnBit _ _ 11 (by omega)] at e1
  have hs := ofNat_inj4 _ _ (sumL_lt _) (sumL_lt _) (e1.1.symm.trans e2.1) (e1.2.1.symm.trans e2.2.1) (e1.2.2.1.symm.trans e2.2.2.1) (e1.2.2.2.symm.trans e2.2.2.2)
  rw [noSum_turnBit _ _ (by rw [putL_length]; exact hl) hi, putL_eq, noSum_puts _ _ hl] at hs
  exact sum_turn (noSum l) k (by rw [noSum_length _ hl]; exact h) hs
 ·have hn : noSum (turnBit (putL l) k) = noSum (putL l) := by
   have h1 : 8 ≤ k / 8 ∧ k / 8 < 12 := by omega
   unfold noSum turnBit
   generalize (putL l).getD (k / 8) 0 ^^^ ((1 : UInt8) <<< UInt8.ofNat (k % 8)) = x
   rw [List.take_set_of_le (by omega), List.drop_set_of_lt (by omega)]
  rw [checkL, if_neg (by omega), if_neg]
  ·decide
  intro he
  have h12 : 12 ≤ (turnBit (putL l) k).length := by omega
  have h3 : putL (turnBit (putL l) k) = putL (putL l) := by
   rw [putL_eq, putL_eq (putL l), hn, puts_four _ _ h12, puts_four _ _ (by rw [putL_length]; exact hl)]
   have h1 : 8 ≤ k / 8 ∧ k / 8 < 12 := by omega
   unfold turnBit
   generalize (putL l).getD (k / 8) 0 ^^^ ((1 : UInt8) <<< UInt8.ofNat (k % 8)) = x
   rw [List.take_set_of_le (by omega), List.drop_set_of_lt (by omega)]
  have h4 : putL (putL l) = putL l := by rw [putL_eq (putL l), putL_eq l, noSum_puts _ _ hl, puts_again _ _ _ hl]
  rw [h3, h4] at he
  exact turn_ne (putL l) k (by rw [putL_length]; exact h) he.symm
theorem put_take (l : List UInt8) (h : 12 ≤ l.length) : (putL l).take 8 = l.take 8 ∧ (putL l).drop 12 = l.drop 12 := by
 rw [putL_eq, puts_four _ _ h]
 have h8 : (l.take 8).length = 8 := by rw [List.length_take]; omega
 constructor
 ·rw [List.append_assoc, List.take_append_of_le_length (by omega), List.take_of_length_le (by omega)]
 ·rw [List.drop_append]
  simp [h8]
theorem allL_back {l : List Chk} {b : List UInt8} (hok : ∀ x ∈ l, OkC x ∧ checkD x = 0) (hb : ints b = flatL l) : allL b = (l, 0, 0) := by
 have := all_back l (b.length + 1) 0 b [] hok (by rw [List.drop_zero]; exact hb) (Nat.zero_le _) (by omega)
 unfold allL
 rw [this, List.nil_append]
theorem flat_pos (x : Chk) (l : List Chk) : 4 ≤ (flatL (x :: l)).length := by
 rw [flatL, List.length_append, chunkL_len]
 omega
structure PkOk (f t q : Int) (l : List Chk) : Prop where
 f0 : 0 < f
 f1 : f < 65536
 t0 : 0 < t
 t1 : t < 65536
 q : in32 q
 ok : ∀ x ∈ l, OkC x
theorem penc_good {f t q : Int} {l : List Chk} (h : (pencD f t q l).2 = 0) : 0 < f ∧ 0 < t ∧ l.length ≠ 0 ∧ apartB l = false ∧ (encD l).2 = 0 ∧ 12 + (encD l).1.length ≤ 65536 ∧ (pencD f t q l).1 = putL (bytesOf (headL f t q ++ (encD l).1)) := by
 unfold pencD at h ⊢
 by_cases h1 : (decide (0 < f) && decide (0 < t)) = false
 ·rw [if_pos h1] at h; cases h
 rw [if_neg h1] at h ⊢
 have h1' : 0 < f ∧ 0 < t := by simpa using h1
 by_cases h2 : l.length = 0
 ·rw [if_pos h2] at h; cases h
 rw [if_neg h2] at h ⊢
 by_cases h3 : apartB l = true
 ·rw [if_pos h3] at h; cases h
 rw [if_neg h3] at h ⊢
 by_cases h4 : (encD l).2 = 0
 ·rw [if_pos h4] at h ⊢
  by_cases h5 : 65536 < 12 + (encD l).1.length
  ·rw [if_pos h5] at h; cases h
  rw [if_neg h5]
  exact ⟨h1'.1, h1'.2, h2, Bool.eq_false_iff.2 h3, h4, by omega, rfl⟩
 ·rw [if_neg h4] at h; exact absurd h h4
theorem penc_bad {f t q : Int} {l : List Chk} (h : (pencD f t q l).2 ≠ 0) : (pencD f t q l).1 = [] := by
 unfold pencD at h ⊢
 by_cases h1 : (decide (0 < f) && decide (0 < t)) = false
 ·rw [if_pos h1]
 rw [if_neg h1] at h ⊢
 by_cases h2 : l.length = 0
 ·rw [if_pos h2]
 rw [if_neg h2] at h ⊢
 by_cases h3 : apartB l = true
 ·rw [if_pos h3]
 rw [if_neg h3] at h ⊢
 by_cases h4 : (encD l).2 = 0
 ·rw [if_pos h4] at h ⊢
  by_cases h5 : 65536 < 12 + (encD l).1.length
  ·rw [if_pos h5]
  ·rw [if_neg h5] at h; exact absurd rfl h
 ·rw [if_neg h4]
theorem penc_ok {f t q : Int} {l : List Chk} (h1 : 0 < f) (h2 : 0 < t) (h3 : l.length ≠ 0) (h4 : apartB l = false) (h5 : (encD l).2 = 0) (h6 : 12 + (encD l).1.length ≤ 65536) : pencD f t q l = (putL (bytesOf (headL f t q ++ (encD l).1)), 0) := by
 unfold pencD
 rw [if_neg (by simp [h1, h2]), if_neg h3, if_neg (by rw [h4]; exact Bool.false_ne_true), if_pos h5, if_neg (by omega)]
theorem in16_of {f : Int} (h0 : 0 < f) (h1 : f < 65536) : in16 f := ⟨by omega, h1⟩
theorem pback {f t q : Int} {l : List Chk} (hk : PkOk f t q l) (h : (pencD f t q l).2 = 0) : preadD (pencD f t q l).1 true = ⟨f, t, q, l, 0, 0⟩ ∧ 12 < (pencD f t q l).1.length ∧ (pencD f t q l).1.length ≤ 65536 := by
 obtain ⟨_, _, hl, hap, he, hlen, hb⟩ := penc_good h
 obtain ⟨hck, hfl, _⟩ := enc_good he
 rw [hb]
 have hin : ∀ b ∈ headL f t q ++ (encD l).1, inB b := app_in (head_in f t q) (enc_in hk.ok)
 obtain ⟨hs, hhs⟩ : ∃ hs, bytesOf (headL f t q ++ (encD l).1) = hs := ⟨_, rfl⟩
 have hi : ints hs = headL f t q ++ (encD l).1 := by rw [← hhs]; exact ints_bytesOf _ hin
 rw [hhs]
 have hln : hs.length = 12 + (encD l).1.length := by rw [← ints_length, hi, List.length_append, headL_length]
 obtain ⟨p8, p12⟩ := put_take hs (by omega)
 have hpl := putL_length hs
 have hi0 : ints hs = twoL [f] ++ (twoL [t] ++ (fourL [q] ++ (fourL [0] ++ (encD l).1))) := by rw [hi]; unfold headL; simp only [List.append_assoc]
 obtain ⟨b1, r1⟩ := be2 hi0 (in16_of hk.f0 hk.f1)
 obtain ⟨b2, r2⟩ := be2 r1 (in16_of hk.t0 hk.t1)
 obtain ⟨b3, r3⟩ := be4 r2 hk.q
 obtain ⟨b4, r4⟩ := be4 r3 z32
 rw [List.drop_drop, List.drop_drop, List.drop_drop] at r4
 have hF : ((hdF (putL hs) : Nat) : Int) = f := by
  unfold hdF
  rw [← b1, show (putL hs).take 2 = ((putL hs).take 8).take 2 by rw [List.take_take]; rfl, p8, List.take_take]
  rfl
 have hT : ((hdT (putL hs) : Nat) : Int) = t := by
  unfold hdT
  rw [← b2, show ((putL hs).drop 2).take 2 = (((putL hs).take 8).drop 2).take 2 by rw [List.drop_take, List.take_take]; rfl, p8, List.drop_take, List.take_take]
  rfl
 have hQ : ((hdQ (putL hs) : Nat) : Int) = q := by
  unfold hdQ
  rw [← b3, List.drop_drop, List.drop_drop, show ((putL hs).drop (2 + 2)).take 4 = (((putL hs).take 8).drop (2 + 2)).take 4 by rw [List.drop_take, List.take_take]; rfl, p8, List.drop_take, List.take_take]
  rfl
 have hH : headE (putL hs) = 0 := by
  unfold headE
  rw [if_neg (by omega), if_pos (check_put hs (by omega)), if_pos]
  rw [hF, hT]
  have := hk.f0
  have := hk.t0
  simp [*]
 have hA : allL ((putL hs).drop 12) = (l, 0, 0) := by
  rw [p12]
  refine allL_back (fun x hx => ⟨hk.ok x hx, hck x hx⟩) ?_
  rw [← hfl]
  exact r4
 have hpos : 4 ≤ (encD l).1.length := by
  rw [hfl]
  cases l with
  | nil => exact absurd rfl hl
  | cons x r => exact flat_pos x r
 refine ⟨?_, by omega, by omega⟩
 unfold preadD
 rw [if_pos hH, if_neg (by decide), if_neg (by rw [List.length_drop]; omega), hA, if_pos rfl, if_neg (by rw [hap]; exact Bool.false_ne_true), hF, hT, hQ]
theorem pturn {f t q : Int} {l : List Chk} (hk : PkOk f t q l) (h : (pencD f t q l).2 = 0) (k : Nat) (hlt : k < 8 * (pencD f t q l).1.length) : (preadD (turnBit (pencD f t q l).1 k) true).e ≠ 0 ∧ (preadD (turnBit (pencD f t q l).1 k) true).l = [] := by
 obtain ⟨_, h1, h2⟩ := pback hk h
 obtain ⟨_, _, hl, hap, he, hlen, hb⟩ := penc_good h
 rw [hb] at h1 h2 hlt ⊢
 generalize bytesOf (headL f t q ++ (encD l).1) = hs at *
 rw [putL_length] at h1 h2 hlt
 have hc := check_turn hs k (by omega) hlt
 have hE : headE (turnBit (putL hs) k) = checkL (turnBit (putL hs) k) := by
  unfold headE
  rw [if_neg (by rw [turnBit_length, putL_length]; omega), if_neg hc]
 unfold preadD
 rw [hE, if_neg hc]
 exact ⟨hc, rfl⟩
end Go.Proofs.YtdlamomabonkjaaDoor.Pk
end
section
namespace Go.Proofs.YtdlamomabonkjaaDoor.Pk
open Go.RowKit Go.Proofs.YtdlamomabonkjaaDoorW.PrintWords Go.Proofs.YtdlamomabonkjaaDoorW.PrintLast Go.Proofs.YtdlamomabonkjaaDoor.Base Go.Proofs.YtdlamomabonkjaaDoor.PCh Go.Proofs.YtdlamomabonkjaaDoor.ParDec Go.Proofs.YtdlamomabonkjaaDoor.ParEnc Go.Proofs.YtdlamomabonkjaaDoor.Ch Go.Proofs.YtdlamomabonkjaaDoor.Crc CrcMath
set_option maxRecDepth 100000
set_option linter.unusedVariables false
set_option linter.unusedSimpArgs false
theorem cons_dec (x y : Chk) (a b : List Chk) : decide (x :: a = y :: b) = (decide (x = y) && decide (a = b)) := by
 by_cases h1 : x = y <;> by_cases h2 : a = b <;> simp [h1, h2]
theorem chk_size (x : Chk) (L : Lay) : (Tryd.prog.info? 41).map (·.size) = some (CV x L).size := by kernel_rfl
theorem chk_zsize (x : Chk) (L : Lay) : (#[.int .u8 0, .int .u8 0, .int .u32 0, .int .u16 0, .int .u16 0, .int .u32 0, .int .u32 0, .int .u32 0, .int .u16 0, .int .u16 0, .slice none 0 0, .slice none 0 0, .slice none 0 0, .slice none 0 0, .slice none 0 0] : Array Value).size = (CV x L).size := rfl
set_option maxHeartbeats 2000000 in
theorem eqf_calls (w : World) (A B : Option Addr) (c d : Nat) (qs rs : List Chk) (h : Kd.C k41 w A qs.length qs) (h' : Kd.C k41 w B rs.length rs) :
  Calls Tryd.prog 37 #[.slice A qs.length c, .slice B rs.length d, .func (.func 38) #[] #[]] w fun e w' => e = .returned (.bool (decide (qs = rs))) ∧ Below w.heap.size w w' := by
 have hm := h.2.1
 have hm' := h'.2.1
 have H := Lib.hid (fun (W : World) (hb : Below w.heap.size w W) => Kd.C_below h hb)
 have H' := Lib.hid (fun (W : World) (hb : Below w.heap.size w W) => Kd.C_below h' hb)
 clear h h'
 by_cases hL : qs.length = rs.length
 ·have hne : (((qs.length : Nat) : Int) != ((rs.length : Nat) : Int)) = false := by simp [hL]
  have HL := Lib.hid hL
  clear hL
  go_enter Tryd.func37, Tryd.ntmps37
  go_wp2
  go_loopw [17] (fun v17 w' => ∃ i : Nat, i ≤ qs.length ∧ v17 = .int .i64 i ∧ Hid (decide (qs = rs) = decide (qs.drop i = rs.drop i)) ∧ Hid (Below w.heap.size w w')) (fun v17 _ => qs.length - (intOf v17).toNat)
  case atStart => exact ⟨0, by omega, rfl, rfl, Below.refl _ _⟩
  case round =>
   obtain ⟨i, hi, rfl, HS, HB⟩ := hrel
   by_cases hlt : i < qs.length
   ·have hlt' : i < rs.length := by rw [← HL.out]; exact hlt
    obtain ⟨ad, x, L, rfl, hd0, _, hc0, hx⟩ := chk_at (H.out wr HB.out) i hlt
    obtain ⟨ad', y, M, rfl, hd1, _, hc1, hy⟩ := chk_at (H'.out wr HB.out) i hlt'
    have hd : decide (qs = rs) = (decide (x = y) && decide (qs.drop (i + 1) = rs.drop (i + 1))) := by rw [HS.out, hd0, hd1]; exact cons_dec _ _ _ _
    have HF := Lib.hid (fun (W : World) (hb : Below wr.heap.size wr W) => same_calls W x y L M (hx.below hb) (hy.below hb))
    have HD := Lib.hid hd
    have HXS := Lib.hid (chk_size x L)
    have HXZ := Lib.hid (chk_zsize x L)
    have HXO := Lib.hid (CV_one x L)
    have HYS := Lib.hid (chk_size y M)
    have HYZ := Lib.hid (chk_zsize y M)
    have HYO := Lib.hid (CV_one y M)
    have HCX := Lib.hid hc0
    have HCY := Lib.hid (fun (W : World) (hb : Below wr.heap.size wr W) j v hv => pw_cell_below hb (hc1 j v hv))
    clear hd hd0 hd1 hc0 hc1 hx hy HS
    generalize CV x L = CX at *
    generalize CV y M = CY at *
    generalize decide (x = y) = qk at *
    go_upto_region 6 with (first | (with_reducible refine gate_dst (N := 21) rfl ?_; go_must (refine wpList_load_cells rfl 41 (.tmp 20) rfl rfl CX _ (fun j v hv => HCX.out j v hv) Tryd.underlying41 rfl HXS.out ?_)) | (refine wpList_store_row rfl 41 (.tmp 8) (.tmp 21) rfl _ CX rfl rfl 41 _ (blk_new _ _) HXS.out HXZ.out HXO.out ?_))
    rw [World.setRow_alloc_new]
    obtain ⟨g8, hg8⟩ : ∃ g, wr.heap.size = g := ⟨_, rfl⟩
    have HG8 := Lib.hid hg8
    refine wp_gen (fun W => W.heap[wr.heap.size]? = some (.cells CX 41 (0, 0)) ∧ Below wr.heap.size wr W) ⟨blk_new _ _, below_alloc (Below.refl _ _) _⟩ ?_
    rintro W1 ⟨hk1, hb1⟩
    rw [hg8] at hk1 ⊢
    clear hg8
    have HK1 := Lib.hid hk1
    have HB1 := Lib.hid hb1
    have HCY1 := Lib.hid (HCY.out W1 hb1)
    clear hk1 hb1 HCX HCY
    obtain ⟨g9, hg9⟩ : ∃ g, W1.heap.size = g := ⟨_, rfl⟩
    have HG9 := Lib.hid hg9
    clear hg9
    go_upto_region 7 with (first | (with_reducible refine gate_dst (N := 25) rfl ?_; go_must (refine wpList_load_cells rfl 41 (.tmp 24) rfl rfl CY _ (fun j v hv => HCY1.out j v hv) Tryd.underlying41 rfl HYS.out ?_)) | (with_reducible refine gate_dst (N := 9) rfl ?_; go_must (refine wpList_box rfl rfl 9 rfl rfl (.tmp 25) rfl CY rfl rfl HYZ.out HYS.out HYO.out ?_)))
    refine wp_gen (fun W => W.heap[W1.heap.size]? = some (.cells CY 41 (0, 0)) ∧ Below W1.heap.size W1 W) ⟨blk_new _ _, below_alloc (Below.refl _ _) _⟩ ?_
    rintro W2 ⟨hk2, hb2⟩
    rw [HG9.out] at hk2 ⊢
    have HK3 := Lib.hid (blk_below HK1.out hb2)
    have HK2 := Lib.hid hk2
    have HB2 := Lib.hid (below_then HB1.out HB1.out.size hb2)
    clear hk2 hb2 HB1 HK1 HCY1
    go_wp2_with (first | (with_reducible refine gate_dst (N := 27) rfl ?_; go_must (refine wpList_load_row rfl 41 (.tmp 8) rfl _ rfl 41 _ (0, 0) _ HK3.out Tryd.underlying41 rfl HXS.out ?_)) | (with_reducible refine gate_dst (N := 28) rfl ?_; go_must (refine wpList_load_row rfl 41 (.tmp 9) rfl _ rfl 41 _ (0, 0) _ HK2.out Tryd.underlying41 rfl HYS.out ?_)))
    refine (HF.out W2 HB2.out).mono ?_
    rintro e w1 ⟨rfl, hB1⟩
    have HB3 := Lib.hid (below_then HB.out HB.out.size (below_then HB2.out HB2.out.size hB1))
    clear hB1 HF HB HB2 HK2 HK3
    cases qk with
    | true =>
     have HD2 := Lib.hid (show decide (qs = rs) = decide (qs.drop (i + 1) = rs.drop (i + 1)) by rw [HD.out, Bool.true_and])
     clear HD
     go_wp2
     go_roundw
     case rel => exact ⟨i + 1, by omega, by go_num, HD2, HB3⟩
     case measure => simp [intOf]; omega
    | false =>
     have HD2 := Lib.hid (show decide (qs = rs) = false by rw [HD.out, Bool.false_and])
     clear HD
     go_wp2
     go_ret
     exact ⟨by rw [HD2.out]; rfl, HB3.out⟩
   ·obtain rfl : i = qs.length := by omega
    have HD := Lib.hid (show decide (qs = rs) = true by rw [HS.out, List.drop_length, HL.out, List.drop_length]; rfl)
    go_wp2
    go_ret
    exact ⟨by rw [HD.out]; rfl, HB.out⟩
 ·have HD := Lib.hid (show decide (qs = rs) = false from decide_eq_false (fun e => hL (congrArg List.length e)))
  have hl2 : ¬ (qs.length : Int) = (rs.length : Int) := by omega
  go_enter Tryd.func37, Tryd.ntmps37
  go_wp2
  go_ret
  exact ⟨by rw [HD.out]; rfl, Below.refl _ _⟩
end Go.Proofs.YtdlamomabonkjaaDoor.Pk
end
section
namespace Go.Proofs.YtdlamomabonkjaaDoor.Ch
open Go.RowKit Go.Proofs.YtdlamomabonkjaaDoorW.PrintWords Go.Proofs.YtdlamomabonkjaaDoorW.PrintLast Go.Proofs.YtdlamomabonkjaaDoor.Base Go.Proofs.YtdlamomabonkjaaDoor.PCh Go.Proofs.YtdlamomabonkjaaDoor.ParDec
set_option maxRecDepth 100000
set_option linter.unusedVariables false
set_option linter.unusedSimpArgs false
def schT6 : Bool × List (List Nat × List Nat) := (true, [([], []), ([], []), ([0, 1], [0, 1]), ([2], [2]), ([], []), ([], []), ([4, 5], [4, 5]), ([6], [6]), ([3, 7], [3, 7]), ([8], [8])])
def schB6 : List Nat := [0, 0, 3, 7, 0, 0, 48, 112, 255, 511]
theorem schtab6 : Go.Proofs.YtdlamomabonkjaaDoorW.PrintLast.rtab .any (Go.Proofs.YtdlamomabonkjaaDoorW.PrintLast.opsOf Tryd.f25 6) = schT6 := by kernel_rfl
theorem schbits6 : Go.Proofs.YtdlamomabonkjaaDoorW.PrintLast.waitsOk schT6.2 schB6 = true := by kernel_rfl
set_option maxHeartbeats 4000000 in
theorem schunks_calls (w : World) (A B' : Option Addr) (c d : Nat) (xs ys : List Chk) (hx : Kd.C k41 w A xs.length xs) (hy : Kd.C k41 w B' ys.length ys) (ox : ∀ x ∈ xs, OkB x) (oy : ∀ y ∈ ys, OkB y) :
  Calls Tryd.prog 25 #[.slice A xs.length c, .slice B' ys.length d] w fun e w' => e = .returned (.bool (decide (xs = ys))) ∧ Below w.heap.size w w' := by
 have hmx := hx.2.1
 have hmy := hy.2.1
 have HX := Lib.hid (fun (W : World) (h : Below w.heap.size w W) => Kd.C_below hx h)
 have HY := Lib.hid (fun (W : World) (h : Below w.heap.size w W) => Kd.C_below hy h)
 have HOX := Lib.hid ox
 have HOY := Lib.hid oy
 clear hx hy ox oy
 by_cases hl : xs.length = ys.length
 ·have q : ((xs.length : Int) != (ys.length : Int)) = false := by simp [hl]
  have HL := Lib.hid hl
  clear hl
  go_enter Tryd.func25, Tryd.ntmps25
  go_wp2
  go_loopw [5] (fun v5 wr => ∃ i : Nat, i ≤ xs.length ∧ v5 = .int .i64 (i : Int) ∧ Hid (decide (xs = ys) = decide (xs.drop i = ys.drop i)) ∧ Hid (Below w.heap.size w wr)) (fun v5 _ => xs.length - (intOf v5).toNat)
  case atStart => exact ⟨0, Nat.zero_le _, rfl, rfl, Below.refl _ _⟩
  case round =>
   obtain ⟨i, hi, rfl, HS, HB⟩ := hrel
   by_cases hlt : i < xs.length
   ·have hlt' : i < ys.length := by have := HL.out; omega
    obtain ⟨ax, x, L, rfl, hdx, hxm, hcx, hxr⟩ := chk_at (HX.out _ HB.out) i hlt
    obtain ⟨ay, y, M, rfl, hdy, hym, hcy, hyr⟩ := chk_at (HY.out _ HB.out) i hlt'
    have hd := HS.out
    rw [hdx, hdy] at hd
    have HSM := Lib.hid (fun (W : World) (h : Below wr.heap.size wr W) => rsame_calls W x y L M (hxr.below h) (hyr.below h) (HOX.out x hxm) (HOY.out y hym))
    have HXS := Lib.hid (show (Tryd.prog.info? 41).map (·.size) = some (CV x L).size by kernel_rfl)
    have HYS := Lib.hid (show (Tryd.prog.info? 41).map (·.size) = some (CV y M).size by kernel_rfl)
    have HLX := Lib.hid hcx
    have HLY := Lib.hid hcy
    have s2 : (x :: xs.drop (i + 1) = y :: ys.drop (i + 1)) = (x = y ∧ xs.drop (i + 1) = ys.drop (i + 1)) := by simp
    have HD := Lib.hid hd
    have HS2 := Lib.hid s2
    clear hd s2 hcx hcy hxr hyr hdx hdy hxm hym
    by_cases hxy : x = y
    ·have HDD := Lib.hid (show decide (xs = ys) = decide (xs.drop (i + 1) = ys.drop (i + 1)) by rw [HD.out]; exact decide_eq_decide.2 (by rw [HS2.out]; simp [hxy]))
     rw [decide_eq_true hxy] at HSM
     clear HD HS2 hxy HS
     generalize CV x L = CX at *
     generalize CV y M = CY at *
     obtain ⟨q, hq⟩ : ∃ q, q = true := ⟨_, rfl⟩
     rw [← hq] at HSM
     have HQ := Lib.hid hq
     clear hq
     have HN2 := HB
     go_upto_region 6 with (fail)
     generalize wr = W at *
     have B := True.intro
     refine start_ (n := 10) (S := fun w' => True) (ds := []) #[false, false, false, false, false, false, false, false, false, false] (by kernel_rfl) rfl rfl trivial (fun hHeld => ?_)
     refine with_tabW schtab6 schbits6 (fun HT_ HW_ => ?_)
     refine pure_ (i := 0) (N := some 17) (v := ?_) (a' := ?_) #[true, false, false, false, false, false, false, false, false, false] rfl rfl (any_of HT_.out (by kernel_rfl)) (fun _ _ _ h => h) (Or.inl ⟨by rfl, ?_⟩) ?_ ?_
     rotate_left
     ·intro w'
      go_simp
      with_reducible rfl
     rotate_left
     ·simp only [Act.put, List.setIfInBounds_toArray, List.set_cons_zero, List.set_cons_succ, i64_w, i32_w]
      rfl
     refine pure_ (i := 1) (N := some 18) (v := ?_) (a' := ?_) #[true, true, false, false, false, false, false, false, false, false] rfl rfl (any_of HT_.out (by kernel_rfl)) (fun _ _ _ h => h) (Or.inl ⟨by rfl, ?_⟩) ?_ ?_
     rotate_left
     ·intro w'
      go_simp
      with_reducible rfl
     rotate_left
     ·simp only [Act.put, List.setIfInBounds_toArray, List.set_cons_zero, List.set_cons_succ, i64_w, i32_w]
      rfl
     refine pure_ (i := 4) (N := some 21) (v := ?_) (a' := ?_) #[true, true, false, false, true, false, false, false, false, false] rfl rfl (any_of HT_.out (by kernel_rfl)) (fun _ _ _ h => h) (Or.inl ⟨by rfl, ?_⟩) ?_ ?_
     rotate_left
     ·intro w'
      go_simp
      with_reducible rfl
     rotate_left
     ·simp only [Act.put, List.setIfInBounds_toArray, List.set_cons_zero, List.set_cons_succ, i64_w, i32_w]
      rfl
     refine pure_ (i := 5) (N := some 22) (v := ?_) (a' := ?_) #[true, true, false, false, true, true, false, false, false, false] rfl rfl (any_of HT_.out (by kernel_rfl)) (fun _ _ _ h => h) (Or.inl ⟨by rfl, ?_⟩) ?_ ?_
     rotate_left
     ·intro w'
      go_simp
      with_reducible rfl
     rotate_left
     ·simp only [Act.put, List.setIfInBounds_toArray, List.set_cons_zero, List.set_cons_succ, i64_w, i32_w]
      rfl
     refine inv_at [2, 3, 6, 7, 8, 9] (fun a0_ b a w' => a = putSel a0_ b [(2, 19, .pointer (some (ax.add (i * 15)))), (3, 20, .agg CX), (6, 23, .pointer (some (ay.add (i * 15)))), (7, 24, .agg CY), (8, 25, .bool q), (9, 26, .bool (!q))] ∧ (Below W.heap.size W w')) HT_.out HW_.out (by kernel_rfl) (by kernel_rfl) ?_ ?_ ?_
     ·exact ⟨by simp only [putSel, Bool.false_eq_true, if_false], below_drew (Below.refl _ _)⟩
     ·skip
      clear B
      refine steps_cons ?_ ?_
      ·rintro b a w' ⟨ha, Q_B⟩ hb_ hon hoff
       refine ⟨_, rfl, fun K hK => ?_⟩
       have e17 : a.tmps[17]? = some (.slice (some ax) xs.length c) := by rw [ha]; exact (putSel_off rfl).trans rfl
       have e18 : a.tmps[18]? = some (.int .i64 (i : Int)) := by rw [ha]; exact (putSel_off rfl).trans rfl
       replace ha := Aside0.mk ha
       refine value_ (w1 := w') (v := .pointer (some (ax.add (i * 15)))) (by rfl) rfl ?_ ?_
       ·go_simp
        (try simp only [i64_w])
        try rfl
       refine hK.out _ _ ⟨(puk ha 0 hb_ rfl rfl rfl), Q_B⟩
      refine steps_cons ?_ ?_
      ·rintro b a w' ⟨ha, Q_B⟩ hb_ hon hoff
       refine ⟨_, rfl, fun K hK => ?_⟩
       have e19 := psn ha 0 rfl rfl (hon 2 (by kernel_rfl)) rfl
       replace ha := Aside0.mk ha
       have B := Aside0.mk Q_B
       refine value_ (w1 := w') (v := .agg CX) (by rfl) rfl (exec_load_cells 41 (.tmp 19) rfl (eval_of e19) CX _ (fun j v hv => pw_cell_below B.out (HLX.out j v hv)) Tryd.underlying41 rfl HXS.out) ?_
       refine hK.out _ _ ⟨(puk ha 1 hb_ rfl rfl rfl), B.out⟩
      refine steps_cons ?_ ?_
      ·rintro b a w' ⟨ha, Q_B⟩ hb_ hon hoff
       refine ⟨_, rfl, fun K hK => ?_⟩
       have e21 : a.tmps[21]? = some (.slice (some ay) ys.length d) := by rw [ha]; exact (putSel_off rfl).trans rfl
       have e22 : a.tmps[22]? = some (.int .i64 (i : Int)) := by rw [ha]; exact (putSel_off rfl).trans rfl
       replace ha := Aside0.mk ha
       refine value_ (w1 := w') (v := .pointer (some (ay.add (i * 15)))) (by rfl) rfl ?_ ?_
       ·go_simp
        (try simp only [i64_w])
        try rfl
       refine hK.out _ _ ⟨(puk ha 2 hb_ rfl rfl rfl), Q_B⟩
      refine steps_cons ?_ ?_
      ·rintro b a w' ⟨ha, Q_B⟩ hb_ hon hoff
       refine ⟨_, rfl, fun K hK => ?_⟩
       have e23 := psn ha 2 rfl rfl (hon 6 (by kernel_rfl)) rfl
       replace ha := Aside0.mk ha
       have B := Aside0.mk Q_B
       refine value_ (w1 := w') (v := .agg CY) (by rfl) rfl (exec_load_cells 41 (.tmp 23) rfl (eval_of e23) CY _ (fun j v hv => pw_cell_below B.out (HLY.out j v hv)) Tryd.underlying41 rfl HYS.out) ?_
       refine hK.out _ _ ⟨(puk ha 3 hb_ rfl rfl rfl), B.out⟩
      refine steps_cons ?_ ?_
      ·rintro b a w' ⟨ha, Q_B⟩ hb_ hon hoff
       refine ⟨_, rfl, fun K hK => ?_⟩
       have e20 := psn ha 1 rfl rfl (hon 3 (by kernel_rfl)) rfl
       have e24 := psn ha 3 rfl rfl (hon 7 (by kernel_rfl)) rfl
       replace ha := Aside0.mk ha
       have B := Aside0.mk Q_B
       refine goes_ Tryd.func32 (by kernel_rfl) rfl #[.agg CX, .agg CY] (by rfl) rfl rfl (by first | (simp only [List.map_toArray, List.map_cons, List.map_nil, Act.eval, Array.getD_eq_getD_getElem?, Option.getD_some, e20, e24]; done) | (simp only [List.map_toArray, List.map_cons, List.map_nil, Act.eval, Array.getD_eq_getD_getElem?, Option.getD_some, e20, e24]; rfl)) ?_
       refine (HSM.out w' B.out).mono ?_
       rintro e w1 ⟨rfl, hB1⟩
       refine ⟨_, rfl, ?_⟩
       refine hK.out _ _ ⟨(puk ha 4 hb_ rfl rfl rfl), below_then B.out B.out.size hB1⟩
      refine steps_cons ?_ ?_
      ·rintro b a w' ⟨ha, Q_B⟩ hb_ hon hoff
       refine ⟨_, rfl, fun K hK => ?_⟩
       have e25 := psn ha 4 rfl rfl (hon 8 (by kernel_rfl)) rfl
       replace ha := Aside0.mk ha
       refine value_ (w1 := w') (v := .bool (!q)) (by rfl) rfl ?_ ?_
       ·go_simp
        (try simp only [i64_w])
        try rfl
       refine hK.out _ _ ⟨(puk ha 5 hb_ rfl rfl rfl), Q_B⟩
      exact steps_nil
     rintro b a w' hall ⟨ha, Q_B⟩
     clear B
     have hb2_ := hall 2 (by kernel_rfl)
     have hb3_ := hall 3 (by kernel_rfl)
     have hb6_ := hall 6 (by kernel_rfl)
     have hb7_ := hall 7 (by kernel_rfl)
     have hb8_ := hall 8 (by kernel_rfl)
     have hb9_ := hall 9 (by kernel_rfl)
     subst ha
     simp only [putSel, hb2_, hb3_, hb6_, hb7_, hb8_, hb9_, if_true, Act.put, List.setIfInBounds_toArray, List.set_cons_zero, List.set_cons_succ]
     have B := Aside0.mk Q_B
     clear Q_B
     clear hall hb2_ hb3_ hb6_ hb7_ hb8_ hb9_
     have HB2 := Lib.hid (below_then HB.out HB.out.size B.out)
     rw [HQ.out]
     clear B HSM HLX HLY HQ HN2
     go_wp2
     go_roundw
     case rel => exact ⟨i + 1, by omega, by go_num, HDD, HB2⟩
     case measure => simp [intOf]; omega
    ·have HDD := Lib.hid (show decide (xs = ys) = false by rw [HD.out]; exact decide_eq_false (fun e => hxy (HS2.out.mp e).1))
     rw [decide_eq_false hxy] at HSM
     clear HD HS2 hxy HS
     generalize CV x L = CX at *
     generalize CV y M = CY at *
     obtain ⟨q, hq⟩ : ∃ q, q = false := ⟨_, rfl⟩
     rw [← hq] at HSM
     have HQ := Lib.hid hq
     clear hq
     go_upto_region 6 with (fail)
     generalize wr = W at *
     have B := True.intro
     refine start_ (n := 10) (S := fun w' => True) (ds := []) #[false, false, false, false, false, false, false, false, false, false] (by kernel_rfl) rfl rfl trivial (fun hHeld => ?_)
     refine with_tabW schtab6 schbits6 (fun HT_ HW_ => ?_)
     refine pure_ (i := 0) (N := some 17) (v := ?_) (a' := ?_) #[true, false, false, false, false, false, false, false, false, false] rfl rfl (any_of HT_.out (by kernel_rfl)) (fun _ _ _ h => h) (Or.inl ⟨by rfl, ?_⟩) ?_ ?_
     rotate_left
     ·intro w'
      go_simp
      with_reducible rfl
     rotate_left
     ·simp only [Act.put, List.setIfInBounds_toArray, List.set_cons_zero, List.set_cons_succ, i64_w, i32_w]
      rfl
     refine pure_ (i := 1) (N := some 18) (v := ?_) (a' := ?_) #[true, true, false, false, false, false, false, false, false, false] rfl rfl (any_of HT_.out (by kernel_rfl)) (fun _ _ _ h => h) (Or.inl ⟨by rfl, ?_⟩) ?_ ?_
     rotate_left
     ·intro w'
      go_simp
      with_reducible rfl
     rotate_left
     ·simp only [Act.put, List.setIfInBounds_toArray, List.set_cons_zero, List.set_cons_succ, i64_w, i32_w]
      rfl
     refine pure_ (i := 4) (N := some 21) (v := ?_) (a' := ?_) #[true, true, false, false, true, false, false, false, false, false] rfl rfl (any_of HT_.out (by kernel_rfl)) (fun _ _ _ h => h) (Or.inl ⟨by rfl, ?_⟩) ?_ ?_
     rotate_left
     ·intro w'
      go_simp
      with_reducible rfl
     rotate_left
     ·simp only [Act.put, List.setIfInBounds_toArray, List.set_cons_zero, List.set_cons_succ, i64_w, i32_w]
      rfl
     refine pure_ (i := 5) (N := some 22) (v := ?_) (a' := ?_) #[true, true, false, false, true, true, false, false, false, false] rfl rfl (any_of HT_.out (by kernel_rfl)) (fun _ _ _ h => h) (Or.inl ⟨by rfl, ?_⟩) ?_ ?_
     rotate_left
     ·intro w'
      go_simp
      with_reducible rfl
     rotate_left
     ·simp only [Act.put, List.setIfInBounds_toArray, List.set_cons_zero, List.set_cons_succ, i64_w, i32_w]
      rfl
     refine inv_at [2, 3, 6, 7, 8, 9] (fun a0_ b a w' => a = putSel a0_ b [(2, 19, .pointer (some (ax.add (i * 15)))), (3, 20, .agg CX), (6, 23, .pointer (some (ay.add (i * 15)))), (7, 24, .agg CY), (8, 25, .bool q), (9, 26, .bool (!q))] ∧ (Below W.heap.size W w')) HT_.out HW_.out (by kernel_rfl) (by kernel_rfl) ?_ ?_ ?_
     ·exact ⟨by simp only [putSel, Bool.false_eq_true, if_false], below_drew (Below.refl _ _)⟩
     ·skip
      clear B
      refine steps_cons ?_ ?_
      ·rintro b a w' ⟨ha, Q_B⟩ hb_ hon hoff
       refine ⟨_, rfl, fun K hK => ?_⟩
       have e17 : a.tmps[17]? = some (.slice (some ax) xs.length c) := by rw [ha]; exact (putSel_off rfl).trans rfl
       have e18 : a.tmps[18]? = some (.int .i64 (i : Int)) := by rw [ha]; exact (putSel_off rfl).trans rfl
       replace ha := Aside0.mk ha
       refine value_ (w1 := w') (v := .pointer (some (ax.add (i * 15)))) (by rfl) rfl ?_ ?_
       ·go_simp
        (try simp only [i64_w])
        try rfl
       refine hK.out _ _ ⟨(puk ha 0 hb_ rfl rfl rfl), Q_B⟩
      refine steps_cons ?_ ?_
      ·rintro b a w' ⟨ha, Q_B⟩ hb_ hon hoff
       refine ⟨_, rfl, fun K hK => ?_⟩
       have e19 := psn ha 0 rfl rfl (hon 2 (by kernel_rfl)) rfl
       replace ha := Aside0.mk ha
       have B := Aside0.mk Q_B
       refine value_ (w1 := w') (v := .agg CX) (by rfl) rfl (exec_load_cells 41 (.tmp 19) rfl (eval_of e19) CX _ (fun j v hv => pw_cell_below B.out (HLX.out j v hv)) Tryd.underlying41 rfl HXS.out) ?_
       refine hK.out _ _ ⟨(puk ha 1 hb_ rfl rfl rfl), B.out⟩
      refine steps_cons ?_ ?_
      ·rintro b a w' ⟨ha, Q_B⟩ hb_ hon hoff
       refine ⟨_, rfl, fun K hK => ?_⟩
       have e21 : a.tmps[21]? = some (.slice (some ay) ys.length d) := by rw [ha]; exact (putSel_off rfl).trans rfl
       have e22 : a.tmps[22]? = some (.int .i64 (i : Int)) := by rw [ha]; exact (putSel_off rfl).trans rfl
       replace ha := Aside0.mk ha
       refine value_ (w1 := w') (v := .pointer (some (ay.add (i * 15)))) (by rfl) rfl ?_ ?_
       ·go_simp
        (try simp only [i64_w])
        try rfl
       refine hK.out _ _ ⟨(puk ha 2 hb_ rfl rfl rfl), Q_B⟩
      refine steps_cons ?_ ?_
      ·rintro b a w' ⟨ha, Q_B⟩ hb_ hon hoff
       refine ⟨_, rfl, fun K hK => ?_⟩
       have e23 := psn ha 2 rfl rfl (hon 6 (by kernel_rfl)) rfl
       replace ha := Aside0.mk ha
       have B := Aside0.mk Q_B
       refine value_ (w1 := w') (v := .agg CY) (by rfl) rfl (exec_load_cells 41 (.tmp 23) rfl (eval_of e23) CY _ (fun j v hv => pw_cell_below B.out (HLY.out j v hv)) Tryd.underlying41 rfl HYS.out) ?_
       refine hK.out _ _ ⟨(puk ha 3 hb_ rfl rfl rfl), B.out⟩
      refine steps_cons ?_ ?_
      ·rintro b a w' ⟨ha, Q_B⟩ hb_ hon hoff
       refine ⟨_, rfl, fun K hK => ?_⟩
       have e20 := psn ha 1 rfl rfl (hon 3 (by kernel_rfl)) rfl
       have e24 := psn ha 3 rfl rfl (hon 7 (by kernel_rfl)) rfl
       replace ha := Aside0.mk ha
       have B := Aside0.mk Q_B
       refine goes_ Tryd.func32 (by kernel_rfl) rfl #[.agg CX, .agg CY] (by rfl) rfl rfl (by first | (simp only [List.map_toArray, List.map_cons, List.map_nil, Act.eval, Array.getD_eq_getD_getElem?, Option.getD_some, e20, e24]; done) | (simp only [List.map_toArray, List.map_cons, List.map_nil, Act.eval, Array.getD_eq_getD_getElem?, Option.getD_some, e20, e24]; rfl)) ?_
       refine (HSM.out w' B.out).mono ?_
       rintro e w1 ⟨rfl, hB1⟩
       refine ⟨_, rfl, ?_⟩
       refine hK.out _ _ ⟨(puk ha 4 hb_ rfl rfl rfl), below_then B.out B.out.size hB1⟩
      refine steps_cons ?_ ?_
      ·rintro b a w' ⟨ha, Q_B⟩ hb_ hon hoff
       refine ⟨_, rfl, fun K hK => ?_⟩
       have e25 := psn ha 4 rfl rfl (hon 8 (by kernel_rfl)) rfl
       replace ha := Aside0.mk ha
       refine value_ (w1 := w') (v := .bool (!q)) (by rfl) rfl ?_ ?_
       ·go_simp
        (try simp only [i64_w])
        try rfl
       refine hK.out _ _ ⟨(puk ha 5 hb_ rfl rfl rfl), Q_B⟩
      exact steps_nil
     rintro b a w' hall ⟨ha, Q_B⟩
     clear B
     have hb2_ := hall 2 (by kernel_rfl)
     have hb3_ := hall 3 (by kernel_rfl)
     have hb6_ := hall 6 (by kernel_rfl)
     have hb7_ := hall 7 (by kernel_rfl)
     have hb8_ := hall 8 (by kernel_rfl)
     have hb9_ := hall 9 (by kernel_rfl)
     subst ha
     simp only [putSel, hb2_, hb3_, hb6_, hb7_, hb8_, hb9_, if_true, Act.put, List.setIfInBounds_toArray, List.set_cons_zero, List.set_cons_succ]
     have B := Aside0.mk Q_B
     clear Q_B
     clear hall hb2_ hb3_ hb6_ hb7_ hb8_ hb9_
     have HB2 := Lib.hid (below_then HB.out HB.out.size B.out)
     rw [HQ.out]
     clear B HSM HLX HLY HQ
     go_wp2
     go_ret
     exact ⟨by rw [HDD.out]; try rfl, HB2.out⟩
   ·obtain rfl : i = xs.length := by omega
    have HD := Lib.hid (show decide (xs = ys) = true by rw [HS.out, List.drop_length, HL.out, List.drop_length]; rfl)
    go_wp2
    go_ret
    exact ⟨by rw [HD.out]; try rfl, HB.out⟩
 ·have HD := Lib.hid (show decide (xs = ys) = false from decide_eq_false (fun e => hl (congrArg List.length e)))
  have hl2 : ¬ (xs.length : Int) = (ys.length : Int) := by omega
  go_enter Tryd.func25, Tryd.ntmps25
  go_wp2
  go_ret
  exact ⟨by rw [HD.out]; try rfl, Below.refl _ _⟩
end Go.Proofs.YtdlamomabonkjaaDoor.Ch
end
section
namespace Go.Proofs.YtdlamomabonkjaaDoor.Pk
open Go.RowKit Go.Proofs.YtdlamomabonkjaaDoorW.PrintWords Go.Proofs.YtdlamomabonkjaaDoorW.PrintLast Go.Proofs.YtdlamomabonkjaaDoor.Base Go.Proofs.YtdlamomabonkjaaDoor.PCh Go.Proofs.YtdlamomabonkjaaDoor.ParDec Go.Proofs.YtdlamomabonkjaaDoor.ParEnc Go.Proofs.YtdlamomabonkjaaDoor.Ch Go.Proofs.YtdlamomabonkjaaDoor.Crc CrcMath
set_option maxRecDepth 100000
set_option linter.unusedVariables false
set_option linter.unusedSimpArgs false
set_option maxHeartbeats 2000000 in
theorem psame_calls (w : World) (f t q f2 t2 q2 : Int) (A B : Option Addr) (c d : Nat) (l l2 : List Chk) (hl : Kd.C k41 w A l.length l) (hl2 : Kd.C k41 w B l2.length l2) :
  Calls Tryd.prog 15 #[.agg #[.int .u16 f, .int .u16 t, .int .u32 q, .slice A l.length c], .agg #[.int .u16 f2, .int .u16 t2, .int .u32 q2, .slice B l2.length d]] w fun e w' => e = .returned (.bool ((f == f2 && t == t2 && q == q2) && decide (l = l2))) ∧ Below w.heap.size w w' := by
 have HE := Lib.hid (fun (W : World) (hW : Below w.heap.size w W) => eqf_calls W A B c d l l2 (Kd.C_below hl hW) (Kd.C_below hl2 hW))
 clear hl hl2
 generalize decide (l = l2) = dl at *
 obtain ⟨R, hR⟩ : ∃ R, (f == f2 && t == t2 && q == q2 && dl) = R := ⟨_, rfl⟩
 rw [hR]
 have HR := Lib.hid hR
 clear hR
 generalize l.length = n at *
 generalize l2.length = n2 at *
 obtain ⟨g, hg⟩ : ∃ g, w.heap.size = g := ⟨_, rfl⟩
 have HG := Lib.hid hg
 clear hg
 go_enter Tryd.func15, Tryd.ntmps15
 go_upto_region 1 with (fail)
 refine wp_gen (fun W => W.heap[w.heap.size]? = some (.cells #[.int .u16 f, .int .u16 t, .int .u32 q, .slice A n c] 26 (0, 0)) ∧ W.heap[w.heap.size + 1]? = some (.cells #[.int .u16 f2, .int .u16 t2, .int .u32 q2, .slice B n2 d] 26 (0, 0)) ∧ Below w.heap.size w W) ⟨blk_alloc (blk_new _ _) _, by have h := blk_new (w.alloc (.cells #[.int .u16 f, .int .u16 t, .int .u32 q, .slice A n c] 26)) (.cells #[.int .u16 f2, .int .u16 t2, .int .u32 q2, .slice B n2 d] 26); rw [show (w.alloc (.cells #[.int .u16 f, .int .u16 t, .int .u32 q, .slice A n c] 26)).heap.size = w.heap.size + 1 by simp] at h; exact h, below_alloc (below_alloc (Below.refl _ _) _) _⟩ ?_
 rintro W1 ⟨hk1, hk2, hb1⟩
 rw [HG.out] at hk1 hk2 ⊢
 have x0 : W1.cell? ⟨g, 0, none⟩ = some (.int .u16 f) := blk_cell hk1 0
 have x1 : W1.cell? ⟨g, 1, none⟩ = some (.int .u16 t) := blk_cell hk1 1
 have x2 : W1.cell? ⟨g, 2, none⟩ = some (.int .u32 q) := blk_cell hk1 2
 have x3 : W1.cell? ⟨g, 3, none⟩ = some (.slice A n c) := blk_cell hk1 3
 have y0 : W1.cell? ⟨g + 1, 0, none⟩ = some (.int .u16 f2) := blk_cell hk2 0
 have y1 : W1.cell? ⟨g + 1, 1, none⟩ = some (.int .u16 t2) := blk_cell hk2 1
 have y2 : W1.cell? ⟨g + 1, 2, none⟩ = some (.int .u32 q2) := blk_cell hk2 2
 have y3 : W1.cell? ⟨g + 1, 3, none⟩ = some (.slice B n2 d) := blk_cell hk2 3
 have HB1 := Lib.hid hb1
 clear hk1 hk2 hb1
 by_cases h1 : f = f2
 ·have e1 : (f == f2) = true := by simp [h1]
  clear h1
  by_cases h2 : t = t2
  ·have e2 : (t == t2) = true := by simp [h2]
   clear h2
   by_cases h3 : q = q2
   ·have e3 : (q == q2) = true := by simp [h3]
    clear h3
    have HZ := Lib.hid (show dl = R by rw [← HR.out, e1, e2, e3]; simp)
    go_wp2_with fail
    refine (HE.out W1 HB1.out).mono ?_
    rintro e W2 ⟨rfl, hB2⟩
    have HB2 := Lib.hid (below_then HB1.out HB1.out.size hB2)
    clear hB2 HE
    go_wp2
    go_ret
    exact ⟨by rw [← HZ.out]; rfl, HB2.out⟩
   ·have e3 : (q == q2) = false := by simp [h3]
    clear h3
    have HZ := Lib.hid (show false = R by rw [← HR.out, e1, e2, e3]; simp)
    go_wp2
    go_ret
    exact ⟨by rw [← HZ.out]; rfl, HB1.out⟩
  ·have e2 : (t == t2) = false := by simp [h2]
   clear h2
   have HZ := Lib.hid (show false = R by rw [← HR.out, e1, e2]; simp)
   go_wp2
   go_ret
   exact ⟨by rw [← HZ.out]; rfl, HB1.out⟩
 ·have e1 : (f == f2) = false := by simp [h1]
  clear h1
  have HZ := Lib.hid (show false = R by rw [← HR.out, e1]; simp)
  go_wp2
  go_ret
  exact ⟨by rw [← HZ.out]; rfl, HB1.out⟩
set_option maxHeartbeats 2000000 in
theorem rpsame_calls (w : World) (f t q f2 t2 q2 : Int) (A B : Option Addr) (c d : Nat) (l l2 : List Chk) (hl : Kd.C k41 w A l.length l) (hl2 : Kd.C k41 w B l2.length l2) (ho : ∀ x ∈ l, OkB x) (ho2 : ∀ x ∈ l2, OkB x) :
  Calls Tryd.prog 14 #[.agg #[.int .u16 f, .int .u16 t, .int .u32 q, .slice A l.length c], .agg #[.int .u16 f2, .int .u16 t2, .int .u32 q2, .slice B l2.length d]] w fun e w' => e = .returned (.bool ((f == f2 && t == t2 && q == q2) && decide (l = l2))) ∧ Below w.heap.size w w' := by
 have HE := Lib.hid (fun (W : World) (hW : Below w.heap.size w W) => schunks_calls W A B c d l l2 (Kd.C_below hl hW) (Kd.C_below hl2 hW) ho ho2)
 clear hl hl2 ho ho2
 generalize decide (l = l2) = dl at *
 obtain ⟨R, hR⟩ : ∃ R, (f == f2 && t == t2 && q == q2 && dl) = R := ⟨_, rfl⟩
 rw [hR]
 have HR := Lib.hid hR
 clear hR
 generalize l.length = n at *
 generalize l2.length = n2 at *
 obtain ⟨g, hg⟩ : ∃ g, w.heap.size = g := ⟨_, rfl⟩
 have HG := Lib.hid hg
 clear hg
 go_enter Tryd.func14, Tryd.ntmps14
 go_upto_region 1 with (fail)
 refine wp_gen (fun W => W.heap[w.heap.size]? = some (.cells #[.int .u16 f, .int .u16 t, .int .u32 q, .slice A n c] 26 (0, 0)) ∧ W.heap[w.heap.size + 1]? = some (.cells #[.int .u16 f2, .int .u16 t2, .int .u32 q2, .slice B n2 d] 26 (0, 0)) ∧ Below w.heap.size w W) ⟨blk_alloc (blk_new _ _) _, by have h := blk_new (w.alloc (.cells #[.int .u16 f, .int .u16 t, .int .u32 q, .slice A n c] 26)) (.cells #[.int .u16 f2, .int .u16 t2, .int .u32 q2, .slice B n2 d] 26); rw [show (w.alloc (.cells #[.int .u16 f, .int .u16 t, .int .u32 q, .slice A n c] 26)).heap.size = w.heap.size + 1 by simp] at h; exact h, below_alloc (below_alloc (Below.refl _ _) _) _⟩ ?_
 rintro W1 ⟨hk1, hk2, hb1⟩
 rw [HG.out] at hk1 hk2 ⊢
 have x0 : W1.cell? ⟨g, 0, none⟩ = some (.int .u16 f) := blk_cell hk1 0
 have x1 : W1.cell? ⟨g, 1, none⟩ = some (.int .u16 t) := blk_cell hk1 1
 have x2 : W1.cell? ⟨g, 2, none⟩ = some (.int .u32 q) := blk_cell hk1 2
 have x3 : W1.cell? ⟨g, 3, none⟩ = some (.slice A n c) := blk_cell hk1 3
 have y0 : W1.cell? ⟨g + 1, 0, none⟩ = some (.int .u16 f2) := blk_cell hk2 0
 have y1 : W1.cell? ⟨g + 1, 1, none⟩ = some (.int .u16 t2) := blk_cell hk2 1
 have y2 : W1.cell? ⟨g + 1, 2, none⟩ = some (.int .u32 q2) := blk_cell hk2 2
 have y3 : W1.cell? ⟨g + 1, 3, none⟩ = some (.slice B n2 d) := blk_cell hk2 3
 have HB1 := Lib.hid hb1
 clear hk1 hk2 hb1
 by_cases h1 : f = f2
 ·have e1 : (f == f2) = true := by simp [h1]
  clear h1
  by_cases h2 : t = t2
  ·have e2 : (t == t2) = true := by simp [h2]
   clear h2
   by_cases h3 : q = q2
   ·have e3 : (q == q2) = true := by simp [h3]
    clear h3
    have HZ := Lib.hid (show dl = R by rw [← HR.out, e1, e2, e3]; simp)
    go_wp2_with fail
    refine (HE.out W1 HB1.out).mono ?_
    rintro e W2 ⟨rfl, hB2⟩
    have HB2 := Lib.hid (below_then HB1.out HB1.out.size hB2)
    clear hB2 HE
    go_wp2
    go_ret
    exact ⟨by rw [← HZ.out]; rfl, HB2.out⟩
   ·have e3 : (q == q2) = false := by simp [h3]
    clear h3
    have HZ := Lib.hid (show false = R by rw [← HR.out, e1, e2, e3]; simp)
    go_wp2
    go_ret
    exact ⟨by rw [← HZ.out]; rfl, HB1.out⟩
  ·have e2 : (t == t2) = false := by simp [h2]
   clear h2
   have HZ := Lib.hid (show false = R by rw [← HR.out, e1, e2]; simp)
   go_wp2
   go_ret
   exact ⟨by rw [← HZ.out]; rfl, HB1.out⟩
 ·have e1 : (f == f2) = false := by simp [h1]
  clear h1
  have HZ := Lib.hid (show false = R by rw [← HR.out, e1]; simp)
  go_wp2
  go_ret
  exact ⟨by rw [← HZ.out]; rfl, HB1.out⟩
end Go.Proofs.YtdlamomabonkjaaDoor.Pk
end
section
namespace Go.Proofs.YtdlamomabonkjaaDoor.Pk
open Go.RowKit Go.Proofs.YtdlamomabonkjaaDoorW.PrintWords Go.Proofs.YtdlamomabonkjaaDoorW.PrintLast Go.Proofs.YtdlamomabonkjaaDoor.Base Go.Proofs.YtdlamomabonkjaaDoor.PCh Go.Proofs.YtdlamomabonkjaaDoor.ParDec Go.Proofs.YtdlamomabonkjaaDoor.ParEnc Go.Proofs.YtdlamomabonkjaaDoor.Ch Go.Proofs.YtdlamomabonkjaaDoor.Crc CrcMath
set_option maxRecDepth 100000
set_option linter.unusedVariables false
set_option linter.unusedSimpArgs false
def avX : Chk := ⟨11, 0, 0, 0, 0, 0, 0, 0, 0, 0, [], [], [], [], []⟩
def avL : Lay := ⟨none, 0, none, 0, none, 0, none, 0, none, 0⟩
theorem av_bare : bareD avX = avX := by
 unfold bareD
 rw [show flD avX.f0 avX.f1 = 0 from by rfl]
 rfl
theorem av_value : valueD avX = [] := by rfl
theorem av_check : checkD avX = 0 := by
 unfold checkD
 rw [av_bare, if_neg (by simp), if_neg (by simp [avX]), if_neg (by simp [avX]), if_neg (by simp [avX]), if_neg (by simp [avX, encP, runB]), av_value, if_neg (by simp)]
theorem av_enc : encD [avX] = ([11, 0, 0, 4], 0) := by
 unfold encD chkAll
 rw [if_pos av_check, chkAll, if_pos rfl, runE]
 have h : [] ++ chunkL avX = [11, 0, 0, 4] := by
  unfold chunkL
  rw [av_value]
  rfl
 rw [h, if_neg (by decide), runE]
theorem av_ok : OkC avX := ⟨(show 0 ≤ (11 : Int) ∧ (11 : Int) < 256 by omega), (show 0 ≤ (0 : Int) ∧ (0 : Int) < 256 by omega), z32, z16, z16, z32, z32, z32, z16, z16, nog, nog, noi, noi, nop, by decide⟩
theorem av_pk : PkOk 1 2 3 [avX] := ⟨by decide, by decide, by decide, by decide, by unfold in32; omega, fun x hx => by rw [List.mem_singleton.1 hx]; exact av_ok⟩
theorem av_penc : pencD 1 2 3 [avX] = (putL (bytesOf (headL 1 2 3 ++ [11, 0, 0, 4])), 0) := by
 have h := penc_ok (f := 1) (t := 2) (q := 3) (l := [avX]) (by decide) (by decide) (by decide) rfl (by rw [av_enc]) (by rw [av_enc]; decide)
 rw [av_enc] at h
 exact h
theorem av_len : (pencD 1 2 3 [avX]).1.length = 16 := by
 rw [av_penc]
 show (putL _).length = 16
 rw [putL_length]
 rfl
theorem av_12 : (pencD 1 2 3 [avX]).1.getD 12 0 = 11 := by
 have h : ∀ l : List UInt8, l.getD 12 0 = (l.drop 12).getD 0 0 := fun l => by simp [List.getD_eq_getElem?_getD, List.getElem?_drop]
 rw [h, av_penc]
 show ((putL _).drop 12).getD 0 0 = 11
 rw [(put_take _ (by decide)).2]
 rfl
theorem av_back : preadD (pencD 1 2 3 [avX]).1 true = ⟨1, 2, 3, [avX], 0, 0⟩ := (pback av_pk (by rw [av_penc])).1
theorem CR_av (w : World) : CR w avX avL := ⟨Nat.le_refl _, Kd.C_nil _ _, Nat.le_refl _, Kd.C_nil _ _, Nat.le_refl _, Kd.C_nil _ _, Nat.le_refl _, Kd.C_nil _ _, Nat.le_refl _, Kd.C_nil _ _⟩
theorem av_drop : (pencD 1 2 3 [avX]).1.drop 12 = [11, 0, 0, 4] := by
 rw [av_penc]
 show (putL _).drop 12 = _
 rw [(put_take _ (by decide)).2]
 rfl
theorem av_all : AllOk ((pencD 1 2 3 [avX]).1.drop 12) := by
 rw [av_drop]
 intro W A c hb hc hv
 refine all_with W A [11, 0, 0, 4] c hb hc hv fun at_ W B d hlt hB hd => decC_with W B (([11, 0, 0, 4] : List UInt8).drop at_) d hB hd (by rw [List.length_drop]; simp; omega) ?_
 intro h4 kd fl v hk hv2 w0 w g gc j1 j2 j3 j4 j5 j6 j7
 have ha : at_ = 0 := by
  rw [List.length_drop] at h4
  simp at h4
  omega
 subst ha
 obtain rfl : kd = 11 := hk.symm
 exact read_none11 w0 w g gc v fl j1 j2 j3 j4 j5 j6 j7
set_option maxHeartbeats 4000000 in
theorem alive_calls (w : World) (hT : Table w) : Calls Tryd.prog 11 #[] w fun e w' => e = .returned (.bool true) ∧ Below w.heap.size w w' := by
 have HT := Lib.hid (fun (W : World) (h : Below w.heap.size w W) => hT.below h)
 have HE := Lib.hid (fun (W : World) (h : Below w.heap.size w W) (g : Nat) (hb : W.heap[g]? = some (.cells (CV avX avL) 41 (0, 0))) => pencode_calls W 1 2 3 (some ⟨g, 0, none⟩) 1 [avX] (hT.below h) (chk_row1 hb (CR_av W)) (by decide) (fun x hx => by rw [List.mem_singleton.1 hx]; decide) (enc_in av_pk.ok) (fun _ => by rw [av_enc]; decide))
 have HD := Lib.hid (fun (W : World) (h : Below w.heap.size w W) (A : Option Addr) (c : Nat) (hb : byte.C W A (pencD 1 2 3 [avX]).1.length (pencD 1 2 3 [avX]).1) (hc : (pencD 1 2 3 [avX]).1.length ≤ c) => pdecode_with W A (pencD 1 2 3 [avX]).1 c (hT.below h) hb hc (by rw [av_len]; decide) av_all)
 rw [av_back] at HD
 unfold ReadPP at HD
 have HP2 := Lib.hid (show (pencD 1 2 3 [avX]).2 = 0 by rw [av_penc])
 have HPL := Lib.hid av_len
 have HP12 := Lib.hid av_12
 rw [HP2.out] at HE
 generalize (pencD 1 2 3 [avX]).1 = V at *
 clear hT HP2
 obtain ⟨g, hg⟩ : ∃ g, w.heap.size = g := ⟨_, rfl⟩
 have HG := Lib.hid hg
 clear hg
 go_enter Tryd.func11, Tryd.ntmps11
 go_wp2_with fail
 refine (HE.out _ (below_alloc (Below.refl _ _) _) w.heap.size (by first | exact blk_new _ _ | (rw [HG.out]; exact blk_new _ _))).mono ?_
 rintro e W1 ⟨v, rfl, hR, hB1⟩
 obtain ⟨A1, c1, rfl, hle, hC⟩ := Kd.R_reads hR
 have HB1 := Lib.hid (below_then (below_alloc (Below.refl w.heap.size w) _) (by simp) hB1)
 have HDD := Lib.hid (HD.out W1 HB1.out A1 c1 hC hle)
 obtain ⟨ad, rfl, x12⟩ := byte_at hC 12 (by rw [HPL.out]; decide)
 have X12 := Lib.hid (fun (W : World) (h : Below W1.heap.size W1 W) => (show W.cell? ⟨ad.block, ad.off + 12, none⟩ = some (.int .u8 11) by
  have h1 := pw_cell_below h x12
  rw [HP12.out, show ad.add 12 = ad.add (0 + 12) from rfl, add_field _ _ 12 (by omega)] at h1
  exact h1))
 rw [HPL.out] at HDD ⊢
 clear hR hB1 hC hle x12 HE HD HPL HP12
 go_wp2_with fail
 refine HDD.out.mono ?_
 rintro e W2 ⟨v2, rfl, hR2, hB2⟩
 obtain ⟨A2, c2, rfl, hle2, hC2⟩ := Kd.R_reads hR2
 obtain ⟨ad2, x2, L2, rfl, hd2, _, hc2, hx2⟩ := chk_at hC2 0 (by decide)
 obtain rfl : x2 = avX := by
  have h : ([avX] : List Chk) = x2 :: [] := hd2
  exact (List.cons.inj h).1.symm
 have HB2 := Lib.hid (below_then HB1.out HB1.out.size hB2)
 have XC := Lib.hid (fun (W : World) (h : Below W2.heap.size W2 W) => (show W.cell? ad2 = some (.int .u8 11) from by
  have h1 := pw_cell_below h (hc2 0 _ rfl)
  rw [Nat.zero_mul] at h1
  have h0 : ∀ a : Addr, (a.add 0).add 0 = a := fun a => by
   rw [show a.add 0 = a from rfl]
   rfl
  rw [h0] at h1
  exact h1))
 have X13 := Lib.hid (fun (W : World) (h : Below W2.heap.size W2 W) => X12.out W (below_then hB2 hB2.size h))
 clear hR2 hB2 hC2 hle2 hd2 hc2 hx2 X12 HDD
 obtain ⟨g2, hg2⟩ : ∃ g, W2.heap.size = g := ⟨_, rfl⟩
 have HG2 := Lib.hid hg2
 clear hg2
 go_upto_region 5 with (fail)
 refine wp_gen (fun W => W.heap[W2.heap.size]? = some (.cells #[.int .u16 1, .int .u16 2, .int .u32 3, .slice (some ad2) 1 c2] 26 (0, 0)) ∧ Below W2.heap.size W2 W) ⟨by first | exact blk_new _ _ | exact blk_put (blk_new _ _) 0 _ rfl, below_alloc (Below.refl _ _) _⟩ ?_
 rintro W3 ⟨h3, hB3⟩
 rw [HG2.out] at h3 ⊢
 have k2 : W3.cell? ⟨g2, 2, none⟩ = some (.int .u32 3) := blk_cell h3 2
 have k3 : W3.cell? ⟨g2, 3, none⟩ = some (.slice (some ad2) 1 c2) := blk_cell h3 3
 have kc := XC.out W3 hB3
 have kb := X13.out W3 hB3
 have HB3 := Lib.hid (below_then HB2.out HB2.out.size hB3)
 clear h3 hB3 XC X13
 go_wp2
 go_ret
 exact ⟨rfl, HB3.out⟩
end Go.Proofs.YtdlamomabonkjaaDoor.Pk
end
section
namespace Go.Proofs.YtdlamomabonkjaaDoor.Base
open Go.RowKit Go.Proofs.YtdlamomabonkjaaDoorW.PrintWords Go.Proofs.YtdlamomabonkjaaDoorW.PrintLast
set_option linter.unusedVariables false
set_option linter.unusedSimpArgs false
def updV (vs : Nat → Value) (m : Nat) (v : Value) : Nat → Value := fun j => if j = m then v else vs j
def GvI (C : List Nat) (I : Nat → (Nat → Value) → World → Prop) (L : (Nat → Value) → Sel) (a0 : Act) (b : Nat → Bool) (a : Act) (w : World) : Prop :=
 ∃ (s : Nat) (vs : Nat → Value), s ≤ C.length ∧ (∀ j c, C[j]? = some c → (j < s → b c = true) ∧ (s ≤ j → b c = false)) ∧ a = putSel a0 b (L vs) ∧ I s vs w
def RdL (O B : List Nat) (i : Nat) (L : (Nat → Value) → Sel) (a0 : Act) : List (Tmp × ((Nat → Value) → Value)) → Prop
 | [] => True
 | x :: r => Rd O B i L a0 x.1 x.2 ∧ RdL O B i L a0 r
def Has (a : Act) (vs : Nat → Value) : List (Tmp × ((Nat → Value) → Value)) → Prop
 | [] => True
 | x :: r => a.tmps[x.1]? = some (x.2 vs) ∧ Has a vs r
def ArV (O B : List Nat) (i : Nat) (L : (Nat → Value) → Sel) (a0 : Act) (os : List Operand) (vals : (Nat → Value) → List Value) : Prop :=
 ∀ (b : Nat → Bool) (vs : Nat → Value), (∀ j, (O.contains j && (B.getD i 0).testBit j) = true → b j = true) → (∀ d, (O.contains d && (B.getD d 0).testBit i) = true → b d = false) → os.map (putSel a0 b (L vs)).eval = vals vs
def Wt (ops : Array Oper) (O B : List Nat) (i : Nat) (L : (Nat → Value) → Sel) (a0 : Act) (oi : Oper) (r : Bool) : Prop :=
 ∀ (b : Nat → Bool) (vs : Nat → Value), (∀ j, (O.contains j && (B.getD i 0).testBit j) = true → b j = true) → (∀ d, (O.contains d && (B.getD d 0).testBit i) = true → b d = false) → Region.wanted oi (yielded ops (putSel a0 b (L vs)).tmps) = r
section
variable {P : Program} {ops : Array Oper} {Q : Exit → Act → World → Prop} {B O C : List Nat} {W : World} {I : Nat → (Nat → Value) → World → Prop} {L : (Nat → Value) → Sel} {a0 : Act} {i : Nat} {p : Tmp} {oi : Oper}
theorem has_of : ∀ {ps : List (Tmp × ((Nat → Value) → Value))}, RdL O B i L a0 ps → ∀ (b : Nat → Bool) (vs : Nat → Value), (∀ j, (O.contains j && (B.getD i 0).testBit j) = true → b j = true) → (∀ d, (O.contains d && (B.getD d 0).testBit i) = true → b d = false) → Has (putSel a0 b (L vs)) vs ps
 | [], _, _, _, _, _ => trivial
 | _ :: _, h, b, vs, h1, h2 => ⟨h.1 b vs h1 h2, has_of h.2 b vs h1 h2⟩
theorem arv_n : ArV O B i L a0 [] (fun _ => []) := fun _ _ _ _ => rfl
theorem arv_t {v : (Nat → Value) → Value} {os : List Operand} {vals : (Nat → Value) → List Value} (h0 : Rd O B i L a0 p v) (h : ArV O B i L a0 os vals) : ArV O B i L a0 (.tmp p :: os) (fun vs => v vs :: vals vs) := fun b vs h1 h2 => by rw [List.map_cons, h b vs h1 h2, eval_of (h0 b vs h1 h2)]
theorem wt_none (hg : oi.guard = none) : Wt ops O B i L a0 oi true := fun _ _ _ _ => wanted_none0 hg
theorem wt_on {g : Nat} {u : Bool} {og : Oper} {t : Tmp} (hg : oi.guard = some (g, u)) (ho : ops[g]? = some og) (hd : og.dst = some t) (hr : Rd O B i L a0 t (fun _ => .bool u)) : Wt ops O B i L a0 oi true := fun b vs h1 h2 => wanted_on hg ho hd (hr b vs h1 h2)
theorem chain_skip {b : Nat → Bool} {s : Nat} (hC : C.contains i = false) (h1 : ∀ j c, C[j]? = some c → (j < s → b c = true) ∧ (s ≤ j → b c = false)) : ∀ j c, C[j]? = some c → (j < s → up b i c = true) ∧ (s ≤ j → up b i c = false) := by
 intro j c hc
 have hne : c ≠ i := fun e => by
  rw [e] at hc
  have := List.mem_of_getElem? hc
  rw [List.contains_iff_mem.2 this] at hC
  cases hC
 rw [up_ne hne]
 exact h1 j c hc
theorem gv_op (m M : Nat) (ps : List (Tmp × ((Nat → Value) → Value))) (i k : Nat) {t : Tmp} {fv : (Nat → Value) → Value} {oi : Oper} (ho : ops[i]? = some oi) (hd : oi.dst = some t) (hw : Wt ops O B i L a0 oi true) (hL : ∀ vs, (L vs)[k]? = some (i, t, fv vs))
  (hdist : ∀ vs, ((L vs).take k ++ (L vs).drop (k + 1)).all (fun e => !(e.1 == i) && !(e.2.1 == t)) = true) (hC : C.contains i = false) (hmC : Nat.ble m C.length = true) (hmm : (C.take m).all (fun q => O.contains q && (B.getD i 0).testBit q) = true) (hMM : (match C[M]? with | some c => O.contains c && (B.getD c 0).testBit i | none => true) = true) (hr : RdL O B i L a0 ps)
  (hrun : ∀ (a : Act) (w : World) (s : Nat) (vs : Nat → Value), m ≤ s → s ≤ M → I s vs w → Has a vs ps → (execOp a.eval oi).run P w = .ok (.value (fv vs)) w) : StepAt P ops Q B O (GvI C I L a0) i := by
 rintro b a w ⟨s, vs, h0, h1, ha, hI⟩ hb hon hoff
 have hms : m ≤ s := by
  rcases Nat.lt_or_ge s m with h | h
  ·rcases Nat.lt_or_ge s C.length with h2 | h2
   ·have hc := List.getElem?_eq_getElem h2
    have e2 := (h1 s _ hc).2 (Nat.le_refl _)
    have e3 := List.all_eq_true.1 hmm C[s] (List.mem_take_iff_getElem.2 ⟨s, by omega, rfl⟩)
    rw [hon _ e3] at e2
    cases e2
   ·have := Nat.le_of_ble_eq_true hmC
    omega
  ·exact h
 have hsM : s ≤ M := by
  cases hc : C[M]? with
  | none =>
   have := List.getElem?_eq_none_iff.1 hc
   omega
  | some c =>
   rw [hc] at hMM
   rcases Nat.lt_or_ge M s with h | h
   ·have e2 := (h1 M c hc).1 h
    rw [hoff c hMM] at e2
    cases e2
   ·exact h
 refine ⟨oi, ho, fun K hK => ?_⟩
 rw [hd]
 refine value_ (w1 := w) (v := fv vs) (by rw [ha]; exact hw b vs hon hoff) hd (hrun a w s vs hms hsM hI (by rw [ha]; exact has_of hr b vs hon hoff)) (hK.out _ _ ⟨s, vs, h0, chain_skip hC h1, ?_, hI⟩)
 rw [ha]
 exact putSel_upk k hb (hL vs) (set_same (hL vs)) (hdist vs)
theorem gv_step (i k m : Nat) {t : Tmp} (hm : C[m]? = some i) (hL : ∀ vs, (L vs)[k]? = some (i, t, vs (m + 1))) (hset : ∀ vs v', (L vs).set k (i, t, v') = L (updV vs (m + 1) v'))
  (hdist : ∀ vs, ((L vs).take k ++ (L vs).drop (k + 1)).all (fun e => !(e.1 == i) && !(e.2.1 == t)) = true) (hnd : (C.take m ++ C.drop (m + 1)).contains i = false) (hprev : (C.take m).all (fun q => O.contains q && (B.getD i 0).testBit q) = true)
  {b : Nat → Bool} {a : Act} {w : World} (hI : GvI C I L a0 b a w) (hb : b i = false) (hon : ∀ j, (O.contains j && (B.getD i 0).testBit j) = true → b j = true) :
  ∃ vs, a = putSel a0 b (L vs) ∧ I m vs w ∧ ∀ v' w', I (m + 1) (updV vs (m + 1) v') w' → GvI C I L a0 (up b i) (a.put (some t) v') w' := by
 obtain ⟨s, vs, h0, h1, ha, hI⟩ := hI
 have hs : s = m := by
  have e1 := h1 m i hm
  rcases Nat.lt_trichotomy s m with h | h | h
  ·have hlt : s < C.length := by
    have := (List.getElem?_eq_some_iff.1 hm).1
    omega
   have hc := List.getElem?_eq_getElem hlt
   have e2 := (h1 s _ hc).2 (Nat.le_refl _)
   have e3 := List.all_eq_true.1 hprev C[s] (List.mem_take_iff_getElem.2 ⟨s, by omega, rfl⟩)
   rw [hon _ e3] at e2
   cases e2
  ·exact h
  ·rw [e1.1 h] at hb
   cases hb
 subst hs
 refine ⟨vs, ha, hI, fun v' w' hI' => ⟨s + 1, updV vs (s + 1) v', ?_, fun j c hc => ?_, ?_, hI'⟩⟩
 ·have := (List.getElem?_eq_some_iff.1 hm).1
  omega
 ·by_cases hj : j = s
  ·subst hj
   rw [hm] at hc
   injection hc with hc
   subst hc
   exact ⟨fun _ => up_self _ _, fun h => absurd h (by omega)⟩
  ·have hne : c ≠ i := fun e => by
    subst e
    have hmem : c ∈ C.take s ++ C.drop (s + 1) := by
     rw [List.mem_append]
     have hl := (List.getElem?_eq_some_iff.1 hc)
     obtain ⟨hl1, hl2⟩ := hl
     by_cases h : j < s
     ·exact Or.inl (List.mem_take_iff_getElem.2 ⟨j, by omega, hl2⟩)
     ·refine Or.inr (List.mem_drop_iff_getElem.2 ⟨j - (s + 1), by omega, ?_⟩)
      rw [← hl2]
      congr 1
      omega
    rw [List.contains_iff_mem.2 hmem] at hnd
    cases hnd
   rw [up_ne hne]
   have := h1 j c hc
   exact ⟨fun h => this.1 (by omega), fun h => this.2 (by omega)⟩
 ·rw [ha]
  exact putSel_upk k hb (hL vs) (hset vs v') (hdist vs)
theorem gv_put (i m : Nat) (hm : C[m]? = some i) (hL : ∀ vs, (L vs).all (fun e => !(e.1 == i)) = true) (hnd : (C.take m ++ C.drop (m + 1)).contains i = false) (hprev : (C.take m).all (fun q => O.contains q && (B.getD i 0).testBit q) = true)
  {b : Nat → Bool} {a : Act} {w : World} (hI : GvI C I L a0 b a w) (hb : b i = false) (hon : ∀ j, (O.contains j && (B.getD i 0).testBit j) = true → b j = true) :
  ∃ vs, a = putSel a0 b (L vs) ∧ I m vs w ∧ ∀ w', I (m + 1) vs w' → GvI C I L a0 (up b i) a w' := by
 obtain ⟨s, vs, h0, h1, ha, hI⟩ := hI
 have hs : s = m := by
  have e1 := h1 m i hm
  rcases Nat.lt_trichotomy s m with h | h | h
  ·have hlt : s < C.length := by
    have := (List.getElem?_eq_some_iff.1 hm).1
    omega
   have hc := List.getElem?_eq_getElem hlt
   have e2 := (h1 s _ hc).2 (Nat.le_refl _)
   have e3 := List.all_eq_true.1 hprev C[s] (List.mem_take_iff_getElem.2 ⟨s, by omega, rfl⟩)
   rw [hon _ e3] at e2
   cases e2
  ·exact h
  ·rw [e1.1 h] at hb
   cases hb
 subst hs
 refine ⟨vs, ha, hI, fun w' hI' => ⟨s + 1, vs, ?_, fun j c hc => ?_, ?_, hI'⟩⟩
 ·have := (List.getElem?_eq_some_iff.1 hm).1
  omega
 ·by_cases hj : j = s
  ·subst hj
   rw [hm] at hc
   injection hc with hc
   subst hc
   exact ⟨fun _ => up_self _ _, fun h => absurd h (by omega)⟩
  ·have hne : c ≠ i := fun e => by
    subst e
    have hmem : c ∈ C.take s ++ C.drop (s + 1) := by
     rw [List.mem_append]
     have hl := (List.getElem?_eq_some_iff.1 hc)
     obtain ⟨hl1, hl2⟩ := hl
     by_cases h : j < s
     ·exact Or.inl (List.mem_take_iff_getElem.2 ⟨j, by omega, hl2⟩)
     ·refine Or.inr (List.mem_drop_iff_getElem.2 ⟨j - (s + 1), by omega, ?_⟩)
      rw [← hl2]
      congr 1
      omega
    rw [List.contains_iff_mem.2 hmem] at hnd
    cases hnd
   rw [up_ne hne]
   have := h1 j c hc
   exact ⟨fun h => this.1 (by omega), fun h => this.2 (by omega)⟩
 ·rw [ha]
  exact (putSel_skip (hL vs)).symm
theorem gv_call (i k m : Nat) {t : Tmp} {vals : (Nat → Value) → List Value} {oi : Oper} {f : FuncId} {fn : Func} {ax : Array Operand} {ts : Array TypeId} (ho : ops[i]? = some oi) (hd : oi.dst = some t) (hw : Wt ops O B i L a0 oi true) (hm : C[m]? = some i) (hL : ∀ vs, (L vs)[k]? = some (i, t, vs (m + 1))) (hset : ∀ vs v', (L vs).set k (i, t, v') = L (updV vs (m + 1) v'))
  (hdist : ∀ vs, ((L vs).take k ++ (L vs).drop (k + 1)).all (fun e => !(e.1 == i) && !(e.2.1 == t)) = true) (hnd : (C.take m ++ C.drop (m + 1)).contains i = false) (hprev : (C.take m).all (fun q => O.contains q && (B.getD i 0).testBit q) = true)
  (hf : P.funcs[f]? = some fn) (hname : (fn.name == "runtime.NumGoroutine") = false) (hbd : fn.body.isSome = true) (hop : oi.op = .call { callee := .value (.func f), args := ax, argTypes := ts })
  (har : ArV O B i L a0 ax.toList vals) (hcall : ∀ vs w, I m vs w → Calls P f (vals vs).toArray w fun e w' => ∃ v', e = .returned v' ∧ I (m + 1) (updV vs (m + 1) v') w') : StepAt P ops Q B O (GvI C I L a0) i := by
 rintro b a w hG hb hon hoff
 obtain ⟨vs, ha, hI, hK2⟩ := gv_step i k m hm hL hset hdist hnd hprev hG hb hon
 refine ⟨oi, ho, fun K hK => ?_⟩
 rw [hd]
 refine goes_ hf hname hbd (vals vs).toArray (by rw [ha]; exact hw b vs hon hoff) hd hop ?_ ?_
 ·apply Array.toList_inj.1
  rw [Array.toList_map, ha, har b vs hon hoff]
 ·refine (hcall vs w hI).mono ?_
  rintro e w' ⟨v', rfl, hI'⟩
  exact ⟨v', rfl, hK.out _ _ (hK2 v' w' hI')⟩
theorem gv_store (ps : List (Tmp × ((Nat → Value) → Value))) (i m : Nat) {f : (Nat → Value) → World → World} {oi : Oper} (ho : ops[i]? = some oi) (hd : oi.dst = none) (hw : Wt ops O B i L a0 oi true) (hm : C[m]? = some i) (hL : ∀ vs, (L vs).all (fun e => !(e.1 == i)) = true)
  (hnd : (C.take m ++ C.drop (m + 1)).contains i = false) (hprev : (C.take m).all (fun q => O.contains q && (B.getD i 0).testBit q) = true) (hr : RdL O B i L a0 ps)
  (hrun : ∀ (a : Act) (w : World) (vs : Nat → Value), I m vs w → Has a vs ps → (execOp a.eval oi).run P w = .ok .skip (f vs w)) (hI : ∀ vs w, I m vs w → I (m + 1) vs (f vs w)) : StepAt P ops Q B O (GvI C I L a0) i := by
 rintro b a w hG hb hon hoff
 obtain ⟨vs, ha, hIm, hK2⟩ := gv_put i m hm hL hnd hprev hG hb hon
 refine ⟨oi, ho, fun K hK => ?_⟩
 rw [hd]
 exact skip_ (w1 := f vs w) (by rw [ha]; exact hw b vs hon hoff) hd (hrun a w vs hIm (by rw [ha]; exact has_of hr b vs hon hoff)) (hK.out _ _ (hK2 _ (hI vs w hIm)))
theorem grow_v {id : Nat} (O C : List Nat) (I : Nat → (Nat → Value) → World → Prop) (L : (Nat → Value) → Sel) {n : Nat} {l : Array Bool} {Tb : Bool × List (List Nat × List Nat)} (hm : P.follows .mixedOrders = true) (hn : ops.size = n) (hl : Array.replicate n false = l) (hT : rtab .any ops = Tb) (hw : waitsOk Tb.2 B = true) (hk : baseOk Tb.2 O = true) (hl2 : (lof Tb.2.length O (fun _ => false) == l.toList && O.length == n) = true)
  (hLO : ∀ vs, (L vs).all (fun e => O.contains e.1) = true) (hCO : (C.all fun e => O.contains e) = true) (vs0 : Nat → Value) (h0 : I 0 vs0 W.drew) (hs : ∀ i ∈ O, StepAt P ops Q B O (GvI C I L a0) i)
  (hend : ∀ (vs : Nat → Value) (w : World), I C.length vs w → Q .normal (putSel a0 (fun _ => true) (L vs)) w) : Code.wp P (Code.region id ops true) Q a0 W := by
 refine start_ (S := fun _ => True) (ds := []) l hm hn hl trivial (fun _ => ?_)
 refine inv_at O (fun a0 => GvI C I L a0) hT hw hk hl2 ⟨0, vs0, Nat.zero_le _, fun j c _ => ⟨fun h => absurd h (Nat.not_lt_zero _), fun _ => rfl⟩, ?_, h0⟩ hs ?_
 ·generalize L vs0 = LL
  clear hLO hs hend
  induction LL with
  | nil => rfl
  | cons e r ih => unfold putSel; exact ih
 ·rintro b a w hall ⟨s, vs, hs1, h1, ha, hI⟩
  have e1 : putSel a0 b (L vs) = putSel a0 (fun _ => true) (L vs) := putSel_congr (fun e he => hall _ (List.all_eq_true.1 (hLO vs) e he))
  have e2 : s = C.length := by
   rcases Nat.lt_or_ge s C.length with h | h
   ·have hc := List.getElem?_eq_getElem h
    have e2 := (h1 s _ hc).2 (Nat.le_refl _)
    rw [hall _ (List.all_eq_true.1 hCO _ (List.getElem_mem h))] at e2
    cases e2
   ·omega
  rw [ha, e1]
  rw [e2] at hI
  exact hend vs w hI
end
end Go.Proofs.YtdlamomabonkjaaDoor.Base
end
section
namespace Go.Proofs.YtdlamomabonkjaaDoor.Pk
open Go.RowKit Go.Proofs.YtdlamomabonkjaaDoorW.PrintWords Go.Proofs.YtdlamomabonkjaaDoorW.PrintLast Go.Proofs.YtdlamomabonkjaaDoor.Base Go.Proofs.YtdlamomabonkjaaDoor.PCh Go.Proofs.YtdlamomabonkjaaDoor.ParDec Go.Proofs.YtdlamomabonkjaaDoor.ParEnc Go.Proofs.YtdlamomabonkjaaDoor.Ch Go.Proofs.YtdlamomabonkjaaDoor.Crc CrcMath
set_option maxRecDepth 100000
set_option linter.unusedVariables false
set_option linter.unusedSimpArgs false
def robT6 : Bool × List (List Nat × List Nat) := (true, [([], []), ([], []), ([1], [1]), ([], []), ([], []), ([4], [4]), ([3, 5], [3, 5]), ([6], [6]), ([], []), ([8], [8]), ([9], [9]), ([7, 10], [7, 10]), ([0, 2, 0, 1, 2, 3, 4, 5, 6, 7, 8, 9, 10, 11], [0, 2]), ([12, 11, 0, 1, 2, 3, 4, 5, 6, 7, 8, 9, 10, 11], [11, 12])])
def robB6 : List Nat := [0, 0, 2, 0, 0, 16, 56, 120, 0, 256, 768, 2040, 4095, 8191]
theorem robtab6 : Go.Proofs.YtdlamomabonkjaaDoorW.PrintLast.rtab .any (Go.Proofs.YtdlamomabonkjaaDoorW.PrintLast.opsOf Tryd.f3 6) = robT6 := by kernel_rfl
theorem robbits6 : Go.Proofs.YtdlamomabonkjaaDoorW.PrintLast.waitsOk robT6.2 robB6 = true := by kernel_rfl
theorem xor8 (a b : UInt8) : bits .xor .u8 (a.toNat : Int) (b.toNat : Int) = ((a ^^^ b).toNat : Int) := by
 have ha := a.toNat_lt
 have hb := b.toNat_lt
 have ha' : a.toNat % 2 ^ 8 = a.toNat := Nat.mod_eq_of_lt ha
 have hb' : b.toNat % 2 ^ 8 = b.toNat := Nat.mod_eq_of_lt hb
 have h := Nat.xor_lt_two_pow (n := 8) ha hb
 have e : (BitVec.ofNat 8 a.toNat ^^^ BitVec.ofNat 8 b.toNat).toNat = a.toNat ^^^ b.toNat := by rw [BitVec.toNat_xor, BitVec.toNat_ofNat, BitVec.toNat_ofNat, ha', hb']
 have e2 : bits .xor .u8 (a.toNat : Int) (b.toNat : Int) = IntKind.u8.wrap ((BitVec.ofNat 8 a.toNat ^^^ BitVec.ofNat 8 b.toNat).toNat : Nat) := by
  rfl
 rw [e2, e, IntKind.wrap_u8, UInt8.toNat_xor]
 omega
theorem turn8 (b : UInt8) (j : Nat) : bits .xor .u8 (b.toNat : Int) (2 ^ (j % 8) % 256) = ((b ^^^ ((1 : UInt8) <<< UInt8.ofNat (j % 8))).toNat : Int) := by
 have h : ∀ j : Nat, j < 8 → ((2 : Int) ^ j % 256) = ((((1 : UInt8) <<< UInt8.ofNat j).toNat : Nat) : Int) := by decide
 rw [h _ (Nat.mod_lt _ (by decide)), xor8]
set_option maxHeartbeats 4000000 in
theorem oneBit_row {w : World} (f t q : Int) (A : Option Addr) (c : Nat) (l : List Chk) (hc : l.length ≤ c) (hl : Kd.C k41 w A l.length l) (hf : in16 f) (ht0 : in16 t) (hq : in32 q) (ho : OkL l) (bt : Int) (wb : (Lit.int .u32 bt).wf = true) (ht : Table w) :
  Calls Tryd.prog 3 #[.agg #[.int .u16 f, .int .u16 t, .int .u32 q, .slice A l.length c], .int .u32 bt] w fun e w' => e = .returned (.bool true) ∧ Below w.heap.size w w' := by
 have hbt := bounds_u32 wb
 have HE := Lib.hid (fun (W : World) (h : Below w.heap.size w W) => pencode_calls W f t q A c l (ht.below h) (Kd.C_below hl h) hc (fun x hx => Nat.le_trans (ho.2 x hx).l13 (by decide)) (enc_in ho.2) (fun he => by rw [(enc_good he).2.1]; exact (enc_good he).2.2))
 have HT := Lib.hid (fun (W : World) (h : Below w.heap.size w W) => ht.below h)
 have HGOOD := Lib.hid (fun (h : (pencD f t q l).2 = 0) => pback ⟨(penc_good h).1, hf.2, (penc_good h).2.1, ht0.2, hq, ho.2⟩ h)
 have HTURN := Lib.hid (fun (h : (pencD f t q l).2 = 0) => pturn ⟨(penc_good h).1, hf.2, (penc_good h).2.1, ht0.2, hq, ho.2⟩ h)
 clear hl hf ht0 hq ho ht wb
 generalize pencD f t q l = D at *
 obtain ⟨B, ec⟩ := D
 dsimp only at HE HGOOD HTURN
 obtain ⟨g2, hg2⟩ : ∃ g, w.heap.size = g := ⟨_, rfl⟩
 have HG := Lib.hid hg2
 clear hg2
 go_enter Tryd.func3, Tryd.ntmps3
 go_upto_region 1 with (fail)
 refine wp_gen (fun W => W.heap[w.heap.size]? = some (.cells #[.int .u16 f, .int .u16 t, .int .u32 q, .slice A l.length c] 26 (0, 0)) ∧ Below w.heap.size w W) ⟨blk_new _ _, below_alloc (Below.refl _ _) _⟩ ?_
 rintro W0 ⟨h0, hB⟩
 rw [HG.out] at h0 ⊢
 have K0 := Lib.hid h0
 have HB0 := Lib.hid hB
 clear h0 hB
 go_wp2_with ((with_reducible refine gate_dst (N := 13) rfl ?_); go_must (refine wpList_load_row rfl 26 (.tmp 2) rfl _ rfl 26 _ (0, 0) _ K0.out Tryd.underlying26 rfl (by kernel_rfl) ?_))
 refine (HE.out W0 HB0.out).mono ?_
 rintro e W1 ⟨v1, rfl, hR1, hB1⟩
 obtain ⟨A1, c1, rfl, hle1, hC1⟩ := Kd.R_reads hR1
 have HB1 := Lib.hid (below_then HB0.out HB0.out.size hB1)
 have HC1 := Lib.hid hC1
 have HLE1 := Lib.hid hle1
 clear hR1 hB1 hC1 hle1 HE K0 HB0
 by_cases hec : ec = 0
 ·subst hec
  obtain ⟨_, hl12, hl6⟩ := HGOOD.out rfl
  have HTU := Lib.hid (HTURN.out rfl)
  have hz : ((B.length : Int) == 0) = false := by simp; intro e; rw [e] at hl12; simp at hl12
  have HLB := Lib.hid (show 12 < B.length ∧ B.length ≤ 65536 from ⟨hl12, hl6⟩)
  obtain ⟨k, hk⟩ : ∃ k : Nat, bt.toNat % (8 * B.length) = k := ⟨_, rfl⟩
  have hk8 : k < 8 * B.length := by rw [← hk]; exact Nat.mod_lt _ (by omega)
  have HK8 := Lib.hid (show k < 8 * B.length ∧ k / 8 < B.length from ⟨hk8, by omega⟩)
  have hrm : Int.tmod bt ((8 * B.length : Nat) : Int) = (k : Int) := by
   rw [Int.tmod_eq_emod_of_nonneg (by omega), ← hk]
   have : bt = (bt.toNat : Int) := by omega
   rw [this]
   simp
  have hrm2 : bt % ((8 * B.length : Nat) : Int) = (k : Int) := by rw [← Int.tmod_eq_emod_of_nonneg (by omega)]; exact hrm
  have hne : ¬ ((8 * B.length : Nat) : Int) = 0 := by omega
  have hw1 : wrap64 (8 * (B.length : Int)) = ((8 * B.length : Nat) : Int) := by unfold wrap64; omega
  have hw2 : IntKind.u32.wrap ((8 * B.length : Nat) : Int) = ((8 * B.length : Nat) : Int) := u32_small _ (by omega) (by omega)
  have hw3 : ((8 * B.length : Nat) : Int) % 4294967296 = ((8 * B.length : Nat) : Int) := by omega
  have hw4 : wrap64 (k : Int) = (k : Int) := by unfold wrap64; omega
  clear HGOOD HTURN hl12 hl6 hk hk8 hbt
  obtain ⟨n8, hn8⟩ : ∃ m, 8 * B.length = m := ⟨_, rfl⟩
  rw [hn8] at hw1 hw2 hw3 hrm hrm2 hne
  clear hn8
  obtain ⟨n, hn⟩ : ∃ n, B.length = n := ⟨_, rfl⟩
  rw [hn] at hz hw1 HLE1 HLB ⊢
  have HN := Lib.hid hn
  clear hn
  go_upto_region 5 with (fail)
  have HO := Lib.hid (Kd.R_of_own (own_lit_of (enc := fun b : UInt8 => Value.int .u8 (b.toNat : Int)) W1 W1.heap.size 5 [] (Nat.le_refl _) (by simp)) (fun _ _ => trivial) : byte.R 5 (W1.alloc (.cells #[] 5)) W1.heap.size (fun _ => True) (.slice (some ⟨W1.heap.size, 0, none⟩) 0 0) [])
  go_wp2_with (at_builtin; go_must (refine Kd.R_append_row (fun b : UInt8 => .int .u8 (b.toNat : Int)) (0 : UInt8) (w0 := W1) W1.heap.size rfl _ _ 27 5 _ 1 rfl Tryd.underlying27 info_u8 rfl (by decide) _ [] B A1 n c1 (fun _ => True) rfl rfl (fun _ _ => trivial) HO.out (by rw [← HN.out]; exact Kd.C_alloc HC1.out _) ((Below.refl W1.heap.size W1).alloc (Nat.le_refl _) _) (by simp) (by have := HLB.out; simp; omega) ?_); (intro v1 w1 hR1 hB1 hG1 _; have HRX := Lib.hid hR1; have HBX := Lib.hid hB1; clear hR1 hB1 hG1; refine RowKit.Hid.out ?_))
  refine Lib.hid ?_
  have hR : byte.R 5 w1 W1.heap.size (fun _ => True) v1 B := HRX.out
  obtain ⟨g8, cap, rfl, hg8, _⟩ := (Kd.R_own hR).elim fun _ h => h.form (by rw [HN.out]; have := HLB.out; omega)
  have HR := Lib.hid hR
  have HG8 := Lib.hid hg8
  rw [HN.out]
  clear hR hg8 HRX HO HC1 HLE1
  have HR2 := Lib.hid (fun (W : World) (h : Drawn0 w1 W) => byte_cell (i := k / 8) (xs := B) (Kd.R_below (by rw [HN.out] at HR; exact HR.out : byte.R 5 w1 W1.heap.size (fun _ => True) (.slice (some ⟨g8, 0, none⟩) n cap) B) (drawn_below h)) (by have := HK8.out.2; rw [HN.out] at this; exact this))
  obtain ⟨bb, hbb⟩ : ∃ bb, B.getD (k / 8) 0 = bb := ⟨_, rfl⟩
  rw [hbb] at HR2
  obtain ⟨zz, hzz⟩ : ∃ zz : UInt8, bb ^^^ ((1 : UInt8) <<< UInt8.ofNat (k % 8)) = zz := ⟨_, rfl⟩
  have HZ := Lib.hid (turn8 bb k)
  rw [hzz] at HZ
  have HZZ := Lib.hid (show turnBit B k = B.set (k / 8) zz by unfold turnBit; rw [hbb, hzz])
  obtain ⟨i8, hi8⟩ : ∃ i8, k / 8 = i8 := ⟨_, rfl⟩
  have HQ8 := Lib.hid (show (k : Int) / 8 = (i8 : Int) ∧ Int.tdiv (k : Int) 8 = (i8 : Int) ∧ IntKind.i64.wrap (i8 : Int) = (i8 : Int) from ⟨by omega, by rw [Int.tdiv_eq_ediv_of_nonneg (by omega)]; omega, by have := HK8.out.1; have := HLB.out; have := HN.out; clear hw1 hw2 hw3 hw4; simp only [i64_w]; unfold wrap64; omega⟩)
  have HI8 := Lib.hid hi8
  have HR8 := Lib.hid (show Int.tmod (k : Int) 8 = ((k % 8 : Nat) : Int) ∧ IntKind.i64.wrap (Int.tmod (k : Int) 8) = ((k % 8 : Nat) : Int) from ⟨by rw [Int.tmod_eq_emod_of_nonneg (by omega)]; omega, by rw [Int.tmod_eq_emod_of_nonneg (by omega)]; clear hw1 hw2 hw3 hw4; simp only [i64_w]; unfold wrap64; omega⟩)
  rw [hi8] at HR2 HZZ
  have HCL := Lib.hid (fun (W : World) (h : Drawn0 w1 W) => (HR2.out W h).1)
  have HFR := Lib.hid (fun (W : World) (h : Drawn0 w1 W) => (HR2.out W h).2)
  have HLI := Lib.hid (show ¬ n ≤ i8 by have := HK8.out.2; rw [HN.out] at this; omega)
  clear hi8
  try rw [hw4]
  clear hbb hzz hw1 hw2 hw3 hw4 hrm hrm2 hne HR2
  go_upto_region 6 with (fail)
  refine grow_v (B := robB6) [0, 1, 2, 3, 4, 5, 6, 7, 8, 9, 10, 11, 12, 13] [13] (fun s vs W => match s with | 0 => Drawn0 w1 W | _ => ∃ w9, Drawn0 w1 w9 ∧ W = w9.setCell ⟨g8, i8, none⟩ (.int .u8 (zz.toNat : Int))) (fun vs => [(0, 39, .slice (some ⟨g8, 0, none⟩) n cap), (1, 40, .int .i64 (k : Int)), (2, 41, .int .i64 (i8 : Int)), (3, 42, .slice (some ⟨g8, 0, none⟩) n cap), (4, 43, .int .i64 (k : Int)), (5, 44, .int .i64 (i8 : Int)), (6, 45, .pointer (some ⟨g8, i8, none⟩)), (7, 46, .int .u8 (bb.toNat : Int)), (8, 47, .int .i64 (k : Int)), (9, 48, .int .i64 ((k % 8 : Nat) : Int)), (10, 49, .int .u8 (2 ^ (k % 8) % 256)), (11, 50, .int .u8 (zz.toNat : Int)), (12, 51, .pointer (some ⟨g8, i8, none⟩))]) (by kernel_rfl) rfl (l := #[false, false, false, false, false, false, false, false, false, false, false, false, false, false]) rfl robtab6 robbits6 (by kernel_rfl) (by kernel_rfl) (fun _ => rfl) rfl (fun _ => undef) ?_ ?_ ?_
  ·exact ⟨1, rfl⟩
  ·exact steps_cons (gv_op 0 0 [(8, fun vs => .slice (some ⟨g8, 0, none⟩) n cap)] 0 0 (fv := fun vs => .slice (some ⟨g8, 0, none⟩) n cap) rfl rfl (wt_none rfl) (fun _ => rfl) (fun _ => rfl) rfl rfl (by kernel_rfl) (by kernel_rfl) ⟨rd_off (p := 8) (fun _ => rfl) rfl, trivial⟩ (fun a w s vs hm hs h e => by
    obtain rfl : s = 0 := by omega
    obtain ⟨e8, _⟩ := e
    replace e8 : a.tmps[8]? = some (.slice (some ⟨g8, 0, none⟩) n cap) := e8
    go_simp)) (steps_cons (gv_op 0 0 [(7, fun vs => .int .i64 (k : Int))] 1 1 (fv := fun vs => .int .i64 (k : Int)) rfl rfl (wt_none rfl) (fun _ => rfl) (fun _ => rfl) rfl rfl (by kernel_rfl) (by kernel_rfl) ⟨rd_off (p := 7) (fun _ => rfl) rfl, trivial⟩ (fun a w s vs hm hs h e => by
    obtain rfl : s = 0 := by omega
    obtain ⟨e7, _⟩ := e
    replace e7 : a.tmps[7]? = some (.int .i64 (k : Int)) := e7
    go_simp)) (steps_cons (gv_op 0 0 [(40, fun vs => .int .i64 (k : Int))] 2 2 (fv := fun vs => .int .i64 (i8 : Int)) rfl rfl (wt_none rfl) (fun _ => rfl) (fun _ => rfl) rfl rfl (by kernel_rfl) (by kernel_rfl) ⟨rd_on (p := 40) 1 1 (fun _ => rfl) (fun _ => rfl) (by kernel_rfl) rfl, trivial⟩ (fun a w s vs hm hs h e => by
    obtain rfl : s = 0 := by omega
    obtain ⟨e40, _⟩ := e
    replace e40 : a.tmps[40]? = some (.int .i64 (k : Int)) := e40
    have hq1 := HQ8.out.1; have hq2 := HQ8.out.2.1; have hq3 := HQ8.out.2.2; go_simp; first | done | exact hq3)) (steps_cons (gv_op 0 0 [(8, fun vs => .slice (some ⟨g8, 0, none⟩) n cap)] 3 3 (fv := fun vs => .slice (some ⟨g8, 0, none⟩) n cap) rfl rfl (wt_none rfl) (fun _ => rfl) (fun _ => rfl) rfl rfl (by kernel_rfl) (by kernel_rfl) ⟨rd_off (p := 8) (fun _ => rfl) rfl, trivial⟩ (fun a w s vs hm hs h e => by
    obtain rfl : s = 0 := by omega
    obtain ⟨e8, _⟩ := e
    replace e8 : a.tmps[8]? = some (.slice (some ⟨g8, 0, none⟩) n cap) := e8
    go_simp)) (steps_cons (gv_op 0 0 [(7, fun vs => .int .i64 (k : Int))] 4 4 (fv := fun vs => .int .i64 (k : Int)) rfl rfl (wt_none rfl) (fun _ => rfl) (fun _ => rfl) rfl rfl (by kernel_rfl) (by kernel_rfl) ⟨rd_off (p := 7) (fun _ => rfl) rfl, trivial⟩ (fun a w s vs hm hs h e => by
    obtain rfl : s = 0 := by omega
    obtain ⟨e7, _⟩ := e
    replace e7 : a.tmps[7]? = some (.int .i64 (k : Int)) := e7
    go_simp)) (steps_cons (gv_op 0 0 [(43, fun vs => .int .i64 (k : Int))] 5 5 (fv := fun vs => .int .i64 (i8 : Int)) rfl rfl (wt_none rfl) (fun _ => rfl) (fun _ => rfl) rfl rfl (by kernel_rfl) (by kernel_rfl) ⟨rd_on (p := 43) 4 4 (fun _ => rfl) (fun _ => rfl) (by kernel_rfl) rfl, trivial⟩ (fun a w s vs hm hs h e => by
    obtain rfl : s = 0 := by omega
    obtain ⟨e43, _⟩ := e
    replace e43 : a.tmps[43]? = some (.int .i64 (k : Int)) := e43
    have hq1 := HQ8.out.1; have hq2 := HQ8.out.2.1; have hq3 := HQ8.out.2.2; go_simp; first | done | exact hq3)) (steps_cons (gv_op 0 0 [(42, fun vs => .slice (some ⟨g8, 0, none⟩) n cap), (44, fun vs => .int .i64 (i8 : Int))] 6 6 (fv := fun vs => .pointer (some ⟨g8, i8, none⟩)) rfl rfl (wt_none rfl) (fun _ => rfl) (fun _ => rfl) rfl rfl (by kernel_rfl) (by kernel_rfl) ⟨rd_on (p := 42) 3 3 (fun _ => rfl) (fun _ => rfl) (by kernel_rfl) rfl, rd_on (p := 44) 5 5 (fun _ => rfl) (fun _ => rfl) (by kernel_rfl) rfl, trivial⟩ (fun a w s vs hm hs h e => by
    obtain rfl : s = 0 := by omega
    obtain ⟨e42, e44, _⟩ := e
    replace e42 : a.tmps[42]? = some (.slice (some ⟨g8, 0, none⟩) n cap) := e42
    replace e44 : a.tmps[44]? = some (.int .i64 (i8 : Int)) := e44
    have hl := HLI.out; go_simp)) (steps_cons (gv_op 0 0 [(45, fun vs => .pointer (some ⟨g8, i8, none⟩))] 7 7 (fv := fun vs => .int .u8 (bb.toNat : Int)) rfl rfl (wt_none rfl) (fun _ => rfl) (fun _ => rfl) rfl rfl (by kernel_rfl) (by kernel_rfl) ⟨rd_on (p := 45) 6 6 (fun _ => rfl) (fun _ => rfl) (by kernel_rfl) rfl, trivial⟩ (fun a w s vs hm hs h e => by
    obtain rfl : s = 0 := by omega
    obtain ⟨e45, _⟩ := e
    replace e45 : a.tmps[45]? = some (.pointer (some ⟨g8, i8, none⟩)) := e45
    have hs := HCL.out w h; go_simp)) (steps_cons (gv_op 0 0 [(7, fun vs => .int .i64 (k : Int))] 8 8 (fv := fun vs => .int .i64 (k : Int)) rfl rfl (wt_none rfl) (fun _ => rfl) (fun _ => rfl) rfl rfl (by kernel_rfl) (by kernel_rfl) ⟨rd_off (p := 7) (fun _ => rfl) rfl, trivial⟩ (fun a w s vs hm hs h e => by
    obtain rfl : s = 0 := by omega
    obtain ⟨e7, _⟩ := e
    replace e7 : a.tmps[7]? = some (.int .i64 (k : Int)) := e7
    go_simp)) (steps_cons (gv_op 0 0 [(47, fun vs => .int .i64 (k : Int))] 9 9 (fv := fun vs => .int .i64 ((k % 8 : Nat) : Int)) rfl rfl (wt_none rfl) (fun _ => rfl) (fun _ => rfl) rfl rfl (by kernel_rfl) (by kernel_rfl) ⟨rd_on (p := 47) 8 8 (fun _ => rfl) (fun _ => rfl) (by kernel_rfl) rfl, trivial⟩ (fun a w s vs hm hs h e => by
    obtain rfl : s = 0 := by omega
    obtain ⟨e47, _⟩ := e
    replace e47 : a.tmps[47]? = some (.int .i64 (k : Int)) := e47
    have hr1 := HR8.out.1; have hr2 := HR8.out.2; go_simp; first | done | exact hr2)) (steps_cons (gv_op 0 0 [(48, fun vs => .int .i64 ((k % 8 : Nat) : Int))] 10 10 (fv := fun vs => .int .u8 (2 ^ (k % 8) % 256)) rfl rfl (wt_none rfl) (fun _ => rfl) (fun _ => rfl) rfl rfl (by kernel_rfl) (by kernel_rfl) ⟨rd_on (p := 48) 9 9 (fun _ => rfl) (fun _ => rfl) (by kernel_rfl) rfl, trivial⟩ (fun a w s vs hm hs h e => by
    obtain rfl : s = 0 := by omega
    obtain ⟨e48, _⟩ := e
    replace e48 : a.tmps[48]? = some (.int .i64 ((k % 8 : Nat) : Int)) := e48
    go_simp; first | done | rfl)) (steps_cons (gv_op 0 0 [(46, fun vs => .int .u8 (bb.toNat : Int)), (49, fun vs => .int .u8 (2 ^ (k % 8) % 256))] 11 11 (fv := fun vs => .int .u8 (zz.toNat : Int)) rfl rfl (wt_none rfl) (fun _ => rfl) (fun _ => rfl) rfl rfl (by kernel_rfl) (by kernel_rfl) ⟨rd_on (p := 46) 7 7 (fun _ => rfl) (fun _ => rfl) (by kernel_rfl) rfl, rd_on (p := 49) 10 10 (fun _ => rfl) (fun _ => rfl) (by kernel_rfl) rfl, trivial⟩ (fun a w s vs hm hs h e => by
    obtain rfl : s = 0 := by omega
    obtain ⟨e46, e49, _⟩ := e
    replace e46 : a.tmps[46]? = some (.int .u8 (bb.toNat : Int)) := e46
    replace e49 : a.tmps[49]? = some (.int .u8 (2 ^ (k % 8) % 256)) := e49
    have hz := HZ.out; go_simp; first | done | exact hz | rw [hz])) (steps_cons (gv_op 0 0 [(39, fun vs => .slice (some ⟨g8, 0, none⟩) n cap), (41, fun vs => .int .i64 (i8 : Int))] 12 12 (fv := fun vs => .pointer (some ⟨g8, i8, none⟩)) rfl rfl (wt_none rfl) (fun _ => rfl) (fun _ => rfl) rfl rfl (by kernel_rfl) (by kernel_rfl) ⟨rd_on (p := 39) 0 0 (fun _ => rfl) (fun _ => rfl) (by kernel_rfl) rfl, rd_on (p := 41) 2 2 (fun _ => rfl) (fun _ => rfl) (by kernel_rfl) rfl, trivial⟩ (fun a w s vs hm hs h e => by
    obtain rfl : s = 0 := by omega
    obtain ⟨e39, e41, _⟩ := e
    replace e39 : a.tmps[39]? = some (.slice (some ⟨g8, 0, none⟩) n cap) := e39
    replace e41 : a.tmps[41]? = some (.int .i64 (i8 : Int)) := e41
    have hl := HLI.out; go_simp)) (steps_cons (gv_store (f := fun vs W => W.setCell ⟨g8, i8, none⟩ (.int .u8 (zz.toNat : Int))) [(51, fun vs => .pointer (some ⟨g8, i8, none⟩)), (50, fun vs => .int .u8 (zz.toNat : Int))] 13 0 rfl rfl (wt_none rfl) rfl (fun _ => rfl) rfl (by kernel_rfl) ⟨rd_on (p := 51) 12 12 (fun _ => rfl) (fun _ => rfl) (by kernel_rfl) rfl, rd_on (p := 50) 11 11 (fun _ => rfl) (fun _ => rfl) (by kernel_rfl) rfl, trivial⟩ (fun a w vs h e => by obtain ⟨e51, e50, _⟩ := e; replace e51 : a.tmps[51]? = some (.pointer (some ⟨g8, i8, none⟩)) := e51; replace e50 : a.tmps[50]? = some (.int .u8 (zz.toNat : Int)) := e50; have hs := HCL.out w h; have hf := HFR.out w h; go_simp; first | done | rfl) (fun vs w h => ⟨_, h, rfl⟩)) steps_nil)))))))))))))
  intro vs W5 hX
  obtain ⟨w9, hD9, hW9⟩ := hX
  simp only [putSel, if_true, Act.put, List.setIfInBounds_toArray, List.set_cons_zero, List.set_cons_succ]
  have hB9 := drawn_below hD9
  have hR5 := byte_put (Kd.R_below (by rw [HN.out] at HR; exact HR.out : byte.R 5 w1 W1.heap.size (fun _ => True) (.slice (some ⟨g8, 0, none⟩) n cap) B) hB9) i8 (zz.toNat : Int) zz rfl
  rw [← HZZ.out, ← hW9] at hR5
  have hB5 : Below W1.heap.size W1 W5 := by rw [hW9]; exact (below_then HBX.out HBX.out.size hB9).setCell HG8.out _
  have hlt : (turnBit B k).length = n := by rw [turnBit_length]; exact HN.out
  have HB5 := Lib.hid (below_then HB1.out HB1.out.size hB5)
  have HDEC := Lib.hid (pdecode_calls W5 (some ⟨g8, 0, none⟩) (turnBit B k) cap (HT.out W5 HB5.out) (by rw [hlt]; exact R_C hR5) (by rw [hlt]; exact R_le hR5) (by rw [hlt]; have := HLB.out; omega))
  obtain ⟨hE1, hE2⟩ := HTU.out k HK8.out.1
  unfold ReadPP at HDEC
  rw [hlt] at HDEC
  generalize preadD (turnBit B k) true = D at *
  have hze : (D.e != 0) = true := by simp [hE1]
  rw [hE2] at HDEC
  clear hB9 hD9 hW9 hR5 hB5 hlt hE1 hE2 HR HZZ HCL HFR HLI HZ HBX HTU w9
  go_wp2_with fail
  refine HDEC.out.mono ?_
  rintro e W6 ⟨v6, rfl, hR6, hB6⟩
  obtain ⟨A6, c6, rfl, _, _⟩ := Kd.R_reads hR6
  rw [List.length_nil]
  replace HB5 := Lib.hid (below_then HB5.out HB5.out.size hB6)
  clear hR6 hB6 HDEC
  obtain ⟨g9, hg9⟩ : ∃ g, W6.heap.size = g := ⟨_, rfl⟩
  have HG9 := Lib.hid hg9
  clear hg9
  go_upto_region 8 with (fail)
  refine wp_gen (fun W => W.heap[W6.heap.size]? = some (.cells #[.int .u16 D.f, .int .u16 D.t, .int .u32 D.q, .slice A6 0 c6] 26 (0, 0)) ∧ Below W6.heap.size W6 W) ⟨by first | exact blk_new _ _ | exact blk_put (blk_new _ _) 0 _ rfl, below_alloc (Below.refl _ _) _⟩ ?_
  rintro V9 ⟨hk9, hb9⟩
  rw [HG9.out] at hk9 ⊢
  have K9 := Lib.hid hk9
  have HV9 := Lib.hid hb9
  clear hk9 hb9
  replace HB5 := Lib.hid (below_then HB5.out HB5.out.size HV9.out)
  have k3 : V9.cell? ⟨g9, 3, none⟩ = some (.slice A6 0 c6) := blk_cell K9.out 3
  have HAL := Lib.hid (alive_calls V9 (HT.out V9 HB5.out))
  clear HV9
  go_wp2_with fail
  refine HAL.out.mono ?_
  rintro e W7 ⟨rfl, hB7⟩
  have HB7 := Lib.hid (below_then HB5.out HB5.out.size hB7)
  clear hB7 HAL k3
  go_wp2
  go_ret
  exact ⟨rfl, HB7.out⟩
 ·have hz : (ec != 0) = true := by simp [hec]
  have HAL := Lib.hid (alive_calls W1 (HT.out W1 HB1.out))
  clear HGOOD HTURN hec HC1 HLE1
  go_wp2_with fail
  refine HAL.out.mono ?_
  rintro e W2 ⟨rfl, hB2⟩
  have HB2 := Lib.hid (below_then HB1.out HB1.out.size hB2)
  clear hB2 HAL HB1
  go_wp2
  go_ret
  exact ⟨rfl, HB2.out⟩
end Go.Proofs.YtdlamomabonkjaaDoor.Pk
end
section
namespace Go.Proofs.YtdlamomabonkjaaDoor.Crc
open Go.RowKit Go.Proofs.YtdlamomabonkjaaDoorW.PrintWords Go.Proofs.YtdlamomabonkjaaDoor.Base CrcMath
theorem gSteps : Tryd.prog.globalNamed "ropewalk/crc.steps" = some 0 := by kernel_rfl
theorem gStepsType : (Tryd.prog.globals[0]?).map (·.type) = some 136 := by kernel_rfl
theorem cells16 : Tryd.prog.cellsOf 136 = 16 := by kernel_rfl
theorem cells32 : Tryd.prog.cellsOf 23 = 1 := by kernel_rfl
theorem table_of {W : World} (h : laidMetH Tryd.prog [("ropewalk/crc.steps", Rows.laid_ropewalk_crc_steps)] W) : Table W := by
 have ht : Lib.TabIs Tryd.prog W "ropewalk/crc.steps" .u32 [0, 274646895, 549293790, 820201905, 1098587580, 1361435347, 1640403810, 1905808397, 2197175160, 2460548119, 2722870694, 2987750089, 3280807620, 3553878443, 3811616794, 4084100981] :=
  Lib.tabIs_of_head (rest := []) gSteps gStepsType Tryd.underlying136 Tryd.underlying23 cells32 cells16 h
 refine ⟨fun i hi => ?_⟩
 have := ht.cell gSteps i (by simpa using hi)
 rw [this]
 have hn : ∀ i : Nat, i < 16 → ([0, 274646895, 549293790, 820201905, 1098587580, 1361435347, 1640403810, 1905808397, 2197175160, 2460548119, 2722870694, 2987750089, 3280807620, 3553878443, 3811616794, 4084100981] : List Int).getD i 0 = (nib i : Int) := by decide +kernel
 rw [← hn i hi]
end Go.Proofs.YtdlamomabonkjaaDoor.Crc
end
section
namespace Go.Proofs.YtdlamomabonkjaaDoor.packetOneBit
open Go.ChangeShapes Go.WideShapes Go.ChangeAt Go.RowKit Go.Proofs.YtdlamomabonkjaaDoor.Base
open Go.ChangeMaps (open_string shut_string)
set_option linter.unusedVariables false
set_option maxRecDepth 100000 in
theorem contract (H : Type) (enc : TypeId × Value → H) (W : World) (base : Nat) (args : Array Value) (ds gs : List (DataW H)) (before : List MemPlace)
  (hval : ∀ (j : Nat) t v, Tryd.f3.params[j]? = some t → args[j]? = some v → Value.okWide Tryd.prog W .any base t v)
  (hW : DataW.Whole enc Tryd.prog Tryd.f3.params.toList Rows.packetOneBitSpec.vars false W args.toList ds gs before)
  (hsz0 : (DataW.weightsEach Tryd.prog (Tryd.f3.params.toList ++ (OpenSpec.ofChange Rows.packetOneBitSpec).bare.plain.varTypes Tryd.prog) (ds ++ gs)).all (· ≤ reachBytes) = true)
  (hL : laidMetH Tryd.prog Rows.packetOneBitRow.laid W) :
  Calls Tryd.prog 3 args W fun e W' => ∃ v, e = .returned v ∧ Rows.packetOneBitSpec.post enc Tryd.prog Tryd.f3 false true false false W args v W' := by
 have hW' := hW
 obtain ⟨p, q, hA0, hV, rfl, hfz, hnd⟩ := hW
 have hA : DataW.TrodAll enc Tryd.prog W 0 (fun _ => true) true Tryd.f3.params.toList args.toList ds p := hA0
 rw [Tryd.params3] at hA hval
 obtain ⟨v0, vs0, d0, ds0, p0, q0, hargs, rfl, rfl, h0, r0⟩ := trodAll_cons hA
 obtain ⟨v1, vs1, d1, ds1, p1, q1, rfl, rfl, rfl, h1, r1⟩ := trodAll_cons r0
 obtain ⟨rfl, rfl, rfl⟩ := trodAll_nil r1
 obtain rfl : args = #[v0, v1] := by cases args; simp_all
 obtain ⟨rfl, rfl⟩ := trodVars_none hV
 have hsz := hsz0
 rw [Tryd.params3] at hsz
 have k0 := h0
 have lt0 : ∀ x ∈ p0, x.block < W.heap.size := by obtain ⟨m, hm⟩ := k0; exact DataW.trod_lt m _ _ _ hm
 obtain ⟨pf0, pt0, pq0, a0, cap0, l0, rfl, hc0, hb0, if0, it0, iq0, io0⟩ := Pk.open_packet h0 (short_part hsz (j := 0) rfl rfl)
 obtain ⟨a1, rfl, rfl, rfl, w1⟩ := open_int Tryd.underlying23 (hval 1 23 v1 rfl rfl) h1
 clear hA0 hsz hsz0
 have ht := Crc.table_of hL
 refine (Pk.oneBit_row pf0 pt0 pq0 a0 cap0 l0 hc0 hb0 if0 it0 iq0 io0 a1 w1 ht).mono fun e W' ⟨he, bel⟩ => ?_
 subst he
 exact ⟨_, rfl, _, _, _, [], _, [], hW', trodAll_mk1 (shut_bool Tryd.underlying4 _), (trodAll_cons_mk (Below.trod laidOut (by kernel_rfl) (of_decide_eq_true (by kernel_rfl)) k0 bel lt0) (trodAll_cons_mk (shut_int Tryd.underlying23 w1) trodAll_mk0)), rfl, bel.frame _, fun h => by cases h⟩
noncomputable def laidWorld (os : Os) : World := World.doorLaid Tryd.prog 14 os
theorem laid_met (os : Os) : laidMet Tryd.prog Rows.packetOneBitRow.laid ((laidWorld os).forCall (fun _ _ => 0) ⟨#[], #[.agg #[.int .u16 0, .int .u16 0, .int .u32 0, .slice none 0 0], .int .u32 0], []⟩).memory :=
 laidMet_of_run' 8 (by kernel_rfl) (by kernel_rfl)
theorem reads (os : Os) {H : Type} (enc : TypeId × Value → H) : ∃ places, DataW.whole enc Tryd.prog ((laidWorld os).forCall (fun _ _ => 0) ⟨#[], #[.agg #[.int .u16 0, .int .u16 0, .int .u32 0, .slice none 0 0], .int .u32 0], []⟩).memory Tryd.f3.params.toList Rows.packetOneBitSpec.vars false (#[.agg #[.int .u16 0, .int .u16 0, .int .u32 0, .slice none 0 0], .int .u32 0] : Array Value).toList 8 = some ([.agg [.lit (.int .u16 0), .lit (.int .u16 0), .lit (.int .u32 0), .nil], .lit (.int .u32 0)], [], places) :=
 ⟨[], by kernel_rfl⟩
set_option maxRecDepth 100000 in
theorem lifted (os : Os) (started : os.Started) (H : Type) (enc : TypeId × Value → H) (F : Stop.Interp) :
  ReturnsInHanded {} Tryd.checked os 3 .any ((OpenSpec.ofChange Rows.packetOneBitSpec).preRow enc Tryd.prog Tryd.f3 Rows.packetOneBitRow.domain false Rows.packetOneBitRow.laid) (((OpenSpec.ofChange Rows.packetOneBitSpec).at F).post enc Tryd.prog Tryd.f3 false true false false) := by
 obtain ⟨places, hx⟩ := reads os enc
 refine returnsInHanded_of_row (C := Tryd.checked) (s := (OpenSpec.ofChange Rows.packetOneBitSpec)) own started (by kernel_rfl) Tryd.func3
  (witness_row_at (enc := enc) (C := Tryd.checked) false (laidWorld os) #[.agg #[.int .u16 0, .int .u16 0, .int .u32 0, .slice none 0 0], .int .u32 0] rfl (by kernel_rfl) (by kernel_rfl) (by kernel_rfl)
   (OpenSpec.preRow_of_cond 8 hx (by kernel_rfl) (fun k hk => by cases hk) (by kernel_rfl) (laid_met os))) ?_
 intro W base args ds gs before hval hW _ hcond hsz hL _ _
 exact contract H enc W base args ds gs before hval hW hsz hL
theorem said : Rows.PacketOneBitSaid :=
 OpenClaim.holds_of_cond 3 Tryd.f3 rfl rfl rfl rfl rfl rfl rfl ⟨rfl, rfl, rfl, rfl, rfl⟩ rfl rfl rfl rfl rfl (by kernel_rfl) Tryd.func3 (by kernel_rfl)
  (of_decide_eq_true (by kernel_rfl)) (by unfold Func.isWrapper; first | (rw [if_pos (by decide +kernel)]; kernel_rfl) | (rw [if_neg (by decide +kernel)]; exact ⟨rfl, rfl⟩))
  (fun os started H enc _ F => by rw [OpenClaim.pre_eq_preRow]; exact lifted os started H enc F)
theorem plain (f : FuncId) (fn : Func) (hf : Tryd.pinned.checked.prog.funcNamed "ropewalk/ropewalklaw07.PacketOneBit" = some f) (hfn : Tryd.pinned.checked.prog.funcs[f]? = some fn) :
  true = Tryd.pinned.checked.prog.looks [] ∧ ∀ (j : Nat) t, fn.params[j]? = some t → Tryd.pinned.checked.prog.wantsStandIn t = false := by
 obtain rfl : f = 3 := Option.some.inj ((show Tryd.prog.funcNamed "ropewalk/ropewalklaw07.PacketOneBit" = some 3 by kernel_rfl).symm.trans hf) |>.symm
 obtain rfl : fn = Tryd.f3 := (Option.some.inj (Tryd.func3.symm.trans hfn)).symm
 refine ⟨by kernel_rfl, fun j t ht => ?_⟩
 rw [Tryd.params3] at ht
 have hm : t ∈ [26, 23] := by simpa using Array.mem_of_getElem? ht
 have hall : ([26, 23].all fun u => !Tryd.prog.wantsStandIn u) = true := by kernel_rfl
 exact (show Tryd.prog.wantsStandIn t = false by simpa using List.all_eq_true.1 hall t hm)
theorem packetOneBit_holds : Rows.PacketOneBitCardSaid :=
 Claim7.holds_tied_plain_at .later [] _ _ _ _ said (fun _ h => by cases h) (by kernel_rfl) (fun _ h => by cases h) packetOneBit_row_tie rfl ⟨rfl, rfl⟩ (by kernel_rfl) rfl plain (by kernel_rfl)
#print axioms packetOneBit_holds
end Go.Proofs.YtdlamomabonkjaaDoor.packetOneBit
end
section
namespace Go.Proofs.YtdlamomabonkjaaDoor.Pk
open Go.RowKit Go.Proofs.YtdlamomabonkjaaDoorW.PrintWords Go.Proofs.YtdlamomabonkjaaDoorW.PrintLast Go.Proofs.YtdlamomabonkjaaDoor.Base Go.Proofs.YtdlamomabonkjaaDoor.PCh Go.Proofs.YtdlamomabonkjaaDoor.ParDec Go.Proofs.YtdlamomabonkjaaDoor.ParEnc Go.Proofs.YtdlamomabonkjaaDoor.Ch Go.Proofs.YtdlamomabonkjaaDoor.Crc CrcMath
set_option maxRecDepth 100000
set_option linter.unusedVariables false
set_option linter.unusedSimpArgs false
theorem rpself (W : World) (f t q : Int) (A B : Option Addr) (c d : Nat) (l : List Chk) (hl : Kd.C k41 W A l.length l) (hl2 : Kd.C k41 W B l.length l) (ho : ∀ x ∈ l, OkB x) :
  Calls Tryd.prog 14 #[.agg #[.int .u16 f, .int .u16 t, .int .u32 q, .slice A l.length c], .agg #[.int .u16 f, .int .u16 t, .int .u32 q, .slice B l.length d]] W fun e w' => e = .returned (.bool true) ∧ Below W.heap.size W w' := by
 have h := rpsame_calls W f t q f t q A B c d l l hl hl2 ho ho
 rw [show (f == f && t == t && q == q && decide (l = l)) = true by simp] at h
 exact h
end Go.Proofs.YtdlamomabonkjaaDoor.Pk
end
section
namespace Go.Proofs.YtdlamomabonkjaaDoor.Pk
open Go.RowKit Go.Proofs.YtdlamomabonkjaaDoorW.PrintWords Go.Proofs.YtdlamomabonkjaaDoorW.PrintLast Go.Proofs.YtdlamomabonkjaaDoor.Base Go.Proofs.YtdlamomabonkjaaDoor.PCh Go.Proofs.YtdlamomabonkjaaDoor.ParDec Go.Proofs.YtdlamomabonkjaaDoor.ParEnc Go.Proofs.YtdlamomabonkjaaDoor.Ch Go.Proofs.YtdlamomabonkjaaDoor.Crc CrcMath
set_option maxRecDepth 100000
set_option linter.unusedVariables false
set_option linter.unusedSimpArgs false
def rbkT1 : Bool × List (List Nat × List Nat) := (true, [([], []), ([], []), ([0, 1], [0, 1]), ([], []), ([], []), ([3, 4, 2], [3, 4]), ([2, 5], [2, 5]), ([6, 5], [6]), ([7], [7]), ([7], [7]), ([8, 9, 7, 7], [7, 8, 9]), ([10, 7], [7, 10]), ([7, 11], [7, 11])])
def rbkB1 : List Nat := [0, 0, 3, 0, 0, 31, 63, 127, 255, 255, 1023, 2047, 4095]
theorem rbktab1 : Go.Proofs.YtdlamomabonkjaaDoorW.PrintLast.rtab .any (Go.Proofs.YtdlamomabonkjaaDoorW.PrintLast.opsOf Tryd.f5 1) = rbkT1 := by kernel_rfl
theorem rbkbits1 : Go.Proofs.YtdlamomabonkjaaDoorW.PrintLast.waitsOk rbkT1.2 rbkB1 = true := by kernel_rfl
set_option maxHeartbeats 4000000 in
theorem back_row {w : World} (f t q : Int) (A : Option Addr) (c : Nat) (l : List Chk) (hc : l.length ≤ c) (hl : Kd.C k41 w A l.length l) (hf : in16 f) (ht0 : in16 t) (hq : in32 q) (ho : OkL l)
  (f2 t2 q2 : Int) (A2 : Option Addr) (c2 : Nat) (l2 : List Chk) (hc2 : l2.length ≤ c2) (hl2 : Kd.C k41 w A2 l2.length l2) (hf2 : in16 f2) (ht2 : in16 t2) (hq2 : in32 q2) (ho2 : OkL l2) (ht : Table w) :
  Calls Tryd.prog 5 #[.agg #[.int .u16 f, .int .u16 t, .int .u32 q, .slice A l.length c], .agg #[.int .u16 f2, .int .u16 t2, .int .u32 q2, .slice A2 l2.length c2]] w fun e w' => e = .returned (.bool true) ∧ Below w.heap.size w w' := by
 have HE := Lib.hid (fun (W : World) (h : Below w.heap.size w W) => pencode_calls W f t q A c l (ht.below h) (Kd.C_below hl h) hc (fun x hx => Nat.le_trans (ho.2 x hx).l13 (by decide)) (enc_in ho.2) (fun he => by rw [(enc_good he).2.1]; exact (enc_good he).2.2))
 have HT := Lib.hid (fun (W : World) (h : Below w.heap.size w W) => ht.below h)
 have HA := Lib.hid (fun (W : World) (h : Below w.heap.size w W) => alive_calls W (ht.below h))
 have HGOOD := Lib.hid (fun (h : (pencD f t q l).2 = 0) => pback ⟨(penc_good h).1, hf.2, (penc_good h).2.1, ht0.2, hq, ho.2⟩ h)
 have HBAD := Lib.hid (fun (h : (pencD f t q l).2 ≠ 0) => penc_bad h)
 have HS0 := Lib.hid (fun (W : World) (h : Below w.heap.size w W) => psame_calls W f t q f2 t2 q2 A A2 c c2 l l2 (Kd.C_below hl h) (Kd.C_below hl2 h))
 have HS1 := Lib.hid (fun (W : World) (h : Below w.heap.size w W) => rpsame_calls W f t q f2 t2 q2 A A2 c c2 l l2 (Kd.C_below hl h) (Kd.C_below hl2 h) (fun x hx => (ho.2 x hx).okB) (fun x hx => (ho2.2 x hx).okB))
 have HS2 := Lib.hid (fun (W : World) (h : Below w.heap.size w W) => (show Calls Tryd.prog 15 #[.agg #[.int .u16 f, .int .u16 t, .int .u32 q, .slice A l.length c], .agg #[.int .u16 f, .int .u16 t, .int .u32 q, .slice A l.length c]] W fun e w' => e = .returned (.bool true) ∧ Below W.heap.size W w' from by
  have h := psame_calls W f t q f t q A A c c l l (Kd.C_below hl h) (Kd.C_below hl h)
  rw [show (f == f && t == t && q == q && decide (l = l)) = true by simp] at h
  exact h))
 have HRS2 := Lib.hid (fun (W : World) (h : Below w.heap.size w W) (B : Option Addr) (d : Nat) (hB : Kd.C k41 W B l.length l) => rpself W f t q B A d c l hB (Kd.C_below hl h) (fun x hx => (ho.2 x hx).okB))
 clear hl hf ht0 hq ho ht hc hl2 hf2 ht2 hq2 ho2 hc2
 generalize pencD f t q l = D at *
 obtain ⟨B, ec⟩ := D
 dsimp only at HE HGOOD HBAD
 generalize (f == f2 && t == t2 && q == q2 && decide (l = l2)) = S at *
 have HNE := Lib.hid (show (S != S) = false by simp)
 generalize l2.length = n2 at *
 obtain ⟨n, hn⟩ : ∃ n, l.length = n := ⟨_, rfl⟩
 have HN := Lib.hid hn
 rw [hn] at HE HS0 HS1 HS2 HRS2 ⊢
 clear hn
 obtain ⟨g2, hg2⟩ : ∃ g, w.heap.size = g := ⟨_, rfl⟩
 have HG := Lib.hid hg2
 clear hg2
 go_enter Tryd.func5, Tryd.ntmps5
 go_upto_region 1 with (fail)
 refine wp_gen (fun W => W.heap[w.heap.size]? = some (.cells #[.int .u16 f, .int .u16 t, .int .u32 q, .slice A n c] 26 (0, 0)) ∧ W.heap[w.heap.size + 1]? = some (.cells #[.int .u16 f2, .int .u16 t2, .int .u32 q2, .slice A2 n2 c2] 26 (0, 0)) ∧ Below w.heap.size w W) ⟨blk_alloc (blk_new _ _) _, by have h := blk_new (w.alloc (.cells #[.int .u16 f, .int .u16 t, .int .u32 q, .slice A n c] 26)) (.cells #[.int .u16 f2, .int .u16 t2, .int .u32 q2, .slice A2 n2 c2] 26); rw [show (w.alloc (.cells #[.int .u16 f, .int .u16 t, .int .u32 q, .slice A n c] 26)).heap.size = w.heap.size + 1 by simp] at h; exact h, below_alloc (below_alloc (Below.refl _ _) _) _⟩ ?_
 rintro W0 ⟨h0, h1, hB⟩
 rw [HG.out] at h0 h1 ⊢
 have K0 := Lib.hid h0
 have K1 := Lib.hid h1
 have HB0 := Lib.hid hB
 clear h0 h1 hB
 have HPS := Lib.hid (fun (W : World) (h : Below W0.heap.size W0 W) => HS0.out W (below_then HB0.out HB0.out.size h))
 have HRS := Lib.hid (fun (W : World) (h : Below W0.heap.size W0 W) => HS1.out W (below_then HB0.out HB0.out.size h))
 have HPP := Lib.hid (fun (W : World) (h : Below W0.heap.size W0 W) => HS2.out W (below_then HB0.out HB0.out.size h))
 clear HS0 HS1 HS2
 refine grow_v (B := rbkB1) [0, 1, 2, 3, 4, 5, 6, 7, 8, 9, 10, 11, 12] [2, 5, 10] (fun s vs W => Below W0.heap.size W0 W ∧ (match s with | 0 => True | 1 => vs 1 = .bool S | 2 => vs 1 = .bool S ∧ vs 2 = .bool S | _ => vs 1 = .bool S ∧ vs 2 = .bool S ∧ vs 3 = .bool true)) (fun vs => [(0, 10, .agg #[.int .u16 f, .int .u16 t, .int .u32 q, .slice A n c]), (1, 11, .agg #[.int .u16 f2, .int .u16 t2, .int .u32 q2, .slice A2 n2 c2]), (2, 12, vs 1), (3, 13, .agg #[.int .u16 f, .int .u16 t, .int .u32 q, .slice A n c]), (4, 14, .agg #[.int .u16 f2, .int .u16 t2, .int .u32 q2, .slice A2 n2 c2]), (5, 15, vs 2), (6, 16, .bool false), (7, 17, .bool false), (8, 18, .agg #[.int .u16 f, .int .u16 t, .int .u32 q, .slice A n c]), (9, 19, .agg #[.int .u16 f, .int .u16 t, .int .u32 q, .slice A n c]), (10, 20, vs 3), (11, 21, .bool false), (12, 22, .bool false)]) (by kernel_rfl) rfl (l := #[false, false, false, false, false, false, false, false, false, false, false, false, false]) rfl rbktab1 rbkbits1 (by kernel_rfl) (by kernel_rfl) (fun _ => rfl) rfl (fun _ => undef) ?_ ?_ ?_
 ·exact ⟨pw_below_drewN (Below.refl _ _) 1, trivial⟩
 ·exact steps_cons (gv_op 0 0 [(2, fun vs => .pointer (some ⟨g2, 0, none⟩))] 0 0 (fv := fun vs => .agg #[.int .u16 f, .int .u16 t, .int .u32 q, .slice A n c]) rfl rfl (wt_none rfl) (fun _ => rfl) (fun _ => rfl) rfl rfl (by kernel_rfl) (by kernel_rfl) ⟨rd_off (p := 2) (fun _ => rfl) rfl, trivial⟩ (fun a w s vs hm hs h e => by
   obtain rfl : s = 0 := by omega
   obtain ⟨e2, _⟩ := e
   replace e2 : a.tmps[2]? = some (.pointer (some ⟨g2, 0, none⟩)) := e2
   exact exec_load_row 26 (.tmp 2) rfl (eval_of e2) (blk_below K0.out h.1) Tryd.underlying26 rfl (by kernel_rfl))) (steps_cons (gv_op 0 0 [(3, fun vs => .pointer (some ⟨g2 + 1, 0, none⟩))] 1 1 (fv := fun vs => .agg #[.int .u16 f2, .int .u16 t2, .int .u32 q2, .slice A2 n2 c2]) rfl rfl (wt_none rfl) (fun _ => rfl) (fun _ => rfl) rfl rfl (by kernel_rfl) (by kernel_rfl) ⟨rd_off (p := 3) (fun _ => rfl) rfl, trivial⟩ (fun a w s vs hm hs h e => by
   obtain rfl : s = 0 := by omega
   obtain ⟨e3, _⟩ := e
   replace e3 : a.tmps[3]? = some (.pointer (some ⟨g2 + 1, 0, none⟩)) := e3
   exact exec_load_row 26 (.tmp 3) rfl (eval_of e3) (blk_below K1.out h.1) Tryd.underlying26 rfl (by kernel_rfl))) (steps_cons (gv_call (vals := fun vs => [.agg #[.int .u16 f, .int .u16 t, .int .u32 q, .slice A n c], .agg #[.int .u16 f2, .int .u16 t2, .int .u32 q2, .slice A2 n2 c2]]) 2 2 0 rfl rfl (wt_none rfl) rfl (fun _ => rfl) (fun _ _ => rfl) (fun _ => rfl) rfl (by kernel_rfl) Tryd.func15 (by kernel_rfl) rfl rfl (arv_t (rd_on (p := 10) 0 0 (fun _ => rfl) (fun _ => rfl) (by kernel_rfl) rfl) (arv_t (rd_on (p := 11) 1 1 (fun _ => rfl) (fun _ => rfl) (by kernel_rfl) rfl) (arv_n))) (fun vs w h => (HPS.out w h.1).mono fun e w' ⟨he, hb⟩ => ⟨_, he, below_then h.1 h.1.size hb, rfl⟩)) (steps_cons (gv_op 0 1 [(2, fun vs => .pointer (some ⟨g2, 0, none⟩))] 3 3 (fv := fun vs => .agg #[.int .u16 f, .int .u16 t, .int .u32 q, .slice A n c]) rfl rfl (wt_none rfl) (fun _ => rfl) (fun _ => rfl) rfl rfl (by kernel_rfl) (by kernel_rfl) ⟨rd_off (p := 2) (fun _ => rfl) rfl, trivial⟩ (fun a w s vs hm hs h e => by
   obtain ⟨e2, _⟩ := e
   replace e2 : a.tmps[2]? = some (.pointer (some ⟨g2, 0, none⟩)) := e2
   exact exec_load_row 26 (.tmp 2) rfl (eval_of e2) (blk_below K0.out h.1) Tryd.underlying26 rfl (by kernel_rfl))) (steps_cons (gv_op 0 1 [(3, fun vs => .pointer (some ⟨g2 + 1, 0, none⟩))] 4 4 (fv := fun vs => .agg #[.int .u16 f2, .int .u16 t2, .int .u32 q2, .slice A2 n2 c2]) rfl rfl (wt_none rfl) (fun _ => rfl) (fun _ => rfl) rfl rfl (by kernel_rfl) (by kernel_rfl) ⟨rd_off (p := 3) (fun _ => rfl) rfl, trivial⟩ (fun a w s vs hm hs h e => by
   obtain ⟨e3, _⟩ := e
   replace e3 : a.tmps[3]? = some (.pointer (some ⟨g2 + 1, 0, none⟩)) := e3
   exact exec_load_row 26 (.tmp 3) rfl (eval_of e3) (blk_below K1.out h.1) Tryd.underlying26 rfl (by kernel_rfl))) (steps_cons (gv_call (vals := fun vs => [.agg #[.int .u16 f, .int .u16 t, .int .u32 q, .slice A n c], .agg #[.int .u16 f2, .int .u16 t2, .int .u32 q2, .slice A2 n2 c2]]) 5 5 1 rfl rfl (wt_none rfl) rfl (fun _ => rfl) (fun _ _ => rfl) (fun _ => rfl) rfl (by kernel_rfl) Tryd.func14 (by kernel_rfl) rfl rfl (arv_t (rd_on (p := 13) 3 3 (fun _ => rfl) (fun _ => rfl) (by kernel_rfl) rfl) (arv_t (rd_on (p := 14) 4 4 (fun _ => rfl) (fun _ => rfl) (by kernel_rfl) rfl) (arv_n))) (fun vs w h => (HRS.out w h.1).mono fun e w' ⟨he, hb⟩ => ⟨_, he, below_then h.1 h.1.size hb, h.2, rfl⟩)) (steps_cons (gv_op 2 2 [(12, fun vs => vs 1), (15, fun vs => vs 2)] 6 6 (fv := fun vs => .bool false) rfl rfl (wt_none rfl) (fun _ => rfl) (fun _ => rfl) rfl rfl (by kernel_rfl) (by kernel_rfl) ⟨rd_on (p := 12) 2 2 (fun _ => rfl) (fun _ => rfl) (by kernel_rfl) rfl, rd_on (p := 15) 5 5 (fun _ => rfl) (fun _ => rfl) (by kernel_rfl) rfl, trivial⟩ (fun a w s vs hm hs h e => by
   obtain rfl : s = 2 := by omega
   obtain ⟨e12, e15, _⟩ := e
   replace e12 : a.tmps[12]? = some (vs 1) := e12
   replace e15 : a.tmps[15]? = some (vs 2) := e15
   rw [h.2.1] at e12; rw [h.2.2] at e15; have hq := HNE.out; go_simp; first | done | exact hq | rw [hq])) (steps_cons (gv_op 2 2 [(16, fun vs => .bool false)] 7 7 (fv := fun vs => .bool false) rfl rfl (wt_none rfl) (fun _ => rfl) (fun _ => rfl) rfl rfl (by kernel_rfl) (by kernel_rfl) ⟨rd_on (p := 16) 6 6 (fun _ => rfl) (fun _ => rfl) (by kernel_rfl) rfl, trivial⟩ (fun a w s vs hm hs h e => by
   obtain rfl : s = 2 := by omega
   obtain ⟨e16, _⟩ := e
   replace e16 : a.tmps[16]? = some (.bool false) := e16
   go_simp)) (steps_cons (gv_op 2 2 [(2, fun vs => .pointer (some ⟨g2, 0, none⟩))] 8 8 (fv := fun vs => .agg #[.int .u16 f, .int .u16 t, .int .u32 q, .slice A n c]) rfl rfl (wt_on (g := 7) (t := 17) rfl rfl rfl (rd_on (p := 17) 7 7 (fun _ => rfl) (fun _ => rfl) (by kernel_rfl) rfl)) (fun _ => rfl) (fun _ => rfl) rfl rfl (by kernel_rfl) (by kernel_rfl) ⟨rd_off (p := 2) (fun _ => rfl) rfl, trivial⟩ (fun a w s vs hm hs h e => by
   obtain rfl : s = 2 := by omega
   obtain ⟨e2, _⟩ := e
   replace e2 : a.tmps[2]? = some (.pointer (some ⟨g2, 0, none⟩)) := e2
   exact exec_load_row 26 (.tmp 2) rfl (eval_of e2) (blk_below K0.out h.1) Tryd.underlying26 rfl (by kernel_rfl))) (steps_cons (gv_op 2 2 [(2, fun vs => .pointer (some ⟨g2, 0, none⟩))] 9 9 (fv := fun vs => .agg #[.int .u16 f, .int .u16 t, .int .u32 q, .slice A n c]) rfl rfl (wt_on (g := 7) (t := 17) rfl rfl rfl (rd_on (p := 17) 7 7 (fun _ => rfl) (fun _ => rfl) (by kernel_rfl) rfl)) (fun _ => rfl) (fun _ => rfl) rfl rfl (by kernel_rfl) (by kernel_rfl) ⟨rd_off (p := 2) (fun _ => rfl) rfl, trivial⟩ (fun a w s vs hm hs h e => by
   obtain rfl : s = 2 := by omega
   obtain ⟨e2, _⟩ := e
   replace e2 : a.tmps[2]? = some (.pointer (some ⟨g2, 0, none⟩)) := e2
   exact exec_load_row 26 (.tmp 2) rfl (eval_of e2) (blk_below K0.out h.1) Tryd.underlying26 rfl (by kernel_rfl))) (steps_cons (gv_call (vals := fun vs => [.agg #[.int .u16 f, .int .u16 t, .int .u32 q, .slice A n c], .agg #[.int .u16 f, .int .u16 t, .int .u32 q, .slice A n c]]) 10 10 2 rfl rfl (wt_on (g := 7) (t := 17) rfl rfl rfl (rd_on (p := 17) 7 7 (fun _ => rfl) (fun _ => rfl) (by kernel_rfl) rfl)) rfl (fun _ => rfl) (fun _ _ => rfl) (fun _ => rfl) rfl (by kernel_rfl) Tryd.func15 (by kernel_rfl) rfl rfl (arv_t (rd_on (p := 18) 8 8 (fun _ => rfl) (fun _ => rfl) (by kernel_rfl) rfl) (arv_t (rd_on (p := 19) 9 9 (fun _ => rfl) (fun _ => rfl) (by kernel_rfl) rfl) (arv_n))) (fun vs w h => (HPP.out w h.1).mono fun e w' ⟨he, hb⟩ => ⟨_, he, below_then h.1 h.1.size hb, h.2.1, h.2.2, rfl⟩)) (steps_cons (gv_op 3 3 [(20, fun vs => vs 3)] 11 11 (fv := fun vs => .bool false) rfl rfl (wt_on (g := 7) (t := 17) rfl rfl rfl (rd_on (p := 17) 7 7 (fun _ => rfl) (fun _ => rfl) (by kernel_rfl) rfl)) (fun _ => rfl) (fun _ => rfl) rfl rfl (by kernel_rfl) (by kernel_rfl) ⟨rd_on (p := 20) 10 10 (fun _ => rfl) (fun _ => rfl) (by kernel_rfl) rfl, trivial⟩ (fun a w s vs hm hs h e => by
   obtain rfl : s = 3 := by omega
   obtain ⟨e20, _⟩ := e
   replace e20 : a.tmps[20]? = some (vs 3) := e20
   rw [h.2.2.2] at e20; go_simp)) (steps_cons (gv_op 3 3 [(17, fun vs => .bool false), (21, fun vs => .bool false)] 12 12 (fv := fun vs => .bool false) rfl rfl (wt_none rfl) (fun _ => rfl) (fun _ => rfl) rfl rfl (by kernel_rfl) (by kernel_rfl) ⟨rd_on (p := 17) 7 7 (fun _ => rfl) (fun _ => rfl) (by kernel_rfl) rfl, rd_on (p := 21) 11 11 (fun _ => rfl) (fun _ => rfl) (by kernel_rfl) rfl, trivial⟩ (fun a w s vs hm hs h e => by
   obtain rfl : s = 3 := by omega
   obtain ⟨e17, e21, _⟩ := e
   replace e17 : a.tmps[17]? = some (.bool false) := e17
   replace e21 : a.tmps[21]? = some (.bool false) := e21
   go_simp)) steps_nil))))))))))))
 intro vs W1 hX
 obtain ⟨hB1, hv1, hv2, hv3⟩ := hX
 simp only [putSel, if_true, Act.put, List.setIfInBounds_toArray, List.set_cons_zero, List.set_cons_succ]
 rw [hv1, hv2, hv3]
 have HB1 := Lib.hid (below_then HB0.out HB0.out.size hB1)
 replace K0 := Lib.hid (blk_below K0.out hB1)
 clear hB1 hv1 hv2 hv3 HPS HRS HPP K1 HB0 HNE vs
 go_wp2_with ((with_reducible refine gate_dst (N := 24) rfl ?_); go_must (refine wpList_load_row rfl 26 (.tmp 2) rfl _ rfl 26 _ (0, 0) _ K0.out Tryd.underlying26 rfl (by kernel_rfl) ?_))
 refine (HE.out W1 HB1.out).mono ?_
 rintro e W2 ⟨v2, rfl, hR2, hB2⟩
 obtain ⟨A3, c3, rfl, hle3, hC3⟩ := Kd.R_reads hR2
 replace K0 := Lib.hid (blk_below K0.out hB2)
 have HB2 := Lib.hid (below_then HB1.out HB1.out.size hB2)
 by_cases hec : ec = 0
 ·subst hec
  obtain ⟨hbk, _, hl6⟩ := HGOOD.out rfl
  have HD := Lib.hid (pdecode_calls W2 A3 B c3 (HT.out W2 HB2.out) hC3 hle3 (by omega))
  rw [hbk] at HD
  unfold ReadPP at HD
  dsimp only at HD
  clear hR2 hB2 hle3 hC3 hbk hl6 HGOOD HBAD HE
  generalize B.length = nb at *
  go_wp2_with fail
  refine HD.out.mono ?_
  rintro e W4 ⟨v4, rfl, hR4, hB4⟩
  obtain ⟨A4, c4, rfl, _, hC4⟩ := Kd.R_reads hR4
  rw [HN.out]
  replace K0 := Lib.hid (blk_below K0.out hB4)
  have HB4 := Lib.hid (below_then HB2.out HB2.out.size hB4)
  have HC4 := Lib.hid hC4
  clear hR4 hB4 hC4 HD
  obtain ⟨g9, hg9⟩ : ∃ g, W4.heap.size = g := ⟨_, rfl⟩
  have HG9 := Lib.hid hg9
  clear hg9
  go_upto_region 7 with (fail)
  refine wp_gen (fun W => W.heap[W4.heap.size]? = some (.cells #[.int .u16 f, .int .u16 t, .int .u32 q, .slice A4 n c4] 26 (0, 0)) ∧ Below W4.heap.size W4 W) ⟨by first | exact blk_new _ _ | exact blk_put (blk_new _ _) 0 _ rfl, below_alloc (Below.refl _ _) _⟩ ?_
  rintro V9 ⟨hk9, hb9⟩
  rw [HG9.out] at hk9 ⊢
  have K9 := Lib.hid hk9
  have HV9 := Lib.hid hb9
  clear hk9 hb9
  replace K0 := Lib.hid (blk_below K0.out HV9.out)
  replace HB4 := Lib.hid (below_then HB4.out HB4.out.size HV9.out)
  have HS := Lib.hid (HRS2.out V9 HB4.out A4 c4 (Kd.C_below (by have h := HC4.out; rw [HN.out] at h; exact h) HV9.out))
  clear HV9 HC4 HRS2
  go_wp2_with (first | ((with_reducible refine gate_dst (N := 49) rfl ?_); go_must (refine gate_guard (wanted_on rfl rfl rfl rfl) ?_; refine wpList_load_row rfl 26 (.tmp 7) rfl _ rfl 26 _ (0, 0) _ K9.out Tryd.underlying26 rfl (by kernel_rfl) ?_)) | ((with_reducible refine gate_dst (N := 50) rfl ?_); go_must (refine gate_guard (wanted_on rfl rfl rfl rfl) ?_; refine wpList_load_row rfl 26 (.tmp 2) rfl _ rfl 26 _ (0, 0) _ K0.out Tryd.underlying26 rfl (by kernel_rfl) ?_)))
  refine HS.out.mono ?_
  rintro e W5 ⟨rfl, hB5⟩
  have HB5 := Lib.hid (below_then HB4.out HB4.out.size hB5)
  clear hB5 HS K0 K9
  have HAL := Lib.hid (HA.out W5 HB5.out)
  go_wp2_with fail
  refine HAL.out.mono ?_
  rintro e W8 ⟨rfl, hB8⟩
  have HB8 := Lib.hid (below_then HB5.out HB5.out.size hB8)
  clear hB8 HAL
  go_wp2
  go_ret
  exact ⟨rfl, HB8.out⟩
 ·have hx := HBAD.out hec
  subst hx
  have hz : (ec != 0) = true := by simp [hec]
  clear hR2 hB2 hle3 hC3 HGOOD HBAD HE hec K0 HRS2
  rw [List.length_nil]
  have HAL := Lib.hid (HA.out W2 HB2.out)
  go_wp2_with fail
  refine HAL.out.mono ?_
  rintro e W8 ⟨rfl, hB8⟩
  have HB8 := Lib.hid (below_then HB2.out HB2.out.size hB8)
  clear hB8 HAL
  go_wp2
  go_ret
  exact ⟨rfl, HB8.out⟩
end Go.Proofs.YtdlamomabonkjaaDoor.Pk
end
section
namespace Go.Proofs.YtdlamomabonkjaaDoor.packetBack
open Go.ChangeShapes Go.WideShapes Go.ChangeAt Go.RowKit Go.Proofs.YtdlamomabonkjaaDoor.Base
open Go.ChangeMaps (open_string shut_string)
set_option linter.unusedVariables false
set_option maxRecDepth 100000 in
theorem contract (H : Type) (enc : TypeId × Value → H) (W : World) (base : Nat) (args : Array Value) (ds gs : List (DataW H)) (before : List MemPlace)
  (hval : ∀ (j : Nat) t v, Tryd.f5.params[j]? = some t → args[j]? = some v → Value.okWide Tryd.prog W .any base t v)
  (hW : DataW.Whole enc Tryd.prog Tryd.f5.params.toList Rows.packetBackSpec.vars false W args.toList ds gs before)
  (hsz0 : (DataW.weightsEach Tryd.prog (Tryd.f5.params.toList ++ (OpenSpec.ofChange Rows.packetBackSpec).bare.plain.varTypes Tryd.prog) (ds ++ gs)).all (· ≤ reachBytes) = true)
  (hL : laidMetH Tryd.prog Rows.packetBackRow.laid W) :
  Calls Tryd.prog 5 args W fun e W' => ∃ v, e = .returned v ∧ Rows.packetBackSpec.post enc Tryd.prog Tryd.f5 false true false false W args v W' := by
 have hW' := hW
 obtain ⟨p, q, hA0, hV, rfl, hfz, hnd⟩ := hW
 have hA : DataW.TrodAll enc Tryd.prog W 0 (fun _ => true) true Tryd.f5.params.toList args.toList ds p := hA0
 rw [Tryd.params5] at hA hval
 obtain ⟨v0, vs0, d0, ds0, p0, q0, hargs, rfl, rfl, h0, r0⟩ := trodAll_cons hA
 obtain ⟨v1, vs1, d1, ds1, p1, q1, rfl, rfl, rfl, h1, r1⟩ := trodAll_cons r0
 obtain ⟨rfl, rfl, rfl⟩ := trodAll_nil r1
 obtain rfl : args = #[v0, v1] := by cases args; simp_all
 obtain ⟨rfl, rfl⟩ := trodVars_none hV
 have hsz := hsz0
 rw [Tryd.params5] at hsz
 have k0 := h0
 have lt0 : ∀ x ∈ p0, x.block < W.heap.size := by obtain ⟨m, hm⟩ := k0; exact DataW.trod_lt m _ _ _ hm
 obtain ⟨pf0, pt0, pq0, a0, cap0, l0, rfl, hc0, hb0, if0, it0, iq0, io0⟩ := Pk.open_packet h0 (short_part hsz (j := 0) rfl rfl)
 have k1 := h1
 have lt1 : ∀ x ∈ p1, x.block < W.heap.size := by obtain ⟨m, hm⟩ := k1; exact DataW.trod_lt m _ _ _ hm
 obtain ⟨pf1, pt1, pq1, a1, cap1, l1, rfl, hc1, hb1, if1, it1, iq1, io1⟩ := Pk.open_packet h1 (short_part hsz (j := 1) rfl rfl)
 clear hA0 hsz hsz0
 have ht := Crc.table_of hL
 refine (Pk.back_row pf0 pt0 pq0 a0 cap0 l0 hc0 hb0 if0 it0 iq0 io0 pf1 pt1 pq1 a1 cap1 l1 hc1 hb1 if1 it1 iq1 io1 ht).mono fun e W' ⟨he, bel⟩ => ?_
 subst he
 exact ⟨_, rfl, _, _, _, [], _, [], hW', trodAll_mk1 (shut_bool Tryd.underlying4 _), (trodAll_cons_mk (Below.trod laidOut (by kernel_rfl) (of_decide_eq_true (by kernel_rfl)) k0 bel lt0) (trodAll_cons_mk (Below.trod laidOut (by kernel_rfl) (of_decide_eq_true (by kernel_rfl)) k1 bel lt1) trodAll_mk0)), rfl, bel.frame _, fun h => by cases h⟩
noncomputable def laidWorld (os : Os) : World := World.doorLaid Tryd.prog 14 os
theorem laid_met (os : Os) : laidMet Tryd.prog Rows.packetBackRow.laid ((laidWorld os).forCall (fun _ _ => 0) ⟨#[], #[.agg #[.int .u16 0, .int .u16 0, .int .u32 0, .slice none 0 0], .agg #[.int .u16 0, .int .u16 0, .int .u32 0, .slice none 0 0]], []⟩).memory :=
 laidMet_of_run' 8 (by kernel_rfl) (by kernel_rfl)
theorem reads (os : Os) {H : Type} (enc : TypeId × Value → H) : ∃ places, DataW.whole enc Tryd.prog ((laidWorld os).forCall (fun _ _ => 0) ⟨#[], #[.agg #[.int .u16 0, .int .u16 0, .int .u32 0, .slice none 0 0], .agg #[.int .u16 0, .int .u16 0, .int .u32 0, .slice none 0 0]], []⟩).memory Tryd.f5.params.toList Rows.packetBackSpec.vars false (#[.agg #[.int .u16 0, .int .u16 0, .int .u32 0, .slice none 0 0], .agg #[.int .u16 0, .int .u16 0, .int .u32 0, .slice none 0 0]] : Array Value).toList 8 = some ([.agg [.lit (.int .u16 0), .lit (.int .u16 0), .lit (.int .u32 0), .nil], .agg [.lit (.int .u16 0), .lit (.int .u16 0), .lit (.int .u32 0), .nil]], [], places) :=
 ⟨[], by kernel_rfl⟩
set_option maxRecDepth 100000 in
theorem lifted (os : Os) (started : os.Started) (H : Type) (enc : TypeId × Value → H) (F : Stop.Interp) :
  ReturnsInHanded {} Tryd.checked os 5 .any ((OpenSpec.ofChange Rows.packetBackSpec).preRow enc Tryd.prog Tryd.f5 Rows.packetBackRow.domain false Rows.packetBackRow.laid) (((OpenSpec.ofChange Rows.packetBackSpec).at F).post enc Tryd.prog Tryd.f5 false true false false) := by
 obtain ⟨places, hx⟩ := reads os enc
 refine returnsInHanded_of_row (C := Tryd.checked) (s := (OpenSpec.ofChange Rows.packetBackSpec)) own started (by kernel_rfl) Tryd.func5
  (witness_row_at (enc := enc) (C := Tryd.checked) false (laidWorld os) #[.agg #[.int .u16 0, .int .u16 0, .int .u32 0, .slice none 0 0], .agg #[.int .u16 0, .int .u16 0, .int .u32 0, .slice none 0 0]] rfl (by kernel_rfl) (by kernel_rfl) (by kernel_rfl)
   (OpenSpec.preRow_of_cond 8 hx (by kernel_rfl) (fun k hk => by cases hk) (by kernel_rfl) (laid_met os))) ?_
 intro W base args ds gs before hval hW _ hcond hsz hL _ _
 exact contract H enc W base args ds gs before hval hW hsz hL
theorem said : Rows.PacketBackSaid :=
 OpenClaim.holds_of_cond 5 Tryd.f5 rfl rfl rfl rfl rfl rfl rfl ⟨rfl, rfl, rfl, rfl, rfl⟩ rfl rfl rfl rfl rfl (by kernel_rfl) Tryd.func5 (by kernel_rfl)
  (of_decide_eq_true (by kernel_rfl)) (by unfold Func.isWrapper; first | (rw [if_pos (by decide +kernel)]; kernel_rfl) | (rw [if_neg (by decide +kernel)]; exact ⟨rfl, rfl⟩))
  (fun os started H enc _ F => by rw [OpenClaim.pre_eq_preRow]; exact lifted os started H enc F)
theorem plain (f : FuncId) (fn : Func) (hf : Tryd.pinned.checked.prog.funcNamed "ropewalk/ropewalklaw07.PacketBack" = some f) (hfn : Tryd.pinned.checked.prog.funcs[f]? = some fn) :
  true = Tryd.pinned.checked.prog.looks [] ∧ ∀ (j : Nat) t, fn.params[j]? = some t → Tryd.pinned.checked.prog.wantsStandIn t = false := by
 obtain rfl : f = 5 := Option.some.inj ((show Tryd.prog.funcNamed "ropewalk/ropewalklaw07.PacketBack" = some 5 by kernel_rfl).symm.trans hf) |>.symm
 obtain rfl : fn = Tryd.f5 := (Option.some.inj (Tryd.func5.symm.trans hfn)).symm
 refine ⟨by kernel_rfl, fun j t ht => ?_⟩
 rw [Tryd.params5] at ht
 have hm : t ∈ [26, 26] := by simpa using Array.mem_of_getElem? ht
 have hall : ([26, 26].all fun u => !Tryd.prog.wantsStandIn u) = true := by kernel_rfl
 exact (show Tryd.prog.wantsStandIn t = false by simpa using List.all_eq_true.1 hall t hm)
theorem packetBack_holds : Rows.PacketBackCardSaid :=
 Claim7.holds_tied_plain_at .later [] _ _ _ _ said (fun _ h => by cases h) (by kernel_rfl) (fun _ h => by cases h) packetBack_row_tie rfl ⟨rfl, rfl⟩ (by kernel_rfl) rfl plain (by kernel_rfl)
#print axioms packetBack_holds
end Go.Proofs.YtdlamomabonkjaaDoor.packetBack
end
section
namespace Go.Proofs.YtdlamomabonkjaaDoor.Pk
theorem kept : True := by
 have hOneBit := @packetOneBit.packetOneBit_holds
 have hBack := @packetBack.packetBack_holds
 trivial
end Go.Proofs.YtdlamomabonkjaaDoor.Pk
end
