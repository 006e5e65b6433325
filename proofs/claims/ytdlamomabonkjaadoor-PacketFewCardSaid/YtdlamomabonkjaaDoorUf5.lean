/- The texts of one proof, merged: part 5. -/
import Derived.Test.YtdlamomabonkjaaDoorUf4
set_option maxRecDepth 100000
set_option linter.unusedVariables false
set_option linter.unusedSimpArgs false
section
namespace Go.Proofs.YtdlamomabonkjaaDoor.Pk
open Go.RowKit YtdlamomabonkjaaDoorW.PrintWords YtdlamomabonkjaaDoorW.PrintLast Base PCh ParDec Ch Crc CrcMath
theorem PS.put1 {w0 W : World} {g : Nat} {v : List UInt8} {f t q : Int} {CH : Value} (h : PS w0 W g v f t q CH) (x : Int) : PS w0 (W.setCell ⟨g, 1, none⟩ (.int .u16 x)) g v x t q CH := by
 obtain ⟨A, c, hb, hc, hC⟩ := h
 exact ⟨A, c, blk_put hb 1 _ rfl, hc, hC⟩
theorem PS.put2 {w0 W : World} {g : Nat} {v : List UInt8} {f t q : Int} {CH : Value} (h : PS w0 W g v f t q CH) (x : Int) : PS w0 (W.setCell ⟨g, 2, none⟩ (.int .u16 x)) g v f x q CH := by
 obtain ⟨A, c, hb, hc, hC⟩ := h
 exact ⟨A, c, blk_put hb 2 _ rfl, hc, hC⟩
theorem PS.put3 {w0 W : World} {g : Nat} {v : List UInt8} {f t q : Int} {CH : Value} (h : PS w0 W g v f t q CH) (x : Int) : PS w0 (W.setCell ⟨g, 3, none⟩ (.int .u32 x)) g v f t x CH := by
 obtain ⟨A, c, hb, hc, hC⟩ := h
 exact ⟨A, c, blk_put hb 3 _ rfl, hc, hC⟩
theorem _root_.Go.Proofs.YtdlamomabonkjaaDoor.Base.Only.thn {S : Nat → Prop} {w W W' : World} (h : Only S w W) (hb : Below W.heap.size W W') : Only S w W' := h.trans (Only.of_below (S := fun _ => False) hb) (fun _ _ h => h.elim)
theorem PS.below {w0 W W' : World} {g : Nat} {v : List UInt8} {f t q : Int} {CH : Value} (h : PS w0 W g v f t q CH) (hB : Below W.heap.size W W') : PS w0 W' g v f t q CH := by
 obtain ⟨A, c, hb, hc, hC⟩ := h
 exact ⟨A, c, blk_below hb hB, hc, hC⟩
theorem u16_small (n : Int) (h : 0 ≤ n) (h2 : n < 65536) : IntKind.u16.wrap n = n := by simp only [IntKind.wrap, IntKind.bits, IntKind.signed]; simp; omega
theorem be_lt2 (l : List UInt8) (h : l.length ≤ 2) : be l < 65536 := by
 have h1 := fold_lt l 0
 have h2 : 256 ^ l.length ≤ 256 ^ 2 := Nat.pow_le_pow_right (by decide) h
 unfold be
 omega
def hdF (b : List UInt8) : Nat := be (b.take 2)
def hdT (b : List UInt8) : Nat := be ((b.drop 2).take 2)
def hdQ (b : List UInt8) : Nat := be (((b.drop 2).drop 2).take 4)
def headE (b : List UInt8) : Int := if 65536 < b.length then 2 else if checkL b = 0 then (if (decide (0 < (hdF b : Int)) && decide (0 < (hdT b : Int))) = true then 0 else 72) else checkL b
def pkhT3 : Bool × List (List Nat × List Nat) := (true, [([], []), ([], []), ([], []), ([], []), ([3], [3]), ([4], [4]), ([5], [5]), ([6], [6]), ([], []), ([8], [8]), ([9], [9]), ([10, 6], [10]), ([11], [11]), ([], []), ([13], [13]), ([14], [14]), ([15, 11], [15]), ([0, 0, 3, 4, 5, 6, 7, 11, 16], [0]), ([17, 0, 3, 4, 5, 6, 7, 11, 16], [17]), ([18, 0, 3, 4, 5, 6, 7, 11, 16], [18]), ([19, 7, 16, 0, 3, 4, 5, 6, 7, 11, 16], [7, 19]), ([1, 0, 1, 3, 4, 5, 6, 7, 8, 9, 10, 11, 12, 16, 17, 18, 19, 20], [1]), ([21, 0, 1, 3, 4, 5, 6, 7, 8, 9, 10, 11, 12, 16, 17, 18, 19, 20], [21]), ([22, 0, 1, 3, 4, 5, 6, 7, 8, 9, 10, 11, 12, 16, 17, 18, 19, 20], [22]), ([23, 12, 20, 0, 1, 3, 4, 5, 6, 7, 8, 9, 10, 11, 12, 16, 17, 18, 19, 20], [12, 23]), ([2, 0, 1, 2, 3, 4, 5, 6, 7, 8, 9, 10, 11, 12, 13, 14, 15, 16, 17, 18, 19, 20, 21, 22, 23, 24], [2]), ([25, 0, 1, 2, 3, 4, 5, 6, 7, 8, 9, 10, 11, 12, 13, 14, 15, 16, 17, 18, 19, 20, 21, 22, 23, 24], [25]), ([26, 0, 1, 2, 3, 4, 5, 6, 7, 8, 9, 10, 11, 12, 13, 14, 15, 16, 17, 18, 19, 20, 21, 22, 23, 24], [26]), ([27, 16, 24, 0, 1, 2, 3, 4, 5, 6, 7, 8, 9, 10, 11, 12, 13, 14, 15, 16, 17, 18, 19, 20, 21, 22, 23, 24], [16, 27])])
def pkhB3 : List Nat := [0, 0, 0, 0, 8, 24, 56, 120, 0, 256, 768, 1912, 3960, 0, 8192, 24576, 61304, 126969, 258041, 520185, 1044473, 2097147, 4194299, 8388603, 16777211, 33554431, 67108863, 134217727, 268435455]
theorem pkhtab3 : Go.Proofs.YtdlamomabonkjaaDoorW.PrintLast.rtab .any (Go.Proofs.YtdlamomabonkjaaDoorW.PrintLast.opsOf Tryd.f58 3) = pkhT3 := by kernel_rfl
theorem pkhbits3 : Go.Proofs.YtdlamomabonkjaaDoorW.PrintLast.waitsOk pkhT3.2 pkhB3 = true := by kernel_rfl
def HeadP (w0 w : World) (g : Nat) (v : List UInt8) (E nf nt nq : Int) (e : Ending) (w' : World) : Prop :=
 Only (· = g) w w' ∧ (E ≠ 0 → e = errP 0 E ∧ ∃ x0, w'.heap[g]? = some (.cells x0 99 (0, 0))) ∧ (E = 0 → e = .returned (.tuple #[]) ∧ PS w0 w' g (v.drop 12) nf nt nq (.slice none 0 0))
theorem blk_sub {w : World} {g : Nat} {t : TypeId} {cs : Array Value} (h : w.heap[g]? = some (.cells cs t (0, 0))) (k : Nat) (sub : Array Value) (hs : ∀ j v, sub.toList[j]? = some v → cs[k + j]? = some v) : ∀ j v, sub.toList[j]? = some v → w.cell? ((⟨g, k, none⟩ : Addr).add j) = some v := by
 intro j v hv
 rw [WideShapes.add_plain, blk_cell h]
 exact hs j v hv
theorem PS.sub {w0 W : World} {g : Nat} {v : List UInt8} {f t q : Int} {CH : Value} (h : PS w0 W g v f t q CH) : ∀ j u, (#[.int .u16 f, .int .u16 t, .int .u32 q, CH] : Array Value).toList[j]? = some u → W.cell? ((⟨g, 1, none⟩ : Addr).add j) = some u := by
 obtain ⟨A, c, hb, hc, hC⟩ := h
 refine blk_sub hb 1 _ fun j u hu => ?_
 match j, hu with
 | 0, hu => exact hu
 | 1, hu => exact hu
 | 2, hu => exact hu
 | 3, hu => exact hu
 | _ + 4, hu => simp at hu
theorem PS.blk {w0 W : World} {g : Nat} {v : List UInt8} {f t q : Int} {CH : Value} (h : PS w0 W g v f t q CH) : ∃ x0, W.heap[g]? = some (.cells x0 99 (0, 0)) := by
 obtain ⟨A, c, hb, hc, hC⟩ := h
 exact ⟨_, hb⟩
set_option maxHeartbeats 4000000 in
theorem head_calls (w0 w : World) (g : Nat) (v : List UInt8) (hT : Table w) (hs : PS w0 w g v 0 0 0 (.slice none 0 0)) (hB : Below w0.heap.size w0 w) (hg : w0.heap.size ≤ g) (hv : v.length ≤ 140737488355328) :
  Calls Tryd.prog 58 #[.pointer (some ⟨g, 0, none⟩)] w (HeadP w0 w g v (headE v) (hdF v : Nat) (hdT v : Nat) (hdQ v : Nat)) := by
 have HS0 := Lh hs
 have HHP := Lh (fun (W : World) (E nf nt nq : Int) (e : Ending) (h : Only (· = g) w W ∧ (E ≠ 0 → e = errP 0 E ∧ ∃ x0, W.heap[g]? = some (.cells x0 99 (0, 0))) ∧ (E = 0 → e = .returned (.tuple #[]) ∧ PS w0 W g (v.drop 12) nf nt nq (.slice none 0 0))) => (show HeadP w0 w g v E nf nt nq e W from h))
 have hlt : g < w.heap.size := by obtain ⟨A, c, hb, _⟩ := hs; exact blk_lt hb
 have HM := Lh (fun (W : World) (a c : Int) => must_bad W a c)
 have HMO := Lh (fun (W : World) (a c : Int) => must_ok W a c)
 obtain ⟨A, c, hb, hc, hC⟩ := hs
 have k0 : w.cell? ⟨g, 0, none⟩ = some (.slice A v.length c) := blk_cell hb 0
 have HBK := Lh (fun (W : World) (h : Below w.heap.size w W) => blk_below hb h)
 by_cases h6 : 65536 < v.length
 ·have hE : headE v = 2 := by unfold headE; rw [if_pos h6]
  have hz : decide ((v.length : Int) ≤ 65536) = false := decide_eq_false (by omega)
  rw [hE]
  clear hE hb hc hC HS0 hT h6 hv HMO
  generalize v.length = n at *
  clear HHP
  unfold errP at HM
  unfold HeadP errP
  go_enter Tryd.func58, Tryd.ntmps58
  go_wp2_with fail
  refine (HM.out _ _ _).mono ?_
  rintro e w1 ⟨rfl, rfl⟩
  exact ⟨rfl, Only.refl _ _, fun _ => ⟨rfl, _, HBK.out _ (Below.refl _ _)⟩, fun h => absurd h (by decide)⟩
 ·have hz : decide ((v.length : Int) ≤ 65536) = true := decide_eq_true (by omega)
  have HCK := Lh (fun (W : World) (h : Below w.heap.size w W) => Crc.check_calls A c v W (hT.below h) (Kd.C_below hC (below_then hB hB.size h)) hc hv)
  have k0 : w.cell? ⟨g, 0, none⟩ = some (.slice A v.length c) := blk_cell hb 0
  by_cases hcz : checkL v = 0
  ·have hlen : 12 ≤ v.length := by
    unfold checkL at hcz
    split at hcz
    ·cases hcz
    ·omega
   have hE : headE v = if (decide (0 < (hdF v : Int)) && decide (0 < (hdT v : Int))) = true then 0 else 72 := by unfold headE; rw [if_neg h6, if_pos hcz]
   have HPB := Lh (ports_ok ((hdF v : Nat) : Int) ((hdT v : Nat) : Int) ((hdQ v : Nat) : Int) [])
   rw [hE]
   obtain ⟨E, hEE⟩ : ∃ E : Int, (if (decide (0 < (hdF v : Int)) && decide (0 < (hdT v : Int))) = true then 0 else 72) = E := ⟨_, rfl⟩
   rw [hEE]
   have HEE := Lh hEE
   clear hEE
   rw [hcz] at HCK
   clear hE hcz
   have HS := Lh (fun (W : World) (h : Below w.heap.size w W) => (show PS w0 W g v 0 0 0 (.slice none 0 0) from ⟨A, c, blk_below hb h, hc, hC⟩))
   clear hb hc hC HS0 hT
   go_enter Tryd.func58, Tryd.ntmps58
   go_wp2_with fail
   refine (HMO.out _ _ _).mono ?_
   rintro e w1 ⟨rfl, rfl⟩
   go_wp2_with fail
   refine (HCK.out _ (Below.refl _ _)).mono ?_
   rintro e w1 ⟨rfl, hB1⟩
   have HB1 := Lh hB1
   clear hB1 HCK k0
   go_wp2_with fail
   refine (HMO.out _ _ _).mono ?_
   rintro e w2 ⟨rfl, rfl⟩
   go_upto_region 3 with (fail)
   clear hz
   have HW1 := Lh (show IntKind.u16.wrap ((hdF v : Nat) : Int) = ((hdF v : Nat) : Int) from u16_small _ (by omega) (by have := be_lt2 (v.take 2) (by rw [List.length_take]; omega); unfold hdF; omega))
   have HW2 := Lh (show IntKind.u16.wrap ((hdT v : Nat) : Int) = ((hdT v : Nat) : Int) from u16_small _ (by omega) (by have := be_lt2 ((v.drop 2).take 2) (by rw [List.length_take]; omega); unfold hdT; omega))
   have HS2 := Lh (show PS w0 w2.drew g v 0 0 0 (.slice none 0 0) from HS.out w2.drew (pw_below_drewN HB1.out 1))
   clear HS
   have HBW := Lh (fun (W : World) (h : Only (· = g) w2 W) => (show Below w0.heap.size w0 W from (below_then hB hB.size HB1.out).trans (h.below (Nat.le_trans hB.size HB1.out.size) (fun k hk => by subst hk; exact hg))))
   have HN1 := Lh (fun (W : World) (h : PS w0 W g v 0 0 0 (.slice none 0 0) ∧ Only (· = g) w2 W) => (number_calls w0 W g 2 v 0 0 0 _ h.1 (HBW.out W h.2) hg (by omega) (by omega) hv).mono fun e w' ⟨he, hp, ho⟩ => (⟨he, hp, h.2.trans ho (fun _ _ h => h)⟩ : _ ∧ PS w0 w' g (v.drop 2) 0 0 0 (.slice none 0 0) ∧ Only (· = g) w2 w'))
   have HN2 := Lh (fun (W : World) (h : PS w0 W g (v.drop 2) 0 0 0 (.slice none 0 0) ∧ Only (· = g) w2 W) => (number_calls w0 W g 2 (v.drop 2) 0 0 0 _ h.1 (HBW.out W h.2) hg (by rw [List.length_drop]; omega) (by omega) (by rw [List.length_drop]; omega)).mono fun e w' ⟨he, hp, ho⟩ => (⟨he, hp, h.2.trans ho (fun _ _ h => h)⟩ : _ ∧ PS w0 w' g ((v.drop 2).drop 2) 0 0 0 (.slice none 0 0) ∧ Only (· = g) w2 w'))
   have HN3 := Lh (fun (W : World) (h : PS w0 W g ((v.drop 2).drop 2) 0 0 0 (.slice none 0 0) ∧ Only (· = g) w2 W) => (number_calls w0 W g 4 ((v.drop 2).drop 2) 0 0 0 _ h.1 (HBW.out W h.2) hg (by simp only [List.length_drop]; omega) (by omega) (by simp only [List.length_drop]; omega)).mono fun e w' ⟨he, hp, ho⟩ => (⟨he, hp, h.2.trans ho (fun _ _ h => h)⟩ : _ ∧ PS w0 w' g (((v.drop 2).drop 2).drop 4) 0 0 0 (.slice none 0 0) ∧ Only (· = g) w2 w'))
   rw [show be (v.take 2) = hdF v from rfl] at HN1
   rw [show be ((v.drop 2).take 2) = hdT v from rfl] at HN2
   rw [show be (((v.drop 2).drop 2).take 4) = hdQ v from rfl] at HN3
   generalize ((hdF v : Nat) : Int) = nf at *
   generalize ((hdT v : Nat) : Int) = nt at *
   generalize ((hdQ v : Nat) : Int) = nq at *
   refine grow_known (B := pkhB3) [0, 1, 2, 3, 4, 5, 6, 7, 8, 9, 10, 11, 12, 13, 14, 15, 16, 17, 18, 19, 20, 21, 22, 23, 24, 25, 26, 27, 28] [6, 11, 16, 20, 24, 28] (fun s W => match s with | 0 => PS w0 W g v 0 0 0 (.slice none 0 0) ∧ Only (· = g) w2 W | 1 => PS w0 W g (v.drop 2) 0 0 0 (.slice none 0 0) ∧ Only (· = g) w2 W | 2 => PS w0 W g ((v.drop 2).drop 2) 0 0 0 (.slice none 0 0) ∧ Only (· = g) w2 W | 3 => PS w0 W g (((v.drop 2).drop 2).drop 4) 0 0 0 (.slice none 0 0) ∧ Only (· = g) w2 W | 4 => PS w0 W g (((v.drop 2).drop 2).drop 4) nf 0 0 (.slice none 0 0) ∧ Only (· = g) w2 W | 5 => PS w0 W g (((v.drop 2).drop 2).drop 4) nf nt 0 (.slice none 0 0) ∧ Only (· = g) w2 W | _ => PS w0 W g (((v.drop 2).drop 2).drop 4) nf nt nq (.slice none 0 0) ∧ Only (· = g) w2 W) [(0, 21, .pointer (some ⟨g, 0, none⟩)), (1, 22, .pointer (some ⟨g, 0, none⟩)), (2, 23, .pointer (some ⟨g, 0, none⟩)), (3, 24, .pointer (some ⟨g, 0, none⟩)), (4, 25, .pointer (some ⟨g, 0, none⟩)), (5, 26, .pointer (some ⟨g, 0, none⟩)), (6, 27, .int .u32 nf), (7, 28, .int .u16 nf), (8, 29, .pointer (some ⟨g, 0, none⟩)), (9, 30, .pointer (some ⟨g, 0, none⟩)), (10, 31, .pointer (some ⟨g, 0, none⟩)), (11, 32, .int .u32 nt), (12, 33, .int .u16 nt), (13, 34, .pointer (some ⟨g, 0, none⟩)), (14, 35, .pointer (some ⟨g, 0, none⟩)), (15, 36, .pointer (some ⟨g, 0, none⟩)), (16, 37, .int .u32 nq), (17, 38, .pointer (some ⟨g, 0, none⟩)), (18, 39, .pointer (some ⟨g, 1, none⟩)), (19, 40, .pointer (some ⟨g, 1, none⟩)), (21, 41, .pointer (some ⟨g, 0, none⟩)), (22, 42, .pointer (some ⟨g, 1, none⟩)), (23, 43, .pointer (some ⟨g, 2, none⟩)), (25, 44, .pointer (some ⟨g, 0, none⟩)), (26, 45, .pointer (some ⟨g, 1, none⟩)), (27, 46, .pointer (some ⟨g, 3, none⟩))] (by kernel_rfl) rfl (l := #[false, false, false, false, false, false, false, false, false, false, false, false, false, false, false, false, false, false, false, false, false, false, false, false, false, false, false, false, false]) rfl pkhtab3 pkhbits3 (by kernel_rfl) (by kernel_rfl) rfl rfl ?_ ?_ ?_
   ·exact ⟨HS2.out, (Only.refl _ _).drew⟩
   ·exact steps_cons (gk_op (p := 0) (fun _ => True) 0 0 rfl rfl rfl rfl rfl rfl (u := .pointer (some ⟨g, 0, none⟩)) (rd_off (p := 0) (fun _ => rfl) rfl) (fun _ _ _ => trivial) (fun a w hJ e => by go_simp)) (steps_cons (gk_op (p := 0) (fun _ => True) 1 1 rfl rfl rfl rfl rfl rfl (u := .pointer (some ⟨g, 0, none⟩)) (rd_off (p := 0) (fun _ => rfl) rfl) (fun _ _ _ => trivial) (fun a w hJ e => by go_simp)) (steps_cons (gk_op (p := 0) (fun _ => True) 2 2 rfl rfl rfl rfl rfl rfl (u := .pointer (some ⟨g, 0, none⟩)) (rd_off (p := 0) (fun _ => rfl) rfl) (fun _ _ _ => trivial) (fun a w hJ e => by go_simp)) (steps_cons (gk_op (p := 0) (fun _ => True) 3 3 rfl rfl rfl rfl rfl rfl (u := .pointer (some ⟨g, 0, none⟩)) (rd_off (p := 0) (fun _ => rfl) rfl) (fun _ _ _ => trivial) (fun a w hJ e => by go_simp)) (steps_cons (gk_op (p := 24) (fun _ => True) 4 4 rfl rfl rfl rfl rfl rfl (u := .pointer (some ⟨g, 0, none⟩)) (rd_on (p := 24) 3 3 (fun _ => rfl) (fun _ => rfl) (by kernel_rfl) rfl) (fun _ _ _ => trivial) (fun a w hJ e => by go_simp)) (steps_cons (gk_op (p := 25) (fun _ => True) 5 5 rfl rfl rfl rfl rfl rfl (u := .pointer (some ⟨g, 0, none⟩)) (rd_on (p := 25) 4 4 (fun _ => rfl) (fun _ => rfl) (by kernel_rfl) rfl) (fun _ _ _ => trivial) (fun a w hJ e => by go_simp)) (steps_cons (gk_call (v := .int .u32 nf) (vals := [.pointer (some ⟨g, 0, none⟩), .int .i64 2]) 6 6 0 rfl rfl rfl rfl rfl rfl rfl (by kernel_rfl) Tryd.func80 (by kernel_rfl) rfl rfl (ar_t (rd_on (p := 26) 5 5 (fun _ => rfl) (fun _ => rfl) (by kernel_rfl) rfl) (ar_c (.int .i64 2) (ar_n))) (fun w h => (HN1.out w h))) (steps_cons (gk_op (p := 27) (fun _ => True) 7 7 rfl rfl rfl rfl rfl rfl (u := .int .u32 nf) (rd_on (p := 27) 6 6 (fun _ => rfl) (fun _ => rfl) (by kernel_rfl) rfl) (fun _ _ _ => trivial) (fun a w hJ e => by have h16 := HW1.out; go_simp)) (steps_cons (gk_op (p := 0) (fun _ => True) 8 8 rfl rfl rfl rfl rfl rfl (u := .pointer (some ⟨g, 0, none⟩)) (rd_off (p := 0) (fun _ => rfl) rfl) (fun _ _ _ => trivial) (fun a w hJ e => by go_simp)) (steps_cons (gk_op (p := 29) (fun _ => True) 9 9 rfl rfl rfl rfl rfl rfl (u := .pointer (some ⟨g, 0, none⟩)) (rd_on (p := 29) 8 8 (fun _ => rfl) (fun _ => rfl) (by kernel_rfl) rfl) (fun _ _ _ => trivial) (fun a w hJ e => by go_simp)) (steps_cons (gk_op (p := 30) (fun _ => True) 10 10 rfl rfl rfl rfl rfl rfl (u := .pointer (some ⟨g, 0, none⟩)) (rd_on (p := 30) 9 9 (fun _ => rfl) (fun _ => rfl) (by kernel_rfl) rfl) (fun _ _ _ => trivial) (fun a w hJ e => by go_simp)) (steps_cons (gk_call (v := .int .u32 nt) (vals := [.pointer (some ⟨g, 0, none⟩), .int .i64 2]) 11 11 1 rfl rfl rfl rfl rfl rfl rfl (by kernel_rfl) Tryd.func80 (by kernel_rfl) rfl rfl (ar_t (rd_on (p := 31) 10 10 (fun _ => rfl) (fun _ => rfl) (by kernel_rfl) rfl) (ar_c (.int .i64 2) (ar_n))) (fun w h => (HN2.out w h))) (steps_cons (gk_op (p := 32) (fun _ => True) 12 12 rfl rfl rfl rfl rfl rfl (u := .int .u32 nt) (rd_on (p := 32) 11 11 (fun _ => rfl) (fun _ => rfl) (by kernel_rfl) rfl) (fun _ _ _ => trivial) (fun a w hJ e => by have h16 := HW2.out; go_simp)) (steps_cons (gk_op (p := 0) (fun _ => True) 13 13 rfl rfl rfl rfl rfl rfl (u := .pointer (some ⟨g, 0, none⟩)) (rd_off (p := 0) (fun _ => rfl) rfl) (fun _ _ _ => trivial) (fun a w hJ e => by go_simp)) (steps_cons (gk_op (p := 34) (fun _ => True) 14 14 rfl rfl rfl rfl rfl rfl (u := .pointer (some ⟨g, 0, none⟩)) (rd_on (p := 34) 13 13 (fun _ => rfl) (fun _ => rfl) (by kernel_rfl) rfl) (fun _ _ _ => trivial) (fun a w hJ e => by go_simp)) (steps_cons (gk_op (p := 35) (fun _ => True) 15 15 rfl rfl rfl rfl rfl rfl (u := .pointer (some ⟨g, 0, none⟩)) (rd_on (p := 35) 14 14 (fun _ => rfl) (fun _ => rfl) (by kernel_rfl) rfl) (fun _ _ _ => trivial) (fun a w hJ e => by go_simp)) (steps_cons (gk_call (v := .int .u32 nq) (vals := [.pointer (some ⟨g, 0, none⟩), .int .i64 4]) 16 16 2 rfl rfl rfl rfl rfl rfl rfl (by kernel_rfl) Tryd.func80 (by kernel_rfl) rfl rfl (ar_t (rd_on (p := 36) 15 15 (fun _ => rfl) (fun _ => rfl) (by kernel_rfl) rfl) (ar_c (.int .i64 4) (ar_n))) (fun w h => (HN3.out w h))) (steps_cons (gk_op (p := 21) (fun _ => True) 17 17 rfl rfl rfl rfl rfl rfl (u := .pointer (some ⟨g, 0, none⟩)) (rd_on (p := 21) 0 0 (fun _ => rfl) (fun _ => rfl) (by kernel_rfl) rfl) (fun _ _ _ => trivial) (fun a w hJ e => by go_simp)) (steps_cons (gk_op (p := 38) (fun _ => True) 18 18 rfl rfl rfl rfl rfl rfl (u := .pointer (some ⟨g, 0, none⟩)) (rd_on (p := 38) 17 17 (fun _ => rfl) (fun _ => rfl) (by kernel_rfl) rfl) (fun _ _ _ => trivial) (fun a w hJ e => by go_simp)) (steps_cons (gk_op (p := 39) (fun _ => True) 19 19 rfl rfl rfl rfl rfl rfl (u := .pointer (some ⟨g, 1, none⟩)) (rd_on (p := 39) 18 18 (fun _ => rfl) (fun _ => rfl) (by kernel_rfl) rfl) (fun _ _ _ => trivial) (fun a w hJ e => by go_simp)) (steps_cons (gk_store (p := 40) (s := 28) (u := .pointer (some ⟨g, 1, none⟩)) (v := .int .u16 nf) (f := fun W => W.setCell ⟨g, 1, none⟩ (.int .u16 nf)) 20 3 rfl rfl rfl rfl rfl rfl (by kernel_rfl) (rd_on (p := 40) 19 19 (fun _ => rfl) (fun _ => rfl) (by kernel_rfl) rfl) (rd_on (p := 28) 7 7 (fun _ => rfl) (fun _ => rfl) (by kernel_rfl) rfl) (fun a w h e1 e2 => by obtain ⟨A, c, hb, hc, hC⟩ := h.1; have f0 := blk_frozen hb 1; have k0 := blk_cell hb 1; go_simp) (fun w h => ⟨h.1.put1 _, h.2.setCell (fun _ => rfl) _⟩)) (steps_cons (gk_op (p := 22) (fun _ => True) 21 20 rfl rfl rfl rfl rfl rfl (u := .pointer (some ⟨g, 0, none⟩)) (rd_on (p := 22) 1 1 (fun _ => rfl) (fun _ => rfl) (by kernel_rfl) rfl) (fun _ _ _ => trivial) (fun a w hJ e => by go_simp)) (steps_cons (gk_op (p := 41) (fun _ => True) 22 21 rfl rfl rfl rfl rfl rfl (u := .pointer (some ⟨g, 0, none⟩)) (rd_on (p := 41) 20 21 (fun _ => rfl) (fun _ => rfl) (by kernel_rfl) rfl) (fun _ _ _ => trivial) (fun a w hJ e => by go_simp)) (steps_cons (gk_op (p := 42) (fun _ => True) 23 22 rfl rfl rfl rfl rfl rfl (u := .pointer (some ⟨g, 1, none⟩)) (rd_on (p := 42) 21 22 (fun _ => rfl) (fun _ => rfl) (by kernel_rfl) rfl) (fun _ _ _ => trivial) (fun a w hJ e => by go_simp)) (steps_cons (gk_store (p := 43) (s := 33) (u := .pointer (some ⟨g, 2, none⟩)) (v := .int .u16 nt) (f := fun W => W.setCell ⟨g, 2, none⟩ (.int .u16 nt)) 24 4 rfl rfl rfl rfl rfl rfl (by kernel_rfl) (rd_on (p := 43) 22 23 (fun _ => rfl) (fun _ => rfl) (by kernel_rfl) rfl) (rd_on (p := 33) 12 12 (fun _ => rfl) (fun _ => rfl) (by kernel_rfl) rfl) (fun a w h e1 e2 => by obtain ⟨A, c, hb, hc, hC⟩ := h.1; have f0 := blk_frozen hb 2; have k0 := blk_cell hb 2; go_simp) (fun w h => ⟨h.1.put2 _, h.2.setCell (fun _ => rfl) _⟩)) (steps_cons (gk_op (p := 23) (fun _ => True) 25 23 rfl rfl rfl rfl rfl rfl (u := .pointer (some ⟨g, 0, none⟩)) (rd_on (p := 23) 2 2 (fun _ => rfl) (fun _ => rfl) (by kernel_rfl) rfl) (fun _ _ _ => trivial) (fun a w hJ e => by go_simp)) (steps_cons (gk_op (p := 44) (fun _ => True) 26 24 rfl rfl rfl rfl rfl rfl (u := .pointer (some ⟨g, 0, none⟩)) (rd_on (p := 44) 23 25 (fun _ => rfl) (fun _ => rfl) (by kernel_rfl) rfl) (fun _ _ _ => trivial) (fun a w hJ e => by go_simp)) (steps_cons (gk_op (p := 45) (fun _ => True) 27 25 rfl rfl rfl rfl rfl rfl (u := .pointer (some ⟨g, 1, none⟩)) (rd_on (p := 45) 24 26 (fun _ => rfl) (fun _ => rfl) (by kernel_rfl) rfl) (fun _ _ _ => trivial) (fun a w hJ e => by go_simp)) (steps_cons (gk_store (p := 46) (s := 37) (u := .pointer (some ⟨g, 3, none⟩)) (v := .int .u32 nq) (f := fun W => W.setCell ⟨g, 3, none⟩ (.int .u32 nq)) 28 5 rfl rfl rfl rfl rfl rfl (by kernel_rfl) (rd_on (p := 46) 25 27 (fun _ => rfl) (fun _ => rfl) (by kernel_rfl) rfl) (rd_on (p := 37) 16 16 (fun _ => rfl) (fun _ => rfl) (by kernel_rfl) rfl) (fun a w h e1 e2 => by obtain ⟨A, c, hb, hc, hC⟩ := h.1; have f0 := blk_frozen hb 3; have k0 := blk_cell hb 3; go_simp) (fun w h => ⟨h.1.put3 _, h.2.setCell (fun _ => rfl) _⟩)) steps_nil))))))))))))))))))))))))))))
   intro W4 hI
   have HI := Lh (show PS w0 W4 g (((v.drop 2).drop 2).drop 4) nf nt nq (.slice none 0 0) ∧ Only (· = g) w2 W4 from hI)
   clear hI HN1 HN2 HN3 HS2
   simp only [putSel, if_true, Act.put, List.setIfInBounds_toArray, List.set_cons_zero, List.set_cons_succ]
   have HN4 := Lh ((number_calls w0 W4 g 4 (((v.drop 2).drop 2).drop 4) nf nt nq _ HI.out.1 (HBW.out W4 HI.out.2) hg (by simp only [List.length_drop]; omega) (by omega) (by simp only [List.length_drop]; omega)).mono fun e w' ⟨he, hp, ho⟩ => (⟨he, hp, HI.out.2.trans ho (fun _ _ h => h)⟩ : _ ∧ PS w0 w' g ((((v.drop 2).drop 2).drop 4).drop 4) nf nt nq (.slice none 0 0) ∧ Only (· = g) w2 w'))
   rw [show (((v.drop 2).drop 2).drop 4).drop 4 = v.drop 12 by simp only [List.drop_drop]] at HN4
   go_wp2_with fail
   refine HN4.out.mono ?_
   rintro e W5 ⟨rfl, hP5, hO5⟩
   have HP5 := Lh hP5
   have hO6 := HB1.out
   have HO5 := Lh ((Only.of_below (S := (· = g)) HB1.out).trans hO5 (fun _ _ h => h))
   have HPC := Lh (fun (W : World) => packet_ports.calls nf nt nq none 0 [] _ W (Kd.C_nil _ _) (Nat.le_refl _) HPB.out)
   clear hP5 hO5 hO6 HN4 HI HBW HB1 HPB HBK
   generalize (decide (0 < nf) && decide (0 < nt)) = pb at *
   have hsub := HP5.out.sub
   have HSB := Lh hsub
   clear hsub
   go_wp2_with (with_reducible refine gate_dst (N := 54) rfl ?_; go_must (refine wpList_load_cells rfl 26 (.tmp 53) rfl rfl #[.int .u16 nf, .int .u16 nt, .int .u32 nq, .slice none 0 0] _ (fun j v hv => HSB.out j v hv) Tryd.underlying26 rfl (by kernel_rfl) ?_))
   refine (HPC.out W5).mono ?_
   rintro e W6 ⟨rfl, hB6⟩
   have HB6 := Lh hB6
   clear hB6 HPC HSB
   cases pb with
   | true =>
    have hE0 := HEE.out
    rw [if_pos rfl] at hE0
    subst hE0
    go_wp2_with fail
    refine (HMO.out _ _ _).mono ?_
    rintro e W7 ⟨rfl, rfl⟩
    go_wp2
    exact ⟨rfl, _, results_none rfl _ _ _, HHP.out _ _ _ _ _ _ ⟨HO5.out.thn HB6.out, fun h => absurd rfl h, fun _ => ⟨rfl, HP5.out.below HB6.out⟩⟩⟩
   | false =>
    have hE0 := HEE.out
    rw [if_neg (by decide)] at hE0
    subst hE0
    unfold errP at HM HHP
    go_wp2_with fail
    refine (HM.out _ _ _).mono ?_
    rintro e W7 ⟨rfl, rfl⟩
    exact ⟨rfl, HHP.out _ _ _ _ _ _ ⟨HO5.out.thn HB6.out, fun _ => ⟨rfl, (HP5.out.below HB6.out).blk⟩, fun h => absurd h (by decide)⟩⟩
  ·have hE : headE v = checkL v := by unfold headE; rw [if_neg h6, if_neg hcz]
   rw [hE]
   have hez : (checkL v == 0) = false := by simp [hcz]
   have HCZ := Lh hcz
   clear hE hb hc hC HS0 hT h6 hv hcz
   generalize checkL v = cv at *
   generalize v.length = n at *
   clear HHP
   unfold errP at HM
   unfold HeadP errP
   go_enter Tryd.func58, Tryd.ntmps58
   go_wp2_with fail
   refine (HMO.out _ _ _).mono ?_
   rintro e w1 ⟨rfl, rfl⟩
   go_wp2_with fail
   refine (HCK.out _ (Below.refl _ _)).mono ?_
   rintro e w1 ⟨rfl, hB1⟩
   have HB1 := Lh hB1
   clear hB1 HCK
   go_wp2_with fail
   refine (HM.out _ _ _).mono ?_
   rintro e w2 ⟨rfl, rfl⟩
   exact ⟨rfl, Only.of_below HB1.out, fun _ => ⟨rfl, _, HBK.out _ HB1.out⟩, fun h => absurd h HCZ.out⟩
end Go.Proofs.YtdlamomabonkjaaDoor.Pk
end
section
namespace Go.Proofs.YtdlamomabonkjaaDoor.Pk
open Go.RowKit YtdlamomabonkjaaDoorW.PrintWords YtdlamomabonkjaaDoorW.PrintLast Base PCh ParDec Ch Crc CrcMath
theorem _root_.Go.Proofs.YtdlamomabonkjaaDoor.Base.Only.setRow {S : Nat → Prop} {a w : World} (h : Only S a w) {g : Nat} (hg : g < a.heap.size → S g) (cs : Array Value) : Only S a (w.setRow g cs) :=
 ⟨h.os, h.tape, h.output, by rw [setRow_size]; exact h.size, fun k hk hn => (setRow_other _ _ _ _ (fun e => hn (by subst e; exact hg hk))).trans (h.block k hk hn)⟩
def pkrT5 : Bool × List (List Nat × List Nat) := (true, [([], []), ([], []), ([1], [1]), ([], []), ([3], [3]), ([0, 0], [0]), ([2, 5, 0, 1, 2, 5], [2]), ([4, 6, 0, 1, 2, 3, 4, 5, 6], [4])])
def pkrB5 : List Nat := [0, 0, 2, 0, 8, 1, 39, 127]
theorem pkrtab5 : Go.Proofs.YtdlamomabonkjaaDoorW.PrintLast.rtab .any (Go.Proofs.YtdlamomabonkjaaDoorW.PrintLast.opsOf Tryd.f57 5) = pkrT5 := by kernel_rfl
theorem pkrbits5 : Go.Proofs.YtdlamomabonkjaaDoorW.PrintLast.waitsOk pkrT5.2 pkrB5 = true := by kernel_rfl
theorem pcatch_idle (a b c : Addr) (w : World) :
  CallsD Tryd.prog 57 #[.pointer (some a), .pointer (some b), .pointer (some c)] .returning w fun e u' w' => e = .returned (.tuple #[]) ∧ u' = .returning ∧ w' = w := by
 refine callsD_of_wpS Tryd.func57 rfl fun c₀ cs hu => ?_
 apply wpS_seq
 apply wpS_region
 simp [wpOpsS, go_sem, recoverD, hu, Tryd.ntmps57, Exit.thenS]
 have ht : (#[Value.pointer (some a), Value.pointer (some b), Value.pointer (some c)] ++ ((Array.replicate 19 undef).setIfInBounds 3 Value.nilIface).setIfInBounds 0 Value.nilIface) = #[.pointer (some a), .pointer (some b), .pointer (some c), .nilIface, undef, undef, .nilIface, undef, undef, undef, undef, undef, undef, undef, undef, undef, undef, undef, undef, undef, undef, undef] := by kernel_rfl
 rw [ht]
 refine wpS_of_wp ?_
 go_wp2
 cases c₀
 simp_all [bodyPostS, results, Tryd.results57]
def fltV (at_ code : Int) : Value := .iface 93 (.agg #[.int .i64 at_, .int .i64 code])
set_option maxHeartbeats 4000000 in
theorem pcatch_err (a b c : Nat) (at_ code : Int) (older : List PanicEntry) (w : World) (x0 : Array Value) (x1 x2 : Value) (t1 t2 : TypeId)
  (h0 : w.heap[a]? = some (.cells x0 26 (0, 0))) (hx0 : x0.size = 4) (h1 : w.heap[b]? = some (.cells #[x1] t1 (0, 0))) (h2 : w.heap[c]? = some (.cells #[x2] t2 (0, 0))) (hab : a ≠ b) (hac : a ≠ c) (hbc : b ≠ c) :
  CallsD Tryd.prog 57 #[.pointer (some ⟨a, 0, none⟩), .pointer (some ⟨b, 0, none⟩), .pointer (some ⟨c, 0, none⟩)] (.panicking ({ v := fltV at_ code, recovered := false } :: older)) w fun e u' w' => e = .returned (.tuple #[]) ∧ u' = .panicking ({ v := fltV at_ code, recovered := true } :: older) ∧
   w'.heap[a]? = some (.cells #[.int .u16 0, .int .u16 0, .int .u32 0, .slice none 0 0] 26 (0, 0)) ∧ w'.heap[b]? = some (.cells #[.int .i64 at_] t1 (0, 0)) ∧ w'.heap[c]? = some (.cells #[.int .i64 code] t2 (0, 0)) ∧ Only (fun k => k = a ∨ k = b ∨ k = c) w w' := by
 unfold fltV
 refine callsD_of_wpS Tryd.func57 rfl fun c₀ cs hu => ?_
 apply wpS_seq
 apply wpS_region
 simp [wpOpsS, go_sem, recoverD, hu, Tryd.ntmps57, Exit.thenS]
 generalize hfv : (Value.iface 93 (.agg #[.int .i64 at_, .int .i64 code])) = fv at *
 have ht : ∀ fv : Value, (#[Value.pointer (some ⟨a, 0, none⟩), Value.pointer (some ⟨b, 0, none⟩), Value.pointer (some ⟨c, 0, none⟩)] ++ ((Array.replicate 19 undef).setIfInBounds 3 fv).setIfInBounds 0 fv) = #[.pointer (some ⟨a, 0, none⟩), .pointer (some ⟨b, 0, none⟩), .pointer (some ⟨c, 0, none⟩), fv, undef, undef, fv, undef, undef, undef, undef, undef, undef, undef, undef, undef, undef, undef, undef, undef, undef, undef] := fun fv => by kernel_rfl
 rw [ht]
 subst hfv
 have hta : ∀ W : World, (Instr.typeAssert (Value.iface 93 (.agg #[.int .i64 at_, .int .i64 code])) 20 93 true).run Tryd.prog W = .ok (.tuple #[.agg #[.int .i64 at_, .int .i64 code], .bool true]) W := fun W => by rfl
 refine wpS_of_wp ?_
 have hl0 := blk_lt h0
 have hl1 := blk_lt h1
 have hl2 := blk_lt h2
 have H0 := Lh (fun (W : World) (h : Below w.heap.size w W) => (⟨blk_below h0 h, blk_below h1 h, blk_below h2 h⟩ : W.heap[a]? = some (.cells x0 26 (0, 0)) ∧ W.heap[b]? = some (.cells #[x1] t1 (0, 0)) ∧ W.heap[c]? = some (.cells #[x2] t2 (0, 0))))
 have HX0 := Lh (show x0.size = (#[.int .u16 0, .int .u16 0, .int .u32 0, .slice none 0 0] : Array Value).size from hx0)
 obtain ⟨gf, hgf⟩ : ∃ gf, w.heap.size = gf := ⟨_, rfl⟩
 have HNE := Lh (show (a ≠ b ∧ a ≠ c ∧ b ≠ c) ∧ a < gf ∧ b < gf ∧ c < gf from ⟨⟨hab, hac, hbc⟩, by omega, by omega, by omega⟩)
 clear h0 h1 h2 hx0 hab hac hbc hl0 hl1 hl2
 go_upto_region 5 with (fail)
 refine wp_gen (fun W => W.heap[w.heap.size]? = some (.cells #[.int .i64 at_, .int .i64 code] 93 (0, 0)) ∧ Below w.heap.size w W) ⟨by first | exact blk_new _ _ | exact blk_put (blk_new _ _) 0 _ rfl, below_alloc (Below.refl _ _) _⟩ ?_
 rintro W0 ⟨hf0, hB0⟩
 rw [hgf] at hf0
 try rw [hgf]
 obtain ⟨ka, kb, kc⟩ := H0.out W0 hB0
 have HI := Lh (⟨ka, kb, kc, hf0, Only.of_below hB0⟩ : W0.heap[a]? = some (.cells x0 26 (0, 0)) ∧ W0.heap[b]? = some (.cells #[x1] t1 (0, 0)) ∧ W0.heap[c]? = some (.cells #[x2] t2 (0, 0)) ∧ W0.heap[gf]? = some (.cells #[.int .i64 at_, .int .i64 code] 93 (0, 0)) ∧ Only (fun k => k = a ∨ k = b ∨ k = c) w W0)
 clear ka kb kc hf0 hB0 H0 hta ht
 refine grow_known (B := pkrB5) [0, 1, 2, 3, 4, 5, 6, 7] [5, 6, 7] (fun s W => match s with | 0 => W.heap[a]? = some (.cells x0 26 (0, 0)) ∧ W.heap[b]? = some (.cells #[x1] t1 (0, 0)) ∧ W.heap[c]? = some (.cells #[x2] t2 (0, 0)) ∧ W.heap[gf]? = some (.cells #[.int .i64 at_, .int .i64 code] 93 (0, 0)) ∧ Only (fun k => k = a ∨ k = b ∨ k = c) w W | 1 => W.heap[a]? = some (.cells #[.int .u16 0, .int .u16 0, .int .u32 0, .slice none 0 0] 26 (0, 0)) ∧ W.heap[b]? = some (.cells #[x1] t1 (0, 0)) ∧ W.heap[c]? = some (.cells #[x2] t2 (0, 0)) ∧ W.heap[gf]? = some (.cells #[.int .i64 at_, .int .i64 code] 93 (0, 0)) ∧ Only (fun k => k = a ∨ k = b ∨ k = c) w W | 2 => W.heap[a]? = some (.cells #[.int .u16 0, .int .u16 0, .int .u32 0, .slice none 0 0] 26 (0, 0)) ∧ W.heap[b]? = some (.cells #[.int .i64 at_] t1 (0, 0)) ∧ W.heap[c]? = some (.cells #[x2] t2 (0, 0)) ∧ W.heap[gf]? = some (.cells #[.int .i64 at_, .int .i64 code] 93 (0, 0)) ∧ Only (fun k => k = a ∨ k = b ∨ k = c) w W | _ => W.heap[a]? = some (.cells #[.int .u16 0, .int .u16 0, .int .u32 0, .slice none 0 0] 26 (0, 0)) ∧ W.heap[b]? = some (.cells #[.int .i64 at_] t1 (0, 0)) ∧ W.heap[c]? = some (.cells #[.int .i64 code] t2 (0, 0)) ∧ W.heap[gf]? = some (.cells #[.int .i64 at_, .int .i64 code] 93 (0, 0)) ∧ Only (fun k => k = a ∨ k = b ∨ k = c) w W) [(0, 17, .agg #[.int .u16 0, .int .u16 0, .int .u32 0, .slice none 0 0]), (1, 18, .pointer (some ⟨gf, 0, none⟩)), (2, 19, .int .i64 at_), (3, 20, .pointer (some ⟨gf, 1, none⟩)), (4, 21, .int .i64 code)] (by kernel_rfl) rfl (l := #[false, false, false, false, false, false, false, false]) rfl pkrtab5 pkrbits5 (by kernel_rfl) (by kernel_rfl) rfl rfl ?_ ?_ ?_
 ·exact ⟨blk_drewN HI.out.1 1, blk_drewN HI.out.2.1 1, blk_drewN HI.out.2.2.1 1, blk_drewN HI.out.2.2.2.1 1, HI.out.2.2.2.2.drew⟩
 ·exact steps_cons (gk_op (p := 0) (fun W => W.heap[gf]? = some (.cells #[.int .i64 at_, .int .i64 code] 93 (0, 0))) 0 0 rfl rfl rfl rfl rfl rfl (u := .pointer (some ⟨a, 0, none⟩)) (rd_off (p := 0) (fun _ => rfl) rfl) (fun s W h => by match s, h with | 0, h => exact h.2.2.2.1 | 1, h => exact h.2.2.2.1 | 2, h => exact h.2.2.2.1 | _ + 3, h => exact h.2.2.2.1) (fun a w hJ e => by go_simp; first | done | rfl)) (steps_cons (gk_op (p := 4) (fun W => W.heap[gf]? = some (.cells #[.int .i64 at_, .int .i64 code] 93 (0, 0))) 1 1 rfl rfl rfl rfl rfl rfl (u := .pointer (some ⟨gf, 0, none⟩)) (rd_off (p := 4) (fun _ => rfl) rfl) (fun s W h => by match s, h with | 0, h => exact h.2.2.2.1 | 1, h => exact h.2.2.2.1 | 2, h => exact h.2.2.2.1 | _ + 3, h => exact h.2.2.2.1) (fun a w hJ e => by go_simp)) (steps_cons (gk_op (p := 18) (fun W => W.heap[gf]? = some (.cells #[.int .i64 at_, .int .i64 code] 93 (0, 0))) 2 2 rfl rfl rfl rfl rfl rfl (u := .pointer (some ⟨gf, 0, none⟩)) (rd_on (p := 18) 1 1 (fun _ => rfl) (fun _ => rfl) (by kernel_rfl) rfl) (fun s W h => by match s, h with | 0, h => exact h.2.2.2.1 | 1, h => exact h.2.2.2.1 | 2, h => exact h.2.2.2.1 | _ + 3, h => exact h.2.2.2.1) (fun a w hJ e => by have k0 := blk_cell hJ 0; have hs : w.cell? ⟨gf, 0, none⟩ = some (.int .i64 at_) := k0; go_simp)) (steps_cons (gk_op (p := 4) (fun W => W.heap[gf]? = some (.cells #[.int .i64 at_, .int .i64 code] 93 (0, 0))) 3 3 rfl rfl rfl rfl rfl rfl (u := .pointer (some ⟨gf, 0, none⟩)) (rd_off (p := 4) (fun _ => rfl) rfl) (fun s W h => by match s, h with | 0, h => exact h.2.2.2.1 | 1, h => exact h.2.2.2.1 | 2, h => exact h.2.2.2.1 | _ + 3, h => exact h.2.2.2.1) (fun a w hJ e => by go_simp)) (steps_cons (gk_op (p := 20) (fun W => W.heap[gf]? = some (.cells #[.int .i64 at_, .int .i64 code] 93 (0, 0))) 4 4 rfl rfl rfl rfl rfl rfl (u := .pointer (some ⟨gf, 1, none⟩)) (rd_on (p := 20) 3 3 (fun _ => rfl) (fun _ => rfl) (by kernel_rfl) rfl) (fun s W h => by match s, h with | 0, h => exact h.2.2.2.1 | 1, h => exact h.2.2.2.1 | 2, h => exact h.2.2.2.1 | _ + 3, h => exact h.2.2.2.1) (fun a w hJ e => by have hs : w.cell? ⟨gf, 1, none⟩ = some (.int .i64 code) := blk_cell hJ 1; go_simp)) (steps_cons (gk_store (p := 0) (s := 17) (u := .pointer (some ⟨a, 0, none⟩)) (v := .agg #[.int .u16 0, .int .u16 0, .int .u32 0, .slice none 0 0]) (f := fun W => W.setRow a #[.int .u16 0, .int .u16 0, .int .u32 0, .slice none 0 0]) 5 0 rfl rfl rfl rfl rfl rfl (by kernel_rfl) (rd_off (p := 0) (fun _ => rfl) rfl) (rd_on (p := 17) 0 0 (fun _ => rfl) (fun _ => rfl) (by kernel_rfl) rfl) (fun a w h e1 e2 => by exact exec_store_row 26 (.tmp 0) (.tmp 17) rfl (eval_of e1) (eval_of e2) h.1 (by kernel_rfl) HX0.out (by simp [Value.oneCell'])) (fun W h => ⟨setRow_heap _ _ _ _ _ _ h.1, (setRow_other _ _ _ _ (by have := HNE.out; omega)).trans h.2.1, (setRow_other _ _ _ _ (by have := HNE.out; omega)).trans h.2.2.1, (setRow_other _ _ _ _ (by have := HNE.out; omega)).trans h.2.2.2.1, h.2.2.2.2.setRow (fun _ => Or.inl rfl) _⟩)) (steps_cons (gk_store (p := 1) (s := 19) (u := .pointer (some ⟨b, 0, none⟩)) (v := .int .i64 at_) (f := fun W => W.setCell ⟨b, 0, none⟩ (.int .i64 at_)) 6 1 rfl rfl rfl rfl rfl rfl (by kernel_rfl) (rd_off (p := 1) (fun _ => rfl) rfl) (rd_on (p := 19) 2 2 (fun _ => rfl) (fun _ => rfl) (by kernel_rfl) rfl) (fun a w h e1 e2 => by have hs : w.cell? ⟨b, 0, none⟩ = some x1 := blk_cell h.2.1 0; have hf := blk_frozen h.2.1 0; go_simp; first | done | rfl) (fun W h => ⟨blk_far (p := ⟨b, 0, none⟩) h.1 (by have := HNE.out; show a ≠ b; omega) _, blk_put h.2.1 0 _ rfl, blk_far (p := ⟨b, 0, none⟩) h.2.2.1 (by have := HNE.out; show c ≠ b; omega) _, blk_far (p := ⟨b, 0, none⟩) h.2.2.2.1 (by have := HNE.out; show gf ≠ b; omega) _, h.2.2.2.2.setCell (fun _ => Or.inr (Or.inl rfl)) _⟩)) (steps_cons (gk_store (p := 2) (s := 21) (u := .pointer (some ⟨c, 0, none⟩)) (v := .int .i64 code) (f := fun W => W.setCell ⟨c, 0, none⟩ (.int .i64 code)) 7 2 rfl rfl rfl rfl rfl rfl (by kernel_rfl) (rd_off (p := 2) (fun _ => rfl) rfl) (rd_on (p := 21) 4 4 (fun _ => rfl) (fun _ => rfl) (by kernel_rfl) rfl) (fun a w h e1 e2 => by have hs : w.cell? ⟨c, 0, none⟩ = some x2 := blk_cell h.2.2.1 0; have hf := blk_frozen h.2.2.1 0; go_simp; first | done | rfl) (fun W h => ⟨blk_far (p := ⟨c, 0, none⟩) h.1 (by have := HNE.out; show a ≠ c; omega) _, blk_far (p := ⟨c, 0, none⟩) h.2.1 (by have := HNE.out; show b ≠ c; omega) _, blk_put h.2.2.1 0 _ rfl, blk_far (p := ⟨c, 0, none⟩) h.2.2.2.1 (by have := HNE.out; show gf ≠ c; omega) _, h.2.2.2.2.setCell (fun _ => Or.inr (Or.inr rfl)) _⟩)) steps_nil)))))))
 intro W4 hI
 have HI2 := Lh hI
 clear hI HI
 simp only [putSel, if_true, Act.put, List.setIfInBounds_toArray, List.set_cons_zero, List.set_cons_succ]
 go_wp2
 show bodyPostS _ _ _ _ _ _ _ _ _
 cases c₀
 simp only at hu
 subst hu
 obtain ⟨r0, r1, r2, _, r4⟩ := HI2.out
 exact ⟨rfl, _, rfl, _, results_none rfl _ _ _, rfl, rfl, r0, r1, r2, r4⟩
end Go.Proofs.YtdlamomabonkjaaDoor.Pk
end
section
namespace Go.Proofs.YtdlamomabonkjaaDoor.Pk
open Go.RowKit YtdlamomabonkjaaDoorW.PrintWords YtdlamomabonkjaaDoorW.PrintLast Base PCh ParDec Ch Crc CrcMath
theorem sub4 (x0 x1 x2 x3 x4 : Value) : ∀ j v, (#[x1, x2, x3, x4] : Array Value).toList[j]? = some v → (#[x0, x1, x2, x3, x4] : Array Value)[1 + j]? = some v := by
 intro j u hu
 match j, hu with
 | 0, hu => exact hu
 | 1, hu => exact hu
 | 2, hu => exact hu
 | 3, hu => exact hu
 | _ + 4, hu => simp at hu
theorem boxes4 (w : World) (cs : Array Value) :
  ((((w.alloc (.cells #[.int .u16 0, .int .u16 0, .int .u32 0, .slice none 0 0] 26)).alloc (.cells #[.int .i64 0] 3)).alloc (.cells #[.int .i64 0] 28)).alloc (.cells cs 99)).heap[w.heap.size + 1 + 1 + 1]? = some (.cells cs 99 (0, 0)) ∧
  ((((w.alloc (.cells #[.int .u16 0, .int .u16 0, .int .u32 0, .slice none 0 0] 26)).alloc (.cells #[.int .i64 0] 3)).alloc (.cells #[.int .i64 0] 28)).alloc (.cells cs 99)).heap[w.heap.size]? = some (.cells #[.int .u16 0, .int .u16 0, .int .u32 0, .slice none 0 0] 26 (0, 0)) ∧
  ((((w.alloc (.cells #[.int .u16 0, .int .u16 0, .int .u32 0, .slice none 0 0] 26)).alloc (.cells #[.int .i64 0] 3)).alloc (.cells #[.int .i64 0] 28)).alloc (.cells cs 99)).heap[w.heap.size + 1]? = some (.cells #[.int .i64 0] 3 (0, 0)) ∧
  ((((w.alloc (.cells #[.int .u16 0, .int .u16 0, .int .u32 0, .slice none 0 0] 26)).alloc (.cells #[.int .i64 0] 3)).alloc (.cells #[.int .i64 0] 28)).alloc (.cells cs 99)).heap[w.heap.size + 1 + 1]? = some (.cells #[.int .i64 0] 28 (0, 0)) ∧
  Below w.heap.size w ((((w.alloc (.cells #[.int .u16 0, .int .u16 0, .int .u32 0, .slice none 0 0] 26)).alloc (.cells #[.int .i64 0] 3)).alloc (.cells #[.int .i64 0] 28)).alloc (.cells cs 99)) := by
 have s1 : (w.alloc (.cells #[.int .u16 0, .int .u16 0, .int .u32 0, .slice none 0 0] 26)).heap.size = w.heap.size + 1 := by simp
 have s2 : ((w.alloc (.cells #[.int .u16 0, .int .u16 0, .int .u32 0, .slice none 0 0] 26)).alloc (.cells #[.int .i64 0] 3)).heap.size = w.heap.size + 1 + 1 := by simp
 have s3 : (((w.alloc (.cells #[.int .u16 0, .int .u16 0, .int .u32 0, .slice none 0 0] 26)).alloc (.cells #[.int .i64 0] 3)).alloc (.cells #[.int .i64 0] 28)).heap.size = w.heap.size + 1 + 1 + 1 := by simp
 have h0 := blk_new w (.cells #[.int .u16 0, .int .u16 0, .int .u32 0, .slice none 0 0] 26)
 have h1 := blk_new (w.alloc (.cells #[.int .u16 0, .int .u16 0, .int .u32 0, .slice none 0 0] 26)) (.cells #[.int .i64 0] 3)
 have h2 := blk_new ((w.alloc (.cells #[.int .u16 0, .int .u16 0, .int .u32 0, .slice none 0 0] 26)).alloc (.cells #[.int .i64 0] 3)) (.cells #[.int .i64 0] 28)
 have h3 := blk_new (((w.alloc (.cells #[.int .u16 0, .int .u16 0, .int .u32 0, .slice none 0 0] 26)).alloc (.cells #[.int .i64 0] 3)).alloc (.cells #[.int .i64 0] 28)) (.cells cs 99)
 rw [s1] at h1
 rw [s2] at h2
 rw [s3] at h3
 exact ⟨h3, blk_alloc (blk_alloc (blk_alloc h0 _) _) _, blk_alloc (blk_alloc h1 _) _, blk_alloc h2 _, below_alloc (below_alloc (below_alloc (below_alloc (Below.refl _ _) _) _) _) _⟩
structure PD where
 f : Int
 t : Int
 q : Int
 l : List Chk
 a : Int
 e : Int
def pzero (a e : Int) : PD := ⟨0, 0, 0, [], a, e⟩
noncomputable def preadD (b : List UInt8) (wh : Bool) : PD :=
 if headE b = 0 then
  (if wh = false then ⟨(hdF b : Nat), (hdT b : Nat), (hdQ b : Nat), [], 0, 0⟩
  else if (b.drop 12).length = 0 then pzero 0 73
  else if (allL (b.drop 12)).2.2 = 0 then (if apartB (allL (b.drop 12)).1 = true then pzero 0 74 else ⟨(hdF b : Nat), (hdT b : Nat), (hdQ b : Nat), (allL (b.drop 12)).1, 0, 0⟩)
  else pzero (12 + (allL (b.drop 12)).2.1) (allL (b.drop 12)).2.2)
 else pzero 0 (headE b)
def ReadPP (w : World) (D : PD) (e : Ending) (w' : World) : Prop :=
 ∃ v, e = .returned (.tuple #[.agg #[.int .u16 D.f, .int .u16 D.t, .int .u32 D.q, v], .int .i64 D.a, .int .i64 D.e]) ∧ Kd.R k41 41 w' w.heap.size (fun _ => True) v D.l ∧ Below w.heap.size w w'
theorem pread_results (tmps : Array Value) (w : World) (a b c : Nat) (cs : Array Value) (v1 v2 : Value) (t0 : tmps.getD 4 undef = .pointer (some ⟨a, 0, none⟩)) (t1 : tmps.getD 5 undef = .pointer (some ⟨b, 0, none⟩)) (t2 : tmps.getD 6 undef = .pointer (some ⟨c, 0, none⟩))
  (h0 : w.heap[a]? = some (.cells cs 26 (0, 0))) (h1 : w.heap[b]? = some (.cells #[v1] 3 (0, 0))) (h2 : w.heap[c]? = some (.cells #[v2] 28 (0, 0))) (hcs : cs.size = 4 := by first | rfl | assumption) :
  (results Tryd.f31 tmps).run Tryd.prog w = .ok (.tuple #[.agg cs, v1, v2]) w := by
 have k1 := blk_cell h1 0
 have k2 := blk_cell h2 0
 have hi : (Tryd.prog.info? 26).map (·.size) = some cs.size := by rw [hcs]; kernel_rfl
 have hl := run_loadVar_row w a 26 26 cs (0, 0) _ h0 Tryd.underlying26 rfl hi
 rw [Array.getD_eq_getD_getElem?] at t0 t1 t2
 have l1 : (loadVar 3 ⟨b, 0, none⟩).run Tryd.prog w = .ok v1 w := by simp [go_sem, k1]
 have l2 : (loadVar 28 ⟨c, 0, none⟩).run Tryd.prog w = .ok v2 w := by simp [go_sem, k2]
 simp [results, Tryd.results31, asAddr, t0, t1, t2, hl, l1, l2]
theorem all_at (b : List UInt8) : ∀ (n at_ : Nat) (acc : List Chk), at_ ≤ b.length → 0 ≤ (allD n b at_ acc).2.1 ∧ (allD n b at_ acc).2.1 ≤ b.length := by
 intro n
 induction n with
 | zero => intro at_ acc _; unfold allD; exact ⟨Int.le_refl _, by simp⟩
 | succ n ih =>
  intro at_ acc ha
  unfold allD
  by_cases h : at_ < b.length
  ·rw [if_pos h]
   by_cases h2 : (decC (b.drop at_)).2.2 ≠ 0
   ·rw [if_pos h2]; dsimp only; omega
   ·rw [if_neg h2]
    obtain ⟨k, h3, h4, h5⟩ := decC_len (Classical.not_not.1 h2)
    rw [List.length_drop] at h5
    exact ih _ _ (by rw [h3]; simp; omega)
  ·rw [if_neg h]; exact ⟨Int.le_refl _, by simp⟩
theorem head_len {b : List UInt8} (h : headE b = 0) : 12 ≤ b.length ∧ b.length ≤ 65536 ∧ checkL b = 0 := by
 unfold headE at h
 by_cases h6 : 65536 < b.length
 ·rw [if_pos h6] at h; cases h
 rw [if_neg h6] at h
 by_cases hc : checkL b = 0
 ·refine ⟨?_, by omega, hc⟩
  unfold checkL at hc
  split at hc
  ·cases hc
  ·omega
 ·rw [if_neg hc] at h; exact absurd h hc
def AllOk (b : List UInt8) : Prop := ∀ (W : World) (A : Option Addr) (c : Nat), byte.C W A b.length b → b.length ≤ c → b.length ≤ 1048576 →
 Calls Tryd.prog 60 #[.slice A b.length c] W fun e w' => ∃ v, e = .returned (.tuple #[v, .int .i64 (allL b).2.1, .int .i64 (allL b).2.2]) ∧ Kd.R k41 41 w' W.heap.size (fun _ => True) v (allL b).1 ∧ Below W.heap.size W w'
set_option maxHeartbeats 4000000 in
theorem pread_with (w : World) (A : Option Addr) (b : List UInt8) (c : Nat) (wh : Bool) (hT : Table w) (hb : byte.C w A b.length b) (hc : b.length ≤ c) (hv : b.length ≤ 140737488355328) (HAC : wh = true → AllOk (b.drop 12)) :
  Calls Tryd.prog 31 #[.slice A b.length c, .bool wh] w (ReadPP w (preadD b wh)) := by
 have hmf : ∀ (fn : Fn) (first cap : Array Value) (w : World), (Instr.makeFunc fn first cap).run Tryd.prog w = .ok (.func fn first cap) w := fun _ _ _ _ => rfl
 have HAX := Lh HAC
 clear HAC
 unfold AllOk at HAX
 obtain ⟨D, hD⟩ : ∃ D, preadD b wh = D := ⟨_, rfl⟩
 rw [hD]
 have HD := Lh (show D = preadD b wh from hD.symm)
 have HT := Lh (fun (W : World) (h : Below w.heap.size w W) => hT.below h)
 have HBC := Lh hb
 have HM := Lh (fun (W : World) (a c : Int) => must_bad W a c)
 have HMO := Lh (fun (W : World) (a c : Int) => must_ok W a c)
 clear hb hD hT
 obtain ⟨n0, hn0⟩ : ∃ n, b.length = n := ⟨_, rfl⟩
 have HN0 := Lh hn0
 rw [hn0] at hc hv ⊢
 clear hn0
 go_enter_defers Tryd.func31, Tryd.ntmps31
 go_upto_region 3 with (fail)
 refine wp_gen (fun W => W.heap[w.heap.size + 1 + 1 + 1]? = some (.cells #[.slice A n0 c, .int .u16 0, .int .u16 0, .int .u32 0, .slice none 0 0] 99 (0, 0)) ∧ W.heap[w.heap.size]? = some (.cells #[.int .u16 0, .int .u16 0, .int .u32 0, .slice none 0 0] 26 (0, 0)) ∧ W.heap[w.heap.size + 1]? = some (.cells #[.int .i64 0] 3 (0, 0)) ∧ W.heap[w.heap.size + 1 + 1]? = some (.cells #[.int .i64 0] 28 (0, 0)) ∧ Below w.heap.size w W) (boxes4 w _) ?_
 rintro W0 ⟨hg, hp, ha, he, hB⟩
 generalize hge : w.heap.size + 1 + 1 + 1 = g at *
 generalize hgn : w.heap.size + 1 + 1 = ge at *
 generalize hgm : w.heap.size + 1 = ga at *
 obtain ⟨gp, hgp⟩ : ∃ gp, w.heap.size = gp := ⟨_, rfl⟩
 have HG := Lh (show w.heap.size = gp ∧ ga = gp + 1 ∧ ge = gp + 2 ∧ g = gp + 3 ∧ g < W0.heap.size from ⟨hgp, by omega, by omega, by omega, blk_lt hg⟩)
 have hps : PS w W0 g b 0 0 0 (.slice none 0 0) := ⟨A, c, by rw [HN0.out]; exact hg, by rw [HN0.out]; exact hc, HBC.out⟩
 have HHD := Lh (head_calls w W0 g b (HT.out W0 hB) hps hB (by omega) (by rw [HN0.out]; exact hv))
 have HK := Lh (fun (W : World) (h : Only (· = g) W0 W) => (⟨h.blk (by rw [← hgp]; exact hp) (by show gp ≠ g; omega), h.blk ha (by show ga ≠ g; omega), h.blk he (by show ge ≠ g; omega), hB.trans (h.below hB.size (fun k hk => by subst hk; omega))⟩ : W.heap[gp]? = some (.cells #[.int .u16 0, .int .u16 0, .int .u32 0, .slice none 0 0] 26 (0, 0)) ∧ W.heap[ga]? = some (.cells #[.int .i64 0] 3 (0, 0)) ∧ W.heap[ge]? = some (.cells #[.int .i64 0] 28 (0, 0)) ∧ Below w.heap.size w W))
 rw [hgp]
 clear hg hp ha he hB hge hgn hgm hgp hps hc hv
 go_wp2_with fail
 refine HHD.out.mono ?_
 intro e W3 hP
 unfold HeadP at hP
 obtain ⟨hO, hbad, hok⟩ := hP
 by_cases hh : headE b = 0
 ·obtain ⟨rfl, hP3⟩ := hok hh
  obtain ⟨hl12, hl6, hck⟩ := head_len hh
  have HSUB := Lh (fun (W : World) (h : Below W3.heap.size W3 W) => (hP3.below h).sub)
  obtain ⟨A3, c3, hb3, hc3, hC3⟩ := hP3
  have HO := Lh hO
  have HDH := Lh (show preadD b wh = if wh = false then ⟨(hdF b : Nat), (hdT b : Nat), (hdQ b : Nat), [], 0, 0⟩
  else if (b.drop 12).length = 0 then pzero 0 73
  else if (allL (b.drop 12)).2.2 = 0 then (if apartB (allL (b.drop 12)).1 = true then pzero 0 74 else ⟨(hdF b : Nat), (hdT b : Nat), (hdQ b : Nat), (allL (b.drop 12)).1, 0, 0⟩)
  else pzero (12 + (allL (b.drop 12)).2.1) (allL (b.drop 12)).2.2 from by unfold preadD; rw [if_pos hh])
  have k0 : W3.cell? ⟨g, 0, none⟩ = some (.slice A3 (b.drop 12).length c3) := blk_cell hb3 0
  have HAL := Lh (fun (hw : wh = true) (W : World) (h : Below w.heap.size w W) => HAX.out hw W A3 c3 (Kd.C_below hC3 h) hc3 (by rw [List.length_drop]; omega))
  have HAT := Lh (show 0 ≤ (allL (b.drop 12)).2.1 ∧ (allL (b.drop 12)).2.1 ≤ 65536 from by
   have := all_at (b.drop 12) ((b.drop 12).length + 1) 0 [] (Nat.zero_le _)
   have h2 : (b.drop 12).length ≤ 65536 := by rw [List.length_drop]; omega
   exact ⟨this.1, Int.le_trans this.2 (by omega)⟩)
  have HB3 := Lh hb3
  rw [HDH.out] at HD
  clear HAX hbad hok hh HHD hC3 hc3 hl12 hl6 hck hO hb3 HDH HBC HT HN0
  generalize ((hdF b : Nat) : Int) = nf at *
  generalize ((hdT b : Nat) : Int) = nt at *
  generalize ((hdQ b : Nat) : Int) = nq at *
  generalize allL (b.drop 12) = AL at *
  obtain ⟨xs, at_, er⟩ := AL
  dsimp only at HD HAL HAT
  generalize (b.drop 12).length = n at *
  cases wh with
  | false =>
   have HDE := Lh (show D = ⟨nf, nt, nq, [], 0, 0⟩ from by rw [HD.out, if_pos rfl])
   have HOX := Lh (show Only (· = g) W0 W3 from HO.out)
   have HSB := Lh (HSUB.out W3 (Below.refl _ _))
   have HR := Lh (fun (W : World) (h : Only (fun k => k = gp ∨ k = ga ∨ k = ge) W3 W) => (Kd.R_nil _ _ _ _ _ : Kd.R k41 41 W w.heap.size (fun _ => True) (.slice none 0 0) []))
   obtain ⟨CS, hCS⟩ : ∃ CS : Array Value, #[.int .u16 nf, .int .u16 nt, .int .u32 nq, (.slice none 0 0)] = CS := ⟨_, rfl⟩
   have HCZ := Lh (show (#[.int .u16 0, .int .u16 0, .int .u32 0, .slice none 0 0] : Array Value).size = CS.size by rw [← hCS]; rfl)
   have HCI := Lh (show (Tryd.prog.info? 26).map (·.size) = some CS.size by rw [← hCS]; kernel_rfl)
   have HC1 := Lh (show CS.all (·.oneCell') = true by rw [← hCS]; simp [Value.oneCell'])
   rw [hCS] at HSB
   have HCS := Lh hCS
   clear hCS
   obtain ⟨q0, q1, q2, qb⟩ := HK.out _ HOX.out
   have hb1 : (W3.setRow gp CS).heap[ga]? = some (.cells #[.int .i64 0] 3 (0, 0)) := (setRow_other _ _ _ _ (by have := HG.out; omega)).trans q1
   have hb2 : (W3.setRow gp CS).heap[ge]? = some (.cells #[.int .i64 0] 28 (0, 0)) := (setRow_other _ _ _ _ (by have := HG.out; omega)).trans q2
   have kb : (W3.setRow gp CS).cell? ⟨ga, 0, none⟩ = some (.int .i64 0) := blk_cell hb1 0
   have fb := blk_frozen hb1 0
   have hb3 := blk_far (p := ⟨ga, 0, none⟩) hb2 (show ge ≠ ga by have := HG.out; omega) (.int .i64 0)
   have kc : ((W3.setRow gp CS).setCell ⟨ga, 0, none⟩ (.int .i64 0)).cell? ⟨ge, 0, none⟩ = some (.int .i64 0) := blk_cell hb3 0
   have fc := blk_frozen hb3 0
   have HQ0 := Lh q0
   have HX0 := Lh (blk_far (p := ⟨ge, 0, none⟩) (blk_far (p := ⟨ga, 0, none⟩) (setRow_heap _ _ _ CS _ _ q0) (show gp ≠ ga by have := HG.out; omega) (.int .i64 0)) (show gp ≠ ge by have := HG.out; omega) (.int .i64 0))
   have HX1 := Lh (blk_far (p := ⟨ge, 0, none⟩) (blk_put hb1 0 (.int .i64 0) rfl) (show ga ≠ ge by have := HG.out; omega) (.int .i64 0))
   have HX2 := Lh (blk_put hb3 0 (.int .i64 0) rfl)
   have HXO := Lh ((((Only.refl (fun k => k = gp ∨ k = ga ∨ k = ge) W3).setRow (g := gp) (fun _ => Or.inl rfl) CS).setCell (p := ⟨ga, 0, none⟩) (fun _ => Or.inr (Or.inl rfl)) (.int .i64 0)).setCell (p := ⟨ge, 0, none⟩) (fun _ => Or.inr (Or.inr rfl)) (.int .i64 0))
   have HQB := Lh qb
   clear q0 q1 q2 qb hb1 hb2 hb3
   go_wp2_with (first | (with_reducible refine gate_dst (N := 23) rfl ?_; go_must (refine wpList_load_cells rfl 26 (.tmp 22) rfl rfl CS _ (fun j v hv => HSB.out j v hv) Tryd.underlying26 rfl HCI.out ?_)) | (refine wpList_store_row rfl 26 _ _ rfl gp CS rfl rfl 26 #[.int .u16 0, .int .u16 0, .int .u32 0, .slice none 0 0] HQ0.out HCI.out HCZ.out HC1.out ?_))
   refine leaves_cons (f := 57) (args := #[.pointer (some ⟨gp, 0, none⟩), .pointer (some ⟨ga, 0, none⟩), .pointer (some ⟨ge, 0, none⟩)]) (by simp) (by simp [go_sem]) ?_
   refine (pcatch_idle _ _ _ _).mono ?_
   rintro e u' w'' ⟨rfl, rfl, rfl⟩
   exact ⟨_, pread_results _ _ _ _ _ _ _ _ rfl rfl rfl HX0.out HX1.out HX2.out HCZ.out.symm, (.slice none 0 0), by rw [HDE.out, ← HCS.out], by rw [HDE.out]; exact HR.out _ HXO.out, HQB.out.trans (HXO.out.below HQB.out.size (fun k hk => by have := HG.out; omega))⟩
  | true =>
   rw [if_neg (by decide)] at HD
   by_cases hn : n = 0
   ·rw [if_pos hn] at HD
    have hz : decide (0 < n) = false := decide_eq_false (by omega)
    have HD0 := Lh HD.out
    clear HD hn HAL
    unfold errP at HM
    go_wp2_with fail
    refine (HM.out _ _ _).mono ?_
    rintro e W3 ⟨rfl, rfl⟩
    clear hz k0 HM HMO
    have HDE := Lh (show D = pzero (0) (73) from HD0.out)
    have HOX := Lh (HO.out)
    go_wp2
    refine leaves_cons (f := 57) (args := #[.pointer (some ⟨gp, 0, none⟩), .pointer (some ⟨ga, 0, none⟩), .pointer (some ⟨ge, 0, none⟩)]) (by simp) (by simp [go_sem]) ?_
    refine (pcatch_err gp ga ge (0) (73) [] _ _ _ _ _ _ (HK.out _ HOX.out).1 rfl (HK.out _ HOX.out).2.1 (HK.out _ HOX.out).2.2.1 (by have := HG.out; omega) (by have := HG.out; omega) (by have := HG.out; omega)).mono ?_
    rintro e u' w'' ⟨rfl, rfl, s0, s1, s2, hO2⟩
    exact ⟨_, pread_results _ _ _ _ _ _ _ _ rfl rfl rfl s0 s1 s2, .slice none 0 0, by rw [HDE.out]; rfl, by rw [HDE.out]; exact Kd.R_nil _ _ _ _ _, (HK.out _ HOX.out).2.2.2.trans (hO2.below (HK.out _ HOX.out).2.2.2.size (fun k hk => by have := HG.out; omega))⟩
   ·rw [if_neg hn] at HD
    have hz : decide (0 < n) = true := decide_eq_true (by omega)
    clear hn
    go_wp2_with fail
    refine (HMO.out _ _ _).mono ?_
    rintro e W3 ⟨rfl, rfl⟩
    clear hz
    go_wp2_with fail
    refine (HAL.out (by first | trivial | rfl) _ (HK.out _ HO.out).2.2.2).mono ?_
    rintro e W5 ⟨v5, rfl, hR5, hB5⟩
    obtain ⟨A5, c5, rfl, hle5, hC5⟩ := Kd.R_reads hR5
    have HR5 := Lh hR5
    have HB5 := Lh hB5
    have HLE5 := Lh hle5
    have HC5 := Lh hC5
    clear hR5 hle5 hC5 hB5 HAL k0
    by_cases her : er = 0
    ·subst her
     rw [if_pos rfl] at HD
     go_wp2_with fail
     refine (HMO.out _ _ _).mono ?_
     rintro e W5 ⟨rfl, rfl⟩
     have HAP := Lh (apart_calls W5 A5 c5 xs HC5.out)
     generalize apartB xs = ab at *
     go_wp2_with fail
     refine HAP.out.mono ?_
     rintro e W7 ⟨rfl, hB7⟩
     have HB7 := Lh (below_then HB5.out HB5.out.size hB7)
     have HR7 := Lh (Kd.R_below HR5.out hB7)
     clear hB7 HAP HC5
     cases ab with
     | true =>
      rw [if_pos rfl] at HD
      have HD0 := Lh HD.out
      clear HD HR7 HR5
      unfold errP at HM
      go_wp2_with fail
      refine (HM.out _ _ _).mono ?_
      rintro e W7 ⟨rfl, rfl⟩
      clear HM HMO
      have HDE := Lh (show D = pzero (0) (74) from HD0.out)
      have HOX := Lh (HO.out.thn HB7.out)
      go_wp2
      refine leaves_cons (f := 57) (args := #[.pointer (some ⟨gp, 0, none⟩), .pointer (some ⟨ga, 0, none⟩), .pointer (some ⟨ge, 0, none⟩)]) (by simp) (by simp [go_sem]) ?_
      refine (pcatch_err gp ga ge (0) (74) [] _ _ _ _ _ _ (HK.out _ HOX.out).1 rfl (HK.out _ HOX.out).2.1 (HK.out _ HOX.out).2.2.1 (by have := HG.out; omega) (by have := HG.out; omega) (by have := HG.out; omega)).mono ?_
      rintro e u' w'' ⟨rfl, rfl, s0, s1, s2, hO2⟩
      exact ⟨_, pread_results _ _ _ _ _ _ _ _ rfl rfl rfl s0 s1 s2, .slice none 0 0, by rw [HDE.out]; rfl, by rw [HDE.out]; exact Kd.R_nil _ _ _ _ _, (HK.out _ HOX.out).2.2.2.trans (hO2.below (HK.out _ HOX.out).2.2.2.size (fun k hk => by have := HG.out; omega))⟩
     | false =>
      rw [if_neg (by decide)] at HD
      go_wp2_with fail
      refine (HMO.out _ _ _).mono ?_
      rintro e W7 ⟨rfl, rfl⟩
      have hbg := blk_below HB3.out HB7.out
      have fg := blk_frozen hbg 4
      have kg : W7.cell? ⟨g, 4, none⟩ = some (.slice none 0 0) := blk_cell hbg 4
      have HBG := Lh hbg
      clear hbg
      go_upto_region 11 with (fail)
      have HOY := Lh ((HO.out.thn HB7.out).setCell (p := ⟨g, 4, none⟩) (fun _ => rfl) (.slice A5 xs.length c5))
      have HBY := Lh (blk_put HBG.out 4 (.slice A5 xs.length c5) rfl)
      have HRY := Lh (R_only HR7.out ((Only.refl (· = g) W7).setCell (p := ⟨g, 4, none⟩) (fun _ => rfl) (.slice A5 xs.length c5)) (fun k hk _ h => by have h1 := HG.out; have h2 := HO.out.size; have h3 : k = g := h; omega))
      have HSZ := Lh (show g < W3.heap.size from by have h1 := HG.out; have h2 := HO.out.size; omega)
      clear HR5 HR7 kg fg HBG
      refine wp_gen (fun W => W = W7.setCell ⟨g, 4, none⟩ (.slice A5 xs.length c5)) rfl ?_
      intro W9 hW9
      rw [← hW9] at HOY HBY HRY
      clear hW9
      have HDE := Lh (show D = ⟨nf, nt, nq, xs, 0, 0⟩ from HD.out)
      have HOX := Lh (show Only (· = g) W0 W9 from HOY.out)
      have HSB := Lh (blk_sub HBY.out 1 #[.int .u16 nf, .int .u16 nt, .int .u32 nq, .slice A5 xs.length c5] (sub4 _ _ _ _ _))
      have HR := Lh (fun (W : World) (h : Only (fun k => k = gp ∨ k = ga ∨ k = ge) W9 W) => (Kd.R_lower (R_only HRY.out h (fun k hk _ h2 => by have h1 := HG.out; have h3 := HSZ.out; omega)) (by have h1 := HG.out; have h3 := HSZ.out; omega) : Kd.R k41 41 W w.heap.size (fun _ => True) (.slice A5 xs.length c5) xs))
      obtain ⟨CS, hCS⟩ : ∃ CS : Array Value, #[.int .u16 nf, .int .u16 nt, .int .u32 nq, (.slice A5 xs.length c5)] = CS := ⟨_, rfl⟩
      have HCZ := Lh (show (#[.int .u16 0, .int .u16 0, .int .u32 0, .slice none 0 0] : Array Value).size = CS.size by rw [← hCS]; rfl)
      have HCI := Lh (show (Tryd.prog.info? 26).map (·.size) = some CS.size by rw [← hCS]; kernel_rfl)
      have HC1 := Lh (show CS.all (·.oneCell') = true by rw [← hCS]; simp [Value.oneCell'])
      rw [hCS] at HSB
      have HCS := Lh hCS
      clear hCS
      obtain ⟨q0, q1, q2, qb⟩ := HK.out _ HOX.out
      have hb1 : (W9.setRow gp CS).heap[ga]? = some (.cells #[.int .i64 0] 3 (0, 0)) := (setRow_other _ _ _ _ (by have := HG.out; omega)).trans q1
      have hb2 : (W9.setRow gp CS).heap[ge]? = some (.cells #[.int .i64 0] 28 (0, 0)) := (setRow_other _ _ _ _ (by have := HG.out; omega)).trans q2
      have kb : (W9.setRow gp CS).cell? ⟨ga, 0, none⟩ = some (.int .i64 0) := blk_cell hb1 0
      have fb := blk_frozen hb1 0
      have hb3 := blk_far (p := ⟨ga, 0, none⟩) hb2 (show ge ≠ ga by have := HG.out; omega) (.int .i64 0)
      have kc : ((W9.setRow gp CS).setCell ⟨ga, 0, none⟩ (.int .i64 0)).cell? ⟨ge, 0, none⟩ = some (.int .i64 0) := blk_cell hb3 0
      have fc := blk_frozen hb3 0
      have HQ0 := Lh q0
      have HX0 := Lh (blk_far (p := ⟨ge, 0, none⟩) (blk_far (p := ⟨ga, 0, none⟩) (setRow_heap _ _ _ CS _ _ q0) (show gp ≠ ga by have := HG.out; omega) (.int .i64 0)) (show gp ≠ ge by have := HG.out; omega) (.int .i64 0))
      have HX1 := Lh (blk_far (p := ⟨ge, 0, none⟩) (blk_put hb1 0 (.int .i64 0) rfl) (show ga ≠ ge by have := HG.out; omega) (.int .i64 0))
      have HX2 := Lh (blk_put hb3 0 (.int .i64 0) rfl)
      have HXO := Lh ((((Only.refl (fun k => k = gp ∨ k = ga ∨ k = ge) W9).setRow (g := gp) (fun _ => Or.inl rfl) CS).setCell (p := ⟨ga, 0, none⟩) (fun _ => Or.inr (Or.inl rfl)) (.int .i64 0)).setCell (p := ⟨ge, 0, none⟩) (fun _ => Or.inr (Or.inr rfl)) (.int .i64 0))
      have HQB := Lh qb
      clear q0 q1 q2 qb hb1 hb2 hb3
      go_wp2_with (first | (with_reducible refine gate_dst (N := 60) rfl ?_; go_must (refine wpList_load_cells rfl 26 (.tmp 59) rfl rfl CS _ (fun j v hv => HSB.out j v hv) Tryd.underlying26 rfl HCI.out ?_)) | (refine wpList_store_row rfl 26 _ _ rfl gp CS rfl rfl 26 #[.int .u16 0, .int .u16 0, .int .u32 0, .slice none 0 0] HQ0.out HCI.out HCZ.out HC1.out ?_))
      refine leaves_cons (f := 57) (args := #[.pointer (some ⟨gp, 0, none⟩), .pointer (some ⟨ga, 0, none⟩), .pointer (some ⟨ge, 0, none⟩)]) (by simp) (by simp [go_sem]) ?_
      refine (pcatch_idle _ _ _ _).mono ?_
      rintro e u' w'' ⟨rfl, rfl, rfl⟩
      exact ⟨_, pread_results _ _ _ _ _ _ _ _ rfl rfl rfl HX0.out HX1.out HX2.out HCZ.out.symm, (.slice A5 xs.length c5), by rw [HDE.out, ← HCS.out], by rw [HDE.out]; exact HR.out _ HXO.out, HQB.out.trans (HXO.out.below HQB.out.size (fun k hk => by have := HG.out; omega))⟩
    ·rw [if_neg her] at HD
     have hz : (er == 0) = false := by simp [her]
     have hwr : wrap64 (12 + at_) = 12 + at_ := by have := HAT.out; unfold wrap64; omega
     have HD0 := Lh HD.out
     clear HD HR5 HC5 her
     unfold errP at HM
     go_wp2_with fail
     refine (HM.out _ _ _).mono ?_
     rintro e W5 ⟨rfl, rfl⟩
     clear hz hwr HM HMO
     have HDE := Lh (show D = pzero (12 + at_) (er) from HD0.out)
     have HOX := Lh (HO.out.thn HB5.out)
     go_wp2
     refine leaves_cons (f := 57) (args := #[.pointer (some ⟨gp, 0, none⟩), .pointer (some ⟨ga, 0, none⟩), .pointer (some ⟨ge, 0, none⟩)]) (by simp) (by simp [go_sem]) ?_
     refine (pcatch_err gp ga ge (12 + at_) (er) [] _ _ _ _ _ _ (HK.out _ HOX.out).1 rfl (HK.out _ HOX.out).2.1 (HK.out _ HOX.out).2.2.1 (by have := HG.out; omega) (by have := HG.out; omega) (by have := HG.out; omega)).mono ?_
     rintro e u' w'' ⟨rfl, rfl, s0, s1, s2, hO2⟩
     exact ⟨_, pread_results _ _ _ _ _ _ _ _ rfl rfl rfl s0 s1 s2, .slice none 0 0, by rw [HDE.out]; rfl, by rw [HDE.out]; exact Kd.R_nil _ _ _ _ _, (HK.out _ HOX.out).2.2.2.trans (hO2.below (HK.out _ HOX.out).2.2.2.size (fun k hk => by have := HG.out; omega))⟩
 ·obtain ⟨rfl, _⟩ := hbad hh
  have hde : preadD b wh = pzero 0 (headE b) := by unfold preadD; rw [if_neg hh]
  rw [hde] at HD
  have HD0 := Lh HD.out
  have HO := Lh hO
  clear hok hbad hh hde HD hO HHD HM HMO
  generalize headE b = hE at *
  unfold errP
  have HDE := Lh (show D = pzero (0) (hE) from HD0.out)
  have HOX := Lh (HO.out)
  go_wp2
  refine leaves_cons (f := 57) (args := #[.pointer (some ⟨gp, 0, none⟩), .pointer (some ⟨ga, 0, none⟩), .pointer (some ⟨ge, 0, none⟩)]) (by simp) (by simp [go_sem]) ?_
  refine (pcatch_err gp ga ge (0) (hE) [] _ _ _ _ _ _ (HK.out _ HOX.out).1 rfl (HK.out _ HOX.out).2.1 (HK.out _ HOX.out).2.2.1 (by have := HG.out; omega) (by have := HG.out; omega) (by have := HG.out; omega)).mono ?_
  rintro e u' w'' ⟨rfl, rfl, s0, s1, s2, hO2⟩
  exact ⟨_, pread_results _ _ _ _ _ _ _ _ rfl rfl rfl s0 s1 s2, .slice none 0 0, by rw [HDE.out]; rfl, by rw [HDE.out]; exact Kd.R_nil _ _ _ _ _, (HK.out _ HOX.out).2.2.2.trans (hO2.below (HK.out _ HOX.out).2.2.2.size (fun k hk => by have := HG.out; omega))⟩
theorem pdec_results (tmps : Array Value) (w : World) (g : Nat) (cs : Array Value) (v1 v2 : Value) (t0 : tmps.getD 2 undef = .pointer (some ⟨g, 0, none⟩)) (t1 : tmps.getD 3 undef = v1) (t2 : tmps.getD 4 undef = v2)
  (h0 : w.heap[g]? = some (.cells cs 26 (0, 0))) (hcs : cs.size = 4) :
  (results Tryd.f12 tmps).run Tryd.prog w = .ok (.tuple #[.agg cs, v1, v2]) w := by
 have hi : (Tryd.prog.info? 26).map (·.size) = some cs.size := by rw [hcs]; kernel_rfl
 have hl := run_loadVar_row w g 26 26 cs (0, 0) _ h0 Tryd.underlying26 rfl hi
 rw [Array.getD_eq_getD_getElem?] at t0 t1 t2
 simp [results, Tryd.results12, asAddr, t0, t1, t2, hl]
set_option maxHeartbeats 1000000 in
theorem pdecode_with (w : World) (A : Option Addr) (b : List UInt8) (c : Nat) (hT : Table w) (hb : byte.C w A b.length b) (hc : b.length ≤ c) (hv : b.length ≤ 140737488355328) (HAC : AllOk (b.drop 12)) :
  Calls Tryd.prog 12 #[.slice A b.length c] w (ReadPP w (preadD b true)) := by
 have HR := Lh (fun (W : World) (h : Below w.heap.size w W) => pread_with W A b c true (hT.below h) (Kd.C_below hb h) hc hv (fun _ => HAC))
 clear HAC
 generalize preadD b true = D at *
 clear hb hc hT hv
 unfold ReadPP at HR ⊢
 generalize b.length = n at *
 obtain ⟨g, hg⟩ : ∃ g, w.heap.size = g := ⟨_, rfl⟩
 have HG := Lh hg
 clear hg
 go_enter Tryd.func12, Tryd.ntmps12
 go_upto_region 1 with (fail)
 refine wp_gen (fun W => W.heap[w.heap.size]? = some (.cells #[.int .u16 0, .int .u16 0, .int .u32 0, .slice none 0 0] 26 (0, 0)) ∧ Below w.heap.size w W) ⟨blk_new _ _, below_alloc (Below.refl _ _) _⟩ ?_
 rintro W0 ⟨h0, hB⟩
 rw [HG.out] at h0 ⊢
 go_wp2_with fail
 refine (HR.out W0 hB).mono ?_
 rintro e W1 ⟨v, rfl, hR, hB1⟩
 obtain ⟨A1, c1, rfl, hle1, hC1⟩ := Kd.R_reads hR
 have HR1 := Lh hR
 have HB1 := Lh (below_then hB hB.size hB1)
 have H1 := Lh (blk_below h0 hB1)
 have HGW := Lh (show g < W0.heap.size from blk_lt h0)
 clear h0 hB hR hB1 HR hle1 hC1
 obtain ⟨CS, hCS⟩ : ∃ CS : Array Value, #[.int .u16 D.f, .int .u16 D.t, .int .u32 D.q, .slice A1 D.l.length c1] = CS := ⟨_, rfl⟩
 have HCZ := Lh (show (#[.int .u16 0, .int .u16 0, .int .u32 0, .slice none 0 0] : Array Value).size = CS.size by rw [← hCS]; rfl)
 have HCI := Lh (show (Tryd.prog.info? 26).map (·.size) = some CS.size by rw [← hCS]; kernel_rfl)
 have HC1 := Lh (show CS.all (·.oneCell') = true by rw [← hCS]; simp [Value.oneCell'])
 have HCS := Lh hCS
 rw [hCS]
 clear hCS
 go_wp2_with (refine wpList_store_row rfl 26 _ _ rfl g CS rfl rfl 26 #[.int .u16 0, .int .u16 0, .int .u32 0, .slice none 0 0] H1.out HCI.out HCZ.out HC1.out ?_)
 refine bodyPost_ret (pdec_results _ _ g CS _ _ rfl rfl rfl (setRow_heap _ _ _ _ _ _ H1.out) HCZ.out.symm) rfl ⟨_, by rw [← HCS.out]; first | done | rfl, Kd.R_lower (R_only HR1.out ((Only.refl (· = g) W1).setRow (fun _ => rfl) CS) (fun k hk _ h => by have h1 := HGW.out; have h3 : k = g := h; omega)) (by have h1 := HGW.out; have h2 := HG.out; omega), HB1.out.trans (((Only.refl (· = g) W1).setRow (fun _ => rfl) CS).below HB1.out.size (fun k hk => by have h2 := HG.out; have h3 : k = g := hk; omega))⟩
end Go.Proofs.YtdlamomabonkjaaDoor.Pk
end
section
namespace Go.Proofs.YtdlamomabonkjaaDoor.Pk
open Go.RowKit YtdlamomabonkjaaDoorW.PrintWords YtdlamomabonkjaaDoorW.PrintLast Base PCh ParDec ParEnc Ch Crc CrcMath
theorem chk_size (x : Chk) (L : Lay) : (Tryd.prog.info? 41).map (·.size) = some (CV x L).size := by kernel_rfl
theorem chk_zsize (x : Chk) (L : Lay) : (#[.int .u8 0, .int .u8 0, .int .u32 0, .int .u16 0, .int .u16 0, .int .u32 0, .int .u32 0, .int .u32 0, .int .u16 0, .int .u16 0, .slice none 0 0, .slice none 0 0, .slice none 0 0, .slice none 0 0, .slice none 0 0] : Array Value).size = (CV x L).size := rfl
end Go.Proofs.YtdlamomabonkjaaDoor.Pk
end
section
namespace Go.Proofs.YtdlamomabonkjaaDoor.Base
open Go.RowKit YtdlamomabonkjaaDoorW.PrintWords YtdlamomabonkjaaDoorW.PrintLast
def updV (vs : Nat → Value) (m : Nat) (v : Value) : Nat → Value := fun j => if j = m then v else vs j
def GvI (C : List Nat) (I : Nat → (Nat → Value) → World → Prop) (L : (Nat → Value) → Sel) (a0 : Act) (b : Nat → Bool) (a : Act) (w : World) : Prop :=
 ∃ (s : Nat) (vs : Nat → Value), s ≤ C.length ∧ (∀ j c, C[j]? = some c → (j < s → b c = true) ∧ (s ≤ j → b c = false)) ∧ a = putSel a0 b (L vs) ∧ I s vs w
def RdL (O B : List Nat) (i : Nat) (L : (Nat → Value) → Sel) (a0 : Act) : List (Tmp × ((Nat → Value) → Value)) → Prop
 | [] => True
 | x :: r => Rd O B i L a0 x.1 x.2 ∧ RdL O B i L a0 r
def Has (a : Act) (vs : Nat → Value) : List (Tmp × ((Nat → Value) → Value)) → Prop
 | [] => True
 | x :: r => a.tmps[x.1]? = some (x.2 vs) ∧ Has a vs r
def Wt (ops : Array Oper) (O B : List Nat) (i : Nat) (L : (Nat → Value) → Sel) (a0 : Act) (oi : Oper) (r : Bool) : Prop :=
 ∀ (b : Nat → Bool) (vs : Nat → Value), (∀ j, (O.contains j && (B.getD i 0).testBit j) = true → b j = true) → (∀ d, (O.contains d && (B.getD d 0).testBit i) = true → b d = false) → Region.wanted oi (yielded ops (putSel a0 b (L vs)).tmps) = r
section
variable {P : Program} {ops : Array Oper} {Q : Exit → Act → World → Prop} {B O C : List Nat} {W : World} {I : Nat → (Nat → Value) → World → Prop} {L : (Nat → Value) → Sel} {a0 : Act} {i : Nat} {p : Tmp} {oi : Oper}
theorem has_of : ∀ {ps : List (Tmp × ((Nat → Value) → Value))}, RdL O B i L a0 ps → ∀ (b : Nat → Bool) (vs : Nat → Value), (∀ j, (O.contains j && (B.getD i 0).testBit j) = true → b j = true) → (∀ d, (O.contains d && (B.getD d 0).testBit i) = true → b d = false) → Has (putSel a0 b (L vs)) vs ps
 | [], _, _, _, _, _ => trivial
 | _ :: _, h, b, vs, h1, h2 => ⟨h.1 b vs h1 h2, has_of h.2 b vs h1 h2⟩
theorem wt_none (hg : oi.guard = none) : Wt ops O B i L a0 oi true := fun _ _ _ _ => wanted_none0 hg
theorem wt_on {g : Nat} {u : Bool} {og : Oper} {t : Tmp} (hg : oi.guard = some (g, u)) (ho : ops[g]? = some og) (hd : og.dst = some t) (hr : Rd O B i L a0 t (fun _ => .bool u)) : Wt ops O B i L a0 oi true := fun b vs h1 h2 => wanted_on hg ho hd (hr b vs h1 h2)
theorem wt_off {g : Nat} {u : Bool} {og : Oper} {t : Tmp} (hg : oi.guard = some (g, u)) (ho : ops[g]? = some og) (hd : og.dst = some t) (hr : Rd O B i L a0 t (fun _ => .bool (!u))) : Wt ops O B i L a0 oi false := fun b vs h1 h2 => wanted_off hg ho hd (hr b vs h1 h2)
theorem chain_skip {b : Nat → Bool} {s : Nat} (hC : C.contains i = false) (h1 : ∀ j c, C[j]? = some c → (j < s → b c = true) ∧ (s ≤ j → b c = false)) : ∀ j c, C[j]? = some c → (j < s → up b i c = true) ∧ (s ≤ j → up b i c = false) := by
 intro j c hc
 have hne : c ≠ i := fun e => by
  rw [e] at hc
  have := List.mem_of_getElem? hc
  rw [List.contains_iff_mem.2 this] at hC
  cases hC
 rw [up_ne hne]
 exact h1 j c hc
theorem gv_op (m M : Nat) (ps : List (Tmp × ((Nat → Value) → Value))) (i k : Nat) {t : Tmp} {fv : (Nat → Value) → Value} {oi : Oper} (ho : ops[i]? = some oi) (hd : oi.dst = some t) (hw : Wt ops O B i L a0 oi true) (hL : ∀ vs, (L vs)[k]? = some (i, t, fv vs))
  (hdist : ∀ vs, ((L vs).take k ++ (L vs).drop (k + 1)).all (fun e => !(e.1 == i) && !(e.2.1 == t)) = true) (hC : C.contains i = false) (hmC : Nat.ble m C.length = true) (hmm : (C.take m).all (fun q => O.contains q && (B.getD i 0).testBit q) = true) (hMM : (match C[M]? with | some c => O.contains c && (B.getD c 0).testBit i | none => true) = true) (hr : RdL O B i L a0 ps)
  (hrun : ∀ (a : Act) (w : World) (s : Nat) (vs : Nat → Value), m ≤ s → s ≤ M → I s vs w → Has a vs ps → (execOp a.eval oi).run P w = .ok (.value (fv vs)) w) : StepAt P ops Q B O (GvI C I L a0) i := by
 rintro b a w ⟨s, vs, h0, h1, ha, hI⟩ hb hon hoff
 have hms : m ≤ s := by
  rcases Nat.lt_or_ge s m with h | h
  ·rcases Nat.lt_or_ge s C.length with h2 | h2
   ·have hc := List.getElem?_eq_getElem h2
    have e2 := (h1 s _ hc).2 (Nat.le_refl _)
    have e3 := List.all_eq_true.1 hmm C[s] (List.mem_take_iff_getElem.2 ⟨s, by omega, rfl⟩)
    rw [hon _ e3] at e2
    cases e2
   ·have := Nat.le_of_ble_eq_true hmC
    omega
  ·exact h
 have hsM : s ≤ M := by
  cases hc : C[M]? with
  | none =>
   have := List.getElem?_eq_none_iff.1 hc
   omega
  | some c =>
   rw [hc] at hMM
   rcases Nat.lt_or_ge M s with h | h
   ·have e2 := (h1 M c hc).1 h
    rw [hoff c hMM] at e2
    cases e2
   ·exact h
 refine ⟨oi, ho, fun K hK => ?_⟩
 rw [hd]
 refine value_ (w1 := w) (v := fv vs) (by rw [ha]; exact hw b vs hon hoff) hd (hrun a w s vs hms hsM hI (by rw [ha]; exact has_of hr b vs hon hoff)) (hK.out _ _ ⟨s, vs, h0, chain_skip hC h1, ?_, hI⟩)
 rw [ha]
 exact putSel_upk k hb (hL vs) (set_same (hL vs)) (hdist vs)
theorem gv_off (i k : Nat) {t : Tmp} {oi : Oper} (ho : ops[i]? = some oi) (hd : oi.dst = some t) (hw : Wt ops O B i L a0 oi false) (hL : ∀ vs, (L vs)[k]? = some (i, t, undef))
  (hdist : ∀ vs, ((L vs).take k ++ (L vs).drop (k + 1)).all (fun e => !(e.1 == i) && !(e.2.1 == t)) = true) (hC : C.contains i = false) : StepAt P ops Q B O (GvI C I L a0) i := by
 rintro b a w ⟨s, vs, h0, h1, ha, hI⟩ hb hon hoff
 refine ⟨oi, ho, fun K hK => ?_⟩
 rw [hd, if_neg (by rw [ha, hw b vs hon hoff]; exact Bool.false_ne_true)]
 refine hK.out _ _ ⟨s, vs, h0, chain_skip hC h1, ?_, hI⟩
 rw [ha]
 exact putSel_upk k hb (hL vs) (set_same (hL vs)) (hdist vs)
theorem gv_step (i k m : Nat) {t : Tmp} (hm : C[m]? = some i) (hL : ∀ vs, (L vs)[k]? = some (i, t, vs (m + 1))) (hset : ∀ vs v', (L vs).set k (i, t, v') = L (updV vs (m + 1) v'))
  (hdist : ∀ vs, ((L vs).take k ++ (L vs).drop (k + 1)).all (fun e => !(e.1 == i) && !(e.2.1 == t)) = true) (hnd : (C.take m ++ C.drop (m + 1)).contains i = false) (hprev : (C.take m).all (fun q => O.contains q && (B.getD i 0).testBit q) = true)
  {b : Nat → Bool} {a : Act} {w : World} (hI : GvI C I L a0 b a w) (hb : b i = false) (hon : ∀ j, (O.contains j && (B.getD i 0).testBit j) = true → b j = true) :
  ∃ vs, a = putSel a0 b (L vs) ∧ I m vs w ∧ ∀ v' w', I (m + 1) (updV vs (m + 1) v') w' → GvI C I L a0 (up b i) (a.put (some t) v') w' := by
 obtain ⟨s, vs, h0, h1, ha, hI⟩ := hI
 have hs : s = m := by
  have e1 := h1 m i hm
  rcases Nat.lt_trichotomy s m with h | h | h
  ·have hlt : s < C.length := by
    have := (List.getElem?_eq_some_iff.1 hm).1
    omega
   have hc := List.getElem?_eq_getElem hlt
   have e2 := (h1 s _ hc).2 (Nat.le_refl _)
   have e3 := List.all_eq_true.1 hprev C[s] (List.mem_take_iff_getElem.2 ⟨s, by omega, rfl⟩)
   rw [hon _ e3] at e2
   cases e2
  ·exact h
  ·rw [e1.1 h] at hb
   cases hb
 subst hs
 refine ⟨vs, ha, hI, fun v' w' hI' => ⟨s + 1, updV vs (s + 1) v', ?_, fun j c hc => ?_, ?_, hI'⟩⟩
 ·have := (List.getElem?_eq_some_iff.1 hm).1
  omega
 ·by_cases hj : j = s
  ·subst hj
   rw [hm] at hc
   injection hc with hc
   subst hc
   exact ⟨fun _ => up_self _ _, fun h => absurd h (by omega)⟩
  ·have hne : c ≠ i := fun e => by
    subst e
    have hmem : c ∈ C.take s ++ C.drop (s + 1) := by
     rw [List.mem_append]
     have hl := (List.getElem?_eq_some_iff.1 hc)
     obtain ⟨hl1, hl2⟩ := hl
     by_cases h : j < s
     ·exact Or.inl (List.mem_take_iff_getElem.2 ⟨j, by omega, hl2⟩)
     ·refine Or.inr (List.mem_drop_iff_getElem.2 ⟨j - (s + 1), by omega, ?_⟩)
      rw [← hl2]
      congr 1
      omega
    rw [List.contains_iff_mem.2 hmem] at hnd
    cases hnd
   rw [up_ne hne]
   have := h1 j c hc
   exact ⟨fun h => this.1 (by omega), fun h => this.2 (by omega)⟩
 ·rw [ha]
  exact putSel_upk k hb (hL vs) (hset vs v') (hdist vs)
theorem gv_put (i m : Nat) (hm : C[m]? = some i) (hL : ∀ vs, (L vs).all (fun e => !(e.1 == i)) = true) (hnd : (C.take m ++ C.drop (m + 1)).contains i = false) (hprev : (C.take m).all (fun q => O.contains q && (B.getD i 0).testBit q) = true)
  {b : Nat → Bool} {a : Act} {w : World} (hI : GvI C I L a0 b a w) (hb : b i = false) (hon : ∀ j, (O.contains j && (B.getD i 0).testBit j) = true → b j = true) :
  ∃ vs, a = putSel a0 b (L vs) ∧ I m vs w ∧ ∀ w', I (m + 1) vs w' → GvI C I L a0 (up b i) a w' := by
 obtain ⟨s, vs, h0, h1, ha, hI⟩ := hI
 have hs : s = m := by
  have e1 := h1 m i hm
  rcases Nat.lt_trichotomy s m with h | h | h
  ·have hlt : s < C.length := by
    have := (List.getElem?_eq_some_iff.1 hm).1
    omega
   have hc := List.getElem?_eq_getElem hlt
   have e2 := (h1 s _ hc).2 (Nat.le_refl _)
   have e3 := List.all_eq_true.1 hprev C[s] (List.mem_take_iff_getElem.2 ⟨s, by omega, rfl⟩)
   rw [hon _ e3] at e2
   cases e2
  ·exact h
  ·rw [e1.1 h] at hb
   cases hb
 subst hs
 refine ⟨vs, ha, hI, fun w' hI' => ⟨s + 1, vs, ?_, fun j c hc => ?_, ?_, hI'⟩⟩
 ·have := (List.getElem?_eq_some_iff.1 hm).1
  omega
 ·by_cases hj : j = s
  ·subst hj
   rw [hm] at hc
   injection hc with hc
   subst hc
   exact ⟨fun _ => up_self _ _, fun h => absurd h (by omega)⟩
  ·have hne : c ≠ i := fun e => by
    subst e
    have hmem : c ∈ C.take s ++ C.drop (s + 1) := by
     rw [List.mem_append]
     have hl := (List.getElem?_eq_some_iff.1 hc)
     obtain ⟨hl1, hl2⟩ := hl
     by_cases h : j < s
     ·exact Or.inl (List.mem_take_iff_getElem.2 ⟨j, by omega, hl2⟩)
     ·refine Or.inr (List.mem_drop_iff_getElem.2 ⟨j - (s + 1), by omega, ?_⟩)
      rw [← hl2]
      congr 1
      omega
    rw [List.contains_iff_mem.2 hmem] at hnd
    cases hnd
   rw [up_ne hne]
   have := h1 j c hc
   exact ⟨fun h => this.1 (by omega), fun h => this.2 (by omega)⟩
 ·rw [ha]
  exact (putSel_skip (hL vs)).symm
theorem gv_gen (ps : List (Tmp × ((Nat → Value) → Value))) (i k m : Nat) {t : Tmp} {oi : Oper} (ho : ops[i]? = some oi) (hd : oi.dst = some t) (hw : Wt ops O B i L a0 oi true) (hm : C[m]? = some i) (hL : ∀ vs, (L vs)[k]? = some (i, t, vs (m + 1))) (hset : ∀ vs v', (L vs).set k (i, t, v') = L (updV vs (m + 1) v'))
  (hdist : ∀ vs, ((L vs).take k ++ (L vs).drop (k + 1)).all (fun e => !(e.1 == i) && !(e.2.1 == t)) = true) (hnd : (C.take m ++ C.drop (m + 1)).contains i = false) (hprev : (C.take m).all (fun q => O.contains q && (B.getD i 0).testBit q) = true) (hr : RdL O B i L a0 ps)
  (hstep : ∀ (a : Act) (w : World) (K : Act → World → Prop) (vs : Nat → Value), I m vs w → Has a vs ps → Region.wanted oi (yielded ops a.tmps) = true → (∀ v' w', I (m + 1) (updV vs (m + 1) v') w' → K (a.put (some t) v') w') → if Region.wanted oi (yielded ops a.tmps) = true then Oper.wp P oi a w K Q else K (a.put (some t) undef) w) : StepAt P ops Q B O (GvI C I L a0) i := by
 rintro b a w hG hb hon hoff
 obtain ⟨vs, ha, hI, hK2⟩ := gv_step i k m hm hL hset hdist hnd hprev hG hb hon
 refine ⟨oi, ho, fun K hK => ?_⟩
 rw [hd]
 exact hstep a w K vs hI (by rw [ha]; exact has_of hr b vs hon hoff) (by rw [ha]; exact hw b vs hon hoff) (fun v' w' h => hK.out _ _ (hK2 v' w' h))
theorem gv_store (ps : List (Tmp × ((Nat → Value) → Value))) (i m : Nat) {f : (Nat → Value) → World → World} {oi : Oper} (ho : ops[i]? = some oi) (hd : oi.dst = none) (hw : Wt ops O B i L a0 oi true) (hm : C[m]? = some i) (hL : ∀ vs, (L vs).all (fun e => !(e.1 == i)) = true)
  (hnd : (C.take m ++ C.drop (m + 1)).contains i = false) (hprev : (C.take m).all (fun q => O.contains q && (B.getD i 0).testBit q) = true) (hr : RdL O B i L a0 ps)
  (hrun : ∀ (a : Act) (w : World) (vs : Nat → Value), I m vs w → Has a vs ps → (execOp a.eval oi).run P w = .ok .skip (f vs w)) (hI : ∀ vs w, I m vs w → I (m + 1) vs (f vs w)) : StepAt P ops Q B O (GvI C I L a0) i := by
 rintro b a w hG hb hon hoff
 obtain ⟨vs, ha, hIm, hK2⟩ := gv_put i m hm hL hnd hprev hG hb hon
 refine ⟨oi, ho, fun K hK => ?_⟩
 rw [hd]
 exact skip_ (w1 := f vs w) (by rw [ha]; exact hw b vs hon hoff) hd (hrun a w vs hIm (by rw [ha]; exact has_of hr b vs hon hoff)) (hK.out _ _ (hK2 _ (hI vs w hIm)))
theorem grow_v {id : Nat} (O C : List Nat) (I : Nat → (Nat → Value) → World → Prop) (L : (Nat → Value) → Sel) {n : Nat} {l : Array Bool} {Tb : Bool × List (List Nat × List Nat)} (hm : P.follows .mixedOrders = true) (hn : ops.size = n) (hl : Array.replicate n false = l) (hT : rtab .any ops = Tb) (hw : waitsOk Tb.2 B = true) (hk : baseOk Tb.2 O = true) (hl2 : (lof Tb.2.length O (fun _ => false) == l.toList && O.length == n) = true)
  (hLO : ∀ vs, (L vs).all (fun e => O.contains e.1) = true) (hCO : (C.all fun e => O.contains e) = true) (vs0 : Nat → Value) (h0 : I 0 vs0 W.drew) (hs : ∀ i ∈ O, StepAt P ops Q B O (GvI C I L a0) i)
  (hend : ∀ (vs : Nat → Value) (w : World), I C.length vs w → Q .normal (putSel a0 (fun _ => true) (L vs)) w) : Code.wp P (Code.region id ops true) Q a0 W := by
 refine start_ (S := fun _ => True) (ds := []) l hm hn hl trivial (fun _ => ?_)
 refine inv_at O (fun a0 => GvI C I L a0) hT hw hk hl2 ⟨0, vs0, Nat.zero_le _, fun j c _ => ⟨fun h => absurd h (Nat.not_lt_zero _), fun _ => rfl⟩, ?_, h0⟩ hs ?_
 ·generalize L vs0 = LL
  clear hLO hs hend
  induction LL with
  | nil => rfl
  | cons e r ih => unfold putSel; exact ih
 ·rintro b a w hall ⟨s, vs, hs1, h1, ha, hI⟩
  have e1 : putSel a0 b (L vs) = putSel a0 (fun _ => true) (L vs) := putSel_congr (fun e he => hall _ (List.all_eq_true.1 (hLO vs) e he))
  have e2 : s = C.length := by
   rcases Nat.lt_or_ge s C.length with h | h
   ·have hc := List.getElem?_eq_getElem h
    have e2 := (h1 s _ hc).2 (Nat.le_refl _)
    rw [hall _ (List.all_eq_true.1 hCO _ (List.getElem_mem h))] at e2
    cases e2
   ·omega
  rw [ha, e1]
  rw [e2] at hI
  exact hend vs w hI
end
end Go.Proofs.YtdlamomabonkjaaDoor.Base
end
section
namespace Go.Proofs.YtdlamomabonkjaaDoor.Pk
open Go.RowKit YtdlamomabonkjaaDoorW.PrintWords YtdlamomabonkjaaDoorW.PrintLast Base PCh ParDec Ch
abbrev CL := Chk × Lay
theorem CV_cell (x : Chk) (L : Lay) : ∀ u ∈ (CV x L).toList, u.oneCell' = true := by
 have h := CV_one x L
 rw [← Array.all_toList] at h
 exact List.all_eq_true.1 h
def cvK : Kd CL where
 sz := 15
 E := []
 K := fun _ p cs => cs = (CV p.1 p.2).toList
 M := fun _ _ _ p cs => cs = (CV p.1 p.2).toList
 K_len := fun h => by rw [h]; rfl
 K_one := fun h u hu => by
  rw [h] at hu
  exact CV_cell _ _ u hu
 K_below := fun _ h => h
 K_of_M := fun h => h
 M_mono := fun _ h => h
 M_bound := fun h => h
 M_move := fun _ h => h
 M_lower := fun _ h => h
def fsts (ps : List CL) : List Chk := ps.map (·.1)
theorem fsts_len (ps : List CL) : (fsts ps).length = ps.length := List.length_map ..
theorem cv_chk {w : World} {A : Option Addr} {n : Nat} {ps : List CL} (h : cvK.C w A n ps) (hp : ∀ p ∈ ps, CR w p.1 p.2) : Kd.C k41 w A n (fsts ps) := by
 obtain ⟨h1, h2, h3⟩ := h
 refine ⟨by rw [fsts_len]; exact h1, h2, fun hn => ?_⟩
 obtain ⟨ad, e, hc⟩ := h3 hn
 refine ⟨ad, e, fun j x hj => ?_⟩
 unfold fsts at hj
 rw [List.getElem?_map] at hj
 obtain ⟨p, hp1, rfl⟩ := Option.map_eq_some_iff.1 hj
 obtain ⟨cs, hl, hK, hcell⟩ := hc j p hp1
 have hK' : cs = (CV p.1 p.2).toList := hK
 exact ⟨cs, hl, by rw [hK']; exact (hp p (List.mem_of_getElem? hp1)).K, hcell⟩
abbrev RW := (Option Nat × Nat) × List CL
def encR (z : RW) : Value := .slice (z.1.1.map fun g => ⟨g, 0, none⟩) z.2.length z.1.2
def rawR : Kd RW := Kd.scalar encR (fun _ => rfl)
theorem encR_own (z : RW) : (encR z).ownBlock = z.1.1 := by
 obtain ⟨⟨g, c⟩, ps⟩ := z
 cases g <;> rfl
def OwnZ (W : World) (B : Nat) (z : RW) : Prop := cvK.R 41 W B (fun _ => True) (encR z) z.2
theorem OwnZ.C {W : World} {B : Nat} {z : RW} (h : OwnZ W B z) : cvK.C W (z.1.1.map fun g => ⟨g, 0, none⟩) z.2.length z.2 ∧ z.2.length ≤ z.1.2 := by
 obtain ⟨A, c, he, hle, hC⟩ := Kd.R_reads h
 unfold encR at he
 injection he with e1 e2 e3
 rw [e1]
 exact ⟨hC, by omega⟩
theorem OwnZ.below {W W' : World} {B : Nat} {z : RW} (h : OwnZ W B z) (hb : Below W.heap.size W W') : OwnZ W' B z := Kd.R_below h hb
theorem R_grown_far {α : Type} {d : Kd α} {e base : Nat} {ok : Nat → Prop} {v : Value} {xs : List α} {w w1 : World} {row : Option Nat} (h : d.R e w base ok v xs) (hE : d.E = []) (hg : w.grownBy w1 row) (hne : ∀ g, v.ownBlock = some g → row ≠ some g) : d.R e w1 base ok v xs := by
 refine Kd.R_mono (Kd.R_grown (ok := fun k => ok k ∧ row ≠ some k) ?_ hg (fun k hk e2 => hk.2 e2.symm)) (fun k hk => hk.1)
 obtain ⟨h0, h1⟩ := h
 refine ⟨fun k hk => ⟨h0 k hk, hne k hk⟩, ?_⟩
 obtain ⟨inner, ho, hr⟩ := h1
 refine ⟨inner, ho, hr.imp_ fun p c hp => ?_⟩
 have hb := d.M_bound hp
 exact d.M_mono (fun k hk => by
  obtain ⟨_, _, _, q, hq, _⟩ := hk
  rw [hE] at hq
  cases hq) hb
theorem R_apart2 {α β : Type} {d : Kd α} {d' : Kd β} {e e' base base' : Nat} {ok ok' : Nat → Prop} {v v' : Value} {xs : List α} {ys : List β} {w w1 : World} (h : d.R e w base ok v xs) (h' : d'.R e' w base' ok' v' ys) (hE : d.E = []) (ht : e ≠ e') (hg : w.grownBy w1 v'.ownBlock) : d.R e w1 base ok v xs := by
 refine R_grown_far h hE hg fun g hv hv' => ?_
 obtain ⟨inner, ho⟩ := Kd.R_own h
 obtain ⟨inner', ho'⟩ := Kd.R_own h'
 obtain ⟨c1, h1⟩ := own_typed ho g hv
 obtain ⟨c2, h2⟩ := own_typed ho' g hv'
 rw [h1] at h2
 injection h2 with h2
 injection h2 with _ h2
 exact ht h2
theorem R_store_apart {α β : Type} {d : Kd α} {d' : Kd β} {e e' base base' : Nat} {ok ok' : Nat → Prop} {v v' : Value} {xs : List α} {ys : List β} {w : World} (h : d.R e w base ok v xs) (h' : d'.R e' w base' ok' v' ys) (hE : d.E = []) (ht : e ≠ e') {g : Nat} (hg : v'.ownBlock = some g) (i : Nat) (u : Value) : d.R e (w.setCell ⟨g, i, none⟩ u) base ok v xs := by
 obtain ⟨inner', ho'⟩ := Kd.R_own h'
 obtain ⟨c2, h2⟩ := own_typed ho' g hg
 refine Kd.R_set h h2 (fun q hq => ?_) i u
 rw [hE] at hq
 rcases List.mem_cons.1 hq with rfl | hq
 ·exact ht
 ·cases hq
theorem cv_one (W : World) (x : Chk) (L : Lay) : cvK.C (W.alloc (.cells (CV x L) 41)) (some ⟨W.heap.size, 0, none⟩) 1 [(x, L)] := by
 refine ⟨rfl, by decide, fun _ => ⟨_, rfl, fun j p hj => ?_⟩⟩
 match j, hj with
 | 0, hj =>
  obtain rfl : (x, L) = p := by simpa using hj
  refine ⟨(CV x L).toList, rfl, rfl, fun i u hu => ?_⟩
  rw [Nat.zero_mul, Nat.zero_add, add_plain]
  rw [cell_of_row _ _ _ _ _ _ (heap_alloc_new W _)]
  simpa using hu
 | j + 1, hj => simp at hj
theorem info_sl : (Tryd.prog.info? 24).map (fun i => (i.zero, i.size, i.bytes)) = some (some (.slice none 0 0), rawR.sz, 24) := by kernel_rfl
theorem info_cv : (Tryd.prog.info? 41).map (fun i => (i.zero, i.size, i.bytes)) = some (some (.agg zerV), cvK.sz, 152) := by kernel_rfl
theorem raw_rows {w : World} {A : Option Addr} {n : Nat} {zs : List RW} (h : rawR.C w A n zs) (hz : ∀ z ∈ zs, Kd.C k41 w (z.1.1.map fun g => ⟨g, 0, none⟩) z.2.length (fsts z.2) ∧ z.2.length ≤ z.1.2) : (Kd.slice 41 k41).C w A n (zs.map fun z => fsts z.2) := by
 obtain ⟨h1, h2, h3⟩ := h
 refine ⟨by rw [List.length_map]; exact h1, h2, fun hn => ?_⟩
 obtain ⟨ad, e, hc⟩ := h3 hn
 refine ⟨ad, e, fun j x hj => ?_⟩
 rw [List.getElem?_map] at hj
 obtain ⟨z, hz1, rfl⟩ := Option.map_eq_some_iff.1 hj
 obtain ⟨cs, hl, hK, hcell⟩ := hc j z hz1
 obtain ⟨hC, hle⟩ := hz z (List.mem_of_getElem? hz1)
 have hK' : cs = [encR z] := hK
 refine ⟨cs, hl, ⟨_, z.1.2, ?_, by rw [fsts_len]; exact hle, by rw [fsts_len]; exact hC⟩, hcell⟩
 rw [hK', fsts_len]
 rfl
end Go.Proofs.YtdlamomabonkjaaDoor.Pk
end
section
namespace Go.Proofs.YtdlamomabonkjaaDoor.Pk
open Go.RowKit YtdlamomabonkjaaDoorW.PrintWords YtdlamomabonkjaaDoorW.PrintLast Base PCh ParDec Ch
theorem cv_empty (W : World) : cvK.R 41 (W.alloc (.cells #[] 41)) W.heap.size (fun _ => True) (.slice (some ⟨W.heap.size, 0, none⟩) 0 0) [] :=
 ⟨fun _ _ => trivial, OwnRow.lit (inner := []) W W.heap.size (Reps.none _ _) (Nat.le_refl _) (by simp)⟩
theorem clonec_calls (w : World) (g n cap : Nat) (ps : List CL) (hC : cvK.C w (some ⟨g, 0, none⟩) n ps) (hn : n * 152 ≤ 140737488355328) :
  Calls Tryd.prog 48 #[.slice (some ⟨g, 0, none⟩) n cap] w fun e w' => ∃ v, e = .returned v ∧ cvK.R 41 w' w.heap.size (fun _ => True) v ps ∧ Below w.heap.size w w' := by
 have HC := Lh hC
 clear hC
 have he := fun (W : World) => Lib.run_eql_slice_nil (P := Tryd.prog) W 24 41 (some ⟨g, 0, none⟩) n cap 0 0 Tryd.underlying24
 go_enter Tryd.func48, Tryd.ntmps48
 go_wp2_with (at_builtin; go_must (refine Kd.R_append_rows cvK (Rr := cvK.K w) (w0 := w) (W := w.alloc (.cells #[] 41)) w.heap.size rfl _ _ 24 41 (.agg zerV) 152 rfl Tryd.underlying24 info_cv rfl (by decide) (by decide) (.slice (some ⟨w.heap.size, 0, none⟩) 0 0) [] ps (some ⟨g, 0, none⟩) n cap (fun _ => True) (fun _ => False) rfl rfl (cv_empty w) (Kd.C_alloc HC.out _) (fun _ _ h => h) (fun _ h => h.elim) (fun _ _ => trivial) ((Below.refl _ _).alloc (Nat.le_refl _) _) (by simp) (by simp; omega) ?_); (intro v1 w1 hR1 hB1 hG1 _; rw [List.nil_append] at hR1; have HR1 := Lh hR1; have HB1 := Lh hB1; clear hR1 hB1 hG1))
 go_ret
 exact ⟨_, rfl, HR1.out, HB1.out⟩
end Go.Proofs.YtdlamomabonkjaaDoor.Pk
end
section
namespace Go.Proofs.YtdlamomabonkjaaDoor.Pk
open Go.RowKit YtdlamomabonkjaaDoorW.PrintWords YtdlamomabonkjaaDoorW.PrintLast Base PCh ParDec Ch
structure BSt (w W : World) (zs : List RW) (v : Value) : Prop where
 out : rawR.R 24 W w.heap.size (fun _ => True) v zs
 own : ∀ z ∈ zs, OwnZ W w.heap.size z
 cr : ∀ z ∈ zs, ∀ p ∈ z.2, CR w p.1 p.2
 bl : Below w.heap.size w W
 dist : ∀ ds r, zs = ds ++ [r] → ∀ z ∈ ds, ∀ g, z.1.1 = some g → r.1.1 ≠ some g
theorem BSt.nil (w W : World) (h : Below w.heap.size w W) : BSt w W [] (.slice none 0 0) := ⟨Kd.R_nil _ _ _ _ _, (fun _ h => by cases h), (fun _ h => by cases h), h, fun ds r e => by
 have := congrArg List.length e
 simp at this⟩
theorem BSt.below {w W W' : World} {zs : List RW} {v : Value} (h : BSt w W zs v) (hb : Below W.heap.size W W') : BSt w W' zs v :=
 ⟨Kd.R_below h.out hb, fun z hz => (h.own z hz).below hb, h.cr, below_then h.bl h.bl.size hb, h.dist⟩
def nilZ : RW := ((none, 0), [])
theorem BSt.opened {w W w1 : World} {zs : List RW} {v v1 : Value} (h : BSt w W zs v) (h1 : rawR.R 24 w1 w.heap.size (fun _ => True) v1 (zs ++ [nilZ])) (hg : W.grownBy w1 v.ownBlock) (hb : Below w.heap.size w w1) : BSt w w1 (zs ++ [nilZ]) v1 := by
 refine ⟨h1, fun z hz => ?_, fun z hz p hp => ?_, hb, fun ds r e => ?_⟩
 ·rcases List.mem_append.1 hz with hz | hz
  ·exact R_apart2 (h.own z hz) h.out rfl (by decide) hg
  ·rw [List.mem_singleton.1 hz]
   exact Kd.R_nil _ _ _ _ _
 ·rcases List.mem_append.1 hz with hz | hz
  ·exact h.cr z hz p hp
  ·rw [List.mem_singleton.1 hz] at hp
   cases hp
 ·obtain ⟨_, hr⟩ := List.append_inj' e rfl
  have : nilZ = r := (List.cons.inj hr).1
  subst this
  intro z _ g _ e2
  cases e2
structure AppP (w W : World) (v : Value) (ds : List RW) (r : RW) (x : Chk) (L : Lay) (v2 : Value) : Prop where
 out : rawR.R 24 W w.heap.size (fun _ => True) v (ds ++ [r])
 own : ∀ z ∈ ds, OwnZ W w.heap.size z
 last : cvK.R 41 W w.heap.size (fun _ => True) v2 (r.2 ++ [(x, L)])
 cr : ∀ z ∈ ds ++ [r], ∀ p ∈ z.2, CR w p.1 p.2
 crx : CR w x L
 bl : Below w.heap.size w W
 dist : ∀ z ∈ ds, ∀ g, z.1.1 = some g → v2.ownBlock ≠ some g
theorem BSt.app {w W w1 : World} {ds : List RW} {r : RW} {v v2 : Value} {x : Chk} {L : Lay} (h : BSt w W (ds ++ [r]) v) (hx : CR w x L) (h2 : cvK.R 41 w1 w.heap.size (fun _ => True) v2 (r.2 ++ [(x, L)])) (hg : W.grownBy w1 (encR r).ownBlock) (hat : v2.ownBlock = (encR r).ownBlock ∨ ∃ b, v2.ownBlock = some b ∧ W.heap.size ≤ b) (hb : Below w.heap.size w w1) : AppP w w1 v ds r x L v2 := by
 have hr : r ∈ ds ++ [r] := List.mem_append_right _ (List.mem_singleton_self _)
 have hd : ∀ z ∈ ds, z ∈ ds ++ [r] := fun z hz => List.mem_append_left _ hz
 refine ⟨R_apart2 h.out (h.own r hr) rfl (by decide) hg, fun z hz => ?_, h2, h.cr, hx, hb, fun z hz g hzg => ?_⟩
 ·refine R_grown_far (h.own z (hd z hz)) rfl hg fun g hzg => ?_
  rw [encR_own] at hzg ⊢
  exact h.dist ds r rfl z hz g hzg
 ·rcases hat with hat | ⟨b, hat, hbb⟩
  ·rw [hat, encR_own]
   exact h.dist ds r rfl z hz g hzg
  ·rw [hat]
   intro e
   injection e with e
   obtain ⟨inner, ho⟩ := Kd.R_own (h.own z (hd z hz))
   have := own_lt ho g (by rw [encR_own]; exact hzg)
   omega
theorem set_last {α : Type} (ds : List α) (r r' : α) : (ds ++ [r]).set ds.length r' = ds ++ [r'] := by
 rw [List.set_append_right _ _ (Nat.le_refl _), Nat.sub_self]
 rfl
theorem AppP.store {w W : World} {v v2 : Value} {ds : List RW} {r : RW} {x : Chk} {L : Lay} (h : AppP w W v ds r x L v2) {go n cap : Nat} (hv : v = .slice (some ⟨go, 0, none⟩) n cap) : ∃ r' : RW, r'.2 = r.2 ++ [(x, L)] ∧ encR r' = v2 ∧ BSt w (W.setCell ⟨go, ds.length, none⟩ v2) (ds ++ [r']) v := by
 obtain ⟨g, cp, hv2, hgb, _⟩ := (Kd.R_own h.last).elim fun _ h => h.form (by rw [List.length_append]; simp)
 have he : encR ((some g, cp), r.2 ++ [(x, L)]) = v2 := by rw [hv2]; rfl
 have hvo : v.ownBlock = some go := by rw [hv]; rfl
 refine ⟨((some g, cp), r.2 ++ [(x, L)]), rfl, he, ?_⟩
 have ho := h.out
 rw [hv] at ho ⊢
 have h1 := Kd.R_putn ho (ds.length : Int) ((some g, cp), r.2 ++ [(x, L)])
 rw [Int.toNat_natCast, set_last] at h1
 have h1' : rawR.R 24 (W.setCell ⟨go, ds.length, none⟩ v2) w.heap.size (fun _ => True) (.slice (some ⟨go, 0, none⟩) n cap) (ds ++ [((some g, cp), r.2 ++ [(x, L)])]) := by
  rw [← he]
  exact h1
 refine ⟨h1', fun z hz => ?_, fun z hz p hp => ?_, h.bl.setCell (p := ⟨go, ds.length, none⟩) (Kd.R_base ho go rfl) v2, fun ds' r' e => ?_⟩
 ·rcases List.mem_append.1 hz with hz | hz
  ·exact R_store_apart (h.own z hz) ho rfl (by decide) rfl _ _
  ·rw [List.mem_singleton.1 hz]
   have := R_store_apart h.last ho rfl (by decide) rfl ds.length v2
   rw [← he] at this ⊢
   exact this
 ·rcases List.mem_append.1 hz with hz | hz
  ·exact h.cr z (List.mem_append_left _ hz) p hp
  ·rw [List.mem_singleton.1 hz] at hp
   rcases List.mem_append.1 hp with hp | hp
   ·exact h.cr r (List.mem_append_right _ (List.mem_singleton_self _)) p hp
   ·rw [List.mem_singleton.1 hp]
    exact h.crx
 ·obtain ⟨e1, e2⟩ := List.append_inj' e rfl
  have e3 := (List.cons.inj e2).1
  subst e1 e3
  intro z hz g' hzg e4
  exact h.dist z hz g' hzg (by rw [← he, encR_own]; exact e4)
theorem BSt.last {w W : World} {ds : List RW} {r : RW} {v : Value} (h : BSt w W (ds ++ [r]) v) : ∃ go cap, v = .slice (some ⟨go, 0, none⟩) (ds.length + 1) cap ∧ w.heap.size ≤ go := by
 obtain ⟨g, cp, hv, hgb, _⟩ := (Kd.R_own h.out).elim fun _ h => h.form (by rw [List.length_append]; simp)
 exact ⟨g, cp, by rw [hv, List.length_append]; rfl, hgb⟩
theorem BSt.cell {w W : World} {ds : List RW} {r : RW} {go n cap : Nat} (h : BSt w W (ds ++ [r]) (.slice (some ⟨go, 0, none⟩) n cap)) : W.cell? ⟨go, ds.length, none⟩ = some (encR r) ∧ W.frozen? ⟨go, ds.length, none⟩ = false := by
 have hn := (Kd.R_reads' h.out).1
 rw [List.length_append] at hn
 have h1 := Kd.R_celln nilZ h.out (ds.length : Int) (by omega) (by simp at hn; omega)
 rw [Int.toNat_natCast] at h1
 have h2 : rdOf nilZ (ds ++ [r]) (ds.length : Int) = r := by
  unfold rdOf
  rw [Int.toNat_natCast, getD_app_len]
 rw [h2] at h1
 exact h1
theorem BSt.read {w W : World} {zs : List RW} {v : Value} (h : BSt w W zs v) : ∃ A c, v = .slice A zs.length c ∧ zs.length ≤ c ∧ (Kd.slice 41 k41).C W A zs.length (zs.map fun z => fsts z.2) := by
 obtain ⟨A, c, hv, hle, hC⟩ := Kd.R_reads h.out
 refine ⟨A, c, hv, hle, raw_rows hC fun z hz => ?_⟩
 obtain ⟨h1, h2⟩ := (h.own z hz).C
 exact ⟨cv_chk h1 (fun p hp => (h.cr z hz p hp).below h.bl), h2⟩
end Go.Proofs.YtdlamomabonkjaaDoor.Pk
end
section
namespace Go.Proofs.YtdlamomabonkjaaDoor.Pk
open Go.ChangeShapes Go.WideShapes Go.ChangeAt Go.RowKit YtdlamomabonkjaaDoorW.PrintWords Base PCh ParDec Ch
def OkL (l : List Chk) : Prop := l.length * 152 ≤ 140737488351232 ∧ ∀ x ∈ l, OkC x
end Go.Proofs.YtdlamomabonkjaaDoor.Pk
end
section
namespace Go.Proofs.YtdlamomabonkjaaDoor.Pk
open Go.RowKit YtdlamomabonkjaaDoorW.PrintWords YtdlamomabonkjaaDoorW.PrintLast Base PCh ParDec Ch
def RelB (m : Nat) (a : List Chk) (zs : List RW) (lf : Nat) : Prop := zs.map (fun z => fsts z.2) = outB (rowsB m a) ∧ lf = (rowsB m a).left ∧ ∀ x ∈ a, 12 + sizeD x ≤ m
theorem RelB.nil (m : Nat) : RelB m [] [] 0 := ⟨rfl, rfl, fun _ h => by cases h⟩
theorem take_next {l : List Chk} {i : Nat} {x : Chk} {r : List Chk} (h : l.drop i = x :: r) : l.take (i + 1) = l.take i ++ [x] := by
 have hi : i < l.length := by
  rcases Nat.lt_or_ge i l.length with h1 | h1
  ·exact h1
  ·rw [List.drop_of_length_le h1] at h; cases h
 have hx : l[i] = x := by
  have := List.drop_eq_getElem_cons hi
  rw [this] at h
  exact (List.cons.inj h).1
 rw [List.take_succ_eq_append_getElem hi, hx]
theorem rowsB_snoc (m : Nat) (a : List Chk) (x : Chk) : rowsB m (a ++ [x]) = bstep m (rowsB m a) x := by
 unfold rowsB
 rw [List.foldl_append]
 rfl
theorem outB_one (D : List (List Chk)) (x : Chk) (q : Nat) : outB ⟨D, [x], q⟩ = D ++ [[x]] := by
 unfold outB
 rw [if_neg (by simp)]
theorem outB_last {m : Nat} {s : BS} {a : List Chk} (hI : BInv m s a) {ds : List RW} {r : RW} (h : (ds ++ [r]).map (fun z => fsts z.2) = outB s) : s.R = fsts r.2 ∧ s.D = ds.map (fun z => fsts z.2) ∧ s.R ≠ [] := by
 unfold outB at h
 by_cases hR : s.R = []
 ·rw [if_pos (by rw [hR]; rfl), hI.st hR] at h
  have := congrArg List.length h
  simp at this
 ·have hne : s.R.isEmpty = false := by cases hh : s.R with
   | nil => exact absurd hh hR
   | cons _ _ => rfl
  rw [if_neg (by rw [hne]; exact Bool.false_ne_true), List.map_append] at h
  obtain ⟨h1, h2⟩ := List.append_inj' h rfl
  exact ⟨((List.cons.inj h2).1).symm, h1.symm, hR⟩
theorem RelB.open_ {m : Nat} {a : List Chk} {zs : List RW} {lf : Nat} (h : RelB m a zs lf) (hI : BInv m (rowsB m a) a) {x : Chk} (hx : 12 + sizeD x ≤ m) (hop : zs = [] ∨ lf < sizeD x ∨ ∃ ds r, zs = ds ++ [r] ∧ apartB (fsts r.2 ++ [x]) = true) {r' : RW} {L : Lay} (hr : r'.2 = nilZ.2 ++ [(x, L)]) : RelB m (a ++ [x]) (zs ++ [r']) (m - 12 - sizeD x) := by
 obtain ⟨h1, h2, h3⟩ := h
 have hs : rowsB m (a ++ [x]) = ⟨outB (rowsB m a), [x], m - 12 - sizeD x⟩ := by
  rw [rowsB_snoc]
  unfold bstep
  rw [if_pos]
  rcases hop with hop | hop | ⟨ds, r, hz, hap⟩
  ·left
   rw [hop] at h1
   cases hh : (rowsB m a).R with
   | nil => rfl
   | cons y t =>
    unfold outB at h1
    rw [if_neg (by rw [hh]; simp)] at h1
    have := congrArg List.length h1
    simp at this
  ·right; left; rw [← h2]; exact hop
  ·right; right
   rw [hz] at h1
   rw [(outB_last hI h1).1]
   exact hap
 refine ⟨?_, by rw [hs], fun y hy => ?_⟩
 ·rw [List.map_append, h1, hs]
  rw [outB_one]
  show _ ++ [fsts r'.2] = _
  rw [hr]
  rfl
 ·rcases List.mem_append.1 hy with hy | hy
  ·exact h3 y hy
  ·rw [List.mem_singleton.1 hy]; exact hx
theorem RelB.stay {m : Nat} {a : List Chk} {ds : List RW} {r : RW} {lf : Nat} (h : RelB m a (ds ++ [r]) lf) (hI : BInv m (rowsB m a) a) {x : Chk} (hx : 12 + sizeD x ≤ m) (hl : sizeD x ≤ lf) (hap : apartB (fsts r.2 ++ [x]) = false) {r' : RW} {L : Lay} (hr : r'.2 = r.2 ++ [(x, L)]) : RelB m (a ++ [x]) (ds ++ [r']) (lf - sizeD x) := by
 obtain ⟨h1, h2, h3⟩ := h
 obtain ⟨e1, e2, e3⟩ := outB_last hI h1
 have hne : (rowsB m a).R.isEmpty = false := by cases hh : (rowsB m a).R with
  | nil => exact absurd hh e3
  | cons _ _ => rfl
 have hs : rowsB m (a ++ [x]) = ⟨(rowsB m a).D, (rowsB m a).R ++ [x], (rowsB m a).left - sizeD x⟩ := by
  rw [rowsB_snoc]
  unfold bstep
  rw [if_neg]
  rintro (e | e | e)
  ·rw [hne] at e; cases e
  ·omega
  ·rw [e1, hap] at e; cases e
 refine ⟨?_, by rw [hs, h2], fun y hy => ?_⟩
 ·rw [hs]
  unfold outB
  rw [if_neg (by simp), List.map_append, e1, e2]
  show _ ++ [fsts r'.2] = _
  rw [hr]
  unfold fsts
  rw [List.map_append]
  rfl
 ·rcases List.mem_append.1 hy with hy | hy
  ·exact h3 y hy
  ·rw [List.mem_singleton.1 hy]; exact hx
theorem size_le (x : Chk) (h : checkD x = 0) : sizeD x ≤ 65540 := by
 unfold sizeD
 rw [if_pos h, chunkL_len]
 have := checkD_len h
 omega
theorem RelB.len {m : Nat} {l : List Chk} {i : Nat} {zs : List RW} {lf : Nat} (h : RelB m (l.take i) zs lf) (hI : BInv m (rowsB m (l.take i)) (l.take i)) (hc : ∀ x ∈ l, checkD x = 0) (hmx : l.length ≤ 9223372036854775807) (hl : l.length * 152 ≤ 140737488351232) : (zs.length + 1) * 24 ≤ 140737488355328 ∧ zs.length ≤ 925904600000 := by
 have h1 := rows_ok hI
 have h2 := flatten_len (fun r hr => (h1.gd r hr).1)
 rw [h1.fl, List.length_take] at h2
 have h3 : zs.length = (outB (rowsB m (l.take i))).length := by rw [← h.1, List.length_map]
 omega
theorem RelB.row {m : Nat} {l : List Chk} {i : Nat} {ds : List RW} {r : RW} {lf : Nat} (h : RelB m (l.take i) (ds ++ [r]) lf) (hI : BInv m (rowsB m (l.take i)) (l.take i)) (hl : l.length * 152 ≤ 140737488351232) : (r.2.length + 1) * 152 ≤ 140737488355328 ∧ r.2.length ≤ 925904600000 := by
 obtain ⟨e1, e2, e3⟩ := outB_last hI h.1
 have h1 := congrArg List.length hI.fl
 rw [List.length_flatten, List.map_append, List.sum_append] at h1
 simp only [List.map_cons, List.map_nil, List.sum_cons, List.sum_nil] at h1
 rw [e1, fsts_len, List.length_take] at h1
 omega
theorem BSt.cell2 {w W : World} {ds : List RW} {r : RW} {go n cap : Nat} (h : rawR.R 24 W w.heap.size (fun _ => True) (.slice (some ⟨go, 0, none⟩) n cap) (ds ++ [r])) : W.cell? ⟨go, ds.length, none⟩ = some (encR r) ∧ W.frozen? ⟨go, ds.length, none⟩ = false := by
 have hn := (Kd.R_reads' h).1
 rw [List.length_append] at hn
 have h1 := Kd.R_celln nilZ h (ds.length : Int) (by omega) (by simp at hn; omega)
 rw [Int.toNat_natCast] at h1
 have h2 : rdOf nilZ (ds ++ [r]) (ds.length : Int) = r := by
  unfold rdOf
  rw [Int.toNat_natCast, getD_app_len]
 rw [h2] at h1
 exact h1
theorem blk_far_row {w W w1 : World} {zs : List RW} {v : Value} (h : BSt w W zs v) {g : Nat} {cs : Array Value} (hb : W.heap[g]? = some (.cells cs 41 (0, 0))) (hg : W.grownBy w1 v.ownBlock) : w1.heap[g]? = some (.cells cs 41 (0, 0)) := by
 refine (hg.block g (blk_lt hb) fun e => ?_).trans hb
 obtain ⟨inner, ho⟩ := Kd.R_own h.out
 obtain ⟨c2, h2⟩ := own_typed ho g e.symm
 rw [hb] at h2
 injection h2 with h2
 injection h2 with _ h2
 exact absurd h2 (by decide)
end Go.Proofs.YtdlamomabonkjaaDoor.Pk
end
section
namespace Go.Proofs.YtdlamomabonkjaaDoor.Ch
open Go.RowKit YtdlamomabonkjaaDoorW.PrintWords YtdlamomabonkjaaDoorW.PrintLast Base PCh ParDec ParEnc
theorem fold15 (a0 a1 a2 a3 a4 a5 a6 a7 a8 a9 a10 a11 a12 a13 a14 : Value) : Array.foldl (fun (cs : Array Value) (x : Value × Nat) => cs.setIfInBounds x.snd x.fst) #[.int .u8 0, .int .u8 0, .int .u32 0, .int .u16 0, .int .u16 0, .int .u32 0, .int .u32 0, .int .u32 0, .int .u16 0, .int .u16 0, .slice none 0 0, .slice none 0 0, .slice none 0 0, .slice none 0 0, .slice none 0 0] (#[a0, a1, a2, a3, a4, a5, a6, a7, a8, a9, a10, a11, a12, a13, a14] : Array Value).zipIdx 0 15 = #[a0, a1, a2, a3, a4, a5, a6, a7, a8, a9, a10, a11, a12, a13, a14] := by
 simp [List.zipIdx]
theorem exec_one {o : Oper} {a : Act} {w : World} (y : Tmp) (x : Chk) (L : Lay) (ho : o.op = .buildSlice 24 1 #[(0, .tmp y)]) (hx : a.tmps[y]? = some (.agg (CV x L))) : (execOp a.eval o).run Tryd.prog w = .ok (.value (.slice (some ⟨w.heap.size, 0, none⟩) 1 1)) (w.alloc (.cells (CV x L) 41)) := by
 unfold execOp
 simp only [ho]
 go_simp
 rw [if_neg (by simp [CV, Value.cells])]
 go_simp
 exact congrArg (fun c => w.alloc (.cells c 41)) (fold15 _ _ _ _ _ _ _ _ _ _ _ _ _ _ _)
end Go.Proofs.YtdlamomabonkjaaDoor.Ch
end
section
namespace Go.Proofs.YtdlamomabonkjaaDoor.Pk
open Go.RowKit YtdlamomabonkjaaDoorW.PrintWords YtdlamomabonkjaaDoorW.PrintLast Base PCh ParDec Ch
def pbbT22 : Bool × List (List Nat × List Nat) := (true, [([], []), ([], []), ([], []), ([], []), ([2, 3], [2, 3]), ([4], [4]), ([], []), ([6], [6]), ([5, 7], [5, 7]), ([0, 1, 0, 1, 2, 3, 4, 5, 6, 7, 8], [0, 1]), ([9, 8, 8, 0, 1, 2, 3, 4, 5, 6, 7, 8], [8, 9])])
def pbbB22 : List Nat := [0, 0, 0, 0, 12, 28, 0, 64, 252, 511, 1023]
theorem pbbtab22 : Go.Proofs.YtdlamomabonkjaaDoorW.PrintLast.rtab .any (Go.Proofs.YtdlamomabonkjaaDoorW.PrintLast.opsOf Tryd.f23 22) = pbbT22 := by kernel_rfl
theorem pbbbits22 : Go.Proofs.YtdlamomabonkjaaDoorW.PrintLast.waitsOk pbbT22.2 pbbB22 = true := by kernel_rfl
def pbaT19 : Bool × List (List Nat × List Nat) := (true, [([], []), ([0], [0]), ([1], [1]), ([2], [2]), ([2], [2]), ([3, 4, 2], [2, 3, 4]), ([2, 5], [2, 5]), ([6, 2], [6]), ([7], [7]), ([7], [7]), ([8, 9, 7], [7, 8, 9]), ([10, 7], [7, 10]), ([11, 7, 7], [7, 11]), ([7], [7]), ([13, 7], [7, 13]), ([12, 14, 12, 7], [7, 12, 14]), ([15, 15, 7], [7, 15]), ([7, 16], [7, 16])])
def pbaB19 : List Nat := [0, 1, 3, 7, 7, 31, 63, 127, 255, 255, 1023, 2047, 4095, 255, 8447, 32767, 65535, 131071]
theorem pbatab19 : Go.Proofs.YtdlamomabonkjaaDoorW.PrintLast.rtab .any (Go.Proofs.YtdlamomabonkjaaDoorW.PrintLast.opsOf Tryd.f23 19) = pbaT19 := by kernel_rfl
theorem pbabits19 : Go.Proofs.YtdlamomabonkjaaDoorW.PrintLast.waitsOk pbaT19.2 pbaB19 = true := by kernel_rfl
def pbcT19 : Bool × List (List Nat × List Nat) := (true, [([], []), ([0], [0]), ([1], [1]), ([2], [2]), ([2], [2]), ([3, 4, 2], [2, 3, 4]), ([2, 5], [2, 5]), ([6, 2], [6]), ([7], [7]), ([7], [7]), ([8, 9, 7], [7, 8, 9]), ([10, 7], [7, 10]), ([11, 7, 7], [7, 11]), ([7], [7]), ([13, 7], [7, 13]), ([12, 14, 12, 7], [7, 12, 14]), ([15, 15, 7], [7, 15]), ([7, 16], [7, 16])])
def pbcB19 : List Nat := [0, 1, 3, 7, 7, 31, 63, 127, 255, 255, 1023, 2047, 4095, 255, 8447, 32767, 65535, 131071]
theorem pbctab19 : Go.Proofs.YtdlamomabonkjaaDoorW.PrintLast.rtab .any (Go.Proofs.YtdlamomabonkjaaDoorW.PrintLast.opsOf Tryd.f23 19) = pbcT19 := by kernel_rfl
theorem pbcbits19 : Go.Proofs.YtdlamomabonkjaaDoorW.PrintLast.waitsOk pbcT19.2 pbcB19 = true := by kernel_rfl
def pbdT19 : Bool × List (List Nat × List Nat) := (true, [([], []), ([0], [0]), ([1], [1]), ([2], [2]), ([2], [2]), ([3, 4, 2], [2, 3, 4]), ([2, 5], [2, 5]), ([6, 2], [6]), ([7], [7]), ([7], [7]), ([8, 9, 7], [7, 8, 9]), ([10, 7], [7, 10]), ([11, 7, 7], [7, 11]), ([7], [7]), ([13, 7], [7, 13]), ([12, 14, 12, 7], [7, 12, 14]), ([15, 15, 7], [7, 15]), ([7, 16], [7, 16])])
def pbdB19 : List Nat := [0, 1, 3, 7, 7, 31, 63, 127, 255, 255, 1023, 2047, 4095, 255, 8447, 32767, 65535, 131071]
theorem pbdtab19 : Go.Proofs.YtdlamomabonkjaaDoorW.PrintLast.rtab .any (Go.Proofs.YtdlamomabonkjaaDoorW.PrintLast.opsOf Tryd.f23 19) = pbdT19 := by kernel_rfl
theorem pbdbits19 : Go.Proofs.YtdlamomabonkjaaDoorW.PrintLast.waitsOk pbdT19.2 pbdB19 = true := by kernel_rfl
def RowsR (wI w' : World) (v : Value) (rows : List (List Chk)) : Prop := ∃ A c, v = .slice A rows.length c ∧ rows.length ≤ c ∧ (Kd.slice 41 k41).C w' A rows.length rows ∧ Below wI.heap.size wI w'
theorem RowsR.nil (wI w' : World) (h : Below wI.heap.size wI w') : RowsR wI w' (.slice none 0 0) [] := ⟨none, 0, rfl, Nat.le_refl _, Kd.C_nil _ _, h⟩
set_option maxHeartbeats 8000000 in
theorem bundle_calls (wI : World) (mtu : Int) (A : Option Addr) (c : Nat) (l : List Chk) (hl : Kd.C k41 wI A l.length l) (hc : l.length ≤ c) (hok : OkL l) :
  Calls Tryd.prog 23 #[.int .i64 mtu, .slice A l.length c] wI fun e w' => ∃ v, e = .returned (.tuple #[v, .int .i64 (bundD mtu l).2]) ∧ RowsR wI w' v (bundD mtu l).1 := by
 obtain ⟨D, hD⟩ : ∃ D, bundD mtu l = D := ⟨_, rfl⟩
 rw [hD]
 unfold bundD at hD
 have HL0 := Lh hl
 have HOK := Lh hok
 have hmx := hl.2.1
 clear hl hok
 by_cases hm1 : mtu < 100
 ·rw [if_pos (Or.inl hm1)] at hD
  have HD := Lh hD.symm
  have hz : decide (mtu < 100) = true := decide_eq_true hm1
  clear hD hm1 hmx
  generalize l.length = n at *
  go_enter Tryd.func23, Tryd.ntmps23
  go_wp2
  go_ret2
  rw [HD.out]
  exact ⟨_, rfl, RowsR.nil _ _ (Below.refl _ _)⟩
 by_cases hm2 : 1500 < mtu
 ·rw [if_pos (Or.inr hm2)] at hD
  have HD := Lh hD.symm
  have hz : decide (mtu < 100) = false := decide_eq_false hm1
  have hz2 : decide (1500 < mtu) = true := decide_eq_true hm2
  clear hD hm1 hm2 hmx
  generalize l.length = n at *
  go_enter Tryd.func23, Tryd.ntmps23
  go_wp2
  go_ret2
  rw [HD.out]
  exact ⟨_, rfl, RowsR.nil _ _ (Below.refl _ _)⟩
 rw [if_neg (by omega)] at hD
 obtain ⟨m, hmm⟩ : ∃ m : Nat, mtu = (m : Int) := ⟨mtu.toNat, by omega⟩
 subst hmm
 rw [Int.toNat_natCast] at hD
 have HMT := Lh (show 100 ≤ m ∧ m ≤ 1500 by omega)
 have hz : decide ((m : Int) < 100) = false := decide_eq_false hm1
 have hz2 : decide ((1500 : Int) < (m : Int)) = false := decide_eq_false hm2
 have HD := Lh hD
 clear hD hm1 hm2
 go_enter Tryd.func23, Tryd.ntmps23
 go_wp2
 clear hz hz2
 go_loopw [23] (fun v23 W => ∃ i : Nat, i ≤ l.length ∧ v23 = .int .i64 i ∧ Hid (chkAll l = chkAll (l.drop i)) ∧ Hid (Below wI.heap.size wI W)) (fun v23 _ => l.length - (intOf v23).toNat)
 case atStart => exact ⟨0, by omega, rfl, rfl, Below.refl _ _⟩
 case round =>
  obtain ⟨i, hi, rfl, HS, HB⟩ := hrel
  by_cases hlt : i < l.length
  ·obtain ⟨ad, x, L, e9, hd, hxm, hcell, hx⟩ := chk_at HL0.out i hlt
   have e9' := e9
   subst e9
   have HXC := Lh hx
   have HXS := Lh (chk_size x L)
   have HXZ := Lh (chk_zsize x L)
   have HXO := Lh (CV_one x L)
   have HCX := Lh (fun j v hv => pw_cell_below HB.out (hcell j v hv))
   have HCK := Lh (fun (W : World) (h : Below wI.heap.size wI W) => check_any W x L (hx.below h) (Nat.le_trans (HOK.out.2 x hxm).l13 (by decide)))
   have hS := HS.out
   rw [hd, chkAll] at hS
   have HS2 := Lh hS
   clear hS hcell hx hd hxm e9' HXC HS
   generalize checkD x = ck at *
   generalize CV x L = CX at *
   obtain ⟨gb, hgb⟩ : ∃ g, wr.heap.size = g := ⟨_, rfl⟩
   have HGB := Lh hgb
   clear hgb
   go_upto_region 6 with (first | ((with_reducible refine gate_dst (N := 26) rfl ?_); go_must (refine wpList_load_cells rfl 41 (.tmp 25) rfl rfl CX _ (fun j v hv => HCX.out j v hv) Tryd.underlying41 rfl HXS.out ?_)) | ((with_reducible refine gate_dst (N := 7) rfl ?_); go_must (refine wpList_box rfl rfl 7 rfl rfl (.tmp 26) rfl CX rfl rfl HXZ.out HXS.out HXO.out ?_)))
   refine wp_gen (fun W => W.heap[wr.heap.size]? = some (.cells CX 41 (0, 0)) ∧ Below wr.heap.size wr W) ⟨blk_new _ _, below_alloc (Below.refl _ _) _⟩ ?_
   rintro W1 ⟨hk1, hb1⟩
   rw [HGB.out] at hk1 ⊢
   have HK1 := Lh hk1
   have HB1 := Lh (below_then HB.out HB.out.size hb1)
   clear hk1 hb1 HCX
   go_wp2_with ((with_reducible refine gate_dst (N := 27) rfl ?_); go_must (refine wpList_load_row rfl 41 (.tmp 7) rfl _ rfl 41 _ (0, 0) _ HK1.out Tryd.underlying41 rfl HXS.out ?_))
   refine (HCK.out W1 HB1.out).mono ?_
   rintro e W2 ⟨rfl, hB2⟩
   have HB2 := Lh (below_then HB1.out HB1.out.size hB2)
   clear hB2 HCK HK1
   by_cases hck : ck = 0
   ·subst hck
    have HS3 := Lh (show chkAll l = chkAll (l.drop (i + 1)) by rw [HS2.out, if_pos rfl])
    clear HS2
    go_wp2
    go_roundw
    case rel => exact ⟨i + 1, by omega, by go_num, HS3, HB2⟩
    case measure => simp [intOf]; omega
   ·have hz : (ck != 0) = true := by simp [hck]
    have HS3 := Lh (show chkAll l = ck by rw [HS2.out, if_neg hck])
    have HD2 := Lh (show D = ([], ck) by rw [← HD.out, HS3.out, if_neg hck])
    clear HS2 HS3 hck HD
    go_wp2
    go_ret2
    rw [HD2.out]
    exact ⟨_, rfl, RowsR.nil _ _ HB2.out⟩
  ·obtain rfl : i = l.length := by omega
   have hck : chkAll l = 0 := by rw [HS.out, List.drop_length]; rfl
   have HCK := Lh (fun x (hx : x ∈ l) => chkAll_mem hck hx)
   have HDE := Lh (show (if (∀ x ∈ l, 12 + sizeD x ≤ m) then (outB (rowsB m l), 0) else ([], 2)) = D by rw [← HD.out, if_pos hck])
   clear hck hlt hi HS HD
   go_wp2
   go_loopw [9, 10, 35] (fun v9 v10 v35 W => ∃ (i : Nat) (zs : List RW) (lf : Nat), i ≤ l.length ∧ v10 = .int .i64 (lf : Int) ∧ v35 = .int .i64 (i : Int) ∧ Hid (RelB m (l.take i) zs lf) ∧ Hid (BSt wI W zs v9)) (fun _ _ v35 _ => l.length - (intOf v35).toNat)
   case atStart => exact ⟨0, [], 0, by omega, rfl, rfl, RelB.nil m, BSt.nil _ _ HB.out⟩
   case round =>
    obtain ⟨i, zs, lf, hi, rfl, rfl, HREL, HS⟩ := hrel
    by_cases hlt : i < l.length
    ·obtain ⟨ad, x, L, e9, hd, hxm, hcell, hx⟩ := chk_at HL0.out i hlt
     have e9' := e9
     subst e9
     have HXC := Lh hx
     have HXS := Lh (chk_size x L)
     have HXZ := Lh (chk_zsize x L)
     have HXO := Lh (CV_one x L)
     have HCX := Lh (fun j v hv => pw_cell_below HS.out.bl (hcell j v hv))
     have HSZC := Lh (fun (W : World) (h : Below wI.heap.size wI W) => size_calls W x L (hx.below h) (HOK.out.2 x hxm).l13)
     have HDX := Lh hd
     have HINV := Lh (show BInv m (rowsB m (l.take i)) (l.take i) from (binv_rows (l.take i) (fun y hy => HCK.out y (List.mem_of_mem_take hy)) HREL.out.2.2).1)
     have HSB := Lh (size_le x (HCK.out x hxm))
     have HXM := Lh hxm
     clear hcell hx hd hxm e9'
     obtain ⟨sz, hsz⟩ : ∃ sz, sizeD x = sz := ⟨_, rfl⟩
     have HSX := Lh hsz
     rw [hsz] at HSZC HSB
     clear hsz
     obtain ⟨CX, hCX⟩ : ∃ CX, CV x L = CX := ⟨_, rfl⟩
     have HXE := Lh hCX
     rw [hCX] at HXS HXZ HXO HCX HSZC
     clear hCX
     obtain ⟨gb, hgb⟩ : ∃ g, wr.heap.size = g := ⟨_, rfl⟩
     have HGB := Lh hgb
     clear hgb
     obtain ⟨A9, c9, hv9⟩ := Kd.R_slice HS.out.out
     subst hv9
     have HZL := Lh (HREL.out.len HINV.out (HCK.out) hmx HOK.out.1)
     obtain ⟨zl, hzl⟩ : ∃ zl, zs.length = zl := ⟨_, rfl⟩
     obtain ⟨lz, hlz⟩ : ∃ lz : Int, (zl : Int) - 1 = lz := ⟨_, rfl⟩
     have HLZ := Lh (show (zs.length : Int) - 1 = lz ∧ lz < 9000000000000 by have h1 := HZL.out; rw [hzl]; rw [hzl] at h1; exact ⟨hlz, by omega⟩)
     have hw1 : wrap64 ((zl : Int) - 1) = lz := by have h1 := HLZ.out; unfold wrap64; omega
     obtain ⟨sq, hsq⟩ : ∃ sq : Nat, 12 + sz = sq := ⟨_, rfl⟩
     have HSQ := Lh hsq
     have hw2 : wrap64 (12 + (sz : Int)) = (sq : Int) := by have h1 := HSB.out; unfold wrap64; omega
     clear hsq
     rw [hzl] at HS ⊢
     have HZLE := Lh hzl
     clear hlz hzl
     go_upto_region 15 with (first | ((with_reducible refine gate_dst (N := 38) rfl ?_); go_must (refine wpList_load_cells rfl 41 (.tmp 37) rfl rfl CX _ (fun j v hv => HCX.out j v hv) Tryd.underlying41 rfl HXS.out ?_)) | ((with_reducible refine gate_dst (N := 12) rfl ?_); go_must (refine wpList_box rfl rfl 12 rfl rfl (.tmp 38) rfl CX rfl rfl HXZ.out HXS.out HXO.out ?_)))
     refine wp_gen (fun W => W.heap[wr.heap.size]? = some (.cells CX 41 (0, 0)) ∧ Below wr.heap.size wr W) ⟨blk_new _ _, below_alloc (Below.refl _ _) _⟩ ?_
     rintro W1 ⟨hk1, hb1⟩
     rw [HGB.out] at hk1 ⊢
     have HBX := Lh hk1
     have HST := Lh (HS.out.below hb1)
     clear hk1 hb1 HCX HS
     go_wp2_with ((with_reducible refine gate_dst (N := 39) rfl ?_); go_must (refine wpList_load_row rfl 41 (.tmp 12) rfl _ rfl 41 _ (0, 0) _ HBX.out Tryd.underlying41 rfl HXS.out ?_))
     refine (HSZC.out W1 HST.out.bl).mono ?_
     rintro e W2 ⟨rfl, hB2⟩
     replace HBX := Lh (blk_below HBX.out hB2)
     replace HST := Lh (HST.out.below hB2)
     clear hB2 HSZC
     by_cases hfit : 12 + sz ≤ m
     ·have hz : decide ((m : Int) < (sq : Int)) = false := decide_eq_false (by have h1 := HSQ.out; omega)
      have hzn : decide (m < sq) = false := decide_eq_false (by have h1 := HSQ.out; omega)
      have HFIT := Lh hfit
      clear hfit
      go_upto_region 19 with (fail)
      try rw [hw1]
      clear hz hzn hw1 hw2
      by_cases hz0 : zs = []
      ·have HOPN := Lh (Or.inl hz0 : zs = [] ∨ lf < sizeD x ∨ ∃ ds r, zs = ds ++ [r] ∧ apartB (fsts r.2 ++ [x]) = true)
       have hlzn : decide (lz < 0) = true := decide_eq_true (by have h1 := HLZ.out.1; rw [hz0] at h1; simp at h1; omega)
       have HLN := Lh hlzn
       clear hlzn hz0
       refine grow_v (B := pbaB19) [0, 1, 2, 3, 4, 5, 6, 7, 8, 9, 10, 11, 12, 13, 14, 15, 16, 17] [] (fun s vs W => Drawn0 W2 W) (fun vs => [(0, 48, .int .i64 lz), (1, 49, .bool true), (2, 50, .bool true), (3, 51, undef), (4, 52, undef), (5, 53, undef), (6, 54, .bool true), (7, 55, .bool true), (8, 56, undef), (9, 57, undef), (10, 58, undef), (11, 59, undef), (12, 60, undef), (13, 61, undef), (14, 62, undef), (15, 63, undef), (16, 64, undef), (17, 65, .bool true)]) (by kernel_rfl) rfl (l := #[false, false, false, false, false, false, false, false, false, false, false, false, false, false, false, false, false, false]) rfl pbatab19 pbabits19 (by kernel_rfl) (by kernel_rfl) (fun _ => rfl) rfl (fun _ => undef) ?_ ?_ ?_
       ·exact ⟨1, rfl⟩
       ·exact steps_cons (gv_op 0 0 [(14, fun vs => .int .i64 lz)] 0 0 (fv := fun vs => .int .i64 lz) rfl rfl (wt_none rfl) (fun _ => rfl) (fun _ => rfl) rfl rfl (by kernel_rfl) (by kernel_rfl) ⟨rd_off (p := 14) (fun _ => rfl) rfl, trivial⟩ (fun a w s vs hm hs h e => by
         obtain rfl : s = 0 := by omega
         obtain ⟨e14, _⟩ := e
         replace e14 : a.tmps[14]? = some (.int .i64 lz) := e14
         go_simp)) (steps_cons (gv_op 0 0 [(48, fun vs => .int .i64 lz)] 1 1 (fv := fun vs => .bool true) rfl rfl (wt_none rfl) (fun _ => rfl) (fun _ => rfl) rfl rfl (by kernel_rfl) (by kernel_rfl) ⟨rd_on (p := 48) 0 0 (fun _ => rfl) (fun _ => rfl) (by kernel_rfl) rfl, trivial⟩ (fun a w s vs hm hs h e => by
         obtain rfl : s = 0 := by omega
         obtain ⟨e48, _⟩ := e
         replace e48 : a.tmps[48]? = some (.int .i64 lz) := e48
         have hq := HLN.out; go_simp; first | done | exact hq | rw [hq])) (steps_cons (gv_op 0 0 [(49, fun vs => .bool true)] 2 2 (fv := fun vs => .bool true) rfl rfl (wt_none rfl) (fun _ => rfl) (fun _ => rfl) rfl rfl (by kernel_rfl) (by kernel_rfl) ⟨rd_on (p := 49) 1 1 (fun _ => rfl) (fun _ => rfl) (by kernel_rfl) rfl, trivial⟩ (fun a w s vs hm hs h e => by
         obtain rfl : s = 0 := by omega
         obtain ⟨e49, _⟩ := e
         replace e49 : a.tmps[49]? = some (.bool true) := e49
         go_simp)) (steps_cons (gv_off 3 3 rfl rfl (wt_off (g := 2) (t := 50) rfl rfl rfl (rd_on (p := 50) 2 2 (fun _ => rfl) (fun _ => rfl) (by kernel_rfl) rfl)) (fun _ => rfl) (fun _ => rfl) rfl) (steps_cons (gv_off 4 4 rfl rfl (wt_off (g := 2) (t := 50) rfl rfl rfl (rd_on (p := 50) 2 2 (fun _ => rfl) (fun _ => rfl) (by kernel_rfl) rfl)) (fun _ => rfl) (fun _ => rfl) rfl) (steps_cons (gv_off 5 5 rfl rfl (wt_off (g := 2) (t := 50) rfl rfl rfl (rd_on (p := 50) 2 2 (fun _ => rfl) (fun _ => rfl) (by kernel_rfl) rfl)) (fun _ => rfl) (fun _ => rfl) rfl) (steps_cons (gv_op 0 0 [(50, fun vs => .bool true), (53, fun vs => undef)] 6 6 (fv := fun vs => .bool true) rfl rfl (wt_none rfl) (fun _ => rfl) (fun _ => rfl) rfl rfl (by kernel_rfl) (by kernel_rfl) ⟨rd_on (p := 50) 2 2 (fun _ => rfl) (fun _ => rfl) (by kernel_rfl) rfl, rd_on (p := 53) 5 5 (fun _ => rfl) (fun _ => rfl) (by kernel_rfl) rfl, trivial⟩ (fun a w s vs hm hs h e => by
         obtain rfl : s = 0 := by omega
         obtain ⟨e50, e53, _⟩ := e
         replace e50 : a.tmps[50]? = some (.bool true) := e50
         replace e53 : a.tmps[53]? = some (undef) := e53
         go_simp)) (steps_cons (gv_op 0 0 [(54, fun vs => .bool true)] 7 7 (fv := fun vs => .bool true) rfl rfl (wt_none rfl) (fun _ => rfl) (fun _ => rfl) rfl rfl (by kernel_rfl) (by kernel_rfl) ⟨rd_on (p := 54) 6 6 (fun _ => rfl) (fun _ => rfl) (by kernel_rfl) rfl, trivial⟩ (fun a w s vs hm hs h e => by
         obtain rfl : s = 0 := by omega
         obtain ⟨e54, _⟩ := e
         replace e54 : a.tmps[54]? = some (.bool true) := e54
         go_simp)) (steps_cons (gv_off 8 8 rfl rfl (wt_off (g := 7) (t := 55) rfl rfl rfl (rd_on (p := 55) 7 7 (fun _ => rfl) (fun _ => rfl) (by kernel_rfl) rfl)) (fun _ => rfl) (fun _ => rfl) rfl) (steps_cons (gv_off 9 9 rfl rfl (wt_off (g := 7) (t := 55) rfl rfl rfl (rd_on (p := 55) 7 7 (fun _ => rfl) (fun _ => rfl) (by kernel_rfl) rfl)) (fun _ => rfl) (fun _ => rfl) rfl) (steps_cons (gv_off 10 10 rfl rfl (wt_off (g := 7) (t := 55) rfl rfl rfl (rd_on (p := 55) 7 7 (fun _ => rfl) (fun _ => rfl) (by kernel_rfl) rfl)) (fun _ => rfl) (fun _ => rfl) rfl) (steps_cons (gv_off 11 11 rfl rfl (wt_off (g := 7) (t := 55) rfl rfl rfl (rd_on (p := 55) 7 7 (fun _ => rfl) (fun _ => rfl) (by kernel_rfl) rfl)) (fun _ => rfl) (fun _ => rfl) rfl) (steps_cons (gv_off 12 12 rfl rfl (wt_off (g := 7) (t := 55) rfl rfl rfl (rd_on (p := 55) 7 7 (fun _ => rfl) (fun _ => rfl) (by kernel_rfl) rfl)) (fun _ => rfl) (fun _ => rfl) rfl) (steps_cons (gv_off 13 13 rfl rfl (wt_off (g := 7) (t := 55) rfl rfl rfl (rd_on (p := 55) 7 7 (fun _ => rfl) (fun _ => rfl) (by kernel_rfl) rfl)) (fun _ => rfl) (fun _ => rfl) rfl) (steps_cons (gv_off 14 14 rfl rfl (wt_off (g := 7) (t := 55) rfl rfl rfl (rd_on (p := 55) 7 7 (fun _ => rfl) (fun _ => rfl) (by kernel_rfl) rfl)) (fun _ => rfl) (fun _ => rfl) rfl) (steps_cons (gv_off 15 15 rfl rfl (wt_off (g := 7) (t := 55) rfl rfl rfl (rd_on (p := 55) 7 7 (fun _ => rfl) (fun _ => rfl) (by kernel_rfl) rfl)) (fun _ => rfl) (fun _ => rfl) rfl) (steps_cons (gv_off 16 16 rfl rfl (wt_off (g := 7) (t := 55) rfl rfl rfl (rd_on (p := 55) 7 7 (fun _ => rfl) (fun _ => rfl) (by kernel_rfl) rfl)) (fun _ => rfl) (fun _ => rfl) rfl) (steps_cons (gv_op 0 0 [(55, fun vs => .bool true), (64, fun vs => undef)] 17 17 (fv := fun vs => .bool true) rfl rfl (wt_none rfl) (fun _ => rfl) (fun _ => rfl) rfl rfl (by kernel_rfl) (by kernel_rfl) ⟨rd_on (p := 55) 7 7 (fun _ => rfl) (fun _ => rfl) (by kernel_rfl) rfl, rd_on (p := 64) 16 16 (fun _ => rfl) (fun _ => rfl) (by kernel_rfl) rfl, trivial⟩ (fun a w s vs hm hs h e => by
         obtain rfl : s = 0 := by omega
         obtain ⟨e55, e64, _⟩ := e
         replace e55 : a.tmps[55]? = some (.bool true) := e55
         replace e64 : a.tmps[64]? = some (undef) := e64
         go_simp)) steps_nil)))))))))))))))))
       intro vs W5 hX
       simp only [putSel, if_true, Act.put, List.setIfInBounds_toArray, List.set_cons_zero, List.set_cons_succ]
       replace HBX := Lh (blk_below HBX.out (drawn_below hX))
       replace HST := Lh (HST.out.below (drawn_below hX))
       clear hX vs HLN
       go_wp2_with (at_builtin; go_must (refine Kd.R_append rawR (w0 := wI) (W := W5) wI.heap.size rfl _ _ 55 24 (.slice none 0 0) 24 rfl Tryd.underlying55 info_sl rfl (by decide) (by decide) (.slice A9 zl c9) (zs) nilZ [.slice none 0 0] (fun _ => True) (fun _ => False) rfl rfl rfl (fun _ h => h.elim) (fun _ _ => trivial) HST.out.out HST.out.bl HST.out.bl.size (by have h1 := HZL.out; omega) ?_); (intro v1 w1 hR1 hB1 hG1 _; have HR1 := Lh hR1; have HB1 := Lh hB1; have HG1 := Lh hG1; clear hR1 hB1 hG1; refine RowKit.Hid.out ?_))
       refine Lh ?_
       have HBX2 := Lh (blk_far_row HST.out HBX.out HG1.out)
       have hS1 := HST.out.opened HR1.out HG1.out HB1.out
       obtain ⟨go, capo, hv1, _⟩ := hS1.last
       subst hv1
       have HBX := HBX2
       have HST := Lh hS1
       clear hS1 HR1 HB1 HG1 HBX2
       obtain ⟨r, hr0⟩ : ∃ r, nilZ = r := ⟨_, rfl⟩
       obtain ⟨ds, hds⟩ : ∃ ds : List RW, (zs) = ds := ⟨_, rfl⟩
       rw [hr0, hds] at HST
       have HRN := Lh (fun (r' : RW) (h : r'.2 = r.2 ++ [(x, L)]) => (show RelB m (l.take (i + 1)) (ds ++ [r']) (m - 12 - sz) from by
        rw [take_next HDX.out, ← HSX.out, ← hds]
        exact HREL.out.open_ HINV.out (by rw [HSX.out]; exact HFIT.out) HOPN.out (by rw [h, ← hr0])))
       have HRL := Lh (show (r.2.length + 1) * 152 ≤ 140737488355328 by rw [← hr0]; decide)
       have HVR := Lh (show encR r = .slice none 0 0 by rw [← hr0]; rfl)
       obtain ⟨lf2, hlf2⟩ : ∃ q : Nat, m - 12 = q := ⟨_, rfl⟩
       have hw12 : wrap64 ((m : Int) - 12) = (lf2 : Int) := by have h1 := HMT.out; unfold wrap64; omega
       have HLF := Lh (show sz ≤ lf2 ∧ lf2 ≤ 1500 by have h1 := HMT.out; have h2 := HFIT.out; omega)
       rw [hlf2] at HRN
       obtain ⟨k, hk⟩ : ∃ k : Nat, ds.length = k := ⟨_, rfl⟩
       have HDK := Lh hk
       obtain ⟨nz, hnz⟩ : ∃ nz : Nat, ds.length + 1 = nz := ⟨_, rfl⟩
       have HLK := Lh (show ¬ nz ≤ k by omega)
       have hwk : wrap64 (lz + 1) = (k : Int) := by have h1 := HLZ.out; rw [hds] at h1; unfold wrap64; omega
       have hnz2 : (zs).length + 1 = nz := by rw [hds]; exact hnz
       rw [hnz] at HST
       rw [hnz2]
       clear hnz hnz2 hk hds hr0 hlf2 HREL HINV HOPN HLZ
       go_upto_region 22 with (fail)
       try rw [hwk]
       try rw [hw12]
       clear hwk hw12
       refine grow_v (B := pbbB22) [0, 1, 2, 3, 4, 5, 6, 7, 8, 9, 10] [7, 8, 10] (fun s vs W => match s with | 0 => BSt wI W (ds ++ [r]) (.slice (some ⟨go, 0, none⟩) nz capo) ∧ W.heap[gb]? = some (.cells CX 41 (0, 0)) ∧ True | 1 => BSt wI W (ds ++ [r]) (.slice (some ⟨go, 0, none⟩) nz capo) ∧ W.heap[gb]? = some (.cells CX 41 (0, 0)) ∧ ∃ gs, vs 1 = .slice (some ⟨gs, 0, none⟩) 1 1 ∧ cvK.C W (some ⟨gs, 0, none⟩) 1 [(x, L)] | 2 => AppP wI W (.slice (some ⟨go, 0, none⟩) nz capo) ds r x L (vs 2) | _ => ∃ r' : RW, r'.2 = r.2 ++ [(x, L)] ∧ encR r' = vs 2 ∧ BSt wI W (ds ++ [r']) (.slice (some ⟨go, 0, none⟩) nz capo)) (fun vs => [(0, 73, .slice (some ⟨go, 0, none⟩) nz capo), (1, 74, .int .i64 (k : Int)), (2, 75, .slice (some ⟨go, 0, none⟩) nz capo), (3, 76, .int .i64 (k : Int)), (4, 77, .pointer (some ⟨go, k, none⟩)), (5, 78, (.slice none 0 0)), (6, 79, .agg CX), (7, 80, vs 1), (8, 81, vs 2), (9, 82, .pointer (some ⟨go, k, none⟩))]) (by kernel_rfl) rfl (l := #[false, false, false, false, false, false, false, false, false, false, false]) rfl pbbtab22 pbbbits22 (by kernel_rfl) (by kernel_rfl) (fun _ => rfl) rfl (fun _ => undef) ?_ ?_ ?_
       ·exact ⟨HST.out.below (pw_below_drewN (Below.refl _ _) 1), blk_drewN HBX.out 1, trivial⟩
       ·exact steps_cons (gv_op 0 2 [(9, fun vs => .slice (some ⟨go, 0, none⟩) nz capo)] 0 0 (fv := fun vs => .slice (some ⟨go, 0, none⟩) nz capo) rfl rfl (wt_none rfl) (fun _ => rfl) (fun _ => rfl) rfl rfl (by kernel_rfl) (by kernel_rfl) ⟨rd_off (p := 9) (fun _ => rfl) rfl, trivial⟩ (fun a w s vs hm hs h e => by
         obtain ⟨e9, _⟩ := e
         replace e9 : a.tmps[9]? = some (.slice (some ⟨go, 0, none⟩) nz capo) := e9
         go_simp)) (steps_cons (gv_op 0 2 [(14, fun vs => .int .i64 (k : Int))] 1 1 (fv := fun vs => .int .i64 (k : Int)) rfl rfl (wt_none rfl) (fun _ => rfl) (fun _ => rfl) rfl rfl (by kernel_rfl) (by kernel_rfl) ⟨rd_off (p := 14) (fun _ => rfl) rfl, trivial⟩ (fun a w s vs hm hs h e => by
         obtain ⟨e14, _⟩ := e
         replace e14 : a.tmps[14]? = some (.int .i64 (k : Int)) := e14
         go_simp)) (steps_cons (gv_op 0 1 [(9, fun vs => .slice (some ⟨go, 0, none⟩) nz capo)] 2 2 (fv := fun vs => .slice (some ⟨go, 0, none⟩) nz capo) rfl rfl (wt_none rfl) (fun _ => rfl) (fun _ => rfl) rfl rfl (by kernel_rfl) (by kernel_rfl) ⟨rd_off (p := 9) (fun _ => rfl) rfl, trivial⟩ (fun a w s vs hm hs h e => by
         obtain ⟨e9, _⟩ := e
         replace e9 : a.tmps[9]? = some (.slice (some ⟨go, 0, none⟩) nz capo) := e9
         go_simp)) (steps_cons (gv_op 0 1 [(14, fun vs => .int .i64 (k : Int))] 3 3 (fv := fun vs => .int .i64 (k : Int)) rfl rfl (wt_none rfl) (fun _ => rfl) (fun _ => rfl) rfl rfl (by kernel_rfl) (by kernel_rfl) ⟨rd_off (p := 14) (fun _ => rfl) rfl, trivial⟩ (fun a w s vs hm hs h e => by
         obtain ⟨e14, _⟩ := e
         replace e14 : a.tmps[14]? = some (.int .i64 (k : Int)) := e14
         go_simp)) (steps_cons (gv_op 0 1 [(75, fun vs => .slice (some ⟨go, 0, none⟩) nz capo), (76, fun vs => .int .i64 (k : Int))] 4 4 (fv := fun vs => .pointer (some ⟨go, k, none⟩)) rfl rfl (wt_none rfl) (fun _ => rfl) (fun _ => rfl) rfl rfl (by kernel_rfl) (by kernel_rfl) ⟨rd_on (p := 75) 2 2 (fun _ => rfl) (fun _ => rfl) (by kernel_rfl) rfl, rd_on (p := 76) 3 3 (fun _ => rfl) (fun _ => rfl) (by kernel_rfl) rfl, trivial⟩ (fun a w s vs hm hs h e => by
         obtain ⟨e75, e76, _⟩ := e
         replace e75 : a.tmps[75]? = some (.slice (some ⟨go, 0, none⟩) nz capo) := e75
         replace e76 : a.tmps[76]? = some (.int .i64 (k : Int)) := e76
         have hl := HLK.out; go_simp)) (steps_cons (gv_op 0 1 [(77, fun vs => .pointer (some ⟨go, k, none⟩))] 5 5 (fv := fun vs => (.slice none 0 0)) rfl rfl (wt_none rfl) (fun _ => rfl) (fun _ => rfl) rfl rfl (by kernel_rfl) (by kernel_rfl) ⟨rd_on (p := 77) 4 4 (fun _ => rfl) (fun _ => rfl) (by kernel_rfl) rfl, trivial⟩ (fun a w s vs hm hs h e => by
         obtain ⟨e77, _⟩ := e
         replace e77 : a.tmps[77]? = some (.pointer (some ⟨go, k, none⟩)) := e77
         have h1 : BSt wI w (ds ++ [r]) (.slice (some ⟨go, 0, none⟩) nz capo) := by
          rcases (by omega : s = 0 ∨ s = 1) with rfl | rfl <;> exact h.1
         have hs := h1.cell.1
         rw [HVR.out, HDK.out] at hs
         go_simp)) (steps_cons (gv_op 0 0 [(12, fun vs => .pointer (some ⟨gb, 0, none⟩))] 6 6 (fv := fun vs => .agg CX) rfl rfl (wt_none rfl) (fun _ => rfl) (fun _ => rfl) rfl rfl (by kernel_rfl) (by kernel_rfl) ⟨rd_off (p := 12) (fun _ => rfl) rfl, trivial⟩ (fun a w s vs hm hs h e => by
         obtain rfl : s = 0 := by omega
         obtain ⟨e12, _⟩ := e
         replace e12 : a.tmps[12]? = some (.pointer (some ⟨gb, 0, none⟩)) := e12
         exact exec_load_row 41 (.tmp 12) rfl (eval_of e12) h.2.1 Tryd.underlying41 rfl HXS.out)) (steps_cons (gv_gen [(79, fun vs => .agg CX)] 7 7 0 rfl rfl (wt_none rfl) rfl (fun _ => rfl) (fun _ _ => rfl) (fun _ => rfl) rfl (by kernel_rfl) ⟨rd_on (p := 79) 6 6 (fun _ => rfl) (fun _ => rfl) (by kernel_rfl) rfl, trivial⟩ (fun a w K vs h e hw hK => by
         obtain ⟨e79, _⟩ := e
         replace e79 : a.tmps[79]? = some (.agg CX) := e79
         obtain ⟨h1, h2, _⟩ := h
         exact value_ (w1 := w.alloc (.cells CX 41)) (v := .slice (some ⟨w.heap.size, 0, none⟩) 1 1) hw rfl (by rw [← HXE.out]; exact exec_one 79 x L rfl (by rw [HXE.out]; exact e79)) (hK _ _ ⟨h1.below (below_alloc (Below.refl _ _) _), blk_alloc h2 _, w.heap.size, rfl, by rw [← HXE.out]; exact cv_one w x L⟩))) (steps_cons (gv_gen [(78, fun vs => (.slice none 0 0)), (80, fun vs => vs 1)] 8 8 1 rfl rfl (wt_none rfl) rfl (fun _ => rfl) (fun _ _ => rfl) (fun _ => rfl) rfl (by kernel_rfl) ⟨rd_on (p := 78) 5 5 (fun _ => rfl) (fun _ => rfl) (by kernel_rfl) rfl, rd_on (p := 80) 7 7 (fun _ => rfl) (fun _ => rfl) (by kernel_rfl) rfl, trivial⟩ (fun a w K vs h e hw hK => by
         obtain ⟨e78, e80, _⟩ := e
         replace e78 : a.tmps[78]? = some ((.slice none 0 0)) := e78
         replace e80 : a.tmps[80]? = some (vs 1) := e80
         obtain ⟨h1, h2, gs, hv, hC⟩ := h
         refine Kd.R_append_rows_step cvK (Rr := cvK.K w) (w0 := wI) (W := w) wI.heap.size hw _ _ 24 41 (.agg zerV) 152 rfl Tryd.underlying24 info_cv rfl (by decide) (by decide) (.slice none 0 0) r.2 [(x, L)] (some ⟨gs, 0, none⟩) 1 1 (fun _ => True) (fun _ => False) (eval_of e78) ((eval_of e80).trans hv) (by rw [← HVR.out]; exact h1.own r (List.mem_append_right _ (List.mem_singleton_self _))) hC (fun _ _ h => h) (fun _ h => h.elim) (fun _ _ => trivial) h1.bl h1.bl.size (by have := HRL.out; omega) ?_
         intro v1 w1 hR1 hB1 hG1 hat
         exact hK v1 w1 (h1.app HXC.out hR1 (by rw [HVR.out]; exact hG1) (by rw [HVR.out]; exact hat) hB1))) (steps_cons (gv_op 2 2 [(73, fun vs => .slice (some ⟨go, 0, none⟩) nz capo), (74, fun vs => .int .i64 (k : Int))] 9 9 (fv := fun vs => .pointer (some ⟨go, k, none⟩)) rfl rfl (wt_none rfl) (fun _ => rfl) (fun _ => rfl) rfl rfl (by kernel_rfl) (by kernel_rfl) ⟨rd_on (p := 73) 0 0 (fun _ => rfl) (fun _ => rfl) (by kernel_rfl) rfl, rd_on (p := 74) 1 1 (fun _ => rfl) (fun _ => rfl) (by kernel_rfl) rfl, trivial⟩ (fun a w s vs hm hs h e => by
         obtain rfl : s = 2 := by omega
         obtain ⟨e73, e74, _⟩ := e
         replace e73 : a.tmps[73]? = some (.slice (some ⟨go, 0, none⟩) nz capo) := e73
         replace e74 : a.tmps[74]? = some (.int .i64 (k : Int)) := e74
         have hl := HLK.out; go_simp)) (steps_cons (gv_store (f := fun vs W => W.setCell ⟨go, k, none⟩ (vs 2)) [(82, fun vs => .pointer (some ⟨go, k, none⟩)), (81, fun vs => vs 2)] 10 2 rfl rfl (wt_none rfl) rfl (fun _ => rfl) rfl (by kernel_rfl) ⟨rd_on (p := 82) 9 9 (fun _ => rfl) (fun _ => rfl) (by kernel_rfl) rfl, rd_on (p := 81) 8 8 (fun _ => rfl) (fun _ => rfl) (by kernel_rfl) rfl, trivial⟩ (fun a w vs h e => by
         obtain ⟨e82, e81, _⟩ := e
         replace e82 : a.tmps[82]? = some (.pointer (some ⟨go, k, none⟩)) := e82
         replace e81 : a.tmps[81]? = some (vs 2) := e81
         obtain ⟨g2, c2, hv2, _, _⟩ := (Kd.R_own h.last).elim fun _ h => h.form (by rw [List.length_append]; simp)
         have hf := (show w.frozen? ⟨go, k, none⟩ = false from by have h9 := h.out; rw [← HDK.out]; exact (BSt.cell2 h9).2)
         have hs := (show w.cell? ⟨go, k, none⟩ = some (.slice none 0 0) from by have h9 := h.out; rw [← HDK.out, ← HVR.out]; exact (BSt.cell2 h9).1)
         rw [hv2] at e81 ⊢
         go_simp; first | done | rfl) (fun vs w h => by have h9 := h.store (n := nz) (cap := capo) rfl; rw [HDK.out] at h9; exact h9)) steps_nil))))))))))
       intro vs W9 hX9
       obtain ⟨r', hr', hv', hS9⟩ := hX9
       simp only [putSel, if_true, Act.put, List.setIfInBounds_toArray, List.set_cons_zero, List.set_cons_succ]
       rw [← hv']
       generalize vs 1 = u80 at *
       have HS9 := Lh hS9
       have HR9 := Lh hr'
       clear hS9 hr' hv' vs HST HBX HXS HLK HVR
       unfold encR
       generalize (Option.map (fun g => ⟨g, 0, none⟩) r'.1.1 : Option Addr) = Ar at *
       generalize r'.2.length = nr at *
       have hw9 : wrap64 ((lf2 : Int) - (sz : Int)) = ((lf2 - sz : Nat) : Int) := by have h1 := HMT.out; have h2 := HLF.out; unfold wrap64; omega
       go_wp2
       go_roundw
       case rel => exact ⟨i + 1, ds ++ [r'], lf2 - sz, by omega, by first | rfl | exact congrArg _ hw9 | rw [hw9], by go_num, HRN.out r' HR9.out, HS9⟩
       case measure => simp [intOf]; omega
      ·by_cases hgt : lf < sz
       ·have HOPN := Lh (Or.inr (Or.inl (by rw [HSX.out]; exact hgt)) : zs = [] ∨ lf < sizeD x ∨ ∃ ds r, zs = ds ++ [r] ∧ apartB (fsts r.2 ++ [x]) = true)
        have HGT := Lh (show decide ((lf : Int) < (sz : Int)) = true ∧ decide (lf < sz) = true from ⟨decide_eq_true (by omega), decide_eq_true hgt⟩)
        have hlzn : decide (lz < 0) = false := decide_eq_false (by
         have h1 := HLZ.out.1
         have h2 := List.length_pos_iff.2 hz0
         omega)
        have HLN := Lh hlzn
        clear hlzn hz0 hgt
        refine grow_v (B := pbcB19) [0, 1, 2, 3, 4, 5, 6, 7, 8, 9, 10, 11, 12, 13, 14, 15, 16, 17] [] (fun s vs W => Drawn0 W2 W) (fun vs => [(0, 48, .int .i64 lz), (1, 49, .bool false), (2, 50, .bool false), (3, 51, .int .i64 (sz : Int)), (4, 52, .int .i64 (lf : Int)), (5, 53, .bool true), (6, 54, .bool true), (7, 55, .bool true), (8, 56, undef), (9, 57, undef), (10, 58, undef), (11, 59, undef), (12, 60, undef), (13, 61, undef), (14, 62, undef), (15, 63, undef), (16, 64, undef), (17, 65, .bool true)]) (by kernel_rfl) rfl (l := #[false, false, false, false, false, false, false, false, false, false, false, false, false, false, false, false, false, false]) rfl pbctab19 pbcbits19 (by kernel_rfl) (by kernel_rfl) (fun _ => rfl) rfl (fun _ => undef) ?_ ?_ ?_
        ·exact ⟨1, rfl⟩
        ·exact steps_cons (gv_op 0 0 [(14, fun vs => .int .i64 lz)] 0 0 (fv := fun vs => .int .i64 lz) rfl rfl (wt_none rfl) (fun _ => rfl) (fun _ => rfl) rfl rfl (by kernel_rfl) (by kernel_rfl) ⟨rd_off (p := 14) (fun _ => rfl) rfl, trivial⟩ (fun a w s vs hm hs h e => by
          obtain rfl : s = 0 := by omega
          obtain ⟨e14, _⟩ := e
          replace e14 : a.tmps[14]? = some (.int .i64 lz) := e14
          go_simp)) (steps_cons (gv_op 0 0 [(48, fun vs => .int .i64 lz)] 1 1 (fv := fun vs => .bool false) rfl rfl (wt_none rfl) (fun _ => rfl) (fun _ => rfl) rfl rfl (by kernel_rfl) (by kernel_rfl) ⟨rd_on (p := 48) 0 0 (fun _ => rfl) (fun _ => rfl) (by kernel_rfl) rfl, trivial⟩ (fun a w s vs hm hs h e => by
          obtain rfl : s = 0 := by omega
          obtain ⟨e48, _⟩ := e
          replace e48 : a.tmps[48]? = some (.int .i64 lz) := e48
          have hq := HLN.out; go_simp; first | done | exact hq | rw [hq])) (steps_cons (gv_op 0 0 [(49, fun vs => .bool false)] 2 2 (fv := fun vs => .bool false) rfl rfl (wt_none rfl) (fun _ => rfl) (fun _ => rfl) rfl rfl (by kernel_rfl) (by kernel_rfl) ⟨rd_on (p := 49) 1 1 (fun _ => rfl) (fun _ => rfl) (by kernel_rfl) rfl, trivial⟩ (fun a w s vs hm hs h e => by
          obtain rfl : s = 0 := by omega
          obtain ⟨e49, _⟩ := e
          replace e49 : a.tmps[49]? = some (.bool false) := e49
          go_simp)) (steps_cons (gv_op 0 0 [(13, fun vs => .int .i64 (sz : Int))] 3 3 (fv := fun vs => .int .i64 (sz : Int)) rfl rfl (wt_on (g := 2) (t := 50) rfl rfl rfl (rd_on (p := 50) 2 2 (fun _ => rfl) (fun _ => rfl) (by kernel_rfl) rfl)) (fun _ => rfl) (fun _ => rfl) rfl rfl (by kernel_rfl) (by kernel_rfl) ⟨rd_off (p := 13) (fun _ => rfl) rfl, trivial⟩ (fun a w s vs hm hs h e => by
          obtain rfl : s = 0 := by omega
          obtain ⟨e13, _⟩ := e
          replace e13 : a.tmps[13]? = some (.int .i64 (sz : Int)) := e13
          go_simp)) (steps_cons (gv_op 0 0 [(10, fun vs => .int .i64 (lf : Int))] 4 4 (fv := fun vs => .int .i64 (lf : Int)) rfl rfl (wt_on (g := 2) (t := 50) rfl rfl rfl (rd_on (p := 50) 2 2 (fun _ => rfl) (fun _ => rfl) (by kernel_rfl) rfl)) (fun _ => rfl) (fun _ => rfl) rfl rfl (by kernel_rfl) (by kernel_rfl) ⟨rd_off (p := 10) (fun _ => rfl) rfl, trivial⟩ (fun a w s vs hm hs h e => by
          obtain rfl : s = 0 := by omega
          obtain ⟨e10, _⟩ := e
          replace e10 : a.tmps[10]? = some (.int .i64 (lf : Int)) := e10
          go_simp)) (steps_cons (gv_op 0 0 [(51, fun vs => .int .i64 (sz : Int)), (52, fun vs => .int .i64 (lf : Int))] 5 5 (fv := fun vs => .bool true) rfl rfl (wt_on (g := 2) (t := 50) rfl rfl rfl (rd_on (p := 50) 2 2 (fun _ => rfl) (fun _ => rfl) (by kernel_rfl) rfl)) (fun _ => rfl) (fun _ => rfl) rfl rfl (by kernel_rfl) (by kernel_rfl) ⟨rd_on (p := 51) 3 3 (fun _ => rfl) (fun _ => rfl) (by kernel_rfl) rfl, rd_on (p := 52) 4 4 (fun _ => rfl) (fun _ => rfl) (by kernel_rfl) rfl, trivial⟩ (fun a w s vs hm hs h e => by
          obtain rfl : s = 0 := by omega
          obtain ⟨e51, e52, _⟩ := e
          replace e51 : a.tmps[51]? = some (.int .i64 (sz : Int)) := e51
          replace e52 : a.tmps[52]? = some (.int .i64 (lf : Int)) := e52
          have hq := HGT.out; go_simp; first | done | exact hq)) (steps_cons (gv_op 0 0 [(50, fun vs => .bool false), (53, fun vs => .bool true)] 6 6 (fv := fun vs => .bool true) rfl rfl (wt_none rfl) (fun _ => rfl) (fun _ => rfl) rfl rfl (by kernel_rfl) (by kernel_rfl) ⟨rd_on (p := 50) 2 2 (fun _ => rfl) (fun _ => rfl) (by kernel_rfl) rfl, rd_on (p := 53) 5 5 (fun _ => rfl) (fun _ => rfl) (by kernel_rfl) rfl, trivial⟩ (fun a w s vs hm hs h e => by
          obtain rfl : s = 0 := by omega
          obtain ⟨e50, e53, _⟩ := e
          replace e50 : a.tmps[50]? = some (.bool false) := e50
          replace e53 : a.tmps[53]? = some (.bool true) := e53
          go_simp)) (steps_cons (gv_op 0 0 [(54, fun vs => .bool true)] 7 7 (fv := fun vs => .bool true) rfl rfl (wt_none rfl) (fun _ => rfl) (fun _ => rfl) rfl rfl (by kernel_rfl) (by kernel_rfl) ⟨rd_on (p := 54) 6 6 (fun _ => rfl) (fun _ => rfl) (by kernel_rfl) rfl, trivial⟩ (fun a w s vs hm hs h e => by
          obtain rfl : s = 0 := by omega
          obtain ⟨e54, _⟩ := e
          replace e54 : a.tmps[54]? = some (.bool true) := e54
          go_simp)) (steps_cons (gv_off 8 8 rfl rfl (wt_off (g := 7) (t := 55) rfl rfl rfl (rd_on (p := 55) 7 7 (fun _ => rfl) (fun _ => rfl) (by kernel_rfl) rfl)) (fun _ => rfl) (fun _ => rfl) rfl) (steps_cons (gv_off 9 9 rfl rfl (wt_off (g := 7) (t := 55) rfl rfl rfl (rd_on (p := 55) 7 7 (fun _ => rfl) (fun _ => rfl) (by kernel_rfl) rfl)) (fun _ => rfl) (fun _ => rfl) rfl) (steps_cons (gv_off 10 10 rfl rfl (wt_off (g := 7) (t := 55) rfl rfl rfl (rd_on (p := 55) 7 7 (fun _ => rfl) (fun _ => rfl) (by kernel_rfl) rfl)) (fun _ => rfl) (fun _ => rfl) rfl) (steps_cons (gv_off 11 11 rfl rfl (wt_off (g := 7) (t := 55) rfl rfl rfl (rd_on (p := 55) 7 7 (fun _ => rfl) (fun _ => rfl) (by kernel_rfl) rfl)) (fun _ => rfl) (fun _ => rfl) rfl) (steps_cons (gv_off 12 12 rfl rfl (wt_off (g := 7) (t := 55) rfl rfl rfl (rd_on (p := 55) 7 7 (fun _ => rfl) (fun _ => rfl) (by kernel_rfl) rfl)) (fun _ => rfl) (fun _ => rfl) rfl) (steps_cons (gv_off 13 13 rfl rfl (wt_off (g := 7) (t := 55) rfl rfl rfl (rd_on (p := 55) 7 7 (fun _ => rfl) (fun _ => rfl) (by kernel_rfl) rfl)) (fun _ => rfl) (fun _ => rfl) rfl) (steps_cons (gv_off 14 14 rfl rfl (wt_off (g := 7) (t := 55) rfl rfl rfl (rd_on (p := 55) 7 7 (fun _ => rfl) (fun _ => rfl) (by kernel_rfl) rfl)) (fun _ => rfl) (fun _ => rfl) rfl) (steps_cons (gv_off 15 15 rfl rfl (wt_off (g := 7) (t := 55) rfl rfl rfl (rd_on (p := 55) 7 7 (fun _ => rfl) (fun _ => rfl) (by kernel_rfl) rfl)) (fun _ => rfl) (fun _ => rfl) rfl) (steps_cons (gv_off 16 16 rfl rfl (wt_off (g := 7) (t := 55) rfl rfl rfl (rd_on (p := 55) 7 7 (fun _ => rfl) (fun _ => rfl) (by kernel_rfl) rfl)) (fun _ => rfl) (fun _ => rfl) rfl) (steps_cons (gv_op 0 0 [(55, fun vs => .bool true), (64, fun vs => undef)] 17 17 (fv := fun vs => .bool true) rfl rfl (wt_none rfl) (fun _ => rfl) (fun _ => rfl) rfl rfl (by kernel_rfl) (by kernel_rfl) ⟨rd_on (p := 55) 7 7 (fun _ => rfl) (fun _ => rfl) (by kernel_rfl) rfl, rd_on (p := 64) 16 16 (fun _ => rfl) (fun _ => rfl) (by kernel_rfl) rfl, trivial⟩ (fun a w s vs hm hs h e => by
          obtain rfl : s = 0 := by omega
          obtain ⟨e55, e64, _⟩ := e
          replace e55 : a.tmps[55]? = some (.bool true) := e55
          replace e64 : a.tmps[64]? = some (undef) := e64
          go_simp)) steps_nil)))))))))))))))))
        intro vs W5 hX
        simp only [putSel, if_true, Act.put, List.setIfInBounds_toArray, List.set_cons_zero, List.set_cons_succ]
        replace HBX := Lh (blk_below HBX.out (drawn_below hX))
        replace HST := Lh (HST.out.below (drawn_below hX))
        clear hX vs HLN HGT
        go_wp2_with (at_builtin; go_must (refine Kd.R_append rawR (w0 := wI) (W := W5) wI.heap.size rfl _ _ 55 24 (.slice none 0 0) 24 rfl Tryd.underlying55 info_sl rfl (by decide) (by decide) (.slice A9 zl c9) (zs) nilZ [.slice none 0 0] (fun _ => True) (fun _ => False) rfl rfl rfl (fun _ h => h.elim) (fun _ _ => trivial) HST.out.out HST.out.bl HST.out.bl.size (by have h1 := HZL.out; omega) ?_); (intro v1 w1 hR1 hB1 hG1 _; have HR1 := Lh hR1; have HB1 := Lh hB1; have HG1 := Lh hG1; clear hR1 hB1 hG1; refine RowKit.Hid.out ?_))
        refine Lh ?_
        have HBX2 := Lh (blk_far_row HST.out HBX.out HG1.out)
        have hS1 := HST.out.opened HR1.out HG1.out HB1.out
        obtain ⟨go, capo, hv1, _⟩ := hS1.last
        subst hv1
        have HBX := HBX2
        have HST := Lh hS1
        clear hS1 HR1 HB1 HG1 HBX2
        obtain ⟨r, hr0⟩ : ∃ r, nilZ = r := ⟨_, rfl⟩
        obtain ⟨ds, hds⟩ : ∃ ds : List RW, (zs) = ds := ⟨_, rfl⟩
        rw [hr0, hds] at HST
        have HRN := Lh (fun (r' : RW) (h : r'.2 = r.2 ++ [(x, L)]) => (show RelB m (l.take (i + 1)) (ds ++ [r']) (m - 12 - sz) from by
         rw [take_next HDX.out, ← HSX.out, ← hds]
         exact HREL.out.open_ HINV.out (by rw [HSX.out]; exact HFIT.out) HOPN.out (by rw [h, ← hr0])))
        have HRL := Lh (show (r.2.length + 1) * 152 ≤ 140737488355328 by rw [← hr0]; decide)
        have HVR := Lh (show encR r = .slice none 0 0 by rw [← hr0]; rfl)
        obtain ⟨lf2, hlf2⟩ : ∃ q : Nat, m - 12 = q := ⟨_, rfl⟩
        have hw12 : wrap64 ((m : Int) - 12) = (lf2 : Int) := by have h1 := HMT.out; unfold wrap64; omega
        have HLF := Lh (show sz ≤ lf2 ∧ lf2 ≤ 1500 by have h1 := HMT.out; have h2 := HFIT.out; omega)
        rw [hlf2] at HRN
        obtain ⟨k, hk⟩ : ∃ k : Nat, ds.length = k := ⟨_, rfl⟩
        have HDK := Lh hk
        obtain ⟨nz, hnz⟩ : ∃ nz : Nat, ds.length + 1 = nz := ⟨_, rfl⟩
        have HLK := Lh (show ¬ nz ≤ k by omega)
        have hwk : wrap64 (lz + 1) = (k : Int) := by have h1 := HLZ.out; rw [hds] at h1; unfold wrap64; omega
        have hnz2 : (zs).length + 1 = nz := by rw [hds]; exact hnz
        rw [hnz] at HST
        rw [hnz2]
        clear hnz hnz2 hk hds hr0 hlf2 HREL HINV HOPN HLZ
        go_upto_region 22 with (fail)
        try rw [hwk]
        try rw [hw12]
        clear hwk hw12
        refine grow_v (B := pbbB22) [0, 1, 2, 3, 4, 5, 6, 7, 8, 9, 10] [7, 8, 10] (fun s vs W => match s with | 0 => BSt wI W (ds ++ [r]) (.slice (some ⟨go, 0, none⟩) nz capo) ∧ W.heap[gb]? = some (.cells CX 41 (0, 0)) ∧ True | 1 => BSt wI W (ds ++ [r]) (.slice (some ⟨go, 0, none⟩) nz capo) ∧ W.heap[gb]? = some (.cells CX 41 (0, 0)) ∧ ∃ gs, vs 1 = .slice (some ⟨gs, 0, none⟩) 1 1 ∧ cvK.C W (some ⟨gs, 0, none⟩) 1 [(x, L)] | 2 => AppP wI W (.slice (some ⟨go, 0, none⟩) nz capo) ds r x L (vs 2) | _ => ∃ r' : RW, r'.2 = r.2 ++ [(x, L)] ∧ encR r' = vs 2 ∧ BSt wI W (ds ++ [r']) (.slice (some ⟨go, 0, none⟩) nz capo)) (fun vs => [(0, 73, .slice (some ⟨go, 0, none⟩) nz capo), (1, 74, .int .i64 (k : Int)), (2, 75, .slice (some ⟨go, 0, none⟩) nz capo), (3, 76, .int .i64 (k : Int)), (4, 77, .pointer (some ⟨go, k, none⟩)), (5, 78, (.slice none 0 0)), (6, 79, .agg CX), (7, 80, vs 1), (8, 81, vs 2), (9, 82, .pointer (some ⟨go, k, none⟩))]) (by kernel_rfl) rfl (l := #[false, false, false, false, false, false, false, false, false, false, false]) rfl pbbtab22 pbbbits22 (by kernel_rfl) (by kernel_rfl) (fun _ => rfl) rfl (fun _ => undef) ?_ ?_ ?_
        ·exact ⟨HST.out.below (pw_below_drewN (Below.refl _ _) 1), blk_drewN HBX.out 1, trivial⟩
        ·exact steps_cons (gv_op 0 2 [(9, fun vs => .slice (some ⟨go, 0, none⟩) nz capo)] 0 0 (fv := fun vs => .slice (some ⟨go, 0, none⟩) nz capo) rfl rfl (wt_none rfl) (fun _ => rfl) (fun _ => rfl) rfl rfl (by kernel_rfl) (by kernel_rfl) ⟨rd_off (p := 9) (fun _ => rfl) rfl, trivial⟩ (fun a w s vs hm hs h e => by
          obtain ⟨e9, _⟩ := e
          replace e9 : a.tmps[9]? = some (.slice (some ⟨go, 0, none⟩) nz capo) := e9
          go_simp)) (steps_cons (gv_op 0 2 [(14, fun vs => .int .i64 (k : Int))] 1 1 (fv := fun vs => .int .i64 (k : Int)) rfl rfl (wt_none rfl) (fun _ => rfl) (fun _ => rfl) rfl rfl (by kernel_rfl) (by kernel_rfl) ⟨rd_off (p := 14) (fun _ => rfl) rfl, trivial⟩ (fun a w s vs hm hs h e => by
          obtain ⟨e14, _⟩ := e
          replace e14 : a.tmps[14]? = some (.int .i64 (k : Int)) := e14
          go_simp)) (steps_cons (gv_op 0 1 [(9, fun vs => .slice (some ⟨go, 0, none⟩) nz capo)] 2 2 (fv := fun vs => .slice (some ⟨go, 0, none⟩) nz capo) rfl rfl (wt_none rfl) (fun _ => rfl) (fun _ => rfl) rfl rfl (by kernel_rfl) (by kernel_rfl) ⟨rd_off (p := 9) (fun _ => rfl) rfl, trivial⟩ (fun a w s vs hm hs h e => by
          obtain ⟨e9, _⟩ := e
          replace e9 : a.tmps[9]? = some (.slice (some ⟨go, 0, none⟩) nz capo) := e9
          go_simp)) (steps_cons (gv_op 0 1 [(14, fun vs => .int .i64 (k : Int))] 3 3 (fv := fun vs => .int .i64 (k : Int)) rfl rfl (wt_none rfl) (fun _ => rfl) (fun _ => rfl) rfl rfl (by kernel_rfl) (by kernel_rfl) ⟨rd_off (p := 14) (fun _ => rfl) rfl, trivial⟩ (fun a w s vs hm hs h e => by
          obtain ⟨e14, _⟩ := e
          replace e14 : a.tmps[14]? = some (.int .i64 (k : Int)) := e14
          go_simp)) (steps_cons (gv_op 0 1 [(75, fun vs => .slice (some ⟨go, 0, none⟩) nz capo), (76, fun vs => .int .i64 (k : Int))] 4 4 (fv := fun vs => .pointer (some ⟨go, k, none⟩)) rfl rfl (wt_none rfl) (fun _ => rfl) (fun _ => rfl) rfl rfl (by kernel_rfl) (by kernel_rfl) ⟨rd_on (p := 75) 2 2 (fun _ => rfl) (fun _ => rfl) (by kernel_rfl) rfl, rd_on (p := 76) 3 3 (fun _ => rfl) (fun _ => rfl) (by kernel_rfl) rfl, trivial⟩ (fun a w s vs hm hs h e => by
          obtain ⟨e75, e76, _⟩ := e
          replace e75 : a.tmps[75]? = some (.slice (some ⟨go, 0, none⟩) nz capo) := e75
          replace e76 : a.tmps[76]? = some (.int .i64 (k : Int)) := e76
          have hl := HLK.out; go_simp)) (steps_cons (gv_op 0 1 [(77, fun vs => .pointer (some ⟨go, k, none⟩))] 5 5 (fv := fun vs => (.slice none 0 0)) rfl rfl (wt_none rfl) (fun _ => rfl) (fun _ => rfl) rfl rfl (by kernel_rfl) (by kernel_rfl) ⟨rd_on (p := 77) 4 4 (fun _ => rfl) (fun _ => rfl) (by kernel_rfl) rfl, trivial⟩ (fun a w s vs hm hs h e => by
          obtain ⟨e77, _⟩ := e
          replace e77 : a.tmps[77]? = some (.pointer (some ⟨go, k, none⟩)) := e77
          have h1 : BSt wI w (ds ++ [r]) (.slice (some ⟨go, 0, none⟩) nz capo) := by
           rcases (by omega : s = 0 ∨ s = 1) with rfl | rfl <;> exact h.1
          have hs := h1.cell.1
          rw [HVR.out, HDK.out] at hs
          go_simp)) (steps_cons (gv_op 0 0 [(12, fun vs => .pointer (some ⟨gb, 0, none⟩))] 6 6 (fv := fun vs => .agg CX) rfl rfl (wt_none rfl) (fun _ => rfl) (fun _ => rfl) rfl rfl (by kernel_rfl) (by kernel_rfl) ⟨rd_off (p := 12) (fun _ => rfl) rfl, trivial⟩ (fun a w s vs hm hs h e => by
          obtain rfl : s = 0 := by omega
          obtain ⟨e12, _⟩ := e
          replace e12 : a.tmps[12]? = some (.pointer (some ⟨gb, 0, none⟩)) := e12
          exact exec_load_row 41 (.tmp 12) rfl (eval_of e12) h.2.1 Tryd.underlying41 rfl HXS.out)) (steps_cons (gv_gen [(79, fun vs => .agg CX)] 7 7 0 rfl rfl (wt_none rfl) rfl (fun _ => rfl) (fun _ _ => rfl) (fun _ => rfl) rfl (by kernel_rfl) ⟨rd_on (p := 79) 6 6 (fun _ => rfl) (fun _ => rfl) (by kernel_rfl) rfl, trivial⟩ (fun a w K vs h e hw hK => by
          obtain ⟨e79, _⟩ := e
          replace e79 : a.tmps[79]? = some (.agg CX) := e79
          obtain ⟨h1, h2, _⟩ := h
          exact value_ (w1 := w.alloc (.cells CX 41)) (v := .slice (some ⟨w.heap.size, 0, none⟩) 1 1) hw rfl (by rw [← HXE.out]; exact exec_one 79 x L rfl (by rw [HXE.out]; exact e79)) (hK _ _ ⟨h1.below (below_alloc (Below.refl _ _) _), blk_alloc h2 _, w.heap.size, rfl, by rw [← HXE.out]; exact cv_one w x L⟩))) (steps_cons (gv_gen [(78, fun vs => (.slice none 0 0)), (80, fun vs => vs 1)] 8 8 1 rfl rfl (wt_none rfl) rfl (fun _ => rfl) (fun _ _ => rfl) (fun _ => rfl) rfl (by kernel_rfl) ⟨rd_on (p := 78) 5 5 (fun _ => rfl) (fun _ => rfl) (by kernel_rfl) rfl, rd_on (p := 80) 7 7 (fun _ => rfl) (fun _ => rfl) (by kernel_rfl) rfl, trivial⟩ (fun a w K vs h e hw hK => by
          obtain ⟨e78, e80, _⟩ := e
          replace e78 : a.tmps[78]? = some ((.slice none 0 0)) := e78
          replace e80 : a.tmps[80]? = some (vs 1) := e80
          obtain ⟨h1, h2, gs, hv, hC⟩ := h
          refine Kd.R_append_rows_step cvK (Rr := cvK.K w) (w0 := wI) (W := w) wI.heap.size hw _ _ 24 41 (.agg zerV) 152 rfl Tryd.underlying24 info_cv rfl (by decide) (by decide) (.slice none 0 0) r.2 [(x, L)] (some ⟨gs, 0, none⟩) 1 1 (fun _ => True) (fun _ => False) (eval_of e78) ((eval_of e80).trans hv) (by rw [← HVR.out]; exact h1.own r (List.mem_append_right _ (List.mem_singleton_self _))) hC (fun _ _ h => h) (fun _ h => h.elim) (fun _ _ => trivial) h1.bl h1.bl.size (by have := HRL.out; omega) ?_
          intro v1 w1 hR1 hB1 hG1 hat
          exact hK v1 w1 (h1.app HXC.out hR1 (by rw [HVR.out]; exact hG1) (by rw [HVR.out]; exact hat) hB1))) (steps_cons (gv_op 2 2 [(73, fun vs => .slice (some ⟨go, 0, none⟩) nz capo), (74, fun vs => .int .i64 (k : Int))] 9 9 (fv := fun vs => .pointer (some ⟨go, k, none⟩)) rfl rfl (wt_none rfl) (fun _ => rfl) (fun _ => rfl) rfl rfl (by kernel_rfl) (by kernel_rfl) ⟨rd_on (p := 73) 0 0 (fun _ => rfl) (fun _ => rfl) (by kernel_rfl) rfl, rd_on (p := 74) 1 1 (fun _ => rfl) (fun _ => rfl) (by kernel_rfl) rfl, trivial⟩ (fun a w s vs hm hs h e => by
          obtain rfl : s = 2 := by omega
          obtain ⟨e73, e74, _⟩ := e
          replace e73 : a.tmps[73]? = some (.slice (some ⟨go, 0, none⟩) nz capo) := e73
          replace e74 : a.tmps[74]? = some (.int .i64 (k : Int)) := e74
          have hl := HLK.out; go_simp)) (steps_cons (gv_store (f := fun vs W => W.setCell ⟨go, k, none⟩ (vs 2)) [(82, fun vs => .pointer (some ⟨go, k, none⟩)), (81, fun vs => vs 2)] 10 2 rfl rfl (wt_none rfl) rfl (fun _ => rfl) rfl (by kernel_rfl) ⟨rd_on (p := 82) 9 9 (fun _ => rfl) (fun _ => rfl) (by kernel_rfl) rfl, rd_on (p := 81) 8 8 (fun _ => rfl) (fun _ => rfl) (by kernel_rfl) rfl, trivial⟩ (fun a w vs h e => by
          obtain ⟨e82, e81, _⟩ := e
          replace e82 : a.tmps[82]? = some (.pointer (some ⟨go, k, none⟩)) := e82
          replace e81 : a.tmps[81]? = some (vs 2) := e81
          obtain ⟨g2, c2, hv2, _, _⟩ := (Kd.R_own h.last).elim fun _ h => h.form (by rw [List.length_append]; simp)
          have hf := (show w.frozen? ⟨go, k, none⟩ = false from by have h9 := h.out; rw [← HDK.out]; exact (BSt.cell2 h9).2)
          have hs := (show w.cell? ⟨go, k, none⟩ = some (.slice none 0 0) from by have h9 := h.out; rw [← HDK.out, ← HVR.out]; exact (BSt.cell2 h9).1)
          rw [hv2] at e81 ⊢
          go_simp; first | done | rfl) (fun vs w h => by have h9 := h.store (n := nz) (cap := capo) rfl; rw [HDK.out] at h9; exact h9)) steps_nil))))))))))
        intro vs W9 hX9
        obtain ⟨r', hr', hv', hS9⟩ := hX9
        simp only [putSel, if_true, Act.put, List.setIfInBounds_toArray, List.set_cons_zero, List.set_cons_succ]
        rw [← hv']
        generalize vs 1 = u80 at *
        have HS9 := Lh hS9
        have HR9 := Lh hr'
        clear hS9 hr' hv' vs HST HBX HXS HLK HVR
        unfold encR
        generalize (Option.map (fun g => ⟨g, 0, none⟩) r'.1.1 : Option Addr) = Ar at *
        generalize r'.2.length = nr at *
        have hw9 : wrap64 ((lf2 : Int) - (sz : Int)) = ((lf2 - sz : Nat) : Int) := by have h1 := HMT.out; have h2 := HLF.out; unfold wrap64; omega
        go_wp2
        go_roundw
        case rel => exact ⟨i + 1, ds ++ [r'], lf2 - sz, by omega, by first | rfl | exact congrArg _ hw9 | rw [hw9], by go_num, HRN.out r' HR9.out, HS9⟩
        case measure => simp [intOf]; omega
       ·obtain ⟨ds, r, hdr⟩ : ∃ ds r, zs = ds ++ [r] := ⟨zs.dropLast, zs.getLast hz0, (List.dropLast_concat_getLast hz0).symm⟩
        have HDR := Lh hdr
        obtain ⟨go, capo, hv9, _⟩ := (by rw [hdr] at HST; exact HST.out : BSt wI W2 (ds ++ [r]) (.slice A9 zl c9)).last
        injection hv9 with e1 e2 e3
        subst e1 e3
        obtain ⟨k, hk⟩ : ∃ k : Nat, ds.length = k := ⟨_, rfl⟩
        have HDK := Lh hk
        have hlk : lz = (k : Int) := by have h1 := HLZ.out.1; rw [hdr, List.length_append] at h1; simp at h1; omega
        have HLK := Lh (show ¬ zl ≤ k by omega)
        have HGT := Lh (show decide ((lf : Int) < (sz : Int)) = false ∧ decide (lf < sz) = false from ⟨decide_eq_false (by omega), decide_eq_false hgt⟩)
        have HLE := Lh (show sz ≤ lf by omega)
        have HRLX := Lh ((by rw [hdr] at HREL; exact HREL.out : RelB m (l.take i) (ds ++ [r]) lf).row HINV.out HOK.out.1)
        have HST2 := Lh (by rw [hdr] at HST; exact HST.out : BSt wI W2 (ds ++ [r]) (.slice (some ⟨go, 0, none⟩) zl c9))
        have hrne : 0 < r.2.length := by
         have h1 := (outB_last HINV.out (by rw [hdr] at HREL; exact HREL.out.1)).2.2
         rw [(outB_last HINV.out (by rw [hdr] at HREL; exact HREL.out.1)).1] at h1
         have h2 := List.length_pos_iff.2 h1
         rw [fsts_len] at h2
         exact h2
        obtain ⟨gr, capr, hvr, _, _⟩ := (Kd.R_own (HST2.out.own r (List.mem_append_right _ (List.mem_singleton_self _)))).elim fun _ h => h.form hrne
        have HCL0 := Lh (fun (W : World) (h : Below W2.heap.size W2 W) => clonec_calls W gr r.2.length capr r.2 (by have h1 := ((HST2.out.own r (List.mem_append_right _ (List.mem_singleton_self _))).below h).C.1; unfold encR at hvr; injection hvr with q1 q2 q3; rw [q1] at h1; exact h1) (by have h1 := HRLX.out.1; omega))
        obtain ⟨VR, hVR⟩ : ∃ VR, encR r = VR := ⟨_, rfl⟩
        have HVR := Lh hVR
        rw [← hvr, hVR] at HCL0
        have HCL := HCL0
        have HLC := Lh (fun (W : World) (h : Below W2.heap.size W2 W) => (show W.cell? ⟨go, k, none⟩ = some VR from by
         have h1 := (HST2.out.below h).cell.1
         rw [HDK.out, HVR.out] at h1
         exact h1))
        obtain ⟨ab, hab⟩ : ∃ ab, apartB (fsts r.2 ++ [x]) = ab := ⟨_, rfl⟩
        have HAB := Lh hab
        have HAP := Lh (fun (W : World) (v : Value) (h : Below W2.heap.size W2 W) (hR : cvK.R 41 W W2.heap.size (fun _ => True) v (r.2 ++ [(x, L)])) => (show Calls Tryd.prog 27 #[v] W fun e w' => e = .returned (.bool ab) ∧ Below W.heap.size W w' from by
         obtain ⟨A7, c7, hv7, _, hC7⟩ := Kd.R_reads hR
         have hb7 := below_then HST2.out.bl HST2.out.bl.size h
         have h1 := apart_calls W A7 c7 (fsts (r.2 ++ [(x, L)])) (by
          rw [fsts_len]
          refine cv_chk hC7 (fun p hp => ?_)
          rcases List.mem_append.1 hp with hp | hp
          ·exact (HST2.out.cr r (List.mem_append_right _ (List.mem_singleton_self _)) p hp).below hb7
          ·rw [List.mem_singleton.1 hp]
           exact HXC.out.below hb7)
         rw [fsts_len, ← hv7, show fsts (r.2 ++ [(x, L)]) = fsts r.2 ++ [x] by unfold fsts; rw [List.map_append]; rfl, HAB.out] at h1
         exact h1))
        have HRL := Lh HRLX.out.1
        rw [hlk]
        clear hk e2 hz0 hgt hlk hdr hvr hVR hab hrne HCL0
        have B := True.intro
        refine start_ (n := 18) (S := fun w' => True) (ds := []) #[false, false, false, false, false, false, false, false, false, false, false, false, false, false, false, false, false, false] (by kernel_rfl) rfl rfl trivial (fun hHeld => ?_)
        refine with_tabW pbdtab19 pbdbits19 (fun HT_ HW_ => ?_)
        refine pu 0 48 ?_ rfl rfl (any_of HT_.out (by kernel_rfl)) (fun _ _ _ h => h) (by rfl) ?_ ?_ ?_ ?_
        rotate_left
        ·intro w'
         go_simp
         with_reducible rfl
        rotate_left
        ·simp only [sL]
         rfl
        refine inv_at [1, 2, 3, 4, 5, 6, 7, 8, 9, 10, 11, 12, 13, 14, 15, 16, 17] (fun a0_ b a w' => ∃ (v60 : Value) (g62 : Nat) (v63 : Value) (m14_ : Value), a = putSel a0_ b [(1, 49, .bool false), (2, 50, .bool false), (3, 51, .int .i64 (sz : Int)), (4, 52, .int .i64 (lf : Int)), (5, 53, .bool false), (6, 54, .bool false), (7, 55, .bool false), (8, 56, .slice (some ⟨go, 0, none⟩) zl c9), (9, 57, .int .i64 (k : Int)), (10, 58, .pointer (some ⟨go, k, none⟩)), (11, 59, VR), (12, 60, v60), (13, 61, .agg CX), (14, 62, m14_), (15, 63, v63), (16, 64, .bool ab), (17, 65, .bool ab)] ∧ (Below W2.heap.size W2 w') ∧ (b 12 = true → b 15 = false → cvK.R 41 w' W2.heap.size (fun _ => True) v60 r.2) ∧ (b 14 = true → b 15 = false → cvK.C w' (some ⟨g62, 0, none⟩) 1 [(x, L)]) ∧ (b 15 = true → cvK.R 41 w' W2.heap.size (fun _ => True) v63 (r.2 ++ [(x, L)])) ∧ (b 14 = true → (m14_ : Value) = .slice (some ⟨g62, 0, none⟩) 1 1)) HT_.out HW_.out (by kernel_rfl) (by kernel_rfl) ?_ ?_ ?_
        ·exact ⟨.bool false, 0, .bool false, .bool false, by simp only [putSel, Bool.false_eq_true, if_false], below_drew (Below.refl _ _), fun h_ => absurd h_ (by decide), fun h_ => absurd h_ (by decide), fun h_ => absurd h_ (by decide), fun h_ => absurd h_ (by decide)⟩
        ·skip
         clear B
         refine sc rfl ?_ ?_
         ·rintro b a w' ⟨v60, g62, v63, m14_, ha, Q_B, Q_R, Q_S, Q_Tt, Q_X14_⟩ hb_ hon hoff K hK
          have e48 : a.tmps[48]? = some (.int .i64 (k : Int)) := by rw [ha]; exact (putSel_off rfl).trans rfl
          replace ha := Am ha
          refine value_ (w1 := w') (v := .bool false) (by rfl) rfl ?_ ?_
          ·go_simp
           (try simp only [i64_w])
           try rfl
          refine hK.out _ _ ⟨v60, g62, v63, m14_, (puk ha 0 hb_ rfl rfl rfl), Q_B, fun h0_ _ => hof (hoff 12 (by kernel_rfl)) h0_, fun h0_ _ => hof (hoff 14 (by kernel_rfl)) h0_, fun h0_ => hof (hoff 15 (by kernel_rfl)) h0_, fun h0_ => hof (hoff 14 (by kernel_rfl)) h0_⟩
         refine sc rfl ?_ ?_
         ·rintro b a w' ⟨v60, g62, v63, m14_, ha, Q_B, Q_R, Q_S, Q_Tt, Q_X14_⟩ hb_ hon hoff K hK
          have e49 := psn ha 0 rfl rfl (hon 1 (by kernel_rfl)) rfl
          replace ha := Am ha
          refine value_ (w1 := w') (v := .bool false) (by rfl) rfl ?_ ?_
          ·go_simp
           (try simp only [i64_w])
           try rfl
          refine hK.out _ _ ⟨v60, g62, v63, m14_, (puk ha 1 hb_ rfl rfl rfl), Q_B, fun h0_ _ => hof (hoff 12 (by kernel_rfl)) h0_, fun h0_ _ => hof (hoff 14 (by kernel_rfl)) h0_, fun h0_ => hof (hoff 15 (by kernel_rfl)) h0_, fun h0_ => hof (hoff 14 (by kernel_rfl)) h0_⟩
         refine sc rfl ?_ ?_
         ·rintro b a w' ⟨v60, g62, v63, m14_, ha, Q_B, Q_R, Q_S, Q_Tt, Q_X14_⟩ hb_ hon hoff K hK
          have e13 : a.tmps[13]? = some (.int .i64 (sz : Int)) := by rw [ha]; exact (putSel_off rfl).trans rfl
          have e50 := psn ha 1 rfl rfl (hon 2 (by kernel_rfl)) rfl
          replace ha := Am ha
          refine value_ (w1 := w') (v := .int .i64 (sz : Int)) (wanted_on rfl rfl rfl (e50.trans (by first | rfl | (simp [*]; done)))) rfl ?_ ?_
          ·go_simp
           (try simp only [i64_w])
           try rfl
          refine hK.out _ _ ⟨v60, g62, v63, m14_, (puk ha 2 hb_ rfl rfl rfl), Q_B, fun h0_ _ => hof (hoff 12 (by kernel_rfl)) h0_, fun h0_ _ => hof (hoff 14 (by kernel_rfl)) h0_, fun h0_ => hof (hoff 15 (by kernel_rfl)) h0_, fun h0_ => hof (hoff 14 (by kernel_rfl)) h0_⟩
         refine sc rfl ?_ ?_
         ·rintro b a w' ⟨v60, g62, v63, m14_, ha, Q_B, Q_R, Q_S, Q_Tt, Q_X14_⟩ hb_ hon hoff K hK
          have e10 : a.tmps[10]? = some (.int .i64 (lf : Int)) := by rw [ha]; exact (putSel_off rfl).trans rfl
          have e50 := psn ha 1 rfl rfl (hon 2 (by kernel_rfl)) rfl
          replace ha := Am ha
          refine value_ (w1 := w') (v := .int .i64 (lf : Int)) (wanted_on rfl rfl rfl (e50.trans (by first | rfl | (simp [*]; done)))) rfl ?_ ?_
          ·go_simp
           (try simp only [i64_w])
           try rfl
          refine hK.out _ _ ⟨v60, g62, v63, m14_, (puk ha 3 hb_ rfl rfl rfl), Q_B, fun h0_ _ => hof (hoff 12 (by kernel_rfl)) h0_, fun h0_ _ => hof (hoff 14 (by kernel_rfl)) h0_, fun h0_ => hof (hoff 15 (by kernel_rfl)) h0_, fun h0_ => hof (hoff 14 (by kernel_rfl)) h0_⟩
         refine sc rfl ?_ ?_
         ·rintro b a w' ⟨v60, g62, v63, m14_, ha, Q_B, Q_R, Q_S, Q_Tt, Q_X14_⟩ hb_ hon hoff K hK
          have e51 := psn ha 2 rfl rfl (hon 3 (by kernel_rfl)) rfl
          have e52 := psn ha 3 rfl rfl (hon 4 (by kernel_rfl)) rfl
          have e50 := psn ha 1 rfl rfl (hon 2 (by kernel_rfl)) rfl
          replace ha := Am ha
          have B := Am Q_B
          have hq := HGT.out
          refine value_ (w1 := w') (v := .bool false) (wanted_on rfl rfl rfl (e50.trans (by first | rfl | (simp [*]; done)))) rfl (by go_simp; first | done | exact hq) ?_
          refine hK.out _ _ ⟨v60, g62, v63, m14_, (puk ha 4 hb_ rfl rfl rfl), B.out, fun h0_ _ => hof (hoff 12 (by kernel_rfl)) h0_, fun h0_ _ => hof (hoff 14 (by kernel_rfl)) h0_, fun h0_ => hof (hoff 15 (by kernel_rfl)) h0_, fun h0_ => hof (hoff 14 (by kernel_rfl)) h0_⟩
         refine sc rfl ?_ ?_
         ·rintro b a w' ⟨v60, g62, v63, m14_, ha, Q_B, Q_R, Q_S, Q_Tt, Q_X14_⟩ hb_ hon hoff K hK
          have e50 := psn ha 1 rfl rfl (hon 2 (by kernel_rfl)) rfl
          have e53 := psn ha 4 rfl rfl (hon 5 (by kernel_rfl)) rfl
          replace ha := Am ha
          refine value_ (w1 := w') (v := .bool false) (by rfl) rfl ?_ ?_
          ·go_simp
           (try simp only [i64_w])
           try rfl
          refine hK.out _ _ ⟨v60, g62, v63, m14_, (puk ha 5 hb_ rfl rfl rfl), Q_B, fun h0_ _ => hof (hoff 12 (by kernel_rfl)) h0_, fun h0_ _ => hof (hoff 14 (by kernel_rfl)) h0_, fun h0_ => hof (hoff 15 (by kernel_rfl)) h0_, fun h0_ => hof (hoff 14 (by kernel_rfl)) h0_⟩
         refine sc rfl ?_ ?_
         ·rintro b a w' ⟨v60, g62, v63, m14_, ha, Q_B, Q_R, Q_S, Q_Tt, Q_X14_⟩ hb_ hon hoff K hK
          have e54 := psn ha 5 rfl rfl (hon 6 (by kernel_rfl)) rfl
          replace ha := Am ha
          refine value_ (w1 := w') (v := .bool false) (by rfl) rfl ?_ ?_
          ·go_simp
           (try simp only [i64_w])
           try rfl
          refine hK.out _ _ ⟨v60, g62, v63, m14_, (puk ha 6 hb_ rfl rfl rfl), Q_B, fun h0_ _ => hof (hoff 12 (by kernel_rfl)) h0_, fun h0_ _ => hof (hoff 14 (by kernel_rfl)) h0_, fun h0_ => hof (hoff 15 (by kernel_rfl)) h0_, fun h0_ => hof (hoff 14 (by kernel_rfl)) h0_⟩
         refine sc rfl ?_ ?_
         ·rintro b a w' ⟨v60, g62, v63, m14_, ha, Q_B, Q_R, Q_S, Q_Tt, Q_X14_⟩ hb_ hon hoff K hK
          have e9 : a.tmps[9]? = some (.slice (some ⟨go, 0, none⟩) zl c9) := by rw [ha]; exact (putSel_off rfl).trans rfl
          have e55 := psn ha 6 rfl rfl (hon 7 (by kernel_rfl)) rfl
          replace ha := Am ha
          refine value_ (w1 := w') (v := .slice (some ⟨go, 0, none⟩) zl c9) (wanted_on rfl rfl rfl (e55.trans (by first | rfl | (simp [*]; done)))) rfl ?_ ?_
          ·go_simp
           (try simp only [i64_w])
           try rfl
          refine hK.out _ _ ⟨v60, g62, v63, m14_, (puk ha 7 hb_ rfl rfl rfl), Q_B, fun h0_ _ => hof (hoff 12 (by kernel_rfl)) h0_, Q_S, fun h0_ => hof (hoff 15 (by kernel_rfl)) h0_, Q_X14_⟩
         refine sc rfl ?_ ?_
         ·rintro b a w' ⟨v60, g62, v63, m14_, ha, Q_B, Q_R, Q_S, Q_Tt, Q_X14_⟩ hb_ hon hoff K hK
          have e14 : a.tmps[14]? = some (.int .i64 (k : Int)) := by rw [ha]; exact (putSel_off rfl).trans rfl
          have e55 := psn ha 6 rfl rfl (hon 7 (by kernel_rfl)) rfl
          replace ha := Am ha
          refine value_ (w1 := w') (v := .int .i64 (k : Int)) (wanted_on rfl rfl rfl (e55.trans (by first | rfl | (simp [*]; done)))) rfl ?_ ?_
          ·go_simp
           (try simp only [i64_w])
           try rfl
          refine hK.out _ _ ⟨v60, g62, v63, m14_, (puk ha 8 hb_ rfl rfl rfl), Q_B, fun h0_ _ => hof (hoff 12 (by kernel_rfl)) h0_, Q_S, fun h0_ => hof (hoff 15 (by kernel_rfl)) h0_, Q_X14_⟩
         refine sc rfl ?_ ?_
         ·rintro b a w' ⟨v60, g62, v63, m14_, ha, Q_B, Q_R, Q_S, Q_Tt, Q_X14_⟩ hb_ hon hoff K hK
          have e56 := psn ha 7 rfl rfl (hon 8 (by kernel_rfl)) rfl
          have e57 := psn ha 8 rfl rfl (hon 9 (by kernel_rfl)) rfl
          have e55 := psn ha 6 rfl rfl (hon 7 (by kernel_rfl)) rfl
          replace ha := Am ha
          have hl := HLK.out
          refine value_ (w1 := w') (v := .pointer (some ⟨go, k, none⟩)) (wanted_on rfl rfl rfl (e55.trans (by first | rfl | (simp [*]; done)))) rfl ?_ ?_
          ·go_simp
           (try simp only [i64_w])
           try rfl
          refine hK.out _ _ ⟨v60, g62, v63, m14_, (puk ha 9 hb_ rfl rfl rfl), Q_B, fun h0_ _ => hof (hoff 12 (by kernel_rfl)) h0_, Q_S, fun h0_ => hof (hoff 15 (by kernel_rfl)) h0_, Q_X14_⟩
         refine sc rfl ?_ ?_
         ·rintro b a w' ⟨v60, g62, v63, m14_, ha, Q_B, Q_R, Q_S, Q_Tt, Q_X14_⟩ hb_ hon hoff K hK
          have e58 := psn ha 9 rfl rfl (hon 10 (by kernel_rfl)) rfl
          have e55 := psn ha 6 rfl rfl (hon 7 (by kernel_rfl)) rfl
          replace ha := Am ha
          have B := Am Q_B
          have hs := HLC.out w' B.out
          refine value_ (w1 := w') (v := VR) (wanted_on rfl rfl rfl (e55.trans (by first | rfl | (simp [*]; done)))) rfl ?_ ?_
          ·go_simp
           (try simp only [i64_w])
           try rfl
          refine hK.out _ _ ⟨v60, g62, v63, m14_, (puk ha 10 hb_ rfl rfl rfl), Q_B, fun h0_ _ => hof (hoff 12 (by kernel_rfl)) h0_, Q_S, fun h0_ => hof (hoff 15 (by kernel_rfl)) h0_, Q_X14_⟩
         refine sc rfl ?_ ?_
         ·rintro b a w' ⟨v60, g62, v63, m14_, ha, Q_B, Q_R, Q_S, Q_Tt, Q_X14_⟩ hb_ hon hoff K hK
          have e59 := psn ha 10 rfl rfl (hon 11 (by kernel_rfl)) rfl
          have e55 := psn ha 6 rfl rfl (hon 7 (by kernel_rfl)) rfl
          replace ha := Am ha
          have B := Am Q_B
          refine goes_ Tryd.func48 (by kernel_rfl) rfl #[VR] (wanted_on rfl rfl rfl (e55.trans (by first | rfl | (simp [*]; done)))) rfl rfl (by first | (simp only [List.map_toArray, List.map_cons, List.map_nil, Act.eval, Array.getD_eq_getD_getElem?, Option.getD_some, e59, e55]; done) | (simp only [List.map_toArray, List.map_cons, List.map_nil, Act.eval, Array.getD_eq_getD_getElem?, Option.getD_some, e59, e55]; rfl)) ?_
          refine (HCL.out w' B.out).mono ?_
          rintro e w1 ⟨v1, rfl, hR1, hB1⟩
          refine ⟨_, rfl, ?_⟩
          refine hK.out _ _ ⟨v1, g62, v63, m14_, (puk ha 11 hb_ rfl rfl rfl), B.out.trans (hB1.mono B.out.size), fun _ _ => Kd.R_lower hR1 B.out.size, fun h0_ h1_ => Kd.C_below (Q_S h0_ h1_) hB1, fun h0_ => hof (hoff 15 (by kernel_rfl)) h0_, Q_X14_⟩
         refine sc rfl ?_ ?_
         ·rintro b a w' ⟨v60, g62, v63, m14_, ha, Q_B, Q_R, Q_S, Q_Tt, Q_X14_⟩ hb_ hon hoff K hK
          have e12 : a.tmps[12]? = some (.pointer (some ⟨gb, 0, none⟩)) := by rw [ha]; exact (putSel_off rfl).trans rfl
          have e55 := psn ha 6 rfl rfl (hon 7 (by kernel_rfl)) rfl
          replace ha := Am ha
          have B := Am Q_B
          refine value_ (w1 := w') (v := .agg CX) (wanted_on rfl rfl rfl (e55.trans (by first | rfl | (simp [*]; done)))) rfl (exec_load_row 41 (.tmp 12) rfl (eval_of e12) (blk_below HBX.out B.out) Tryd.underlying41 rfl HXS.out) ?_
          refine hK.out _ _ ⟨v60, g62, v63, m14_, (puk ha 12 hb_ rfl rfl rfl), B.out, fun h0_ h1_ => (Q_R h0_ h1_), fun h0_ _ => hof (hoff 14 (by kernel_rfl)) h0_, fun h0_ => hof (hoff 15 (by kernel_rfl)) h0_, fun h0_ => hof (hoff 14 (by kernel_rfl)) h0_⟩
         refine sc rfl ?_ ?_
         ·rintro b a w' ⟨v60, g62, v63, m14_, ha, Q_B, Q_R, Q_S, Q_Tt, Q_X14_⟩ hb_ hon hoff K hK
          have e61 := psn ha 12 rfl rfl (hon 13 (by kernel_rfl)) rfl
          have e55 := psn ha 6 rfl rfl (hon 7 (by kernel_rfl)) rfl
          replace ha := Am ha
          have B := Am Q_B
          refine value_ (w1 := w'.alloc (.cells CX 41)) (v := .slice (some ⟨w'.heap.size, 0, none⟩) 1 1) (wanted_on rfl rfl rfl (e55.trans (by first | rfl | (simp [*]; done)))) rfl (by rw [← HXE.out]; exact exec_one 61 x L rfl (by rw [HXE.out]; exact e61)) ?_
          refine hK.out _ _ ⟨v60, w'.heap.size, v63, (.slice (some ⟨w'.heap.size, 0, none⟩) 1 1), (puk ha 13 hb_ rfl rfl rfl), B.out.alloc B.out.size _, fun h0_ h1_ => Kd.R_alloc (Q_R h0_ h1_) _, fun _ _ => (by rw [← HXE.out]; exact cv_one w' x L), fun h0_ => hof (hoff 15 (by kernel_rfl)) h0_, fun _ => rfl⟩
         refine sc rfl ?_ ?_
         ·rintro b a w' ⟨v60, g62, v63, m14_, ha, Q_B, Q_R, Q_S, Q_Tt, Q_X14_⟩ hb_ hon hoff K hK
          have e60 := psn ha 11 rfl rfl (hon 12 (by kernel_rfl)) rfl
          have e62 := psn ha 13 rfl rfl (hon 14 (by kernel_rfl)) rfl
          rw [Q_X14_ (hon 14 (by kernel_rfl))] at e62
          have e55 := psn ha 6 rfl rfl (hon 7 (by kernel_rfl)) rfl
          replace ha := Am ha
          have B := Am Q_B
          have R := Am (Q_R (hon 12 (by kernel_rfl)) hb_)
          have S := Am (Q_S (hon 14 (by kernel_rfl)) hb_)
          refine Kd.R_append_rows_step cvK (Rr := cvK.K w') (w0 := W2) (W := w') W2.heap.size (wanted_on rfl rfl rfl (e55.trans (by first | rfl | (simp [*]; done)))) _ _ 24 41 (.agg zerV) 152 rfl Tryd.underlying24 info_cv rfl (by decide) (by decide) v60 r.2 [(x, L)] (some ⟨g62, 0, none⟩) 1 1 (fun _ => True) (fun _ => False) (eval_of e60) (eval_of e62) R.out S.out (fun _ _ h => h) (fun _ h => h.elim) (fun _ _ => trivial) B.out B.out.size (by have := HRL.out; omega) ?_
          intro v1 w1 hR1 hB1 _ _
          refine hK.out _ _ ⟨v60, g62, v1, m14_, (puk ha 14 hb_ rfl rfl rfl), hB1, fun _ h1_ => absurd ((up_self b 15).symm.trans h1_) (by decide), fun _ h1_ => absurd ((up_self b 15).symm.trans h1_) (by decide), fun _ => hR1, Q_X14_⟩
         refine sc rfl ?_ ?_
         ·rintro b a w' ⟨v60, g62, v63, m14_, ha, Q_B, Q_R, Q_S, Q_Tt, Q_X14_⟩ hb_ hon hoff K hK
          have e63 := psn ha 14 rfl rfl (hon 15 (by kernel_rfl)) rfl
          have e55 := psn ha 6 rfl rfl (hon 7 (by kernel_rfl)) rfl
          replace ha := Am ha
          have B := Am Q_B
          have Tt := Am (Q_Tt (hon 15 (by kernel_rfl)))
          refine goes_ Tryd.func27 (by kernel_rfl) rfl #[v63] (wanted_on rfl rfl rfl (e55.trans (by first | rfl | (simp [*]; done)))) rfl rfl (by first | (simp only [List.map_toArray, List.map_cons, List.map_nil, Act.eval, Array.getD_eq_getD_getElem?, Option.getD_some, e63, e55]; done) | (simp only [List.map_toArray, List.map_cons, List.map_nil, Act.eval, Array.getD_eq_getD_getElem?, Option.getD_some, e63, e55]; rfl)) ?_
          refine (HAP.out w' v63 B.out Tt.out).mono ?_
          rintro e w1 ⟨rfl, hB1⟩
          refine ⟨_, rfl, ?_⟩
          refine hK.out _ _ ⟨v60, g62, v63, m14_, (puk ha 15 hb_ rfl rfl rfl), B.out.trans (hB1.mono B.out.size), fun _ h1_ => absurd ((hon 15 (by kernel_rfl)).symm.trans h1_) (by decide), fun _ h1_ => absurd ((hon 15 (by kernel_rfl)).symm.trans h1_) (by decide), fun _ => Kd.R_below Tt.out hB1, Q_X14_⟩
         refine sc rfl ?_ ?_
         ·rintro b a w' ⟨v60, g62, v63, m14_, ha, Q_B, Q_R, Q_S, Q_Tt, Q_X14_⟩ hb_ hon hoff K hK
          have e55 := psn ha 6 rfl rfl (hon 7 (by kernel_rfl)) rfl
          have e64 := psn ha 15 rfl rfl (hon 16 (by kernel_rfl)) rfl
          replace ha := Am ha
          refine value_ (w1 := w') (v := .bool ab) (by rfl) rfl ?_ ?_
          ·go_simp
           (try simp only [i64_w])
           try rfl
          refine hK.out _ _ ⟨v60, g62, v63, m14_, (puk ha 16 hb_ rfl rfl rfl), Q_B, fun _ h1_ => absurd ((hon 15 (by kernel_rfl)).symm.trans h1_) (by decide), fun _ h1_ => absurd ((hon 15 (by kernel_rfl)).symm.trans h1_) (by decide), Q_Tt, Q_X14_⟩
         exact steps_nil
        rintro b a w' hall ⟨v60, g62, v63, m14_, ha, Q_B, Q_R, Q_S, Q_Tt, Q_X14_⟩
        clear B
        have hb1_ := hall 1 (by kernel_rfl)
        have hb2_ := hall 2 (by kernel_rfl)
        have hb3_ := hall 3 (by kernel_rfl)
        have hb4_ := hall 4 (by kernel_rfl)
        have hb5_ := hall 5 (by kernel_rfl)
        have hb6_ := hall 6 (by kernel_rfl)
        have hb7_ := hall 7 (by kernel_rfl)
        have hb8_ := hall 8 (by kernel_rfl)
        have hb9_ := hall 9 (by kernel_rfl)
        have hb10_ := hall 10 (by kernel_rfl)
        have hb11_ := hall 11 (by kernel_rfl)
        have hb12_ := hall 12 (by kernel_rfl)
        have hb13_ := hall 13 (by kernel_rfl)
        have hb14_ := hall 14 (by kernel_rfl)
        have hb15_ := hall 15 (by kernel_rfl)
        have hb16_ := hall 16 (by kernel_rfl)
        have hb17_ := hall 17 (by kernel_rfl)
        subst ha
        obtain rfl := Q_X14_ hb14_
        simp only [putSel, hb1_, hb2_, hb3_, hb4_, hb5_, hb6_, hb7_, hb8_, hb9_, hb10_, hb11_, hb12_, hb13_, hb14_, hb15_, hb16_, hb17_, if_true, Act.put, List.setIfInBounds_toArray, List.set_cons_zero, List.set_cons_succ]
        have B := Am Q_B
        clear Q_B
        clear Q_R
        clear Q_S
        clear Q_Tt
        clear hall hb1_ hb2_ hb3_ hb4_ hb5_ hb6_ hb7_ hb8_ hb9_ hb10_ hb11_ hb12_ hb13_ hb14_ hb15_ hb16_ hb17_
        cases ab with
        | true =>
         have HOPN := Lh (Or.inr (Or.inr ⟨ds, r, HDR.out, HAB.out⟩) : zs = [] ∨ lf < sizeD x ∨ ∃ ds r, zs = ds ++ [r] ∧ apartB (fsts r.2 ++ [x]) = true)
         replace HBX := Lh (blk_below HBX.out B.out)
         replace HST := Lh (HST.out.below B.out)
         have hlk : ((k : Nat) : Int) = lz := by have h1 := HLZ.out.1; rw [HDR.out, List.length_append, HDK.out] at h1; simp at h1; omega
         rw [hlk]
         clear hlk B HST2 HCL HLC HAP HAB HGT HLE HRL HRLX HLK HVR HDK HDR
         go_wp2_with (at_builtin; go_must (refine Kd.R_append rawR (w0 := wI) (W := w') wI.heap.size rfl _ _ 55 24 (.slice none 0 0) 24 rfl Tryd.underlying55 info_sl rfl (by decide) (by decide) (.slice (some ⟨go, 0, none⟩) zl c9) (zs) nilZ [.slice none 0 0] (fun _ => True) (fun _ => False) rfl rfl rfl (fun _ h => h.elim) (fun _ _ => trivial) HST.out.out HST.out.bl HST.out.bl.size (by have h1 := HZL.out; omega) ?_); (intro v1 w1 hR1 hB1 hG1 _; have HR1 := Lh hR1; have HB1 := Lh hB1; have HG1 := Lh hG1; clear hR1 hB1 hG1; refine RowKit.Hid.out ?_))
         refine Lh ?_
         have HBX2 := Lh (blk_far_row HST.out HBX.out HG1.out)
         have hS1 := HST.out.opened HR1.out HG1.out HB1.out
         obtain ⟨go, capo, hv1, _⟩ := hS1.last
         subst hv1
         have HBX := HBX2
         have HST := Lh hS1
         clear hS1 HR1 HB1 HG1 HBX2
         obtain ⟨r, hr0⟩ : ∃ r, nilZ = r := ⟨_, rfl⟩
         obtain ⟨ds, hds⟩ : ∃ ds : List RW, (zs) = ds := ⟨_, rfl⟩
         rw [hr0, hds] at HST
         have HRN := Lh (fun (r' : RW) (h : r'.2 = r.2 ++ [(x, L)]) => (show RelB m (l.take (i + 1)) (ds ++ [r']) (m - 12 - sz) from by
          rw [take_next HDX.out, ← HSX.out, ← hds]
          exact HREL.out.open_ HINV.out (by rw [HSX.out]; exact HFIT.out) HOPN.out (by rw [h, ← hr0])))
         have HRL := Lh (show (r.2.length + 1) * 152 ≤ 140737488355328 by rw [← hr0]; decide)
         have HVR := Lh (show encR r = .slice none 0 0 by rw [← hr0]; rfl)
         obtain ⟨lf2, hlf2⟩ : ∃ q : Nat, m - 12 = q := ⟨_, rfl⟩
         have hw12 : wrap64 ((m : Int) - 12) = (lf2 : Int) := by have h1 := HMT.out; unfold wrap64; omega
         have HLF := Lh (show sz ≤ lf2 ∧ lf2 ≤ 1500 by have h1 := HMT.out; have h2 := HFIT.out; omega)
         rw [hlf2] at HRN
         obtain ⟨k, hk⟩ : ∃ k : Nat, ds.length = k := ⟨_, rfl⟩
         have HDK := Lh hk
         obtain ⟨nz, hnz⟩ : ∃ nz : Nat, ds.length + 1 = nz := ⟨_, rfl⟩
         have HLK := Lh (show ¬ nz ≤ k by omega)
         have hwk : wrap64 (lz + 1) = (k : Int) := by have h1 := HLZ.out; rw [hds] at h1; unfold wrap64; omega
         have hnz2 : (zs).length + 1 = nz := by rw [hds]; exact hnz
         rw [hnz] at HST
         rw [hnz2]
         clear hnz hnz2 hk hds hr0 hlf2 HREL HINV HOPN HLZ
         go_upto_region 22 with (fail)
         try rw [hwk]
         try rw [hw12]
         clear hwk hw12
         refine grow_v (B := pbbB22) [0, 1, 2, 3, 4, 5, 6, 7, 8, 9, 10] [7, 8, 10] (fun s vs W => match s with | 0 => BSt wI W (ds ++ [r]) (.slice (some ⟨go, 0, none⟩) nz capo) ∧ W.heap[gb]? = some (.cells CX 41 (0, 0)) ∧ True | 1 => BSt wI W (ds ++ [r]) (.slice (some ⟨go, 0, none⟩) nz capo) ∧ W.heap[gb]? = some (.cells CX 41 (0, 0)) ∧ ∃ gs, vs 1 = .slice (some ⟨gs, 0, none⟩) 1 1 ∧ cvK.C W (some ⟨gs, 0, none⟩) 1 [(x, L)] | 2 => AppP wI W (.slice (some ⟨go, 0, none⟩) nz capo) ds r x L (vs 2) | _ => ∃ r' : RW, r'.2 = r.2 ++ [(x, L)] ∧ encR r' = vs 2 ∧ BSt wI W (ds ++ [r']) (.slice (some ⟨go, 0, none⟩) nz capo)) (fun vs => [(0, 73, .slice (some ⟨go, 0, none⟩) nz capo), (1, 74, .int .i64 (k : Int)), (2, 75, .slice (some ⟨go, 0, none⟩) nz capo), (3, 76, .int .i64 (k : Int)), (4, 77, .pointer (some ⟨go, k, none⟩)), (5, 78, (.slice none 0 0)), (6, 79, .agg CX), (7, 80, vs 1), (8, 81, vs 2), (9, 82, .pointer (some ⟨go, k, none⟩))]) (by kernel_rfl) rfl (l := #[false, false, false, false, false, false, false, false, false, false, false]) rfl pbbtab22 pbbbits22 (by kernel_rfl) (by kernel_rfl) (fun _ => rfl) rfl (fun _ => undef) ?_ ?_ ?_
         ·exact ⟨HST.out.below (pw_below_drewN (Below.refl _ _) 1), blk_drewN HBX.out 1, trivial⟩
         ·exact steps_cons (gv_op 0 2 [(9, fun vs => .slice (some ⟨go, 0, none⟩) nz capo)] 0 0 (fv := fun vs => .slice (some ⟨go, 0, none⟩) nz capo) rfl rfl (wt_none rfl) (fun _ => rfl) (fun _ => rfl) rfl rfl (by kernel_rfl) (by kernel_rfl) ⟨rd_off (p := 9) (fun _ => rfl) rfl, trivial⟩ (fun a w s vs hm hs h e => by
           obtain ⟨e9, _⟩ := e
           replace e9 : a.tmps[9]? = some (.slice (some ⟨go, 0, none⟩) nz capo) := e9
           go_simp)) (steps_cons (gv_op 0 2 [(14, fun vs => .int .i64 (k : Int))] 1 1 (fv := fun vs => .int .i64 (k : Int)) rfl rfl (wt_none rfl) (fun _ => rfl) (fun _ => rfl) rfl rfl (by kernel_rfl) (by kernel_rfl) ⟨rd_off (p := 14) (fun _ => rfl) rfl, trivial⟩ (fun a w s vs hm hs h e => by
           obtain ⟨e14, _⟩ := e
           replace e14 : a.tmps[14]? = some (.int .i64 (k : Int)) := e14
           go_simp)) (steps_cons (gv_op 0 1 [(9, fun vs => .slice (some ⟨go, 0, none⟩) nz capo)] 2 2 (fv := fun vs => .slice (some ⟨go, 0, none⟩) nz capo) rfl rfl (wt_none rfl) (fun _ => rfl) (fun _ => rfl) rfl rfl (by kernel_rfl) (by kernel_rfl) ⟨rd_off (p := 9) (fun _ => rfl) rfl, trivial⟩ (fun a w s vs hm hs h e => by
           obtain ⟨e9, _⟩ := e
           replace e9 : a.tmps[9]? = some (.slice (some ⟨go, 0, none⟩) nz capo) := e9
           go_simp)) (steps_cons (gv_op 0 1 [(14, fun vs => .int .i64 (k : Int))] 3 3 (fv := fun vs => .int .i64 (k : Int)) rfl rfl (wt_none rfl) (fun _ => rfl) (fun _ => rfl) rfl rfl (by kernel_rfl) (by kernel_rfl) ⟨rd_off (p := 14) (fun _ => rfl) rfl, trivial⟩ (fun a w s vs hm hs h e => by
           obtain ⟨e14, _⟩ := e
           replace e14 : a.tmps[14]? = some (.int .i64 (k : Int)) := e14
           go_simp)) (steps_cons (gv_op 0 1 [(75, fun vs => .slice (some ⟨go, 0, none⟩) nz capo), (76, fun vs => .int .i64 (k : Int))] 4 4 (fv := fun vs => .pointer (some ⟨go, k, none⟩)) rfl rfl (wt_none rfl) (fun _ => rfl) (fun _ => rfl) rfl rfl (by kernel_rfl) (by kernel_rfl) ⟨rd_on (p := 75) 2 2 (fun _ => rfl) (fun _ => rfl) (by kernel_rfl) rfl, rd_on (p := 76) 3 3 (fun _ => rfl) (fun _ => rfl) (by kernel_rfl) rfl, trivial⟩ (fun a w s vs hm hs h e => by
           obtain ⟨e75, e76, _⟩ := e
           replace e75 : a.tmps[75]? = some (.slice (some ⟨go, 0, none⟩) nz capo) := e75
           replace e76 : a.tmps[76]? = some (.int .i64 (k : Int)) := e76
           have hl := HLK.out; go_simp)) (steps_cons (gv_op 0 1 [(77, fun vs => .pointer (some ⟨go, k, none⟩))] 5 5 (fv := fun vs => (.slice none 0 0)) rfl rfl (wt_none rfl) (fun _ => rfl) (fun _ => rfl) rfl rfl (by kernel_rfl) (by kernel_rfl) ⟨rd_on (p := 77) 4 4 (fun _ => rfl) (fun _ => rfl) (by kernel_rfl) rfl, trivial⟩ (fun a w s vs hm hs h e => by
           obtain ⟨e77, _⟩ := e
           replace e77 : a.tmps[77]? = some (.pointer (some ⟨go, k, none⟩)) := e77
           have h1 : BSt wI w (ds ++ [r]) (.slice (some ⟨go, 0, none⟩) nz capo) := by
            rcases (by omega : s = 0 ∨ s = 1) with rfl | rfl <;> exact h.1
           have hs := h1.cell.1
           rw [HVR.out, HDK.out] at hs
           go_simp)) (steps_cons (gv_op 0 0 [(12, fun vs => .pointer (some ⟨gb, 0, none⟩))] 6 6 (fv := fun vs => .agg CX) rfl rfl (wt_none rfl) (fun _ => rfl) (fun _ => rfl) rfl rfl (by kernel_rfl) (by kernel_rfl) ⟨rd_off (p := 12) (fun _ => rfl) rfl, trivial⟩ (fun a w s vs hm hs h e => by
           obtain rfl : s = 0 := by omega
           obtain ⟨e12, _⟩ := e
           replace e12 : a.tmps[12]? = some (.pointer (some ⟨gb, 0, none⟩)) := e12
           exact exec_load_row 41 (.tmp 12) rfl (eval_of e12) h.2.1 Tryd.underlying41 rfl HXS.out)) (steps_cons (gv_gen [(79, fun vs => .agg CX)] 7 7 0 rfl rfl (wt_none rfl) rfl (fun _ => rfl) (fun _ _ => rfl) (fun _ => rfl) rfl (by kernel_rfl) ⟨rd_on (p := 79) 6 6 (fun _ => rfl) (fun _ => rfl) (by kernel_rfl) rfl, trivial⟩ (fun a w K vs h e hw hK => by
           obtain ⟨e79, _⟩ := e
           replace e79 : a.tmps[79]? = some (.agg CX) := e79
           obtain ⟨h1, h2, _⟩ := h
           exact value_ (w1 := w.alloc (.cells CX 41)) (v := .slice (some ⟨w.heap.size, 0, none⟩) 1 1) hw rfl (by rw [← HXE.out]; exact exec_one 79 x L rfl (by rw [HXE.out]; exact e79)) (hK _ _ ⟨h1.below (below_alloc (Below.refl _ _) _), blk_alloc h2 _, w.heap.size, rfl, by rw [← HXE.out]; exact cv_one w x L⟩))) (steps_cons (gv_gen [(78, fun vs => (.slice none 0 0)), (80, fun vs => vs 1)] 8 8 1 rfl rfl (wt_none rfl) rfl (fun _ => rfl) (fun _ _ => rfl) (fun _ => rfl) rfl (by kernel_rfl) ⟨rd_on (p := 78) 5 5 (fun _ => rfl) (fun _ => rfl) (by kernel_rfl) rfl, rd_on (p := 80) 7 7 (fun _ => rfl) (fun _ => rfl) (by kernel_rfl) rfl, trivial⟩ (fun a w K vs h e hw hK => by
           obtain ⟨e78, e80, _⟩ := e
           replace e78 : a.tmps[78]? = some ((.slice none 0 0)) := e78
           replace e80 : a.tmps[80]? = some (vs 1) := e80
           obtain ⟨h1, h2, gs, hv, hC⟩ := h
           refine Kd.R_append_rows_step cvK (Rr := cvK.K w) (w0 := wI) (W := w) wI.heap.size hw _ _ 24 41 (.agg zerV) 152 rfl Tryd.underlying24 info_cv rfl (by decide) (by decide) (.slice none 0 0) r.2 [(x, L)] (some ⟨gs, 0, none⟩) 1 1 (fun _ => True) (fun _ => False) (eval_of e78) ((eval_of e80).trans hv) (by rw [← HVR.out]; exact h1.own r (List.mem_append_right _ (List.mem_singleton_self _))) hC (fun _ _ h => h) (fun _ h => h.elim) (fun _ _ => trivial) h1.bl h1.bl.size (by have := HRL.out; omega) ?_
           intro v1 w1 hR1 hB1 hG1 hat
           exact hK v1 w1 (h1.app HXC.out hR1 (by rw [HVR.out]; exact hG1) (by rw [HVR.out]; exact hat) hB1))) (steps_cons (gv_op 2 2 [(73, fun vs => .slice (some ⟨go, 0, none⟩) nz capo), (74, fun vs => .int .i64 (k : Int))] 9 9 (fv := fun vs => .pointer (some ⟨go, k, none⟩)) rfl rfl (wt_none rfl) (fun _ => rfl) (fun _ => rfl) rfl rfl (by kernel_rfl) (by kernel_rfl) ⟨rd_on (p := 73) 0 0 (fun _ => rfl) (fun _ => rfl) (by kernel_rfl) rfl, rd_on (p := 74) 1 1 (fun _ => rfl) (fun _ => rfl) (by kernel_rfl) rfl, trivial⟩ (fun a w s vs hm hs h e => by
           obtain rfl : s = 2 := by omega
           obtain ⟨e73, e74, _⟩ := e
           replace e73 : a.tmps[73]? = some (.slice (some ⟨go, 0, none⟩) nz capo) := e73
           replace e74 : a.tmps[74]? = some (.int .i64 (k : Int)) := e74
           have hl := HLK.out; go_simp)) (steps_cons (gv_store (f := fun vs W => W.setCell ⟨go, k, none⟩ (vs 2)) [(82, fun vs => .pointer (some ⟨go, k, none⟩)), (81, fun vs => vs 2)] 10 2 rfl rfl (wt_none rfl) rfl (fun _ => rfl) rfl (by kernel_rfl) ⟨rd_on (p := 82) 9 9 (fun _ => rfl) (fun _ => rfl) (by kernel_rfl) rfl, rd_on (p := 81) 8 8 (fun _ => rfl) (fun _ => rfl) (by kernel_rfl) rfl, trivial⟩ (fun a w vs h e => by
           obtain ⟨e82, e81, _⟩ := e
           replace e82 : a.tmps[82]? = some (.pointer (some ⟨go, k, none⟩)) := e82
           replace e81 : a.tmps[81]? = some (vs 2) := e81
           obtain ⟨g2, c2, hv2, _, _⟩ := (Kd.R_own h.last).elim fun _ h => h.form (by rw [List.length_append]; simp)
           have hf := (show w.frozen? ⟨go, k, none⟩ = false from by have h9 := h.out; rw [← HDK.out]; exact (BSt.cell2 h9).2)
           have hs := (show w.cell? ⟨go, k, none⟩ = some (.slice none 0 0) from by have h9 := h.out; rw [← HDK.out, ← HVR.out]; exact (BSt.cell2 h9).1)
           rw [hv2] at e81 ⊢
           go_simp; first | done | rfl) (fun vs w h => by have h9 := h.store (n := nz) (cap := capo) rfl; rw [HDK.out] at h9; exact h9)) steps_nil))))))))))
         intro vs W9 hX9
         obtain ⟨r', hr', hv', hS9⟩ := hX9
         simp only [putSel, if_true, Act.put, List.setIfInBounds_toArray, List.set_cons_zero, List.set_cons_succ]
         rw [← hv']
         generalize vs 1 = u80 at *
         have HS9 := Lh hS9
         have HR9 := Lh hr'
         clear hS9 hr' hv' vs HST HBX HXS HLK HVR
         unfold encR
         generalize (Option.map (fun g => ⟨g, 0, none⟩) r'.1.1 : Option Addr) = Ar at *
         generalize r'.2.length = nr at *
         have hw9 : wrap64 ((lf2 : Int) - (sz : Int)) = ((lf2 - sz : Nat) : Int) := by have h1 := HMT.out; have h2 := HLF.out; unfold wrap64; omega
         go_wp2
         go_roundw
         case rel => exact ⟨i + 1, ds ++ [r'], lf2 - sz, by omega, by first | rfl | exact congrArg _ hw9 | rw [hw9], by go_num, HRN.out r' HR9.out, HS9⟩
         case measure => simp [intOf]; omega
        | false =>
         have HRN := Lh (fun (r' : RW) (h : r'.2 = r.2 ++ [(x, L)]) => (show RelB m (l.take (i + 1)) (ds ++ [r']) (lf - sz) from by
          rw [take_next HDX.out, ← HSX.out]
          exact (by have h9 := HREL.out; rw [HDR.out] at h9; exact h9 : RelB m (l.take i) (ds ++ [r]) lf).stay HINV.out (by rw [HSX.out]; exact HFIT.out) (by rw [HSX.out]; exact HLE.out) HAB.out h))
         have HLF := Lh (show sz ≤ lf ∧ lf ≤ 1500 from ⟨HLE.out, by
          have h1 := HREL.out.2.1
          have h2 := (HINV.out.gr (outB_last HINV.out (by have h9 := HREL.out.1; rw [HDR.out] at h9; exact h9)).2.2).2
          have h3 := HMT.out
          omega⟩)
         replace HBX := Lh (blk_below HBX.out B.out)
         have HST3 := Lh (HST2.out.below B.out)
         clear B HST HST2 HCL HLC HAP HAB HGT HLE HRLX HREL HINV HDR
         have HST := HST3
         clear HST3
         go_upto_region 22 with (fail)
         refine grow_v (B := pbbB22) [0, 1, 2, 3, 4, 5, 6, 7, 8, 9, 10] [7, 8, 10] (fun s vs W => match s with | 0 => BSt wI W (ds ++ [r]) (.slice (some ⟨go, 0, none⟩) zl c9) ∧ W.heap[gb]? = some (.cells CX 41 (0, 0)) ∧ True | 1 => BSt wI W (ds ++ [r]) (.slice (some ⟨go, 0, none⟩) zl c9) ∧ W.heap[gb]? = some (.cells CX 41 (0, 0)) ∧ ∃ gs, vs 1 = .slice (some ⟨gs, 0, none⟩) 1 1 ∧ cvK.C W (some ⟨gs, 0, none⟩) 1 [(x, L)] | 2 => AppP wI W (.slice (some ⟨go, 0, none⟩) zl c9) ds r x L (vs 2) | _ => ∃ r' : RW, r'.2 = r.2 ++ [(x, L)] ∧ encR r' = vs 2 ∧ BSt wI W (ds ++ [r']) (.slice (some ⟨go, 0, none⟩) zl c9)) (fun vs => [(0, 73, .slice (some ⟨go, 0, none⟩) zl c9), (1, 74, .int .i64 (k : Int)), (2, 75, .slice (some ⟨go, 0, none⟩) zl c9), (3, 76, .int .i64 (k : Int)), (4, 77, .pointer (some ⟨go, k, none⟩)), (5, 78, VR), (6, 79, .agg CX), (7, 80, vs 1), (8, 81, vs 2), (9, 82, .pointer (some ⟨go, k, none⟩))]) (by kernel_rfl) rfl (l := #[false, false, false, false, false, false, false, false, false, false, false]) rfl pbbtab22 pbbbits22 (by kernel_rfl) (by kernel_rfl) (fun _ => rfl) rfl (fun _ => undef) ?_ ?_ ?_
         ·exact ⟨HST.out.below (pw_below_drewN (Below.refl _ _) 1), blk_drewN HBX.out 1, trivial⟩
         ·exact steps_cons (gv_op 0 2 [(9, fun vs => .slice (some ⟨go, 0, none⟩) zl c9)] 0 0 (fv := fun vs => .slice (some ⟨go, 0, none⟩) zl c9) rfl rfl (wt_none rfl) (fun _ => rfl) (fun _ => rfl) rfl rfl (by kernel_rfl) (by kernel_rfl) ⟨rd_off (p := 9) (fun _ => rfl) rfl, trivial⟩ (fun a w s vs hm hs h e => by
           obtain ⟨e9, _⟩ := e
           replace e9 : a.tmps[9]? = some (.slice (some ⟨go, 0, none⟩) zl c9) := e9
           go_simp)) (steps_cons (gv_op 0 2 [(14, fun vs => .int .i64 (k : Int))] 1 1 (fv := fun vs => .int .i64 (k : Int)) rfl rfl (wt_none rfl) (fun _ => rfl) (fun _ => rfl) rfl rfl (by kernel_rfl) (by kernel_rfl) ⟨rd_off (p := 14) (fun _ => rfl) rfl, trivial⟩ (fun a w s vs hm hs h e => by
           obtain ⟨e14, _⟩ := e
           replace e14 : a.tmps[14]? = some (.int .i64 (k : Int)) := e14
           go_simp)) (steps_cons (gv_op 0 1 [(9, fun vs => .slice (some ⟨go, 0, none⟩) zl c9)] 2 2 (fv := fun vs => .slice (some ⟨go, 0, none⟩) zl c9) rfl rfl (wt_none rfl) (fun _ => rfl) (fun _ => rfl) rfl rfl (by kernel_rfl) (by kernel_rfl) ⟨rd_off (p := 9) (fun _ => rfl) rfl, trivial⟩ (fun a w s vs hm hs h e => by
           obtain ⟨e9, _⟩ := e
           replace e9 : a.tmps[9]? = some (.slice (some ⟨go, 0, none⟩) zl c9) := e9
           go_simp)) (steps_cons (gv_op 0 1 [(14, fun vs => .int .i64 (k : Int))] 3 3 (fv := fun vs => .int .i64 (k : Int)) rfl rfl (wt_none rfl) (fun _ => rfl) (fun _ => rfl) rfl rfl (by kernel_rfl) (by kernel_rfl) ⟨rd_off (p := 14) (fun _ => rfl) rfl, trivial⟩ (fun a w s vs hm hs h e => by
           obtain ⟨e14, _⟩ := e
           replace e14 : a.tmps[14]? = some (.int .i64 (k : Int)) := e14
           go_simp)) (steps_cons (gv_op 0 1 [(75, fun vs => .slice (some ⟨go, 0, none⟩) zl c9), (76, fun vs => .int .i64 (k : Int))] 4 4 (fv := fun vs => .pointer (some ⟨go, k, none⟩)) rfl rfl (wt_none rfl) (fun _ => rfl) (fun _ => rfl) rfl rfl (by kernel_rfl) (by kernel_rfl) ⟨rd_on (p := 75) 2 2 (fun _ => rfl) (fun _ => rfl) (by kernel_rfl) rfl, rd_on (p := 76) 3 3 (fun _ => rfl) (fun _ => rfl) (by kernel_rfl) rfl, trivial⟩ (fun a w s vs hm hs h e => by
           obtain ⟨e75, e76, _⟩ := e
           replace e75 : a.tmps[75]? = some (.slice (some ⟨go, 0, none⟩) zl c9) := e75
           replace e76 : a.tmps[76]? = some (.int .i64 (k : Int)) := e76
           have hl := HLK.out; go_simp)) (steps_cons (gv_op 0 1 [(77, fun vs => .pointer (some ⟨go, k, none⟩))] 5 5 (fv := fun vs => VR) rfl rfl (wt_none rfl) (fun _ => rfl) (fun _ => rfl) rfl rfl (by kernel_rfl) (by kernel_rfl) ⟨rd_on (p := 77) 4 4 (fun _ => rfl) (fun _ => rfl) (by kernel_rfl) rfl, trivial⟩ (fun a w s vs hm hs h e => by
           obtain ⟨e77, _⟩ := e
           replace e77 : a.tmps[77]? = some (.pointer (some ⟨go, k, none⟩)) := e77
           have h1 : BSt wI w (ds ++ [r]) (.slice (some ⟨go, 0, none⟩) zl c9) := by
            rcases (by omega : s = 0 ∨ s = 1) with rfl | rfl <;> exact h.1
           have hs := h1.cell.1
           rw [HVR.out, HDK.out] at hs
           go_simp)) (steps_cons (gv_op 0 0 [(12, fun vs => .pointer (some ⟨gb, 0, none⟩))] 6 6 (fv := fun vs => .agg CX) rfl rfl (wt_none rfl) (fun _ => rfl) (fun _ => rfl) rfl rfl (by kernel_rfl) (by kernel_rfl) ⟨rd_off (p := 12) (fun _ => rfl) rfl, trivial⟩ (fun a w s vs hm hs h e => by
           obtain rfl : s = 0 := by omega
           obtain ⟨e12, _⟩ := e
           replace e12 : a.tmps[12]? = some (.pointer (some ⟨gb, 0, none⟩)) := e12
           exact exec_load_row 41 (.tmp 12) rfl (eval_of e12) h.2.1 Tryd.underlying41 rfl HXS.out)) (steps_cons (gv_gen [(79, fun vs => .agg CX)] 7 7 0 rfl rfl (wt_none rfl) rfl (fun _ => rfl) (fun _ _ => rfl) (fun _ => rfl) rfl (by kernel_rfl) ⟨rd_on (p := 79) 6 6 (fun _ => rfl) (fun _ => rfl) (by kernel_rfl) rfl, trivial⟩ (fun a w K vs h e hw hK => by
           obtain ⟨e79, _⟩ := e
           replace e79 : a.tmps[79]? = some (.agg CX) := e79
           obtain ⟨h1, h2, _⟩ := h
           exact value_ (w1 := w.alloc (.cells CX 41)) (v := .slice (some ⟨w.heap.size, 0, none⟩) 1 1) hw rfl (by rw [← HXE.out]; exact exec_one 79 x L rfl (by rw [HXE.out]; exact e79)) (hK _ _ ⟨h1.below (below_alloc (Below.refl _ _) _), blk_alloc h2 _, w.heap.size, rfl, by rw [← HXE.out]; exact cv_one w x L⟩))) (steps_cons (gv_gen [(78, fun vs => VR), (80, fun vs => vs 1)] 8 8 1 rfl rfl (wt_none rfl) rfl (fun _ => rfl) (fun _ _ => rfl) (fun _ => rfl) rfl (by kernel_rfl) ⟨rd_on (p := 78) 5 5 (fun _ => rfl) (fun _ => rfl) (by kernel_rfl) rfl, rd_on (p := 80) 7 7 (fun _ => rfl) (fun _ => rfl) (by kernel_rfl) rfl, trivial⟩ (fun a w K vs h e hw hK => by
           obtain ⟨e78, e80, _⟩ := e
           replace e78 : a.tmps[78]? = some (VR) := e78
           replace e80 : a.tmps[80]? = some (vs 1) := e80
           obtain ⟨h1, h2, gs, hv, hC⟩ := h
           refine Kd.R_append_rows_step cvK (Rr := cvK.K w) (w0 := wI) (W := w) wI.heap.size hw _ _ 24 41 (.agg zerV) 152 rfl Tryd.underlying24 info_cv rfl (by decide) (by decide) VR r.2 [(x, L)] (some ⟨gs, 0, none⟩) 1 1 (fun _ => True) (fun _ => False) (eval_of e78) ((eval_of e80).trans hv) (by rw [← HVR.out]; exact h1.own r (List.mem_append_right _ (List.mem_singleton_self _))) hC (fun _ _ h => h) (fun _ h => h.elim) (fun _ _ => trivial) h1.bl h1.bl.size (by have := HRL.out; omega) ?_
           intro v1 w1 hR1 hB1 hG1 hat
           exact hK v1 w1 (h1.app HXC.out hR1 (by rw [HVR.out]; exact hG1) (by rw [HVR.out]; exact hat) hB1))) (steps_cons (gv_op 2 2 [(73, fun vs => .slice (some ⟨go, 0, none⟩) zl c9), (74, fun vs => .int .i64 (k : Int))] 9 9 (fv := fun vs => .pointer (some ⟨go, k, none⟩)) rfl rfl (wt_none rfl) (fun _ => rfl) (fun _ => rfl) rfl rfl (by kernel_rfl) (by kernel_rfl) ⟨rd_on (p := 73) 0 0 (fun _ => rfl) (fun _ => rfl) (by kernel_rfl) rfl, rd_on (p := 74) 1 1 (fun _ => rfl) (fun _ => rfl) (by kernel_rfl) rfl, trivial⟩ (fun a w s vs hm hs h e => by
           obtain rfl : s = 2 := by omega
           obtain ⟨e73, e74, _⟩ := e
           replace e73 : a.tmps[73]? = some (.slice (some ⟨go, 0, none⟩) zl c9) := e73
           replace e74 : a.tmps[74]? = some (.int .i64 (k : Int)) := e74
           have hl := HLK.out; go_simp)) (steps_cons (gv_store (f := fun vs W => W.setCell ⟨go, k, none⟩ (vs 2)) [(82, fun vs => .pointer (some ⟨go, k, none⟩)), (81, fun vs => vs 2)] 10 2 rfl rfl (wt_none rfl) rfl (fun _ => rfl) rfl (by kernel_rfl) ⟨rd_on (p := 82) 9 9 (fun _ => rfl) (fun _ => rfl) (by kernel_rfl) rfl, rd_on (p := 81) 8 8 (fun _ => rfl) (fun _ => rfl) (by kernel_rfl) rfl, trivial⟩ (fun a w vs h e => by
           obtain ⟨e82, e81, _⟩ := e
           replace e82 : a.tmps[82]? = some (.pointer (some ⟨go, k, none⟩)) := e82
           replace e81 : a.tmps[81]? = some (vs 2) := e81
           obtain ⟨g2, c2, hv2, _, _⟩ := (Kd.R_own h.last).elim fun _ h => h.form (by rw [List.length_append]; simp)
           have hf := (show w.frozen? ⟨go, k, none⟩ = false from by have h9 := h.out; rw [← HDK.out]; exact (BSt.cell2 h9).2)
           have hs := (show w.cell? ⟨go, k, none⟩ = some VR from by have h9 := h.out; rw [← HDK.out, ← HVR.out]; exact (BSt.cell2 h9).1)
           rw [hv2] at e81 ⊢
           go_simp; first | done | rfl) (fun vs w h => by have h9 := h.store (n := zl) (cap := c9) rfl; rw [HDK.out] at h9; exact h9)) steps_nil))))))))))
         intro vs W9 hX9
         obtain ⟨r', hr', hv', hS9⟩ := hX9
         simp only [putSel, if_true, Act.put, List.setIfInBounds_toArray, List.set_cons_zero, List.set_cons_succ]
         rw [← hv']
         generalize vs 1 = u80 at *
         have HS9 := Lh hS9
         have HR9 := Lh hr'
         clear hS9 hr' hv' vs HST HBX HXS HLK HVR
         unfold encR
         generalize (Option.map (fun g => ⟨g, 0, none⟩) r'.1.1 : Option Addr) = Ar at *
         generalize r'.2.length = nr at *
         have hw9 : wrap64 ((lf : Int) - (sz : Int)) = ((lf - sz : Nat) : Int) := by have h1 := HMT.out; have h2 := HLF.out; unfold wrap64; omega
         go_wp2
         go_roundw
         case rel => exact ⟨i + 1, ds ++ [r'], lf - sz, by omega, by first | rfl | exact congrArg _ hw9 | rw [hw9], by go_num, HRN.out r' HR9.out, HS9⟩
         case measure => simp [intOf]; omega
     ·have hz : decide ((m : Int) < (sq : Int)) = true := decide_eq_true (by have h1 := HSQ.out; omega)
      have hzn : decide (m < sq) = true := decide_eq_true (by have h1 := HSQ.out; omega)
      have HD2 := Lh (show D = ([], 2) by rw [← HDE.out, if_neg (fun h => hfit (by rw [← HSX.out]; exact h x HXM.out))])
      have HBF := Lh HST.out.bl
      clear hfit HDE HST HBX HREL HINV
      go_wp2
      go_ret2
      rw [HD2.out]
      exact ⟨_, rfl, RowsR.nil _ _ HBF.out⟩
    ·obtain rfl : i = l.length := by omega
     have hrel := HREL.out
     rw [List.take_length] at hrel
     have HDF := Lh (show D = (outB (rowsB m l), 0) by rw [← HDE.out, if_pos hrel.2.2])
     obtain ⟨A9, c9, hv9, hle9, hC9⟩ := HS.out.read
     have HRF := Lh (show RowsR wI wr u9 (outB (rowsB m l)) from ⟨A9, c9, by rw [hv9, ← hrel.1, List.length_map], by rw [← hrel.1, List.length_map]; exact hle9, by rw [← hrel.1, List.length_map]; exact hC9, HS.out.bl⟩)
     obtain ⟨A8, c8, hv8⟩ := Kd.R_slice HS.out.out
     subst hv8
     clear hrel hv9 hle9 hC9 HS HREL HDE hi hlt
     generalize zs.length = zl at *
     go_wp2
     go_ret2
     rw [HDF.out]
     exact ⟨_, rfl, HRF.out⟩
end Go.Proofs.YtdlamomabonkjaaDoor.Pk
end
section
namespace Go.Proofs.YtdlamomabonkjaaDoor.Pk
open Go.RowKit YtdlamomabonkjaaDoorW.PrintWords YtdlamomabonkjaaDoorW.PrintLast Base PCh ParDec ParEnc Ch Crc CrcMath
theorem put_take (l : List UInt8) (h : 12 ≤ l.length) : (putL l).take 8 = l.take 8 ∧ (putL l).drop 12 = l.drop 12 := by
 rw [putL_eq, puts_four _ _ h]
 have h8 : (l.take 8).length = 8 := by rw [List.length_take]; omega
 constructor
 ·rw [List.append_assoc, List.take_append_of_le_length (by omega), List.take_of_length_le (by omega)]
 ·rw [List.drop_append]
  simp [h8]
theorem allL_back {l : List Chk} {b : List UInt8} (hok : ∀ x ∈ l, OkC x ∧ checkD x = 0) (hb : ints b = flatL l) : allL b = (l, 0, 0) := by
 have := all_back l (b.length + 1) 0 b [] hok (by rw [List.drop_zero]; exact hb) (Nat.zero_le _) (by omega)
 unfold allL
 rw [this, List.nil_append]
theorem flat_pos (x : Chk) (l : List Chk) : 4 ≤ (flatL (x :: l)).length := by
 rw [flatL, List.length_append, chunkL_len]
 omega
structure PkOk (f t q : Int) (l : List Chk) : Prop where
 f0 : 0 < f
 f1 : f < 65536
 t0 : 0 < t
 t1 : t < 65536
 q : in32 q
 ok : ∀ x ∈ l, OkC x
theorem penc_good {f t q : Int} {l : List Chk} (h : (pencD f t q l).2 = 0) : 0 < f ∧ 0 < t ∧ l.length ≠ 0 ∧ apartB l = false ∧ (encD l).2 = 0 ∧ 12 + (encD l).1.length ≤ 65536 ∧ (pencD f t q l).1 = putL (bytesOf (headL f t q ++ (encD l).1)) := by
 unfold pencD at h ⊢
 by_cases h1 : (decide (0 < f) && decide (0 < t)) = false
 ·rw [if_pos h1] at h; cases h
 rw [if_neg h1] at h ⊢
 have h1' : 0 < f ∧ 0 < t := by simpa using h1
 by_cases h2 : l.length = 0
 ·rw [if_pos h2] at h; cases h
 rw [if_neg h2] at h ⊢
 by_cases h3 : apartB l = true
 ·rw [if_pos h3] at h; cases h
 rw [if_neg h3] at h ⊢
 by_cases h4 : (encD l).2 = 0
 ·rw [if_pos h4] at h ⊢
  by_cases h5 : 65536 < 12 + (encD l).1.length
  ·rw [if_pos h5] at h; cases h
  rw [if_neg h5]
  exact ⟨h1'.1, h1'.2, h2, Bool.eq_false_iff.2 h3, h4, by omega, rfl⟩
 ·rw [if_neg h4] at h; exact absurd h h4
theorem penc_ok {f t q : Int} {l : List Chk} (h1 : 0 < f) (h2 : 0 < t) (h3 : l.length ≠ 0) (h4 : apartB l = false) (h5 : (encD l).2 = 0) (h6 : 12 + (encD l).1.length ≤ 65536) : pencD f t q l = (putL (bytesOf (headL f t q ++ (encD l).1)), 0) := by
 unfold pencD
 rw [if_neg (by simp [h1, h2]), if_neg h3, if_neg (by rw [h4]; exact Bool.false_ne_true), if_pos h5, if_neg (by omega)]
theorem in16_of {f : Int} (h0 : 0 < f) (h1 : f < 65536) : in16 f := ⟨by omega, h1⟩
theorem pback {f t q : Int} {l : List Chk} (hk : PkOk f t q l) (h : (pencD f t q l).2 = 0) : preadD (pencD f t q l).1 true = ⟨f, t, q, l, 0, 0⟩ ∧ 12 < (pencD f t q l).1.length ∧ (pencD f t q l).1.length ≤ 65536 := by
 obtain ⟨_, _, hl, hap, he, hlen, hb⟩ := penc_good h
 obtain ⟨hck, hfl, _⟩ := enc_good he
 rw [hb]
 have hin : ∀ b ∈ headL f t q ++ (encD l).1, inB b := app_in (head_in f t q) (enc_in hk.ok)
 obtain ⟨hs, hhs⟩ : ∃ hs, bytesOf (headL f t q ++ (encD l).1) = hs := ⟨_, rfl⟩
 have hi : ints hs = headL f t q ++ (encD l).1 := by rw [← hhs]; exact ints_bytesOf _ hin
 rw [hhs]
 have hln : hs.length = 12 + (encD l).1.length := by rw [← ints_length, hi, List.length_append, headL_length]
 obtain ⟨p8, p12⟩ := put_take hs (by omega)
 have hpl := putL_length hs
 have hi0 : ints hs = twoL [f] ++ (twoL [t] ++ (fourL [q] ++ (fourL [0] ++ (encD l).1))) := by rw [hi]; unfold headL; simp only [List.append_assoc]
 obtain ⟨b1, r1⟩ := be2 hi0 (in16_of hk.f0 hk.f1)
 obtain ⟨b2, r2⟩ := be2 r1 (in16_of hk.t0 hk.t1)
 obtain ⟨b3, r3⟩ := be4 r2 hk.q
 obtain ⟨b4, r4⟩ := be4 r3 z32
 rw [List.drop_drop, List.drop_drop, List.drop_drop] at r4
 have hF : ((hdF (putL hs) : Nat) : Int) = f := by
  unfold hdF
  rw [← b1, show (putL hs).take 2 = ((putL hs).take 8).take 2 by rw [List.take_take]; rfl, p8, List.take_take]
  rfl
 have hT : ((hdT (putL hs) : Nat) : Int) = t := by
  unfold hdT
  rw [← b2, show ((putL hs).drop 2).take 2 = (((putL hs).take 8).drop 2).take 2 by rw [List.drop_take, List.take_take]; rfl, p8, List.drop_take, List.take_take]
  rfl
 have hQ : ((hdQ (putL hs) : Nat) : Int) = q := by
  unfold hdQ
  rw [← b3, List.drop_drop, List.drop_drop, show ((putL hs).drop (2 + 2)).take 4 = (((putL hs).take 8).drop (2 + 2)).take 4 by rw [List.drop_take, List.take_take]; rfl, p8, List.drop_take, List.take_take]
  rfl
 have hH : headE (putL hs) = 0 := by
  unfold headE
  rw [if_neg (by omega), if_pos (check_put hs (by omega)), if_pos]
  rw [hF, hT]
  have := hk.f0
  have := hk.t0
  simp [*]
 have hA : allL ((putL hs).drop 12) = (l, 0, 0) := by
  rw [p12]
  refine allL_back (fun x hx => ⟨hk.ok x hx, hck x hx⟩) ?_
  rw [← hfl]
  exact r4
 have hpos : 4 ≤ (encD l).1.length := by
  rw [hfl]
  cases l with
  | nil => exact absurd rfl hl
  | cons x r => exact flat_pos x r
 refine ⟨?_, by omega, by omega⟩
 unfold preadD
 rw [if_pos hH, if_neg (by decide), if_neg (by rw [List.length_drop]; omega), hA, if_pos rfl, if_neg (by rw [hap]; exact Bool.false_ne_true), hF, hT, hQ]
end Go.Proofs.YtdlamomabonkjaaDoor.Pk
end
section
namespace Go.Proofs.YtdlamomabonkjaaDoor.Ch
open Go.RowKit YtdlamomabonkjaaDoorW.PrintWords YtdlamomabonkjaaDoorW.PrintLast Base PCh ParDec
def schT6 : Bool × List (List Nat × List Nat) := (true, [([], []), ([], []), ([0, 1], [0, 1]), ([2], [2]), ([], []), ([], []), ([4, 5], [4, 5]), ([6], [6]), ([3, 7], [3, 7]), ([8], [8])])
def schB6 : List Nat := [0, 0, 3, 7, 0, 0, 48, 112, 255, 511]
theorem schtab6 : Go.Proofs.YtdlamomabonkjaaDoorW.PrintLast.rtab .any (Go.Proofs.YtdlamomabonkjaaDoorW.PrintLast.opsOf Tryd.f25 6) = schT6 := by kernel_rfl
theorem schbits6 : Go.Proofs.YtdlamomabonkjaaDoorW.PrintLast.waitsOk schT6.2 schB6 = true := by kernel_rfl
set_option maxHeartbeats 4000000 in
theorem schunks_calls (w : World) (A B' : Option Addr) (c d : Nat) (xs ys : List Chk) (hx : Kd.C k41 w A xs.length xs) (hy : Kd.C k41 w B' ys.length ys) (ox : ∀ x ∈ xs, OkB x) (oy : ∀ y ∈ ys, OkB y) :
  Calls Tryd.prog 25 #[.slice A xs.length c, .slice B' ys.length d] w fun e w' => e = .returned (.bool (decide (xs = ys))) ∧ Below w.heap.size w w' := by
 have hmx := hx.2.1
 have hmy := hy.2.1
 have HX := Lh (fun (W : World) (h : Below w.heap.size w W) => Kd.C_below hx h)
 have HY := Lh (fun (W : World) (h : Below w.heap.size w W) => Kd.C_below hy h)
 have HOX := Lh ox
 have HOY := Lh oy
 clear hx hy ox oy
 by_cases hl : xs.length = ys.length
 ·have q : ((xs.length : Int) != (ys.length : Int)) = false := by simp [hl]
  have HL := Lh hl
  clear hl
  go_enter Tryd.func25, Tryd.ntmps25
  go_wp2
  go_loopw [5] (fun v5 wr => ∃ i : Nat, i ≤ xs.length ∧ v5 = .int .i64 (i : Int) ∧ Hid (decide (xs = ys) = decide (xs.drop i = ys.drop i)) ∧ Hid (Below w.heap.size w wr)) (fun v5 _ => xs.length - (intOf v5).toNat)
  case atStart => exact ⟨0, Nat.zero_le _, rfl, rfl, Below.refl _ _⟩
  case round =>
   obtain ⟨i, hi, rfl, HS, HB⟩ := hrel
   by_cases hlt : i < xs.length
   ·have hlt' : i < ys.length := by have := HL.out; omega
    obtain ⟨ax, x, L, rfl, hdx, hxm, hcx, hxr⟩ := chk_at (HX.out _ HB.out) i hlt
    obtain ⟨ay, y, M, rfl, hdy, hym, hcy, hyr⟩ := chk_at (HY.out _ HB.out) i hlt'
    have hd := HS.out
    rw [hdx, hdy] at hd
    have HSM := Lh (fun (W : World) (h : Below wr.heap.size wr W) => rsame_calls W x y L M (hxr.below h) (hyr.below h) (HOX.out x hxm) (HOY.out y hym))
    have HXS := Lh (show (Tryd.prog.info? 41).map (·.size) = some (CV x L).size by kernel_rfl)
    have HYS := Lh (show (Tryd.prog.info? 41).map (·.size) = some (CV y M).size by kernel_rfl)
    have HLX := Lh hcx
    have HLY := Lh hcy
    have s2 : (x :: xs.drop (i + 1) = y :: ys.drop (i + 1)) = (x = y ∧ xs.drop (i + 1) = ys.drop (i + 1)) := by simp
    have HD := Lh hd
    have HS2 := Lh s2
    clear hd s2 hcx hcy hxr hyr hdx hdy hxm hym
    by_cases hxy : x = y
    ·have HDD := Lh (show decide (xs = ys) = decide (xs.drop (i + 1) = ys.drop (i + 1)) by rw [HD.out]; exact decide_eq_decide.2 (by rw [HS2.out]; simp [hxy]))
     rw [decide_eq_true hxy] at HSM
     clear HD HS2 hxy HS
     generalize CV x L = CX at *
     generalize CV y M = CY at *
     obtain ⟨q, hq⟩ : ∃ q, q = true := ⟨_, rfl⟩
     rw [← hq] at HSM
     have HQ := Lh hq
     clear hq
     have HN2 := HB
     go_upto_region 6 with (fail)
     generalize wr = W at *
     have B := True.intro
     refine start_ (n := 10) (S := fun w' => True) (ds := []) #[false, false, false, false, false, false, false, false, false, false] (by kernel_rfl) rfl rfl trivial (fun hHeld => ?_)
     refine with_tabW schtab6 schbits6 (fun HT_ HW_ => ?_)
     refine pu 0 17 ?_ rfl rfl (any_of HT_.out (by kernel_rfl)) (fun _ _ _ h => h) (by rfl) ?_ ?_ ?_ ?_
     rotate_left
     ·intro w'
      go_simp
      with_reducible rfl
     rotate_left
     ·simp only [sL]
      rfl
     refine pu 1 18 ?_ rfl rfl (any_of HT_.out (by kernel_rfl)) (fun _ _ _ h => h) (by rfl) ?_ ?_ ?_ ?_
     rotate_left
     ·intro w'
      go_simp
      with_reducible rfl
     rotate_left
     ·simp only [sL]
      rfl
     refine pu 4 21 ?_ rfl rfl (any_of HT_.out (by kernel_rfl)) (fun _ _ _ h => h) (by rfl) ?_ ?_ ?_ ?_
     rotate_left
     ·intro w'
      go_simp
      with_reducible rfl
     rotate_left
     ·simp only [sL]
      rfl
     refine pu 5 22 ?_ rfl rfl (any_of HT_.out (by kernel_rfl)) (fun _ _ _ h => h) (by rfl) ?_ ?_ ?_ ?_
     rotate_left
     ·intro w'
      go_simp
      with_reducible rfl
     rotate_left
     ·simp only [sL]
      rfl
     refine inv_at [2, 3, 6, 7, 8, 9] (fun a0_ b a w' => a = putSel a0_ b [(2, 19, .pointer (some (ax.add (i * 15)))), (3, 20, .agg CX), (6, 23, .pointer (some (ay.add (i * 15)))), (7, 24, .agg CY), (8, 25, .bool q), (9, 26, .bool (!q))] ∧ (Below W.heap.size W w')) HT_.out HW_.out (by kernel_rfl) (by kernel_rfl) ?_ ?_ ?_
     ·exact ⟨by simp only [putSel, Bool.false_eq_true, if_false], below_drew (Below.refl _ _)⟩
     ·skip
      clear B
      refine sc rfl ?_ ?_
      ·rintro b a w' ⟨ha, Q_B⟩ hb_ hon hoff K hK
       have e17 : a.tmps[17]? = some (.slice (some ax) xs.length c) := by rw [ha]; exact (putSel_off rfl).trans rfl
       have e18 : a.tmps[18]? = some (.int .i64 (i : Int)) := by rw [ha]; exact (putSel_off rfl).trans rfl
       replace ha := Am ha
       refine value_ (w1 := w') (v := .pointer (some (ax.add (i * 15)))) (by rfl) rfl ?_ ?_
       ·go_simp
        (try simp only [i64_w])
        try rfl
       refine hK.out _ _ ⟨(puk ha 0 hb_ rfl rfl rfl), Q_B⟩
      refine sc rfl ?_ ?_
      ·rintro b a w' ⟨ha, Q_B⟩ hb_ hon hoff K hK
       have e19 := psn ha 0 rfl rfl (hon 2 (by kernel_rfl)) rfl
       replace ha := Am ha
       have B := Am Q_B
       refine value_ (w1 := w') (v := .agg CX) (by rfl) rfl (exec_load_cells 41 (.tmp 19) rfl (eval_of e19) CX _ (fun j v hv => pw_cell_below B.out (HLX.out j v hv)) Tryd.underlying41 rfl HXS.out) ?_
       refine hK.out _ _ ⟨(puk ha 1 hb_ rfl rfl rfl), B.out⟩
      refine sc rfl ?_ ?_
      ·rintro b a w' ⟨ha, Q_B⟩ hb_ hon hoff K hK
       have e21 : a.tmps[21]? = some (.slice (some ay) ys.length d) := by rw [ha]; exact (putSel_off rfl).trans rfl
       have e22 : a.tmps[22]? = some (.int .i64 (i : Int)) := by rw [ha]; exact (putSel_off rfl).trans rfl
       replace ha := Am ha
       refine value_ (w1 := w') (v := .pointer (some (ay.add (i * 15)))) (by rfl) rfl ?_ ?_
       ·go_simp
        (try simp only [i64_w])
        try rfl
       refine hK.out _ _ ⟨(puk ha 2 hb_ rfl rfl rfl), Q_B⟩
      refine sc rfl ?_ ?_
      ·rintro b a w' ⟨ha, Q_B⟩ hb_ hon hoff K hK
       have e23 := psn ha 2 rfl rfl (hon 6 (by kernel_rfl)) rfl
       replace ha := Am ha
       have B := Am Q_B
       refine value_ (w1 := w') (v := .agg CY) (by rfl) rfl (exec_load_cells 41 (.tmp 23) rfl (eval_of e23) CY _ (fun j v hv => pw_cell_below B.out (HLY.out j v hv)) Tryd.underlying41 rfl HYS.out) ?_
       refine hK.out _ _ ⟨(puk ha 3 hb_ rfl rfl rfl), B.out⟩
      refine sc rfl ?_ ?_
      ·rintro b a w' ⟨ha, Q_B⟩ hb_ hon hoff K hK
       have e20 := psn ha 1 rfl rfl (hon 3 (by kernel_rfl)) rfl
       have e24 := psn ha 3 rfl rfl (hon 7 (by kernel_rfl)) rfl
       replace ha := Am ha
       have B := Am Q_B
       refine goes_ Tryd.func32 (by kernel_rfl) rfl #[.agg CX, .agg CY] (by rfl) rfl rfl (by first | (simp only [List.map_toArray, List.map_cons, List.map_nil, Act.eval, Array.getD_eq_getD_getElem?, Option.getD_some, e20, e24]; done) | (simp only [List.map_toArray, List.map_cons, List.map_nil, Act.eval, Array.getD_eq_getD_getElem?, Option.getD_some, e20, e24]; rfl)) ?_
       refine (HSM.out w' B.out).mono ?_
       rintro e w1 ⟨rfl, hB1⟩
       refine ⟨_, rfl, ?_⟩
       refine hK.out _ _ ⟨(puk ha 4 hb_ rfl rfl rfl), below_then B.out B.out.size hB1⟩
      refine sc rfl ?_ ?_
      ·rintro b a w' ⟨ha, Q_B⟩ hb_ hon hoff K hK
       have e25 := psn ha 4 rfl rfl (hon 8 (by kernel_rfl)) rfl
       replace ha := Am ha
       refine value_ (w1 := w') (v := .bool (!q)) (by rfl) rfl ?_ ?_
       ·go_simp
        (try simp only [i64_w])
        try rfl
       refine hK.out _ _ ⟨(puk ha 5 hb_ rfl rfl rfl), Q_B⟩
      exact steps_nil
     rintro b a w' hall ⟨ha, Q_B⟩
     clear B
     have hb2_ := hall 2 (by kernel_rfl)
     have hb3_ := hall 3 (by kernel_rfl)
     have hb6_ := hall 6 (by kernel_rfl)
     have hb7_ := hall 7 (by kernel_rfl)
     have hb8_ := hall 8 (by kernel_rfl)
     have hb9_ := hall 9 (by kernel_rfl)
     subst ha
     simp only [putSel, hb2_, hb3_, hb6_, hb7_, hb8_, hb9_, if_true, Act.put, List.setIfInBounds_toArray, List.set_cons_zero, List.set_cons_succ]
     have B := Am Q_B
     clear Q_B
     clear hall hb2_ hb3_ hb6_ hb7_ hb8_ hb9_
     have HB2 := Lh (below_then HB.out HB.out.size B.out)
     rw [HQ.out]
     clear B HSM HLX HLY HQ HN2
     go_wp2
     go_roundw
     case rel => exact ⟨i + 1, by omega, by go_num, HDD, HB2⟩
     case measure => simp [intOf]; omega
    ·have HDD := Lh (show decide (xs = ys) = false by rw [HD.out]; exact decide_eq_false (fun e => hxy (HS2.out.mp e).1))
     rw [decide_eq_false hxy] at HSM
     clear HD HS2 hxy HS
     generalize CV x L = CX at *
     generalize CV y M = CY at *
     obtain ⟨q, hq⟩ : ∃ q, q = false := ⟨_, rfl⟩
     rw [← hq] at HSM
     have HQ := Lh hq
     clear hq
     go_upto_region 6 with (fail)
     generalize wr = W at *
     have B := True.intro
     refine start_ (n := 10) (S := fun w' => True) (ds := []) #[false, false, false, false, false, false, false, false, false, false] (by kernel_rfl) rfl rfl trivial (fun hHeld => ?_)
     refine with_tabW schtab6 schbits6 (fun HT_ HW_ => ?_)
     refine pu 0 17 ?_ rfl rfl (any_of HT_.out (by kernel_rfl)) (fun _ _ _ h => h) (by rfl) ?_ ?_ ?_ ?_
     rotate_left
     ·intro w'
      go_simp
      with_reducible rfl
     rotate_left
     ·simp only [sL]
      rfl
     refine pu 1 18 ?_ rfl rfl (any_of HT_.out (by kernel_rfl)) (fun _ _ _ h => h) (by rfl) ?_ ?_ ?_ ?_
     rotate_left
     ·intro w'
      go_simp
      with_reducible rfl
     rotate_left
     ·simp only [sL]
      rfl
     refine pu 4 21 ?_ rfl rfl (any_of HT_.out (by kernel_rfl)) (fun _ _ _ h => h) (by rfl) ?_ ?_ ?_ ?_
     rotate_left
     ·intro w'
      go_simp
      with_reducible rfl
     rotate_left
     ·simp only [sL]
      rfl
     refine pu 5 22 ?_ rfl rfl (any_of HT_.out (by kernel_rfl)) (fun _ _ _ h => h) (by rfl) ?_ ?_ ?_ ?_
     rotate_left
     ·intro w'
      go_simp
      with_reducible rfl
     rotate_left
     ·simp only [sL]
      rfl
     refine inv_at [2, 3, 6, 7, 8, 9] (fun a0_ b a w' => a = putSel a0_ b [(2, 19, .pointer (some (ax.add (i * 15)))), (3, 20, .agg CX), (6, 23, .pointer (some (ay.add (i * 15)))), (7, 24, .agg CY), (8, 25, .bool q), (9, 26, .bool (!q))] ∧ (Below W.heap.size W w')) HT_.out HW_.out (by kernel_rfl) (by kernel_rfl) ?_ ?_ ?_
     ·exact ⟨by simp only [putSel, Bool.false_eq_true, if_false], below_drew (Below.refl _ _)⟩
     ·skip
      clear B
      refine sc rfl ?_ ?_
      ·rintro b a w' ⟨ha, Q_B⟩ hb_ hon hoff K hK
       have e17 : a.tmps[17]? = some (.slice (some ax) xs.length c) := by rw [ha]; exact (putSel_off rfl).trans rfl
       have e18 : a.tmps[18]? = some (.int .i64 (i : Int)) := by rw [ha]; exact (putSel_off rfl).trans rfl
       replace ha := Am ha
       refine value_ (w1 := w') (v := .pointer (some (ax.add (i * 15)))) (by rfl) rfl ?_ ?_
       ·go_simp
        (try simp only [i64_w])
        try rfl
       refine hK.out _ _ ⟨(puk ha 0 hb_ rfl rfl rfl), Q_B⟩
      refine sc rfl ?_ ?_
      ·rintro b a w' ⟨ha, Q_B⟩ hb_ hon hoff K hK
       have e19 := psn ha 0 rfl rfl (hon 2 (by kernel_rfl)) rfl
       replace ha := Am ha
       have B := Am Q_B
       refine value_ (w1 := w') (v := .agg CX) (by rfl) rfl (exec_load_cells 41 (.tmp 19) rfl (eval_of e19) CX _ (fun j v hv => pw_cell_below B.out (HLX.out j v hv)) Tryd.underlying41 rfl HXS.out) ?_
       refine hK.out _ _ ⟨(puk ha 1 hb_ rfl rfl rfl), B.out⟩
      refine sc rfl ?_ ?_
      ·rintro b a w' ⟨ha, Q_B⟩ hb_ hon hoff K hK
       have e21 : a.tmps[21]? = some (.slice (some ay) ys.length d) := by rw [ha]; exact (putSel_off rfl).trans rfl
       have e22 : a.tmps[22]? = some (.int .i64 (i : Int)) := by rw [ha]; exact (putSel_off rfl).trans rfl
       replace ha := Am ha
       refine value_ (w1 := w') (v := .pointer (some (ay.add (i * 15)))) (by rfl) rfl ?_ ?_
       ·go_simp
        (try simp only [i64_w])
        try rfl
       refine hK.out _ _ ⟨(puk ha 2 hb_ rfl rfl rfl), Q_B⟩
      refine sc rfl ?_ ?_
      ·rintro b a w' ⟨ha, Q_B⟩ hb_ hon hoff K hK
       have e23 := psn ha 2 rfl rfl (hon 6 (by kernel_rfl)) rfl
       replace ha := Am ha
       have B := Am Q_B
       refine value_ (w1 := w') (v := .agg CY) (by rfl) rfl (exec_load_cells 41 (.tmp 23) rfl (eval_of e23) CY _ (fun j v hv => pw_cell_below B.out (HLY.out j v hv)) Tryd.underlying41 rfl HYS.out) ?_
       refine hK.out _ _ ⟨(puk ha 3 hb_ rfl rfl rfl), B.out⟩
      refine sc rfl ?_ ?_
      ·rintro b a w' ⟨ha, Q_B⟩ hb_ hon hoff K hK
       have e20 := psn ha 1 rfl rfl (hon 3 (by kernel_rfl)) rfl
       have e24 := psn ha 3 rfl rfl (hon 7 (by kernel_rfl)) rfl
       replace ha := Am ha
       have B := Am Q_B
       refine goes_ Tryd.func32 (by kernel_rfl) rfl #[.agg CX, .agg CY] (by rfl) rfl rfl (by first | (simp only [List.map_toArray, List.map_cons, List.map_nil, Act.eval, Array.getD_eq_getD_getElem?, Option.getD_some, e20, e24]; done) | (simp only [List.map_toArray, List.map_cons, List.map_nil, Act.eval, Array.getD_eq_getD_getElem?, Option.getD_some, e20, e24]; rfl)) ?_
       refine (HSM.out w' B.out).mono ?_
       rintro e w1 ⟨rfl, hB1⟩
       refine ⟨_, rfl, ?_⟩
       refine hK.out _ _ ⟨(puk ha 4 hb_ rfl rfl rfl), below_then B.out B.out.size hB1⟩
      refine sc rfl ?_ ?_
      ·rintro b a w' ⟨ha, Q_B⟩ hb_ hon hoff K hK
       have e25 := psn ha 4 rfl rfl (hon 8 (by kernel_rfl)) rfl
       replace ha := Am ha
       refine value_ (w1 := w') (v := .bool (!q)) (by rfl) rfl ?_ ?_
       ·go_simp
        (try simp only [i64_w])
        try rfl
       refine hK.out _ _ ⟨(puk ha 5 hb_ rfl rfl rfl), Q_B⟩
      exact steps_nil
     rintro b a w' hall ⟨ha, Q_B⟩
     clear B
     have hb2_ := hall 2 (by kernel_rfl)
     have hb3_ := hall 3 (by kernel_rfl)
     have hb6_ := hall 6 (by kernel_rfl)
     have hb7_ := hall 7 (by kernel_rfl)
     have hb8_ := hall 8 (by kernel_rfl)
     have hb9_ := hall 9 (by kernel_rfl)
     subst ha
     simp only [putSel, hb2_, hb3_, hb6_, hb7_, hb8_, hb9_, if_true, Act.put, List.setIfInBounds_toArray, List.set_cons_zero, List.set_cons_succ]
     have B := Am Q_B
     clear Q_B
     clear hall hb2_ hb3_ hb6_ hb7_ hb8_ hb9_
     have HB2 := Lh (below_then HB.out HB.out.size B.out)
     rw [HQ.out]
     clear B HSM HLX HLY HQ
     go_wp2
     go_ret
     exact ⟨by rw [HDD.out]; try rfl, HB2.out⟩
   ·obtain rfl : i = xs.length := by omega
    have HD := Lh (show decide (xs = ys) = true by rw [HS.out, List.drop_length, HL.out, List.drop_length]; rfl)
    go_wp2
    go_ret
    exact ⟨by rw [HD.out]; try rfl, HB.out⟩
 ·have HD := Lh (show decide (xs = ys) = false from decide_eq_false (fun e => hl (congrArg List.length e)))
  have hl2 : ¬ (xs.length : Int) = (ys.length : Int) := by omega
  go_enter Tryd.func25, Tryd.ntmps25
  go_wp2
  go_ret
  exact ⟨by rw [HD.out]; try rfl, Below.refl _ _⟩
end Go.Proofs.YtdlamomabonkjaaDoor.Ch
end
section
namespace Go.Proofs.YtdlamomabonkjaaDoor.Pk
open Go.RowKit YtdlamomabonkjaaDoorW.PrintWords YtdlamomabonkjaaDoorW.PrintLast Base PCh ParDec ParEnc Ch Crc CrcMath
set_option maxHeartbeats 4000000 in
theorem pencode_with (w : World) (f t q : Int) (A : Option Addr) (c : Nat) (l : List Chk) (hT : Table w) (hl : Kd.C k41 w A l.length l) (hc : l.length ≤ c) (hce : ∀ W, Below w.heap.size w W → Calls Tryd.prog 28 #[.slice A l.length c] W fun e w' => ∃ v, e = .returned (.tuple #[v, .int .i64 (encD l).2]) ∧ (Kd.int .u8).R 5 w' W.heap.size (fun _ => True) v (encD l).1 ∧ Below W.heap.size W w') (hin : ∀ b ∈ (encD l).1, inB b) (hen : (encD l).2 = 0 → (encD l).1.length ≤ 65536) :
  Calls Tryd.prog 10 #[.agg #[.int .u16 f, .int .u16 t, .int .u32 q, .slice A l.length c]] w fun e w' => ∃ v, e = .returned (.tuple #[v, .int .i64 (pencD f t q l).2]) ∧ byte.R 5 w' w.heap.size (fun _ => True) v (pencD f t q l).1 ∧ Below w.heap.size w w' := by
 have HP := Lh (fun (W : World) (hW : Below w.heap.size w W) => packet_ports.calls f t q A c l _ W (Kd.C_below hl hW) hc (ports_ok f t q l))
 have HA := Lh (fun (W : World) (hW : Below w.heap.size w W) => apart_calls W A c l (Kd.C_below hl hW))
 have HE := Lh hce
 have HT := Lh (fun (W : World) (hW : Below w.heap.size w W) => hT.below hW)
 obtain ⟨D, hD⟩ : ∃ D, pencD f t q l = D := ⟨_, rfl⟩
 rw [hD]
 unfold pencD at hD
 obtain ⟨g, hg⟩ : ∃ g, w.heap.size = g := ⟨_, rfl⟩
 have HG := Lh hg
 generalize (decide (0 < f) && decide (0 < t)) = pb at *
 generalize apartB l = ab at *
 have HIN := Lh hin
 have HEN := Lh hen
 clear hin hen
 generalize (encD l).2 = ec at *
 generalize (encD l).1 = eb at *
 have hln : ((l.length : Int) = 0) = (l.length = 0) := by simp
 have HLN := Lh hln
 clear hl hc hce hT hln hg
 have HD := Lh hD
 clear hD
 go_enter Tryd.func10, Tryd.ntmps10
 go_upto_region 1 with (fail)
 refine wp_gen (fun W => Below w.heap.size w W ∧ W.heap[w.heap.size]? = some (.cells #[.int .u16 f, .int .u16 t, .int .u32 q, .slice A l.length c] 26 (0, 0))) ⟨below_alloc (Below.refl _ _) _, blk_new w _⟩ ?_
 rintro W0 ⟨hB0, hb0⟩
 have HB0 := Lh hB0
 have k0 : W0.cell? ⟨w.heap.size, 0, none⟩ = some (.int .u16 f) := blk_cell hb0 0
 have k1 : W0.cell? ⟨w.heap.size, 1, none⟩ = some (.int .u16 t) := blk_cell hb0 1
 have k2 : W0.cell? ⟨w.heap.size, 2, none⟩ = some (.int .u32 q) := blk_cell hb0 2
 have k3 : W0.cell? ⟨w.heap.size, 3, none⟩ = some (.slice A l.length c) := blk_cell hb0 3
 have HBK := Lh (fun (W : World) (h : Below W0.heap.size W0 W) => blk_below hb0 h)
 clear hb0 hB0
 go_wp2_with fail
 refine (HP.out W0 HB0.out).mono ?_
 rintro e W1 ⟨rfl, hB1⟩
 have H1 := Lh hB1
 clear hB1 HP k0 k1 k2 k3
 cases pb with
 | false =>
  have hd := HD.out
  rw [if_pos rfl] at hd
  have HD1 := Lh hd
  clear hd HD HA HE HEN HIN HT
  go_wp2
  go_ret2
  rw [← HD1.out]
  exact ⟨_, rfl, Kd.R_nil _ _ _ _ _, below_then HB0.out HB0.out.size H1.out⟩
 | true =>
  have hd := HD.out
  rw [if_neg (by decide)] at hd
  clear HD
  have k3 : W1.cell? ⟨w.heap.size, 3, none⟩ = some (.slice A l.length c) := blk_cell (HBK.out _ H1.out) 3
  by_cases hl0 : l.length = 0
  ·rw [if_pos hl0] at hd
   have hz : (((l.length : Nat) : Int) == 0) = true := by simp [hl0]
   have HD1 := Lh hd
   clear hd HA HE HEN HIN HT hl0
   go_wp2
   go_ret2
   rw [← HD1.out]
   exact ⟨_, rfl, Kd.R_nil _ _ _ _ _, below_then HB0.out HB0.out.size H1.out⟩
  have hz : (((l.length : Nat) : Int) == 0) = false := by simp [hl0]
  rw [if_neg hl0] at hd
  have HD := Lh hd
  clear hd hl0
  go_wp2_with fail
  refine (HA.out W1 (below_then HB0.out HB0.out.size H1.out)).mono ?_
  rintro e W2 ⟨rfl, hB2⟩
  have H2 := Lh (below_then H1.out H1.out.size hB2)
  clear hB2 HA k3 H1
  have k3 : W2.cell? ⟨w.heap.size, 3, none⟩ = some (.slice A l.length c) := blk_cell (HBK.out _ H2.out) 3
  cases ab with
  | true =>
   have hd := HD.out
   rw [if_pos rfl] at hd
   have HD1 := Lh hd
   clear hd HD HE HEN HIN HT
   go_wp2
   go_ret2
   rw [← HD1.out]
   exact ⟨_, rfl, Kd.R_nil _ _ _ _ _, below_then HB0.out HB0.out.size H2.out⟩
  | false =>
   have hd := HD.out
   rw [if_neg (by decide)] at hd
   clear HD
   have HD := Lh hd
   clear hd
   go_wp2_with fail
   refine (HE.out W2 (below_then HB0.out HB0.out.size H2.out)).mono ?_
   rintro e w2 ⟨v, rfl, hR, hB2⟩
   obtain ⟨A1, c1, rfl, hle, hC1⟩ := Kd.R_reads hR
   have H3 := Lh (below_then H2.out H2.out.size hB2)
   have HBW := Lh (below_then HB0.out HB0.out.size H3.out)
   have HC1 := Lh hC1
   have HLE := Lh hle
   clear hB2 HE k3 H2 hR hC1 hle
   by_cases hec : ec = 0
   ·subst hec
    have hd := HD.out
    rw [if_pos rfl] at hd
    clear HD
    have HN1 := Lh (HEN.out rfl)
    have hw : wrap64 (12 + ((eb.length : Nat) : Int)) = ((12 + eb.length : Nat) : Int) := by have := HN1.out; unfold wrap64; omega
    by_cases hl6 : 65536 < 12 + eb.length
    ·rw [if_pos hl6] at hd
     have hz2 : decide ((65536 : Int) < ((12 + eb.length : Nat) : Int)) = true := decide_eq_true (by omega)
     have HD1 := Lh hd
     clear hd HEN HIN HT hl6
     generalize ((12 + eb.length : Nat) : Int) = n12 at *
     generalize eb.length = ebl at *
     go_wp2
     go_ret2
     rw [← HD1.out]
     exact ⟨_, rfl, Kd.R_nil _ _ _ _ _, HBW.out⟩
    ·rw [if_neg hl6] at hd
     have hz2 : decide ((65536 : Int) < ((12 + eb.length : Nat) : Int)) = false := decide_eq_false (by omega)
     have HD1 := Lh hd
     clear hd
     generalize ((12 + eb.length : Nat) : Int) = n12 at *
     go_upto_region 12 with (fail)
     clear hw hz2 n12
     have HBG := Lh (HBK.out _ H3.out)
     rw [HG.out] at HBG ⊢
     clear HBK
     refine grow_region (B := pkeB12) [0, 1, 2, 3, 4, 5, 6, 7, 8, 9, 10, 11] [3, 7, 10, 11] (fun s v W => match s with | 0 => Below w2.heap.size w2 W | 1 => PX w2 ([] ++ twoL [f]) v W | 2 => PX w2 ([] ++ twoL [f] ++ twoL [t]) v W | _ => PX w2 ([] ++ twoL [f] ++ twoL [t] ++ fourL [q]) v W) (.slice none 0 0) (fun vs => [(0, 33, .pointer (some ⟨g, 0, none⟩)), (1, 34, .int .u16 f), (2, 35, .int .u32 (IntKind.u32.wrap f)), (3, 36, vs 1), (4, 37, .pointer (some ⟨g, 1, none⟩)), (5, 38, .int .u16 t), (6, 39, .int .u32 (IntKind.u32.wrap t)), (7, 40, vs 2), (8, 41, .pointer (some ⟨g, 2, none⟩)), (9, 42, .int .u32 q), (10, 43, vs 3), (11, 6, vs 4)]) (by kernel_rfl) rfl (l := #[false, false, false, false, false, false, false, false, false, false, false, false]) rfl pketab12 pkebits12 (by kernel_rfl) (by kernel_rfl) (fun _ => rfl) rfl ?_ ?_ ?_
     ·exact pw_below_drewN (Below.refl _ _) 1
     ·exact steps_cons (gr_op (p := 1) (fun w => Below w2.heap.size w2 w) 0 0 rfl rfl rfl (fun _ => rfl) (fun _ => rfl) rfl (u := .pointer (some ⟨g, 0, none⟩)) (rd_off (p := 1) (fun _ => rfl) rfl) (fun s x w h => by match s, h with | 0, h => exact h | 1, h => exact h.bl | 2, h => exact h.bl | _ + 3, h => exact h.bl) (fun a w hJ e => by go_simp)) (steps_cons (gr_op (p := 33) (fun w => Below w2.heap.size w2 w) 1 1 rfl rfl rfl (fun _ => rfl) (fun _ => rfl) rfl (u := .pointer (some ⟨g, 0, none⟩)) (rd_on (p := 33) 0 0 (fun _ => rfl) (fun _ => rfl) (by kernel_rfl) rfl) (fun s x w h => by match s, h with | 0, h => exact h | 1, h => exact h.bl | 2, h => exact h.bl | _ + 3, h => exact h.bl) (fun a w hJ e => by have hs : w.cell? ⟨g, 0, none⟩ = some (.int .u16 f) := blk_cell (blk_below HBG.out hJ) 0; go_simp)) (steps_cons (gr_op (p := 34) (fun w => Below w2.heap.size w2 w) 2 2 rfl rfl rfl (fun _ => rfl) (fun _ => rfl) rfl (u := .int .u16 f) (rd_on (p := 34) 1 1 (fun _ => rfl) (fun _ => rfl) (by kernel_rfl) rfl) (fun s x w h => by match s, h with | 0, h => exact h | 1, h => exact h.bl | 2, h => exact h.bl | _ + 3, h => exact h.bl) (fun a w hJ e => by go_simp)) (steps_cons (gr_callc (vals := [.slice none 0 0, .int .u32 (IntKind.u32.wrap f), .int .i64 2]) 3 3 0 rfl rfl rfl rfl (fun _ => rfl) (fun _ _ => rfl) (fun _ => rfl) rfl (by kernel_rfl) Tryd.func29 (by kernel_rfl) rfl rfl (ar_c (.slice none 0 0) (ar_t (rd_on (p := 35) 2 2 (fun _ => rfl) (fun _ => rfl) (by kernel_rfl) rfl) (ar_c (.int .i64 2) (ar_n)))) (fun u w h => by have h := (PX.nil h).two (IntKind.u32.wrap f) _ (two32 f) (by simp); exact h)) (steps_cons (gr_op (p := 1) (fun w => Below w2.heap.size w2 w) 4 4 rfl rfl rfl (fun _ => rfl) (fun _ => rfl) rfl (u := .pointer (some ⟨g, 0, none⟩)) (rd_off (p := 1) (fun _ => rfl) rfl) (fun s x w h => by match s, h with | 0, h => exact h | 1, h => exact h.bl | 2, h => exact h.bl | _ + 3, h => exact h.bl) (fun a w hJ e => by go_simp)) (steps_cons (gr_op (p := 37) (fun w => Below w2.heap.size w2 w) 5 5 rfl rfl rfl (fun _ => rfl) (fun _ => rfl) rfl (u := .pointer (some ⟨g, 1, none⟩)) (rd_on (p := 37) 4 4 (fun _ => rfl) (fun _ => rfl) (by kernel_rfl) rfl) (fun s x w h => by match s, h with | 0, h => exact h | 1, h => exact h.bl | 2, h => exact h.bl | _ + 3, h => exact h.bl) (fun a w hJ e => by have hs : w.cell? ⟨g, 1, none⟩ = some (.int .u16 t) := blk_cell (blk_below HBG.out hJ) 1; go_simp)) (steps_cons (gr_op (p := 38) (fun w => Below w2.heap.size w2 w) 6 6 rfl rfl rfl (fun _ => rfl) (fun _ => rfl) rfl (u := .int .u16 t) (rd_on (p := 38) 5 5 (fun _ => rfl) (fun _ => rfl) (by kernel_rfl) rfl) (fun s x w h => by match s, h with | 0, h => exact h | 1, h => exact h.bl | 2, h => exact h.bl | _ + 3, h => exact h.bl) (fun a w hJ e => by go_simp)) (steps_cons (gr_call (vals := [.int .u32 (IntKind.u32.wrap t), .int .i64 2]) 7 7 1 rfl rfl rfl rfl (fun _ => rfl) (fun _ _ => rfl) (fun _ => rfl) rfl (by kernel_rfl) Tryd.func29 (by kernel_rfl) rfl rfl rfl (fv := fun vs => vs 1) (rd_on (p := 36) 3 3 (fun _ => rfl) (fun _ => rfl) (by kernel_rfl) rfl) (fun _ _ => rfl) (ar_t (rd_on (p := 39) 6 6 (fun _ => rfl) (fun _ => rfl) (by kernel_rfl) rfl) (ar_c (.int .i64 2) (ar_n))) (fun u w h => h.two (IntKind.u32.wrap t) _ (two32 t) (by simp [twoL_length]))) (steps_cons (gr_op (p := 1) (fun w => Below w2.heap.size w2 w) 8 8 rfl rfl rfl (fun _ => rfl) (fun _ => rfl) rfl (u := .pointer (some ⟨g, 0, none⟩)) (rd_off (p := 1) (fun _ => rfl) rfl) (fun s x w h => by match s, h with | 0, h => exact h | 1, h => exact h.bl | 2, h => exact h.bl | _ + 3, h => exact h.bl) (fun a w hJ e => by go_simp)) (steps_cons (gr_op (p := 41) (fun w => Below w2.heap.size w2 w) 9 9 rfl rfl rfl (fun _ => rfl) (fun _ => rfl) rfl (u := .pointer (some ⟨g, 2, none⟩)) (rd_on (p := 41) 8 8 (fun _ => rfl) (fun _ => rfl) (by kernel_rfl) rfl) (fun s x w h => by match s, h with | 0, h => exact h | 1, h => exact h.bl | 2, h => exact h.bl | _ + 3, h => exact h.bl) (fun a w hJ e => by have hs : w.cell? ⟨g, 2, none⟩ = some (.int .u32 q) := blk_cell (blk_below HBG.out hJ) 2; go_simp)) (steps_cons (gr_call (vals := [.int .u32 q, .int .i64 4]) 10 10 2 rfl rfl rfl rfl (fun _ => rfl) (fun _ _ => rfl) (fun _ => rfl) rfl (by kernel_rfl) Tryd.func29 (by kernel_rfl) rfl rfl rfl (fv := fun vs => vs 2) (rd_on (p := 40) 7 7 (fun _ => rfl) (fun _ => rfl) (by kernel_rfl) rfl) (fun _ _ => rfl) (ar_t (rd_on (p := 42) 9 9 (fun _ => rfl) (fun _ => rfl) (by kernel_rfl) rfl) (ar_c (.int .i64 4) (ar_n))) (fun u w h => h.four q (by simp [twoL_length]))) (steps_cons (gr_last 11 11 3 rfl rfl rfl rfl (fun _ => rfl) (fun _ _ => rfl) (fun _ => rfl) rfl (by kernel_rfl) (fv := fun vs => vs 3) (rd_on (p := 43) 10 10 (fun _ => rfl) (fun _ => rfl) (by kernel_rfl) rfl) (fun _ _ => rfl) (fun a w u e => by go_simp) (fun _ _ h => h)) steps_nil)))))))))))
     intro vs1 W4 hX9
     have HX := Lh hX9
     clear hX9
     simp only [putSel, if_true, Act.put, List.setIfInBounds_toArray, List.set_cons_zero, List.set_cons_succ]
     obtain ⟨u1_, hu⟩ : ∃ u, vs1 4 = u := ⟨_, rfl⟩
     replace HX := Lh (show PX w2 ([] ++ twoL [f] ++ twoL [t] ++ fourL [q]) (vs1 4) W4 from HX.out)
     rw [hu] at HX ⊢
     clear hu
     go_wp2_with fail
     have HF := HX.out.four 0 (by simp [twoL_length, fourL_length])
     rw [show ([] ++ twoL [f] ++ twoL [t] ++ fourL [q] ++ fourL [0] : List Int) = headL f t q from rfl] at HF
     have HYL := Lh (headL_length f t q)
     have HYI := Lh (head_in f t q)
     generalize headL f t q = ys at *
     refine HF.mono ?_
     clear HF HX
     rintro e W4 ⟨v4, rfl, hX9⟩
     obtain ⟨Au, cu, hu⟩ := Kd.R_slice hX9.r
     subst hu
     have HX4 := Lh hX9
     clear hX9
     go_wp2_with (at_builtin; go_must (refine Kd.R_append_row (Value.int .u8) (0 : Int) (w0 := w2) (W := W4) w2.heap.size rfl _ _ 27 5 _ 1 rfl Tryd.underlying27 info_u8 rfl (by decide) (.slice Au ys.length cu) ys eb A1 _ c1 (fun _ => True) rfl rfl (fun _ _ => trivial) HX4.out.r (Kd.C_below HC1.out HX4.out.bl) HX4.out.bl HX4.out.bl.size (by have := HYL.out; have := HN1.out; omega) ?_); (intro v1 w1 hR1 hB1 hG1 _; have HR1 := Lh hR1; have HB1 := Lh hB1; clear hR1 hB1 hG1; refine RowKit.Hid.out ?_))
     refine Lh ?_
     obtain ⟨A5, c5, hv5, hle5, hC5⟩ := Kd.R_reads HR1.out
     subst hv5
     have hin5 : ∀ b ∈ ys ++ eb, inB b := fun b hb => by
      rcases List.mem_append.1 hb with h | h
      ·exact HYI.out b h
      ·exact HIN.out b h
     have hlen : (ys ++ eb).length = 12 + eb.length := by rw [List.length_append, HYL.out]
     obtain ⟨bs, hbs⟩ : ∃ bs, bytesOf (ys ++ eb) = bs := ⟨_, rfl⟩
     have hbi : ints bs = ys ++ eb := by rw [← hbs]; exact ints_bytesOf _ hin5
     have hbl : (ys ++ eb).length = bs.length := by rw [← hbi, ints_length]
     rw [hbs] at HD1
     have HC5 := byte_of_int (by rw [hbi]; exact hC5 : (Kd.int .u8).C w1 A5 (ints bs).length (ints bs))
     have HPUT := Lh (Crc.put_calls A5 c5 bs w1 (HT.out w1 (below_then HBW.out HBW.out.size HB1.out)) HC5 (by rw [← hbl]; exact hle5) (by have := HN1.out; omega) (by omega))
     unfold PutDone at HPUT
     rw [← putL_eq] at HPUT
     have HB5 := Lh (below_then HBW.out HBW.out.size HB1.out)
     rw [hbl]
     clear hbl hbi hin5 hlen HC5 hC5 hle5 hbs HR1 HB1 HX4 HIN HEN HT HC1
     generalize bs.length = bl at *
     generalize putL bs = pl at *
     go_wp2_with fail
     refine HPUT.out.mono ?_
     rintro e W6 ⟨v6, rfl, hR6, hB6⟩
     have HR6 := Lh hR6
     have HB6 := Lh hB6
     clear hR6 hB6 HPUT
     go_wp2
     go_ret2
     rw [← HD1.out]
     exact ⟨_, rfl, Kd.R_lower HR6.out HB5.out.size, below_then HB5.out HB5.out.size HB6.out⟩
   ·have hd := HD.out
    rw [if_neg hec] at hd
    have hz : (ec == 0) = false := by simp [hec]
    have HD1 := Lh hd
    clear hd HD HEN HIN HT
    go_wp2
    go_ret2
    rw [← HD1.out]
    exact ⟨_, rfl, Kd.R_nil _ _ _ _ _, HBW.out⟩
end Go.Proofs.YtdlamomabonkjaaDoor.Pk
end
section
namespace Go.Proofs.YtdlamomabonkjaaDoor.Ch
open Go.RowKit YtdlamomabonkjaaDoorW.PrintWords YtdlamomabonkjaaDoorW.PrintLast Base PCh
theorem eqn_u32 (w : World) (A B : Option Addr) (c d : Nat) : Calls Tryd.prog 66 #[.slice A 0 c, .slice B 0 d] w fun e w' => e = .returned (.bool true) ∧ Below w.heap.size w w' := by
 go_enter Tryd.func66, Tryd.ntmps66
 go_wp2
 go_loopw [13] (fun v13 w' => v13 = .int .i64 0 ∧ w' = w) (fun v13 _ => 0)
 case atStart => exact ⟨rfl, rfl⟩
 case round =>
  obtain ⟨rfl, rfl⟩ := hrel
  go_wp2
  go_ret
  exact ⟨rfl, Below.refl _ _⟩
theorem eqn_byte (w : World) (A B : Option Addr) (c d : Nat) : Calls Tryd.prog 67 #[.slice A 0 c, .slice B 0 d] w fun e w' => e = .returned (.bool true) ∧ Below w.heap.size w w' := by
 go_enter Tryd.func67, Tryd.ntmps67
 go_wp2
 go_loopw [13] (fun v13 w' => v13 = .int .i64 0 ∧ w' = w) (fun v13 _ => 0)
 case atStart => exact ⟨rfl, rfl⟩
 case round =>
  obtain ⟨rfl, rfl⟩ := hrel
  go_wp2
  go_ret
  exact ⟨rfl, Below.refl _ _⟩
theorem eqn_gap0 (w : World) (A B : Option Addr) (c d : Nat) : Calls Tryd.prog 82 #[.slice A 0 c, .slice B 0 d] w fun e w' => e = .returned (.bool true) ∧ Below w.heap.size w w' := by
 go_enter Tryd.func82, Tryd.ntmps82
 go_wp2
 go_loopw [13] (fun v13 w' => v13 = .int .i64 0 ∧ w' = w) (fun v13 _ => 0)
 case atStart => exact ⟨rfl, rfl⟩
 case round =>
  obtain ⟨rfl, rfl⟩ := hrel
  go_wp2
  go_ret
  exact ⟨rfl, Below.refl _ _⟩
theorem eqn_gap (w : World) (A B : Option Addr) (c d : Nat) : Calls Tryd.prog 65 #[.slice A 0 c, .slice B 0 d] w fun e w' => e = .returned (.bool true) ∧ Below w.heap.size w w' := by
 have HE := Lh (eqn_gap0 w A B c d)
 go_enter Tryd.func65, Tryd.ntmps65
 go_wp2_with fail
 refine HE.out.mono ?_
 rintro e w1 ⟨rfl, hB1⟩
 go_wp2
 go_ret
 exact ⟨rfl, hB1⟩
theorem eqn_prm0 (w : World) (A B : Option Addr) (c d : Nat) : Calls Tryd.prog 83 #[.slice A 0 c, .slice B 0 d, .func (.func 84) #[] #[]] w fun e w' => e = .returned (.bool true) ∧ Below w.heap.size w w' := by
 go_enter Tryd.func83, Tryd.ntmps83
 go_wp2
 go_loopw [17] (fun v17 w' => v17 = .int .i64 0 ∧ w' = w) (fun v17 _ => 0)
 case atStart => exact ⟨rfl, rfl⟩
 case round =>
  obtain ⟨rfl, rfl⟩ := hrel
  go_wp2
  go_ret
  exact ⟨rfl, Below.refl _ _⟩
theorem eqn_prm (w : World) (A B : Option Addr) (c d : Nat) : Calls Tryd.prog 68 #[.slice A 0 c, .slice B 0 d] w fun e w' => e = .returned (.bool true) ∧ Below w.heap.size w w' := by
 have HE := Lh (eqn_prm0 w A B c d)
 go_enter Tryd.func68, Tryd.ntmps68
 go_wp2_with fail
 refine HE.out.mono ?_
 rintro e w1 ⟨rfl, hB1⟩
 go_wp2
 go_ret
 exact ⟨rfl, hB1⟩
theorem enc_none (w : World) (A : Option Addr) (c : Nat) : Calls Tryd.prog 74 #[.slice A 0 c] w fun e w' => e = .returned (.tuple #[.slice none 0 0, .int .i64 0]) ∧ Below w.heap.size w w' := by
 go_enter Tryd.func74, Tryd.ntmps74
 go_wp2
 go_loopw [12, 4] (fun v12 v4 w' => v12 = .int .i64 0 ∧ v4 = .slice none 0 0 ∧ w' = w) (fun v12 _ _ => 0)
 case atStart => exact ⟨rfl, rfl, rfl⟩
 case round =>
  obtain ⟨rfl, rfl, rfl⟩ := hrel
  go_wp2
  go_ret2
  exact ⟨rfl, Below.refl _ _⟩
def avX : Chk := ⟨11, 0, 0, 0, 0, 0, 0, 0, 0, 0, [], [], [], [], []⟩
set_option maxHeartbeats 4000000 in
theorem same_av (w : World) (L M : Lay) : Calls Tryd.prog 38 #[.agg (CV avX L), .agg (CV avX M)] w fun e w' => e = .returned (.bool true) ∧ Below w.heap.size w w' := by
 have O0 := Lh (show ((w.alloc (.cells (CV avX L) 41)).alloc (.cells (CV avX M) 41)).heap[w.heap.size]? = some (.cells (CV avX L) 41 (0, 0)) from blk_alloc (blk_new _ _) _)
 have O1 := Lh (show ((w.alloc (.cells (CV avX L) 41)).alloc (.cells (CV avX M) 41)).heap[w.heap.size + 1]? = some (.cells (CV avX M) 41 (0, 0)) by have h := blk_new (w.alloc (.cells (CV avX L) 41)) (.cells (CV avX M) 41); rw [World.size_alloc] at h; exact h)
 have HB := Lh (below_alloc (below_alloc (Below.refl w.heap.size w) (.cells (CV avX L) 41)) (.cells (CV avX M) 41))
 have H10 := Lh (fun (W : World) => eqn_gap W L.A10 M.A10 L.c10 M.c10)
 have H11 := Lh (fun (W : World) => eqn_gap W L.A11 M.A11 L.c11 M.c11)
 have H12 := Lh (fun (W : World) => eqn_u32 W L.A12 M.A12 L.c12 M.c12)
 have H13 := Lh (fun (W : World) => eqn_byte W L.A13 M.A13 L.c13 M.c13)
 have H14 := Lh (fun (W : World) => eqn_prm W L.A14 M.A14 L.c14 M.c14)
 have u0 := (blk_cell O0.out 0).trans (show (CV avX L)[0]? = some (.int .u8 11) from rfl)
 have v0 := (blk_cell O1.out 0).trans (show (CV avX M)[0]? = some (.int .u8 11) from rfl)
 have u1 := (blk_cell O0.out 1).trans (show (CV avX L)[1]? = some (.int .u8 0) from rfl)
 have v1 := (blk_cell O1.out 1).trans (show (CV avX M)[1]? = some (.int .u8 0) from rfl)
 have u2 := (blk_cell O0.out 2).trans (show (CV avX L)[2]? = some (.int .u32 0) from rfl)
 have v2 := (blk_cell O1.out 2).trans (show (CV avX M)[2]? = some (.int .u32 0) from rfl)
 have u3 := (blk_cell O0.out 3).trans (show (CV avX L)[3]? = some (.int .u16 0) from rfl)
 have v3 := (blk_cell O1.out 3).trans (show (CV avX M)[3]? = some (.int .u16 0) from rfl)
 have u4 := (blk_cell O0.out 4).trans (show (CV avX L)[4]? = some (.int .u16 0) from rfl)
 have v4 := (blk_cell O1.out 4).trans (show (CV avX M)[4]? = some (.int .u16 0) from rfl)
 have u5 := (blk_cell O0.out 5).trans (show (CV avX L)[5]? = some (.int .u32 0) from rfl)
 have v5 := (blk_cell O1.out 5).trans (show (CV avX M)[5]? = some (.int .u32 0) from rfl)
 have u6 := (blk_cell O0.out 6).trans (show (CV avX L)[6]? = some (.int .u32 0) from rfl)
 have v6 := (blk_cell O1.out 6).trans (show (CV avX M)[6]? = some (.int .u32 0) from rfl)
 have u7 := (blk_cell O0.out 7).trans (show (CV avX L)[7]? = some (.int .u32 0) from rfl)
 have v7 := (blk_cell O1.out 7).trans (show (CV avX M)[7]? = some (.int .u32 0) from rfl)
 have u8 := (blk_cell O0.out 8).trans (show (CV avX L)[8]? = some (.int .u16 0) from rfl)
 have v8 := (blk_cell O1.out 8).trans (show (CV avX M)[8]? = some (.int .u16 0) from rfl)
 have u9 := (blk_cell O0.out 9).trans (show (CV avX L)[9]? = some (.int .u16 0) from rfl)
 have v9 := (blk_cell O1.out 9).trans (show (CV avX M)[9]? = some (.int .u16 0) from rfl)
 have u10 := (blk_cell O0.out 10).trans (show (CV avX L)[10]? = some (.slice L.A10 0 L.c10) from rfl)
 have v10 := (blk_cell O1.out 10).trans (show (CV avX M)[10]? = some (.slice M.A10 0 M.c10) from rfl)
 have u11 := (blk_cell O0.out 11).trans (show (CV avX L)[11]? = some (.slice L.A11 0 L.c11) from rfl)
 have v11 := (blk_cell O1.out 11).trans (show (CV avX M)[11]? = some (.slice M.A11 0 M.c11) from rfl)
 have u12 := (blk_cell O0.out 12).trans (show (CV avX L)[12]? = some (.slice L.A12 0 L.c12) from rfl)
 have v12 := (blk_cell O1.out 12).trans (show (CV avX M)[12]? = some (.slice M.A12 0 M.c12) from rfl)
 have u13 := (blk_cell O0.out 13).trans (show (CV avX L)[13]? = some (.slice L.A13 0 L.c13) from rfl)
 have v13 := (blk_cell O1.out 13).trans (show (CV avX M)[13]? = some (.slice M.A13 0 M.c13) from rfl)
 have u14 := (blk_cell O0.out 14).trans (show (CV avX L)[14]? = some (.slice L.A14 0 L.c14) from rfl)
 have v14 := (blk_cell O1.out 14).trans (show (CV avX M)[14]? = some (.slice M.A14 0 M.c14) from rfl)
 have EU11 := Lh (show (CV avX L)[11]? = some (.slice L.A11 0 L.c11) from rfl)
 have EV11 := Lh (show (CV avX M)[11]? = some (.slice M.A11 0 M.c11) from rfl)
 have EU12 := Lh (show (CV avX L)[12]? = some (.slice L.A12 0 L.c12) from rfl)
 have EV12 := Lh (show (CV avX M)[12]? = some (.slice M.A12 0 M.c12) from rfl)
 have EU13 := Lh (show (CV avX L)[13]? = some (.slice L.A13 0 L.c13) from rfl)
 have EV13 := Lh (show (CV avX M)[13]? = some (.slice M.A13 0 M.c13) from rfl)
 have EU14 := Lh (show (CV avX L)[14]? = some (.slice L.A14 0 L.c14) from rfl)
 have EV14 := Lh (show (CV avX M)[14]? = some (.slice M.A14 0 M.c14) from rfl)
 generalize CV avX L = CX at *
 generalize CV avX M = CY at *
 go_enter Tryd.func38, Tryd.ntmps38
 go_wp2_with fail
 refine (H10.out _).mono ?_
 rintro e W1 ⟨rfl, hB1⟩
 clear u0 v0 u1 v1 u2 v2 u3 v3 u4 v4 u5 v5 u6 v6 u7 v7 u8 v8 u9 v9 u10 v10 u11 v11 u12 v12 u13 v13 u14 v14
 replace O0 := Lh (blk_below O0.out hB1)
 replace O1 := Lh (blk_below O1.out hB1)
 replace HB := Lh (below_then HB.out HB.out.size hB1)
 have u11 := (blk_cell O0.out 11).trans EU11.out
 have v11 := (blk_cell O1.out 11).trans EV11.out
 clear hB1
 go_wp2_with fail
 refine (H11.out _).mono ?_
 rintro e W2 ⟨rfl, hB2⟩
 clear u11 v11
 replace O0 := Lh (blk_below O0.out hB2)
 replace O1 := Lh (blk_below O1.out hB2)
 replace HB := Lh (below_then HB.out HB.out.size hB2)
 have u12 := (blk_cell O0.out 12).trans EU12.out
 have v12 := (blk_cell O1.out 12).trans EV12.out
 clear hB2
 go_wp2_with fail
 refine (H12.out _).mono ?_
 rintro e W3 ⟨rfl, hB3⟩
 clear u12 v12
 replace O0 := Lh (blk_below O0.out hB3)
 replace O1 := Lh (blk_below O1.out hB3)
 replace HB := Lh (below_then HB.out HB.out.size hB3)
 have u13 := (blk_cell O0.out 13).trans EU13.out
 have v13 := (blk_cell O1.out 13).trans EV13.out
 clear hB3
 go_wp2_with fail
 refine (H13.out _).mono ?_
 rintro e W4 ⟨rfl, hB4⟩
 clear u13 v13
 replace O0 := Lh (blk_below O0.out hB4)
 replace O1 := Lh (blk_below O1.out hB4)
 replace HB := Lh (below_then HB.out HB.out.size hB4)
 have u14 := (blk_cell O0.out 14).trans EU14.out
 have v14 := (blk_cell O1.out 14).trans EV14.out
 clear hB4
 go_wp2_with fail
 refine (H14.out _).mono ?_
 rintro e W5 ⟨rfl, hB5⟩
 clear u14 v14
 go_wp2
 go_ret
 exact ⟨rfl, below_then HB.out HB.out.size hB5⟩
end Go.Proofs.YtdlamomabonkjaaDoor.Ch
end
section
namespace Go.Proofs.YtdlamomabonkjaaDoor.Ch
open Go.RowKit YtdlamomabonkjaaDoorW.PrintWords YtdlamomabonkjaaDoorW.PrintLast Base PCh ParDec
set_option maxHeartbeats 8000000 in
theorem bare_none (w : World) (x : Chk) (L : Lay) (hx : CR w x L) (h0 : x.f0 = 11) :
  Calls Tryd.prog 71 #[.agg (CV x L)] w fun e w' => e = .returned (.agg (CV (bareD x) (keepL (hasF x.f0) L))) ∧ Below w.heap.size w w' := by
 clear hx
 obtain ⟨f0, f1, f2, f3, f4, f5, f6, f7, f8, f9, f10, f11, f12, f13, f14⟩ := x
 dsimp only at h0
 subst h0
 obtain ⟨A10, c10, A11, c11, A12, c12, A13, c13, A14, c14⟩ := L
 have hkd : (∃ r, bareD ⟨11, f1, f2, f3, f4, f5, f6, f7, f8, f9, f10, f11, f12, f13, f14⟩ = r) := ⟨_, rfl⟩
 clear hkd
 have X := Bx.new w (CV ⟨11, f1, f2, f3, f4, f5, f6, f7, f8, f9, f10, f11, f12, f13, f14⟩ ⟨A10, c10, A11, c11, A12, c12, A13, c13, A14, c14⟩)
 go_enter Tryd.func71, Tryd.ntmps71
 go_upto_region 1 with (fail)
 refine wp_gen (Bx w (CV ⟨11, f1, f2, f3, f4, f5, f6, f7, f8, f9, f10, f11, f12, f13, f14⟩ ⟨A10, c10, A11, c11, A12, c12, A13, c13, A14, c14⟩)) X ?_
 clear X
 intro W X
 have U0 := Lh (show W.cell? ⟨w.heap.size, 0, none⟩ = some (.int .u8 11) from X.cell 0)
 have U1 := Lh (show W.cell? ⟨w.heap.size, 1, none⟩ = some (.int .u8 f1) from X.cell 1)
 have U2 := Lh (show W.cell? ⟨w.heap.size, 2, none⟩ = some (.int .u32 f2) from X.cell 2)
 have U3 := Lh (show W.cell? ⟨w.heap.size, 3, none⟩ = some (.int .u16 f3) from X.cell 3)
 have U4 := Lh (show W.cell? ⟨w.heap.size, 4, none⟩ = some (.int .u16 f4) from X.cell 4)
 have U5 := Lh (show W.cell? ⟨w.heap.size, 5, none⟩ = some (.int .u32 f5) from X.cell 5)
 have U6 := Lh (show W.cell? ⟨w.heap.size, 6, none⟩ = some (.int .u32 f6) from X.cell 6)
 have U7 := Lh (show W.cell? ⟨w.heap.size, 7, none⟩ = some (.int .u32 f7) from X.cell 7)
 have U8 := Lh (show W.cell? ⟨w.heap.size, 8, none⟩ = some (.int .u16 f8) from X.cell 8)
 have U9 := Lh (show W.cell? ⟨w.heap.size, 9, none⟩ = some (.int .u16 f9) from X.cell 9)
 have U10 := Lh (show W.cell? ⟨w.heap.size, 10, none⟩ = some (.slice A10 f10.length c10) from X.cell 10)
 have U11 := Lh (show W.cell? ⟨w.heap.size, 11, none⟩ = some (.slice A11 f11.length c11) from X.cell 11)
 have U12 := Lh (show W.cell? ⟨w.heap.size, 12, none⟩ = some (.slice A12 f12.length c12) from X.cell 12)
 have U13 := Lh (show W.cell? ⟨w.heap.size, 13, none⟩ = some (.slice A13 f13.length c13) from X.cell 13)
 have U14 := Lh (show W.cell? ⟨w.heap.size, 14, none⟩ = some (.slice A14 f14.length c14) from X.cell 14)
 obtain ⟨fl, hfl⟩ : ∃ fl, flD 11 f1 = fl := ⟨_, rfl⟩
 have HFL := Lh (show bits .and .u8 f1 (maskD 11) = fl from hfl)
 have HFE := Lh hfl
 clear hfl
 have B := True.intro
 refine start_ (n := 11) (S := fun w' => True) (ds := []) #[false, false, false, false, false, false, false, false, false, false, false] (by kernel_rfl) rfl rfl trivial (fun hHeld => ?_)
 refine with_tabW baretab1 barebits1 (fun HT_ HW_ => ?_)
 refine inv_at [0, 1, 2, 3, 4, 5, 6, 7, 8, 9, 10] (fun a0_ b a w' => ∃ (g3 : Nat) (m9_ : Value), a = putSel a0_ b [(0, 4, .pointer (some ⟨w.heap.size, 0, none⟩)), (1, 5, .int .u8 11), (2, 6, .pointer (some ⟨w.heap.size, 1, none⟩)), (3, 7, .int .u8 f1), (4, 8, .pointer (some ⟨w.heap.size, 0, none⟩)), (5, 9, .int .u8 11), (6, 10, .int .u8 (maskD 11)), (7, 11, .int .u8 fl), (8, 12, .agg (#[.int .u8 (11), .int .u8 (fl), .int .u32 0, .int .u16 0, .int .u16 0, .int .u32 0, .int .u32 0, .int .u32 0, .int .u16 0, .int .u16 0, .slice none 0 0, .slice none 0 0, .slice none 0 0, .slice none 0 0, .slice none 0 0])), (9, 3, m9_)] ∧ (Below W.heap.size W w') ∧ (b 9 = true → b 10 = false → w'.heap[g3]? = some (.cells (#[.int .u8 0, .int .u8 0, .int .u32 0, .int .u16 0, .int .u16 0, .int .u32 0, .int .u32 0, .int .u32 0, .int .u16 0, .int .u16 0, .slice none 0 0, .slice none 0 0, .slice none 0 0, .slice none 0 0, .slice none 0 0]) 41 (0, 0)) ∧ W.heap.size ≤ g3) ∧ (b 10 = true → w'.heap[g3]? = some (.cells (#[.int .u8 (11), .int .u8 (fl), .int .u32 0, .int .u16 0, .int .u16 0, .int .u32 0, .int .u32 0, .int .u32 0, .int .u16 0, .int .u16 0, .slice none 0 0, .slice none 0 0, .slice none 0 0, .slice none 0 0, .slice none 0 0]) 41 (0, 0)) ∧ W.heap.size ≤ g3) ∧ (b 9 = true → (m9_ : Value) = .pointer (some ⟨g3, 0, none⟩))) HT_.out HW_.out (by kernel_rfl) (by kernel_rfl) ?_ ?_ ?_
 ·exact ⟨0, .bool false, by simp only [putSel, Bool.false_eq_true, if_false], below_drew (Below.refl _ _), fun h_ => absurd h_ (by decide), fun h_ => absurd h_ (by decide), fun h_ => absurd h_ (by decide)⟩
 ·skip
  clear B
  refine sc rfl ?_ ?_
  ·rintro b a w' ⟨g3, m9_, ha, Q_B, Q_Z, Q_Z2, Q_X9_⟩ hb_ hon hoff K hK
   have e1 : a.tmps[1]? = some (.pointer (some ⟨w.heap.size, 0, none⟩)) := by rw [ha]; exact (putSel_off rfl).trans rfl
   replace ha := Am ha
   refine value_ (w1 := w') (v := .pointer (some ⟨w.heap.size, 0, none⟩)) (by rfl) rfl ?_ ?_
   ·go_simp
    (try simp only [i64_w])
    try rfl
   refine hK.out _ _ ⟨g3, m9_, (puk ha 0 hb_ rfl rfl rfl), Q_B, Q_Z, fun h0_ => hof (hoff 10 (by kernel_rfl)) h0_, Q_X9_⟩
  refine sc rfl ?_ ?_
  ·rintro b a w' ⟨g3, m9_, ha, Q_B, Q_Z, Q_Z2, Q_X9_⟩ hb_ hon hoff K hK
   have e4 := psn ha 0 rfl rfl (hon 0 (by kernel_rfl)) rfl
   replace ha := Am ha
   have B := Am Q_B
   have hs : w'.cell? ⟨w.heap.size, 0, none⟩ = some (.int .u8 11) := pw_cell_below B.out U0.out
   refine value_ (w1 := w') (v := .int .u8 11) (by rfl) rfl ?_ ?_
   ·go_simp
    (try simp only [i64_w])
    try rfl
   refine hK.out _ _ ⟨g3, m9_, (puk ha 1 hb_ rfl rfl rfl), Q_B, Q_Z, fun h0_ => hof (hoff 10 (by kernel_rfl)) h0_, Q_X9_⟩
  refine sc rfl ?_ ?_
  ·rintro b a w' ⟨g3, m9_, ha, Q_B, Q_Z, Q_Z2, Q_X9_⟩ hb_ hon hoff K hK
   have e1 : a.tmps[1]? = some (.pointer (some ⟨w.heap.size, 0, none⟩)) := by rw [ha]; exact (putSel_off rfl).trans rfl
   replace ha := Am ha
   refine value_ (w1 := w') (v := .pointer (some ⟨w.heap.size, 1, none⟩)) (by rfl) rfl ?_ ?_
   ·go_simp
    (try simp only [i64_w])
    try rfl
   refine hK.out _ _ ⟨g3, m9_, (puk ha 2 hb_ rfl rfl rfl), Q_B, Q_Z, fun h0_ => hof (hoff 10 (by kernel_rfl)) h0_, Q_X9_⟩
  refine sc rfl ?_ ?_
  ·rintro b a w' ⟨g3, m9_, ha, Q_B, Q_Z, Q_Z2, Q_X9_⟩ hb_ hon hoff K hK
   have e6 := psn ha 2 rfl rfl (hon 2 (by kernel_rfl)) rfl
   replace ha := Am ha
   have B := Am Q_B
   have hs : w'.cell? ⟨w.heap.size, 1, none⟩ = some (.int .u8 f1) := pw_cell_below B.out U1.out
   refine value_ (w1 := w') (v := .int .u8 f1) (by rfl) rfl ?_ ?_
   ·go_simp
    (try simp only [i64_w])
    try rfl
   refine hK.out _ _ ⟨g3, m9_, (puk ha 3 hb_ rfl rfl rfl), Q_B, Q_Z, fun h0_ => hof (hoff 10 (by kernel_rfl)) h0_, Q_X9_⟩
  refine sc rfl ?_ ?_
  ·rintro b a w' ⟨g3, m9_, ha, Q_B, Q_Z, Q_Z2, Q_X9_⟩ hb_ hon hoff K hK
   have e1 : a.tmps[1]? = some (.pointer (some ⟨w.heap.size, 0, none⟩)) := by rw [ha]; exact (putSel_off rfl).trans rfl
   replace ha := Am ha
   refine value_ (w1 := w') (v := .pointer (some ⟨w.heap.size, 0, none⟩)) (by rfl) rfl ?_ ?_
   ·go_simp
    (try simp only [i64_w])
    try rfl
   refine hK.out _ _ ⟨g3, m9_, (puk ha 4 hb_ rfl rfl rfl), Q_B, Q_Z, fun h0_ => hof (hoff 10 (by kernel_rfl)) h0_, Q_X9_⟩
  refine sc rfl ?_ ?_
  ·rintro b a w' ⟨g3, m9_, ha, Q_B, Q_Z, Q_Z2, Q_X9_⟩ hb_ hon hoff K hK
   have e8 := psn ha 4 rfl rfl (hon 4 (by kernel_rfl)) rfl
   replace ha := Am ha
   have B := Am Q_B
   have hs : w'.cell? ⟨w.heap.size, 0, none⟩ = some (.int .u8 11) := pw_cell_below B.out U0.out
   refine value_ (w1 := w') (v := .int .u8 11) (by rfl) rfl ?_ ?_
   ·go_simp
    (try simp only [i64_w])
    try rfl
   refine hK.out _ _ ⟨g3, m9_, (puk ha 5 hb_ rfl rfl rfl), Q_B, Q_Z, fun h0_ => hof (hoff 10 (by kernel_rfl)) h0_, Q_X9_⟩
  refine sc rfl ?_ ?_
  ·rintro b a w' ⟨g3, m9_, ha, Q_B, Q_Z, Q_Z2, Q_X9_⟩ hb_ hon hoff K hK
   have e9 := psn ha 5 rfl rfl (hon 5 (by kernel_rfl)) rfl
   replace ha := Am ha
   have B := Am Q_B
   refine goes_ Tryd.func88 (by kernel_rfl) rfl #[.int .u8 11] (by rfl) rfl rfl (by first | (simp only [List.map_toArray, List.map_cons, List.map_nil, Act.eval, Array.getD_eq_getD_getElem?, Option.getD_some, e9]; done) | (simp only [List.map_toArray, List.map_cons, List.map_nil, Act.eval, Array.getD_eq_getD_getElem?, Option.getD_some, e9]; rfl)) ?_
   refine (mask_calls 11 w').mono ?_
   rintro e w1 ⟨rfl, hD1⟩
   refine ⟨_, rfl, ?_⟩
   refine hK.out _ _ ⟨g3, m9_, (puk ha 6 hb_ rfl rfl rfl), below_then B.out B.out.size (drawn_below hD1), fun h0_ h1_ => ⟨blk_below (Q_Z h0_ h1_).1 (drawn_below hD1), (Q_Z h0_ h1_).2⟩, fun h0_ => hof (hoff 10 (by kernel_rfl)) h0_, Q_X9_⟩
  refine sc rfl ?_ ?_
  ·rintro b a w' ⟨g3, m9_, ha, Q_B, Q_Z, Q_Z2, Q_X9_⟩ hb_ hon hoff K hK
   have e7 := psn ha 3 rfl rfl (hon 3 (by kernel_rfl)) rfl
   have e10 := psn ha 6 rfl rfl (hon 6 (by kernel_rfl)) rfl
   replace ha := Am ha
   have B := Am Q_B
   refine value_ (w1 := w') (v := .int .u8 fl) (by rfl) rfl (by go_simp; first | done | exact HFL.out) ?_
   refine hK.out _ _ ⟨g3, m9_, (puk ha 7 hb_ rfl rfl rfl), B.out, fun h0_ h1_ => (Q_Z h0_ h1_), fun h0_ => hof (hoff 10 (by kernel_rfl)) h0_, Q_X9_⟩
  refine sc rfl ?_ ?_
  ·rintro b a w' ⟨g3, m9_, ha, Q_B, Q_Z, Q_Z2, Q_X9_⟩ hb_ hon hoff K hK
   have e5 := psn ha 1 rfl rfl (hon 1 (by kernel_rfl)) rfl
   have e11 := psn ha 7 rfl rfl (hon 7 (by kernel_rfl)) rfl
   replace ha := Am ha
   refine value_ (w1 := w') (v := .agg (#[.int .u8 (11), .int .u8 (fl), .int .u32 0, .int .u16 0, .int .u16 0, .int .u32 0, .int .u32 0, .int .u32 0, .int .u16 0, .int .u16 0, .slice none 0 0, .slice none 0 0, .slice none 0 0, .slice none 0 0, .slice none 0 0])) (by rfl) rfl ?_ ?_
   ·go_simp
    (try simp only [i64_w])
    try rfl
   refine hK.out _ _ ⟨g3, m9_, (puk ha 8 hb_ rfl rfl rfl), Q_B, Q_Z, fun h0_ => hof (hoff 10 (by kernel_rfl)) h0_, Q_X9_⟩
  refine sc rfl ?_ ?_
  ·rintro b a w' ⟨g3, m9_, ha, Q_B, Q_Z, Q_Z2, Q_X9_⟩ hb_ hon hoff K hK
   replace ha := Am ha
   have B := Am Q_B
   refine value_ (w1 := w'.alloc (.cells #[.int .u8 0, .int .u8 0, .int .u32 0, .int .u16 0, .int .u16 0, .int .u32 0, .int .u32 0, .int .u32 0, .int .u16 0, .int .u16 0, .slice none 0 0, .slice none 0 0, .slice none 0 0, .slice none 0 0, .slice none 0 0] 41)) (v := .pointer (some ⟨w'.heap.size, 0, none⟩)) (by rfl) rfl (by go_simp; try rfl) ?_
   refine hK.out _ _ ⟨w'.heap.size, (.pointer (some ⟨w'.heap.size, 0, none⟩)), (puk ha 9 hb_ rfl rfl rfl), B.out.alloc B.out.size _, fun _ _ => ⟨blk_new _ _, B.out.size⟩, fun h0_ => hof (hoff 10 (by kernel_rfl)) h0_, fun _ => rfl⟩
  refine sc rfl ?_ ?_
  ·rintro b a w' ⟨g3, m9_, ha, Q_B, Q_Z, Q_Z2, Q_X9_⟩ hb_ hon hoff K hK
   have e3 := psn ha 9 rfl rfl (hon 9 (by kernel_rfl)) rfl
   rw [Q_X9_ (hon 9 (by kernel_rfl))] at e3
   have e12 := psn ha 8 rfl rfl (hon 8 (by kernel_rfl)) rfl
   replace ha := Am ha
   have B := Am Q_B
   have Z := Am (Q_Z (hon 9 (by kernel_rfl)) hb_)
   refine skip_ (w1 := w'.setRow g3 (#[.int .u8 (11), .int .u8 (fl), .int .u32 0, .int .u16 0, .int .u16 0, .int .u32 0, .int .u32 0, .int .u32 0, .int .u16 0, .int .u16 0, .slice none 0 0, .slice none 0 0, .slice none 0 0, .slice none 0 0, .slice none 0 0])) (by rfl) rfl (exec_store_row 41 (.tmp 3) (.tmp 12) rfl (eval_of e3) (eval_of e12) Z.out.1 (by kernel_rfl) rfl (by simp [Value.oneCell'])) ?_
   refine hK.out _ _ ⟨g3, m9_, (by rw [ha.out]; exact putSel_none (v := undef) rfl), below_setRow B.out Z.out.2 _, fun _ h1_ => absurd ((up_self b 10).symm.trans h1_) (by decide), fun _ => ⟨setRow_heap _ _ _ _ _ _ Z.out.1, Z.out.2⟩, Q_X9_⟩
  exact steps_nil
 rintro b a w' hall ⟨g3, m9_, ha, Q_B, Q_Z, Q_Z2, Q_X9_⟩
 clear B
 have hb0_ := hall 0 (by kernel_rfl)
 have hb1_ := hall 1 (by kernel_rfl)
 have hb2_ := hall 2 (by kernel_rfl)
 have hb3_ := hall 3 (by kernel_rfl)
 have hb4_ := hall 4 (by kernel_rfl)
 have hb5_ := hall 5 (by kernel_rfl)
 have hb6_ := hall 6 (by kernel_rfl)
 have hb7_ := hall 7 (by kernel_rfl)
 have hb8_ := hall 8 (by kernel_rfl)
 have hb9_ := hall 9 (by kernel_rfl)
 have hb10_ := hall 10 (by kernel_rfl)
 subst ha
 obtain rfl := Q_X9_ hb9_
 simp only [putSel, hb0_, hb1_, hb2_, hb3_, hb4_, hb5_, hb6_, hb7_, hb8_, hb9_, hb10_, if_true, Act.put, List.setIfInBounds_toArray, List.set_cons_zero, List.set_cons_succ]
 have B := Am Q_B
 clear Q_B
 clear Q_Z
 have Z2 := Am (Q_Z2 hb10_)
 clear Q_Z2
 clear hall hb0_ hb1_ hb2_ hb3_ hb4_ hb5_ hb6_ hb7_ hb8_ hb9_ hb10_
 replace X : By w (CV ⟨11, f1, f2, f3, f4, f5, f6, f7, f8, f9, f10, f11, f12, f13, f14⟩ ⟨A10, c10, A11, c11, A12, c12, A13, c13, A14, c14⟩) (#[.int .u8 (11), .int .u8 (fl), .int .u32 0, .int .u16 0, .int .u16 0, .int .u32 0, .int .u32 0, .int .u32 0, .int .u16 0, .int .u16 0, .slice none 0 0, .slice none 0 0, .slice none 0 0, .slice none 0 0, .slice none 0 0]) g3 w' := ⟨X.below B.out, Z2.out.1, Nat.le_trans X.x3 Z2.out.2⟩
 replace U0 := Lh (pw_cell_below B.out U0.out)
 replace U1 := Lh (pw_cell_below B.out U1.out)
 replace U2 := Lh (pw_cell_below B.out U2.out)
 replace U3 := Lh (pw_cell_below B.out U3.out)
 replace U4 := Lh (pw_cell_below B.out U4.out)
 replace U5 := Lh (pw_cell_below B.out U5.out)
 replace U6 := Lh (pw_cell_below B.out U6.out)
 replace U7 := Lh (pw_cell_below B.out U7.out)
 replace U8 := Lh (pw_cell_below B.out U8.out)
 replace U9 := Lh (pw_cell_below B.out U9.out)
 replace U10 := Lh (pw_cell_below B.out U10.out)
 replace U11 := Lh (pw_cell_below B.out U11.out)
 replace U12 := Lh (pw_cell_below B.out U12.out)
 replace U13 := Lh (pw_cell_below B.out U13.out)
 replace U14 := Lh (pw_cell_below B.out U14.out)
 clear B Z2 HFL
 generalize w' = W at *
 have HN := Lh (show ¬ w.heap.size = g3 by have := X.hg; omega)
 have k0 := U0.out
 go_wp2_with (with_reducible refine gate_dst (N := 93) rfl ?_; go_must (refine wpList_ret_row 93 rfl rfl rfl (.tmp 3) (.tmp 2) rfl rfl rfl _ _ _ _ rfl rfl rfl X.x3 X.bx.x1 rfl rfl (by simp [Value.oneCell']) ?_))
 exact row_end rfl rfl rfl X.bx.x1 rfl X.bx.x2 (Nat.le_succ _) (by rw [← HFE.out]; rfl)
end Go.Proofs.YtdlamomabonkjaaDoor.Ch
end
section
namespace Go.Proofs.YtdlamomabonkjaaDoor.Ch
open Go.RowKit YtdlamomabonkjaaDoorW.PrintWords YtdlamomabonkjaaDoorW.PrintLast Base PCh ParDec ParEnc
set_option maxHeartbeats 4000000 in
theorem check_with (w : World) (x : Chk) (L : Lay) (hx : CR w x L) (hv : ValOk x L)
  (hbr : ∀ W, Below w.heap.size w W → Calls Tryd.prog 71 #[.agg (CV x L)] W fun e w' => e = .returned (.agg (CV (bareD x) (keepL (hasF x.f0) L))) ∧ Below W.heap.size W w')
  (hsm : ∀ W, Below w.heap.size w W → Calls Tryd.prog 38 #[.agg (CV x L), .agg (CV (bareD x) (keepL (hasF x.f0) L))] W fun e w' => e = .returned (.bool (decide (x = bareD x))) ∧ Below W.heap.size W w')
  (hen : ∀ W, Below w.heap.size w W → Calls Tryd.prog 74 #[.slice L.A14 x.f14.length L.c14] W fun e w' => ∃ v0 : Value, e = .returned (.tuple #[v0, .int .i64 (encP x.f14).2]) ∧ Kd.R (Kd.int .u8) 5 w' W.heap.size (fun _ => True) v0 (encP x.f14).1 ∧ Below W.heap.size W w') :
  Calls Tryd.prog 46 #[.agg (CV x L)] w fun e w' => e = .returned (.int .i64 (checkD x)) ∧ Below w.heap.size w w' := by
 have HBR := Lh hbr
 have HSM := Lh hsm
 have HEN := Lh hen
 have HXC := Lh (fun (W : World) (h : Below w.heap.size w W) => hx.below h)
 have HXS := Lh (show (Tryd.prog.info? 41).map (·.size) = some (CV x L).size by kernel_rfl)
 have HM13 := Lh hx.h13.2.1
 obtain ⟨CD, hcd⟩ : ∃ CD, checkD x = CD := ⟨_, rfl⟩
 have HCD := Lh hcd
 rw [hcd]
 have X := B1.new w x L
 clear hx hcd hbr hsm hen
 go_enter Tryd.func46, Tryd.ntmps46
 go_upto_region 1 with (fail)
 refine wp_gen (B1 w x L) X ?_
 clear X
 intro W X
 obtain ⟨q, hq⟩ : ∃ q, decide (x = bareD x) = q := ⟨_, rfl⟩
 rw [hq] at HSM
 have HQ := Lh hq
 clear hq
 have HX0 := Lh X
 have B := True.intro
 refine start_ (n := 6) (S := fun w' => True) (ds := []) #[false, false, false, false, false, false] (by kernel_rfl) rfl rfl trivial (fun hHeld => ?_)
 refine with_tabW checktab1 checkbits1 (fun HT_ HW_ => ?_)
 refine inv_at [0, 1, 2, 3, 4, 5] (fun a0_ b a w' => a = putSel a0_ b [(0, 6, .agg (CV x L)), (1, 7, .agg (CV x L)), (2, 8, .agg (CV (bareD x) (keepL (hasF x.f0) L))), (3, 9, .bool q), (4, 10, .bool (!q)), (5, 5, .bool (!q))] ∧ (Below W.heap.size W w')) HT_.out HW_.out (by kernel_rfl) (by kernel_rfl) ?_ ?_ ?_
 ·exact ⟨by simp only [putSel, Bool.false_eq_true, if_false], below_drew (Below.refl _ _)⟩
 ·skip
  clear B
  refine sc rfl ?_ ?_
  ·rintro b a w' ⟨ha, Q_B⟩ hb_ hon hoff K hK
   have e1 : a.tmps[1]? = some (.pointer (some ⟨w.heap.size, 0, none⟩)) := by rw [ha]; exact (putSel_off rfl).trans rfl
   replace ha := Am ha
   have B := Am Q_B
   refine value_ (w1 := w') (v := .agg (CV x L)) (by rfl) rfl (exec_load_row 41 (.tmp 1) rfl (eval_of e1) (blk_below HX0.out.x0 B.out) Tryd.underlying41 rfl HXS.out) ?_
   refine hK.out _ _ ⟨(puk ha 0 hb_ rfl rfl rfl), B.out⟩
  refine sc rfl ?_ ?_
  ·rintro b a w' ⟨ha, Q_B⟩ hb_ hon hoff K hK
   have e1 : a.tmps[1]? = some (.pointer (some ⟨w.heap.size, 0, none⟩)) := by rw [ha]; exact (putSel_off rfl).trans rfl
   replace ha := Am ha
   have B := Am Q_B
   refine value_ (w1 := w') (v := .agg (CV x L)) (by rfl) rfl (exec_load_row 41 (.tmp 1) rfl (eval_of e1) (blk_below HX0.out.x0 B.out) Tryd.underlying41 rfl HXS.out) ?_
   refine hK.out _ _ ⟨(puk ha 1 hb_ rfl rfl rfl), B.out⟩
  refine sc rfl ?_ ?_
  ·rintro b a w' ⟨ha, Q_B⟩ hb_ hon hoff K hK
   have e7 := psn ha 1 rfl rfl (hon 1 (by kernel_rfl)) rfl
   replace ha := Am ha
   have B := Am Q_B
   refine goes_ Tryd.func71 (by kernel_rfl) rfl #[.agg (CV x L)] (by rfl) rfl rfl (by first | (simp only [List.map_toArray, List.map_cons, List.map_nil, Act.eval, Array.getD_eq_getD_getElem?, Option.getD_some, e7]; done) | (simp only [List.map_toArray, List.map_cons, List.map_nil, Act.eval, Array.getD_eq_getD_getElem?, Option.getD_some, e7]; rfl)) ?_
   refine (HBR.out w' (HX0.out.below B.out).x2).mono ?_
   rintro e w1 ⟨rfl, hB1⟩
   refine ⟨_, rfl, ?_⟩
   refine hK.out _ _ ⟨(puk ha 2 hb_ rfl rfl rfl), B.out.trans (hB1.mono B.out.size)⟩
  refine sc rfl ?_ ?_
  ·rintro b a w' ⟨ha, Q_B⟩ hb_ hon hoff K hK
   have e6 := psn ha 0 rfl rfl (hon 0 (by kernel_rfl)) rfl
   have e8 := psn ha 2 rfl rfl (hon 2 (by kernel_rfl)) rfl
   replace ha := Am ha
   have B := Am Q_B
   refine goes_ Tryd.func38 (by kernel_rfl) rfl #[.agg (CV x L), .agg (CV (bareD x) (keepL (hasF x.f0) L))] (by rfl) rfl rfl (by first | (simp only [List.map_toArray, List.map_cons, List.map_nil, Act.eval, Array.getD_eq_getD_getElem?, Option.getD_some, e6, e8]; done) | (simp only [List.map_toArray, List.map_cons, List.map_nil, Act.eval, Array.getD_eq_getD_getElem?, Option.getD_some, e6, e8]; rfl)) ?_
   refine (HSM.out w' (HX0.out.below B.out).x2).mono ?_
   rintro e w1 ⟨rfl, hB1⟩
   refine ⟨_, rfl, ?_⟩
   refine hK.out _ _ ⟨(puk ha 3 hb_ rfl rfl rfl), B.out.trans (hB1.mono B.out.size)⟩
  refine sc rfl ?_ ?_
  ·rintro b a w' ⟨ha, Q_B⟩ hb_ hon hoff K hK
   have e9 := psn ha 3 rfl rfl (hon 3 (by kernel_rfl)) rfl
   replace ha := Am ha
   refine value_ (w1 := w') (v := .bool (!q)) (by rfl) rfl ?_ ?_
   ·go_simp
    (try simp only [i64_w])
    try rfl
   refine hK.out _ _ ⟨(puk ha 4 hb_ rfl rfl rfl), Q_B⟩
  refine sc rfl ?_ ?_
  ·rintro b a w' ⟨ha, Q_B⟩ hb_ hon hoff K hK
   have e10 := psn ha 4 rfl rfl (hon 4 (by kernel_rfl)) rfl
   replace ha := Am ha
   refine value_ (w1 := w') (v := .bool (!q)) (by rfl) rfl ?_ ?_
   ·go_simp
    (try simp only [i64_w])
    try rfl
   refine hK.out _ _ ⟨(puk ha 5 hb_ rfl rfl rfl), Q_B⟩
  exact steps_nil
 rintro b a w' hall ⟨ha, Q_B⟩
 clear B
 have hb0_ := hall 0 (by kernel_rfl)
 have hb1_ := hall 1 (by kernel_rfl)
 have hb2_ := hall 2 (by kernel_rfl)
 have hb3_ := hall 3 (by kernel_rfl)
 have hb4_ := hall 4 (by kernel_rfl)
 have hb5_ := hall 5 (by kernel_rfl)
 subst ha
 simp only [putSel, hb0_, hb1_, hb2_, hb3_, hb4_, hb5_, if_true, Act.put, List.setIfInBounds_toArray, List.set_cons_zero, List.set_cons_succ]
 have B := Am Q_B
 clear Q_B
 clear hall hb0_ hb1_ hb2_ hb3_ hb4_ hb5_
 replace X := X.below B.out
 clear B HBR HSM HX0
 generalize w' = W at *
 cases q with
 | false =>
  have hC : CD = 63 := by rw [← HCD.out]; unfold checkD; rw [if_pos HQ.out]
  subst hC
  go_wp2
  go_ret
  exact ⟨rfl, X.x2⟩
 | true =>
 have HXE := Lh (show x = bareD x from of_decide_eq_true HQ.out)
 have n1 : ¬ decide (x = bareD x) = false := by rw [HQ.out]; decide
 have hcd := HCD.out
 unfold checkD at hcd
 rw [if_neg n1] at hcd
 clear n1 HCD
 have k0 : W.cell? ⟨w.heap.size, 0, none⟩ = some (.int .u8 x.f0) := X.cell 0
 have k10 : W.cell? ⟨w.heap.size, 10, none⟩ = some (.slice L.A10 x.f10.length L.c10) := X.cell 10
 have k11 : W.cell? ⟨w.heap.size, 11, none⟩ = some (.slice L.A11 x.f11.length L.c11) := X.cell 11
 have k12 : W.cell? ⟨w.heap.size, 12, none⟩ = some (.slice L.A12 x.f12.length L.c12) := X.cell 12
 have k13 : W.cell? ⟨w.heap.size, 13, none⟩ = some (.slice L.A13 x.f13.length L.c13) := X.cell 13
 have k14 : W.cell? ⟨w.heap.size, 14, none⟩ = some (.slice L.A14 x.f14.length L.c14) := X.cell 14
 by_cases h62 : x.f0 = 0 ∧ x.f13.length = 0
 ·rw [if_pos h62] at hcd
  have q0 : (x.f0 == 0) = true := by simp [h62.1]
  have q13 : ((x.f13.length : Int) == 0) = true := by rw [h62.2]; rfl
  subst hcd
  clear h62
  go_wp2
  go_ret
  exact ⟨rfl, X.x2⟩
 rw [if_neg h62] at hcd
 have hbt : beatB x.f14 = true ∨ beatB x.f14 = false := by cases beatB x.f14 <;> simp
 by_cases h61 : (x.f0 = 4 ∨ x.f0 = 5) ∧ beatB x.f14 = false
 ·rw [if_pos h61] at hcd
  have q0 : (x.f0 == 0) = false := by simp; omega
  have HBT := Lh (fun (W' : World) (h : Below w.heap.size w W') => chunk_beat.calls x.f0 x.f1 x.f2 x.f3 x.f4 x.f5 x.f6 x.f7 x.f8 x.f9 L.A10 L.c10 x.f10 L.A11 L.c11 x.f11 L.A12 L.c12 x.f12 L.A13 L.c13 x.f13 L.A14 L.c14 x.f14 false W' (HXC.out W' h).h10 (HXC.out W' h).l10 (HXC.out W' h).h11 (HXC.out W' h).l11 (HXC.out W' h).h12 (HXC.out W' h).l12 (HXC.out W' h).h13 (HXC.out W' h).l13 (HXC.out W' h).h14 (HXC.out W' h).l14 (by rw [beat_f, h61.2]))
  have HIB := Lh (fun W' => isBeat_calls x.f0 W')
  rw [decide_eq_true h61.1] at HIB
  subst hcd
  clear h61 h62 hbt
  go_wp2_with fail
  refine (HIB.out _).mono ?_
  rintro e w2 ⟨rfl, ⟨m2, rfl⟩⟩
  replace X := X.drewN m2
  go_wp2_with (with_reducible refine gate_dst (N := 26) rfl ?_; go_must (refine step_on (wanted_on rfl rfl rfl rfl) (exec_load_row 41 (.tmp 1) rfl rfl X.x0 Tryd.underlying41 rfl HXS.out) ?_))
  refine (HBT.out _ X.x2).mono ?_
  rintro e w2 ⟨rfl, hB2⟩
  replace X := X.below hB2
  go_wp2
  go_ret
  exact ⟨rfl, X.x2⟩
 rw [if_neg h61] at hcd
 have HCD := Lh hcd
 clear hcd
 have hvar : (x.f0 = 0 ∧ ¬ x.f13.length = 0) ∨ (¬ x.f0 = 0 ∧ ¬ (x.f0 = 4 ∨ x.f0 = 5)) ∨ (¬ x.f0 = 0 ∧ (x.f0 = 4 ∨ x.f0 = 5) ∧ beatB x.f14 = true) := by
  by_cases a0 : x.f0 = 0
  ·exact Or.inl ⟨a0, fun e => h62 ⟨a0, e⟩⟩
  ·by_cases a4 : x.f0 = 4 ∨ x.f0 = 5
   ·exact Or.inr (Or.inr ⟨a0, a4, hbt.elim id (fun e => absurd ⟨a4, e⟩ h61)⟩)
   ·exact Or.inr (Or.inl ⟨a0, a4⟩)
 clear h61 h62 hbt
 rcases hvar with ⟨a0, a13⟩ | ⟨a0, a4⟩ | ⟨a0, a4, hbt⟩
 ·have HIB := Lh (fun W' => isBeat_calls x.f0 W')
  rw [decide_eq_false (by omega)] at HIB
  have q0 : (x.f0 == 0) = true := by simp [a0]
  have q13 : ((x.f13.length : Int) == 0) = false := by rw [beq_eq_false_iff_ne]; omega
  clear a0 a13
  go_wp2_with fail
  refine (HIB.out _).mono ?_
  rintro e w2 ⟨rfl, ⟨m2, rfl⟩⟩
  replace X := X.drewN m2
  go_upto_region 7 with (fail)
  refine wp_gen (B1 w x L) X ?_
  clear X k0 k10 k11 k12 k13 k14 q0 q13 HIB
  intro W X
  have k10 : W.cell? ⟨w.heap.size, 10, none⟩ = some (.slice L.A10 x.f10.length L.c10) := X.cell 10
  have k11 : W.cell? ⟨w.heap.size, 11, none⟩ = some (.slice L.A11 x.f11.length L.c11) := X.cell 11
  have k12 : W.cell? ⟨w.heap.size, 12, none⟩ = some (.slice L.A12 x.f12.length L.c12) := X.cell 12
  have k14 : W.cell? ⟨w.heap.size, 14, none⟩ = some (.slice L.A14 x.f14.length L.c14) := X.cell 14
  by_cases hm : 4096 < x.f10.length ∨ 4096 < x.f11.length ∨ 4096 < x.f12.length
  ·have hc := HCD.out
   rw [if_pos hm] at hc
   subst hc
   go_wp2
   all_goals first | (exfalso; omega) | (go_ret; exact ⟨rfl, X.x2⟩)
  have b10 : decide ((4096 : Int) < (x.f10.length : Int)) = false := by simp; omega
  have b11 : decide ((4096 : Int) < (x.f11.length : Int)) = false := by simp; omega
  have b12 : decide ((4096 : Int) < (x.f12.length : Int)) = false := by simp; omega
  have HCE := Lh HCD.out
  rw [if_neg hm] at HCE
  have l10 : x.f10.length ≤ 4096 := by omega
  have l11 : x.f11.length ≤ 4096 := by omega
  have l12 : x.f12.length ≤ 4096 := by omega
  have HEW := Lh (HEN.out W X.x2)
  by_cases he : (encP x.f14).2 = 0
  ·have HVL := Lh (fun (W' : World) (h : Below w.heap.size w W') => hv W' (HXC.out W' h) HXE.out l10 l11 l12 he)
   rw [if_neg (fun e => e he)] at HCE
   rw [he] at HEW
   clear hm he
   unfold ValP at HVL
   go_wp2_with fail
   refine HEW.out.mono ?_
   rintro e w3 ⟨v0, rfl, hR, hB3⟩
   obtain ⟨A0, c0, rfl⟩ := Kd.R_slice hR
   replace X := X.below hB3
   clear hR hB3 k10 k11 k12 k14
   go_wp2_with (with_reducible refine gate_dst (N := 52) rfl ?_; refine wpList_load_row rfl 41 (.tmp 1) rfl _ rfl 41 _ (0, 0) _ X.x0 Tryd.underlying41 rfl HXS.out ?_)
   refine (HVL.out _ X.x2).mono ?_
   rintro e w5 ⟨A9, c9, rfl, hle9, hC9, hB5⟩
   replace X := X.below hB5
   clear hC9 hB5 hle9
   generalize (valueD x).length = vl at *
   by_cases h2 : 65531 < vl
   ·have hc := HCE.out
    rw [if_pos h2] at hc
    subst hc
    go_wp2
    go_ret
    exact ⟨rfl, X.x2⟩
   ·have hc := HCE.out
    rw [if_neg h2] at hc
    subst hc
    go_wp2
    go_ret
    exact ⟨rfl, X.x2⟩
  ·have hc := HCE.out
   rw [if_pos he] at hc
   rw [hc] at HEW he
   have q : (CD != 0) = true := by simp [he]
   clear hm he hc
   go_wp2_with fail
   refine HEW.out.mono ?_
   rintro e w3 ⟨v0, rfl, hR, hB3⟩
   obtain ⟨A0, c0, rfl⟩ := Kd.R_slice hR
   replace X := X.below hB3
   clear hR hB3 k10 k11 k12 k14
   go_wp2
   go_ret
   exact ⟨rfl, X.x2⟩
 ·have HIB := Lh (fun W' => isBeat_calls x.f0 W')
  rw [decide_eq_false a4] at HIB
  have q0 : (x.f0 == 0) = false := by simp [a0]
  clear a0 a4
  go_wp2_with fail
  refine (HIB.out _).mono ?_
  rintro e w2 ⟨rfl, ⟨m2, rfl⟩⟩
  replace X := X.drewN m2
  go_upto_region 7 with (fail)
  refine wp_gen (B1 w x L) X ?_
  clear X k0 k10 k11 k12 k13 k14 q0 HIB
  intro W X
  have k10 : W.cell? ⟨w.heap.size, 10, none⟩ = some (.slice L.A10 x.f10.length L.c10) := X.cell 10
  have k11 : W.cell? ⟨w.heap.size, 11, none⟩ = some (.slice L.A11 x.f11.length L.c11) := X.cell 11
  have k12 : W.cell? ⟨w.heap.size, 12, none⟩ = some (.slice L.A12 x.f12.length L.c12) := X.cell 12
  have k14 : W.cell? ⟨w.heap.size, 14, none⟩ = some (.slice L.A14 x.f14.length L.c14) := X.cell 14
  by_cases hm : 4096 < x.f10.length ∨ 4096 < x.f11.length ∨ 4096 < x.f12.length
  ·have hc := HCD.out
   rw [if_pos hm] at hc
   subst hc
   go_wp2
   all_goals first | (exfalso; omega) | (go_ret; exact ⟨rfl, X.x2⟩)
  have b10 : decide ((4096 : Int) < (x.f10.length : Int)) = false := by simp; omega
  have b11 : decide ((4096 : Int) < (x.f11.length : Int)) = false := by simp; omega
  have b12 : decide ((4096 : Int) < (x.f12.length : Int)) = false := by simp; omega
  have HCE := Lh HCD.out
  rw [if_neg hm] at HCE
  have l10 : x.f10.length ≤ 4096 := by omega
  have l11 : x.f11.length ≤ 4096 := by omega
  have l12 : x.f12.length ≤ 4096 := by omega
  have HEW := Lh (HEN.out W X.x2)
  by_cases he : (encP x.f14).2 = 0
  ·have HVL := Lh (fun (W' : World) (h : Below w.heap.size w W') => hv W' (HXC.out W' h) HXE.out l10 l11 l12 he)
   rw [if_neg (fun e => e he)] at HCE
   rw [he] at HEW
   clear hm he
   unfold ValP at HVL
   go_wp2_with fail
   refine HEW.out.mono ?_
   rintro e w3 ⟨v0, rfl, hR, hB3⟩
   obtain ⟨A0, c0, rfl⟩ := Kd.R_slice hR
   replace X := X.below hB3
   clear hR hB3 k10 k11 k12 k14
   go_wp2_with (with_reducible refine gate_dst (N := 52) rfl ?_; refine wpList_load_row rfl 41 (.tmp 1) rfl _ rfl 41 _ (0, 0) _ X.x0 Tryd.underlying41 rfl HXS.out ?_)
   refine (HVL.out _ X.x2).mono ?_
   rintro e w5 ⟨A9, c9, rfl, hle9, hC9, hB5⟩
   replace X := X.below hB5
   clear hC9 hB5 hle9
   generalize (valueD x).length = vl at *
   by_cases h2 : 65531 < vl
   ·have hc := HCE.out
    rw [if_pos h2] at hc
    subst hc
    go_wp2
    go_ret
    exact ⟨rfl, X.x2⟩
   ·have hc := HCE.out
    rw [if_neg h2] at hc
    subst hc
    go_wp2
    go_ret
    exact ⟨rfl, X.x2⟩
  ·have hc := HCE.out
   rw [if_pos he] at hc
   rw [hc] at HEW he
   have q : (CD != 0) = true := by simp [he]
   clear hm he hc
   go_wp2_with fail
   refine HEW.out.mono ?_
   rintro e w3 ⟨v0, rfl, hR, hB3⟩
   obtain ⟨A0, c0, rfl⟩ := Kd.R_slice hR
   replace X := X.below hB3
   clear hR hB3 k10 k11 k12 k14
   go_wp2
   go_ret
   exact ⟨rfl, X.x2⟩
 ·have HIB := Lh (fun W' => isBeat_calls x.f0 W')
  rw [decide_eq_true a4] at HIB
  have HBT := Lh (fun (W' : World) (h : Below w.heap.size w W') => chunk_beat.calls x.f0 x.f1 x.f2 x.f3 x.f4 x.f5 x.f6 x.f7 x.f8 x.f9 L.A10 L.c10 x.f10 L.A11 L.c11 x.f11 L.A12 L.c12 x.f12 L.A13 L.c13 x.f13 L.A14 L.c14 x.f14 true W' (HXC.out W' h).h10 (HXC.out W' h).l10 (HXC.out W' h).h11 (HXC.out W' h).l11 (HXC.out W' h).h12 (HXC.out W' h).l12 (HXC.out W' h).h13 (HXC.out W' h).l13 (HXC.out W' h).h14 (HXC.out W' h).l14 (by rw [beat_f, hbt]))
  have q0 : (x.f0 == 0) = false := by simp [a0]
  clear a0 a4 hbt
  go_wp2_with fail
  refine (HIB.out _).mono ?_
  rintro e w2 ⟨rfl, ⟨m2, rfl⟩⟩
  replace X := X.drewN m2
  go_wp2_with (with_reducible refine gate_dst (N := 26) rfl ?_; go_must (refine step_on (wanted_on rfl rfl rfl rfl) (exec_load_row 41 (.tmp 1) rfl rfl X.x0 Tryd.underlying41 rfl HXS.out) ?_))
  refine (HBT.out _ X.x2).mono ?_
  rintro e w2 ⟨rfl, hB2⟩
  replace X := X.below hB2
  clear hB2
  go_upto_region 7 with (fail)
  refine wp_gen (B1 w x L) X ?_
  clear X k0 k10 k11 k12 k13 k14 q0 HIB HBT
  intro W X
  have k10 : W.cell? ⟨w.heap.size, 10, none⟩ = some (.slice L.A10 x.f10.length L.c10) := X.cell 10
  have k11 : W.cell? ⟨w.heap.size, 11, none⟩ = some (.slice L.A11 x.f11.length L.c11) := X.cell 11
  have k12 : W.cell? ⟨w.heap.size, 12, none⟩ = some (.slice L.A12 x.f12.length L.c12) := X.cell 12
  have k14 : W.cell? ⟨w.heap.size, 14, none⟩ = some (.slice L.A14 x.f14.length L.c14) := X.cell 14
  by_cases hm : 4096 < x.f10.length ∨ 4096 < x.f11.length ∨ 4096 < x.f12.length
  ·have hc := HCD.out
   rw [if_pos hm] at hc
   subst hc
   go_wp2
   all_goals first | (exfalso; omega) | (go_ret; exact ⟨rfl, X.x2⟩)
  have b10 : decide ((4096 : Int) < (x.f10.length : Int)) = false := by simp; omega
  have b11 : decide ((4096 : Int) < (x.f11.length : Int)) = false := by simp; omega
  have b12 : decide ((4096 : Int) < (x.f12.length : Int)) = false := by simp; omega
  have HCE := Lh HCD.out
  rw [if_neg hm] at HCE
  have l10 : x.f10.length ≤ 4096 := by omega
  have l11 : x.f11.length ≤ 4096 := by omega
  have l12 : x.f12.length ≤ 4096 := by omega
  have HEW := Lh (HEN.out W X.x2)
  by_cases he : (encP x.f14).2 = 0
  ·have HVL := Lh (fun (W' : World) (h : Below w.heap.size w W') => hv W' (HXC.out W' h) HXE.out l10 l11 l12 he)
   rw [if_neg (fun e => e he)] at HCE
   rw [he] at HEW
   clear hm he
   unfold ValP at HVL
   go_wp2_with fail
   refine HEW.out.mono ?_
   rintro e w3 ⟨v0, rfl, hR, hB3⟩
   obtain ⟨A0, c0, rfl⟩ := Kd.R_slice hR
   replace X := X.below hB3
   clear hR hB3 k10 k11 k12 k14
   go_wp2_with (with_reducible refine gate_dst (N := 52) rfl ?_; refine wpList_load_row rfl 41 (.tmp 1) rfl _ rfl 41 _ (0, 0) _ X.x0 Tryd.underlying41 rfl HXS.out ?_)
   refine (HVL.out _ X.x2).mono ?_
   rintro e w5 ⟨A9, c9, rfl, hle9, hC9, hB5⟩
   replace X := X.below hB5
   clear hC9 hB5 hle9
   generalize (valueD x).length = vl at *
   by_cases h2 : 65531 < vl
   ·have hc := HCE.out
    rw [if_pos h2] at hc
    subst hc
    go_wp2
    go_ret
    exact ⟨rfl, X.x2⟩
   ·have hc := HCE.out
    rw [if_neg h2] at hc
    subst hc
    go_wp2
    go_ret
    exact ⟨rfl, X.x2⟩
  ·have hc := HCE.out
   rw [if_pos he] at hc
   rw [hc] at HEW he
   have q : (CD != 0) = true := by simp [he]
   clear hm he hc
   go_wp2_with fail
   refine HEW.out.mono ?_
   rintro e w3 ⟨v0, rfl, hR, hB3⟩
   obtain ⟨A0, c0, rfl⟩ := Kd.R_slice hR
   replace X := X.below hB3
   clear hR hB3 k10 k11 k12 k14
   go_wp2
   go_ret
   exact ⟨rfl, X.x2⟩
end Go.Proofs.YtdlamomabonkjaaDoor.Ch
end
section
namespace Go.Proofs.YtdlamomabonkjaaDoor.Pk
open Go.RowKit YtdlamomabonkjaaDoorW.PrintWords YtdlamomabonkjaaDoorW.PrintLast Base PCh ParDec ParEnc Ch Crc CrcMath
theorem av_bare : bareD avX = avX := by
 unfold bareD
 rw [show flD avX.f0 avX.f1 = 0 from by rfl]
 rfl
theorem av_value : valueD avX = [] := by rfl
theorem av_check : checkD avX = 0 := by
 unfold checkD
 rw [av_bare, if_neg (by simp), if_neg (by simp [avX]), if_neg (by simp [avX]), if_neg (by simp [avX]), if_neg (by simp [avX, encP, runB]), av_value, if_neg (by simp)]
theorem value_av (b0 : Nat) (w : World) (L : Lay) (hb0 : b0 ≤ w.heap.size) :
  Calls Tryd.prog 52 #[.agg (CV avX L)] w (ValQ b0 (valueD avX) w) := by
 rw [av_value]
 have X := VX.new w avX L
 have E0 := Lh (show (CV avX L)[0]? = some (.int .u8 11) from rfl)
 go_enter Tryd.func52, Tryd.ntmps52
 go_upto_region 2 with (fail)
 refine wp_gen (VX w avX L []) X ?_
 clear X
 intro W X
 have k0 : W.cell? ⟨w.heap.size, 0, none⟩ = some (.int .u8 11) := (X.cell 0).trans E0.out
 obtain ⟨u, hg, hR⟩ := X.ws
 obtain ⟨Au, cu, rfl⟩ := Kd.R_slice hR
 have k9 : W.cell? ⟨w.heap.size + 1, 0, none⟩ = some (.slice Au [].length cu) := blk_cell hg 0
 have HR := Lh hR
 have HB := Lh X.bl
 clear hg hR X
 go_wp2
 go_ret
 exact ValQ.of_R HR.out (by omega) HB.out
theorem check_av (w : World) (L : Lay) (hx : CR w avX L) : Calls Tryd.prog 46 #[.agg (CV avX L)] w fun e w' => e = .returned (.int .i64 (checkD avX)) ∧ Below w.heap.size w w' := by
 refine check_with w avX L hx (fun W hW _ _ _ _ _ => (value_av W.heap.size W L (Nat.le_refl _)).mono fun e w' h => h.P) (fun W h => bare_none W avX L (hx.below h) rfl) (fun W h => ?_) (fun W h => ?_)
 ·rw [av_bare, decide_eq_true rfl]
  exact same_av W L _
 ·refine (enc_none W L.A14 L.c14).mono ?_
  rintro e w' ⟨rfl, hB⟩
  exact ⟨_, rfl, Kd.R_nil _ _ _ _ _, hB⟩
theorem encode_av (w : World) (A : Option Addr) (c : Nat) (hC : Kd.C k41 w A [avX].length [avX]) :
  Calls Tryd.prog 28 #[.slice A [avX].length c] w fun e w' => ∃ v, e = .returned (.tuple #[v, .int .i64 (encD [avX]).2]) ∧ (Kd.int .u8).R 5 w' w.heap.size (fun _ => True) v (encD [avX]).1 ∧ Below w.heap.size w w' :=
 encode_chunks w A c [avX] hC (fun x hx W L hW => by
  obtain rfl := List.mem_singleton.1 hx
  exact check_av W L hW) (fun x hx _ W L hb hW => by
  obtain rfl := List.mem_singleton.1 hx
  exact value_av w.heap.size W L hb)
end Go.Proofs.YtdlamomabonkjaaDoor.Pk
end
section
namespace Go.Proofs.YtdlamomabonkjaaDoor.Pk
open Go.RowKit YtdlamomabonkjaaDoorW.PrintWords YtdlamomabonkjaaDoorW.PrintLast Base PCh ParDec ParEnc Ch Crc CrcMath
def avL : Lay := ⟨none, 0, none, 0, none, 0, none, 0, none, 0⟩
theorem av_enc : encD [avX] = ([11, 0, 0, 4], 0) := by
 unfold encD chkAll
 rw [if_pos av_check, chkAll, if_pos rfl, runE]
 have h : [] ++ chunkL avX = [11, 0, 0, 4] := by
  unfold chunkL
  rw [av_value]
  rfl
 rw [h, if_neg (by decide), runE]
theorem av_ok : OkC avX := ⟨(show 0 ≤ (11 : Int) ∧ (11 : Int) < 256 by omega), (show 0 ≤ (0 : Int) ∧ (0 : Int) < 256 by omega), z32, z16, z16, z32, z32, z32, z16, z16, nog, nog, noi, noi, nop, by decide⟩
theorem av_pk : PkOk 1 2 3 [avX] := ⟨by decide, by decide, by decide, by decide, by unfold in32; omega, fun x hx => by rw [List.mem_singleton.1 hx]; exact av_ok⟩
theorem av_penc : pencD 1 2 3 [avX] = (putL (bytesOf (headL 1 2 3 ++ [11, 0, 0, 4])), 0) := by
 have h := penc_ok (f := 1) (t := 2) (q := 3) (l := [avX]) (by decide) (by decide) (by decide) rfl (by rw [av_enc]) (by rw [av_enc]; decide)
 rw [av_enc] at h
 exact h
theorem av_len : (pencD 1 2 3 [avX]).1.length = 16 := by
 rw [av_penc]
 show (putL _).length = 16
 rw [putL_length]
 rfl
theorem av_12 : (pencD 1 2 3 [avX]).1.getD 12 0 = 11 := by
 have h : ∀ l : List UInt8, l.getD 12 0 = (l.drop 12).getD 0 0 := fun l => by simp [List.getD_eq_getElem?_getD, List.getElem?_drop]
 rw [h, av_penc]
 show ((putL _).drop 12).getD 0 0 = 11
 rw [(put_take _ (by decide)).2]
 rfl
theorem av_back : preadD (pencD 1 2 3 [avX]).1 true = ⟨1, 2, 3, [avX], 0, 0⟩ := (pback av_pk (by rw [av_penc])).1
theorem CR_av (w : World) : CR w avX avL := ⟨Nat.le_refl _, Kd.C_nil _ _, Nat.le_refl _, Kd.C_nil _ _, Nat.le_refl _, Kd.C_nil _ _, Nat.le_refl _, Kd.C_nil _ _, Nat.le_refl _, Kd.C_nil _ _⟩
theorem av_drop : (pencD 1 2 3 [avX]).1.drop 12 = [11, 0, 0, 4] := by
 rw [av_penc]
 show (putL _).drop 12 = _
 rw [(put_take _ (by decide)).2]
 rfl
theorem av_all : AllOk ((pencD 1 2 3 [avX]).1.drop 12) := by
 rw [av_drop]
 intro W A c hb hc hv
 refine all_with W A [11, 0, 0, 4] c hb hc hv fun at_ W B d hlt hB hd => decC_with W B (([11, 0, 0, 4] : List UInt8).drop at_) d hB hd (by rw [List.length_drop]; simp; omega) ?_
 intro h4 kd fl v hk hv2 w0 w g gc j1 j2 j3 j4 j5 j6 j7
 have ha : at_ = 0 := by
  rw [List.length_drop] at h4
  simp at h4
  omega
 subst ha
 obtain rfl : kd = 11 := hk.symm
 exact read_none w0 w g gc v 11 fl j1 j2 j3 j4 j5 j6 j7 (Or.inr (Or.inl rfl))
set_option maxHeartbeats 4000000 in
theorem alive_calls (w : World) (hT : Table w) : Calls Tryd.prog 11 #[] w fun e w' => e = .returned (.bool true) ∧ Below w.heap.size w w' := by
 have HT := Lh (fun (W : World) (h : Below w.heap.size w W) => hT.below h)
 have HE := Lh (fun (W : World) (h : Below w.heap.size w W) (g : Nat) (hb : W.heap[g]? = some (.cells (CV avX avL) 41 (0, 0))) => pencode_with W 1 2 3 (some ⟨g, 0, none⟩) 1 [avX] (hT.below h) (chk_row1 hb (CR_av W)) (by decide) (fun W' h' => encode_av W' _ 1 (Kd.C_below (chk_row1 hb (CR_av W)) h')) (enc_in av_pk.ok) (fun _ => by rw [av_enc]; decide))
 have HD := Lh (fun (W : World) (h : Below w.heap.size w W) (A : Option Addr) (c : Nat) (hb : byte.C W A (pencD 1 2 3 [avX]).1.length (pencD 1 2 3 [avX]).1) (hc : (pencD 1 2 3 [avX]).1.length ≤ c) => pdecode_with W A (pencD 1 2 3 [avX]).1 c (hT.below h) hb hc (by rw [av_len]; decide) av_all)
 rw [av_back] at HD
 unfold ReadPP at HD
 have HP2 := Lh (show (pencD 1 2 3 [avX]).2 = 0 by rw [av_penc])
 have HPL := Lh av_len
 have HP12 := Lh av_12
 rw [HP2.out] at HE
 generalize (pencD 1 2 3 [avX]).1 = V at *
 clear hT HP2
 obtain ⟨g, hg⟩ : ∃ g, w.heap.size = g := ⟨_, rfl⟩
 have HG := Lh hg
 clear hg
 go_enter Tryd.func11, Tryd.ntmps11
 go_wp2_with fail
 refine (HE.out _ (below_alloc (Below.refl _ _) _) w.heap.size (by first | exact blk_new _ _ | (rw [HG.out]; exact blk_new _ _))).mono ?_
 rintro e W1 ⟨v, rfl, hR, hB1⟩
 obtain ⟨A1, c1, rfl, hle, hC⟩ := Kd.R_reads hR
 have HB1 := Lh (below_then (below_alloc (Below.refl w.heap.size w) _) (by simp) hB1)
 have HDD := Lh (HD.out W1 HB1.out A1 c1 hC hle)
 obtain ⟨ad, rfl, x12⟩ := byte_at hC 12 (by rw [HPL.out]; decide)
 have X12 := Lh (fun (W : World) (h : Below W1.heap.size W1 W) => (show W.cell? ⟨ad.block, ad.off + 12, none⟩ = some (.int .u8 11) by
  have h1 := pw_cell_below h x12
  rw [HP12.out, show ad.add 12 = ad.add (0 + 12) from rfl, add_field _ _ 12 (by omega)] at h1
  exact h1))
 rw [HPL.out] at HDD ⊢
 clear hR hB1 hC hle x12 HE HD HPL HP12
 go_wp2_with fail
 refine HDD.out.mono ?_
 rintro e W2 ⟨v2, rfl, hR2, hB2⟩
 obtain ⟨A2, c2, rfl, hle2, hC2⟩ := Kd.R_reads hR2
 obtain ⟨ad2, x2, L2, rfl, hd2, _, hc2, hx2⟩ := chk_at hC2 0 (by decide)
 obtain rfl : x2 = avX := by
  have h : ([avX] : List Chk) = x2 :: [] := hd2
  exact (List.cons.inj h).1.symm
 have HB2 := Lh (below_then HB1.out HB1.out.size hB2)
 have XC := Lh (fun (W : World) (h : Below W2.heap.size W2 W) => (show W.cell? ad2 = some (.int .u8 11) from by
  have h1 := pw_cell_below h (hc2 0 _ rfl)
  rw [Nat.zero_mul] at h1
  have h0 : ∀ a : Addr, (a.add 0).add 0 = a := fun a => by
   rw [show a.add 0 = a from rfl]
   rfl
  rw [h0] at h1
  exact h1))
 have X13 := Lh (fun (W : World) (h : Below W2.heap.size W2 W) => X12.out W (below_then hB2 hB2.size h))
 clear hR2 hB2 hC2 hle2 hd2 hc2 hx2 X12 HDD
 obtain ⟨g2, hg2⟩ : ∃ g, W2.heap.size = g := ⟨_, rfl⟩
 have HG2 := Lh hg2
 clear hg2
 go_upto_region 5 with (fail)
 refine wp_gen (fun W => W.heap[W2.heap.size]? = some (.cells #[.int .u16 1, .int .u16 2, .int .u32 3, .slice (some ad2) 1 c2] 26 (0, 0)) ∧ Below W2.heap.size W2 W) ⟨by first | exact blk_new _ _ | exact blk_put (blk_new _ _) 0 _ rfl, below_alloc (Below.refl _ _) _⟩ ?_
 rintro W3 ⟨h3, hB3⟩
 rw [HG2.out] at h3 ⊢
 have k2 : W3.cell? ⟨g2, 2, none⟩ = some (.int .u32 3) := blk_cell h3 2
 have k3 : W3.cell? ⟨g2, 3, none⟩ = some (.slice (some ad2) 1 c2) := blk_cell h3 3
 have kc := XC.out W3 hB3
 have kb := X13.out W3 hB3
 have HB3 := Lh (below_then HB2.out HB2.out.size hB3)
 clear h3 hB3 XC X13
 go_wp2
 go_ret
 exact ⟨rfl, HB3.out⟩
end Go.Proofs.YtdlamomabonkjaaDoor.Pk
end
section
namespace Go.Proofs.YtdlamomabonkjaaDoor.Pk
open Go.RowKit YtdlamomabonkjaaDoorW.PrintWords YtdlamomabonkjaaDoorW.PrintLast Base PCh ParDec ParEnc Ch Crc CrcMath
theorem row_at {w : World} {A : Option Addr} {rows : List (List Chk)} (h : (Kd.slice 41 k41).C w A rows.length rows) (i : Nat) (hi : i < rows.length) : ∃ ad B d, A = some ad ∧ w.cell? (ad.add i) = some (.slice B (rows.getD i []).length d) ∧ (rows.getD i []).length ≤ d ∧ Kd.C k41 w B (rows.getD i []).length (rows.getD i []) := by
 obtain ⟨ad, c, e, _, hK, hc0⟩ := Kd.C_get h ([] : List Chk) (i : Int) (by omega) (by omega)
 rw [Int.toNat_natCast] at hK hc0
 obtain ⟨B, d, rfl, hle, hC⟩ := hK
 have := hc0 0 _ rfl
 exact ⟨ad, B, d, e, by simpa [Kd.slice] using this, hle, hC⟩
theorem bund_mem (mtu : Int) (l : List Chk) : ∀ r ∈ (bundD mtu l).1, ∀ x ∈ r, x ∈ l := by
 unfold bundD
 by_cases h1 : mtu < 100 ∨ 1500 < mtu
 ·rw [if_pos h1]
  intro r hr
  cases hr
 rw [if_neg h1]
 by_cases h2 : chkAll l = 0
 ·rw [if_pos h2]
  by_cases h3 : ∀ x ∈ l, 12 + sizeD x ≤ mtu.toNat
  ·rw [if_pos h3]
   exact rows_mem (P := fun x => x ∈ l) (rows_ok (binv_rows l (fun x hx => chkAll_mem h2 hx) h3).1) (fun x hx => hx)
  ·rw [if_neg h3]
   intro r hr
   cases hr
 ·rw [if_neg h2]
  intro r hr
  cases hr
end Go.Proofs.YtdlamomabonkjaaDoor.Pk
end
