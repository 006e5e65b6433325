/- The statement PacketEncodes of ropewalk/ropewalklaw07.PacketEncodes. Proved from the walk Pk.encodes_row. Condition: the listed package variables read as the program's text lays them (tied by the card). -/
import Derived.Test.YtdlamomabonkjaaDoorUb5
import Derived.Lib.LaidTab
import Derived.Test.YtdlamomabonkjaaDoorCards
import Derived.Test.YtdlamomabonkjaaDoorTie
set_option maxRecDepth 100000
set_option linter.unusedVariables false
set_option linter.unusedSimpArgs false
section
namespace Go.Proofs.YtdlamomabonkjaaDoor.Pk
open Go.RowKit YtdlamomabonkjaaDoorW.PrintWords YtdlamomabonkjaaDoorW.PrintLast Base PCh ParDec ParEnc Ch Crc CrcMath
def rpeT10 : Bool × List (List Nat × List Nat) := (true, [([], []), ([0], [0]), ([1], [1]), ([], []), ([3], [3]), ([4, 2], [4]), ([2, 5, 5], [2, 5]), ([], []), ([7], [7]), ([8, 6], [8]), ([6, 9, 9], [6, 9]), ([10, 10, 0, 1, 2, 3, 4, 5, 6, 7, 8, 9, 10], [10])])
def rpeB10 : List Nat := [0, 1, 3, 0, 8, 31, 63, 0, 128, 511, 1023, 2047]
theorem rpetab10 : Go.Proofs.YtdlamomabonkjaaDoorW.PrintLast.rtab .any (Go.Proofs.YtdlamomabonkjaaDoorW.PrintLast.opsOf Tryd.f16 10) = rpeT10 := by kernel_rfl
theorem rpebits10 : Go.Proofs.YtdlamomabonkjaaDoorW.PrintLast.waitsOk rpeT10.2 rpeB10 = true := by kernel_rfl
theorem two_calls (n : Int) (w : World) : Calls Tryd.prog 41 #[.int .u16 n] w fun e w' => ∃ v, e = .returned v ∧ (Kd.int .u8).R 5 w' w.heap.size (fun _ => True) v (twoL [n]) ∧ Below w.heap.size w w' := by
 refine ropewalkref05_Two.calls n (twoL [n]) w ?_
 unfold ropewalkref05_Two.f
 rfl
theorem four_calls (n : Int) (w : World) : Calls Tryd.prog 42 #[.int .u32 n] w fun e w' => ∃ v, e = .returned v ∧ (Kd.int .u8).R 5 w' w.heap.size (fun _ => True) v (fourL [n]) ∧ Below w.heap.size w w' := by
 refine ropewalkref05_Four.calls n (fourL [n]) w ?_
 unfold ropewalkref05_Four.f
 rfl
set_option maxHeartbeats 4000000 in
theorem rpencode_calls (w : World) (f t q : Int) (A : Option Addr) (c : Nat) (l : List Chk) (hf : 0 ≤ f) (ht0 : 0 ≤ t) (hl : Kd.C k41 w A l.length l) (hc : l.length ≤ c) (hok : ∀ x ∈ l, OkC x) (hin : ∀ b ∈ (encD l).1, inB b) (hen : (encD l).2 = 0 → (encD l).1.length ≤ 65536) :
  Calls Tryd.prog 16 #[.agg #[.int .u16 f, .int .u16 t, .int .u32 q, .slice A l.length c]] w fun e w' => ∃ v, e = .returned (.tuple #[v, .int .i64 (pencD f t q l).2]) ∧ byte.R 5 w' w.heap.size (fun _ => True) v (pencD f t q l).1 ∧ Below w.heap.size w w' := by
 have HA := Lib.hid (fun (W : World) (hW : Below w.heap.size w W) => mixed_calls W A c l (Kd.C_below hl hW) hc)
 have HE := Lib.hid (fun (W : World) (hW : Below w.heap.size w W) => rencode_calls W A c l (Kd.C_below hl hW) hok)
 have H2F := Lib.hid (fun (W : World) => two_calls f W)
 have H2T := Lib.hid (fun (W : World) => two_calls t W)
 have H4Q := Lib.hid (fun (W : World) => four_calls q W)
 obtain ⟨D, hD⟩ : ∃ D, pencD f t q l = D := ⟨_, rfl⟩
 rw [hD]
 unfold pencD at hD
 obtain ⟨g, hg⟩ : ∃ g, w.heap.size = g := ⟨_, rfl⟩
 have HG := Lib.hid hg
 have hpb : (decide (0 < f) && decide (0 < t)) = (!(f == 0) && !(t == 0)) := by
  have key : ∀ z : Int, 0 ≤ z → decide (0 < z) = !(z == 0) := fun z hz => by
   by_cases h : z = 0
   ·subst h; rfl
   ·rw [decide_eq_true (by omega)]; simp [h]
  rw [key f hf, key t ht0]
 rw [hpb] at hD
 generalize apartB l = ab at *
 have HIN := Lib.hid hin
 have HEN := Lib.hid hen
 clear hin hen hpb
 generalize (encD l).2 = ec at *
 generalize (encD l).1 = eb at *
 clear hl hc hok hg
 have hln : ((l.length : Int) = 0) = (l.length = 0) := by simp
 have HLN := Lib.hid hln
 clear hln
 have HD := Lib.hid hD
 clear hD
 go_enter Tryd.func16, Tryd.ntmps16
 go_upto_region 1 with (fail)
 refine wp_gen (fun W => Below w.heap.size w W ∧ W.heap[w.heap.size]? = some (.cells #[.int .u16 f, .int .u16 t, .int .u32 q, .slice A l.length c] 26 (0, 0))) ⟨below_alloc (Below.refl _ _) _, blk_new w _⟩ ?_
 rintro W0 ⟨hB0, hb0⟩
 rw [HG.out] at hb0 ⊢
 have HB0 := Lib.hid hB0
 have HBK := Lib.hid (fun (W : World) (h : Below W0.heap.size W0 W) => blk_below hb0 h)
 have k0 : W0.cell? ⟨g, 0, none⟩ = some (.int .u16 f) := blk_cell hb0 0
 have k1 : W0.cell? ⟨g, 1, none⟩ = some (.int .u16 t) := blk_cell hb0 1
 have k3 : W0.cell? ⟨g, 3, none⟩ = some (.slice A l.length c) := blk_cell hb0 3
 clear hb0 hB0
 by_cases h0 : f = 0
 ·have e0 : (f == 0) = true := by simp [h0]
  have hd := HD.out
  rw [e0, if_pos (by rfl)] at hd
  have HD1 := Lib.hid hd
  clear hd HD h0 HA HE HEN HIN hf ht0
  go_wp2
  go_ret2
  rw [← HD1.out]
  exact ⟨_, rfl, Kd.R_nil _ _ _ _ _, HB0.out⟩
 have e0 : (f == 0) = false := by simp [h0]
 by_cases h1 : t = 0
 ·have e1 : (t == 0) = true := by simp [h1]
  have hd := HD.out
  rw [e0, e1, if_pos (by rfl)] at hd
  have HD1 := Lib.hid hd
  clear hd HD h0 h1 HA HE HEN HIN hf ht0
  go_wp2
  go_ret2
  rw [← HD1.out]
  exact ⟨_, rfl, Kd.R_nil _ _ _ _ _, HB0.out⟩
 have e1 : (t == 0) = false := by simp [h1]
 have hd := HD.out
 rw [e0, e1, if_neg (by decide)] at hd
 clear HD h0 h1 hf ht0
 by_cases hl0 : l.length = 0
 ·rw [if_pos hl0] at hd
  have hz : (((l.length : Nat) : Int) == 0) = true := by simp [hl0]
  have HD1 := Lib.hid hd
  clear hd HA HE HEN HIN hl0
  go_wp2
  go_ret2
  rw [← HD1.out]
  exact ⟨_, rfl, Kd.R_nil _ _ _ _ _, HB0.out⟩
 have hz : (((l.length : Nat) : Int) == 0) = false := by simp [hl0]
 rw [if_neg hl0] at hd
 have HD := Lib.hid hd
 clear hd hl0
 go_wp2_with fail
 refine (HA.out W0 HB0.out).mono ?_
 rintro e W2 ⟨rfl, hB2⟩
 have H2 := Lib.hid (drawn_below hB2)
 clear hB2 HA k0 k1 k3
 have k3 : W2.cell? ⟨g, 3, none⟩ = some (.slice A l.length c) := blk_cell (HBK.out _ H2.out) 3
 cases ab with
 | true =>
  have hd := HD.out
  rw [if_pos rfl] at hd
  have HD1 := Lib.hid hd
  clear hd HD HE HEN HIN
  go_wp2
  go_ret2
  rw [← HD1.out]
  exact ⟨_, rfl, Kd.R_nil _ _ _ _ _, below_then HB0.out HB0.out.size H2.out⟩
 | false =>
  have hd := HD.out
  rw [if_neg (by decide)] at hd
  clear HD
  have HD := Lib.hid hd
  clear hd
  go_wp2_with fail
  refine (HE.out W2 (below_then HB0.out HB0.out.size H2.out)).mono ?_
  rintro e w2 ⟨v, rfl, hR, hB2⟩
  obtain ⟨A1, c1, rfl, hle, hC1⟩ := Kd.R_reads hR
  have H3 := Lib.hid (below_then H2.out H2.out.size hB2)
  have HBW := Lib.hid (below_then HB0.out HB0.out.size H3.out)
  have HC1 := Lib.hid hC1
  have HLE := Lib.hid hle
  clear hB2 HE k3 H2 hR hC1 hle
  by_cases hec : ec = 0
  ·subst hec
   have hd := HD.out
   rw [if_pos rfl] at hd
   clear HD
   have HN1 := Lib.hid (HEN.out rfl)
   have HD := Lib.hid hd
   clear hd HEN e0 e1 hz
   go_upto_region 10 with (fail)
   have HBG := Lib.hid (HBK.out _ H3.out)
   clear HBK
   refine grow_v (B := rpeB10) [0, 1, 2, 3, 4, 5, 6, 7, 8, 9, 10, 11] [2, 5, 6, 9, 10, 11] (fun s vs W => Below w2.heap.size w2 W ∧ (match s with | 0 => True | 1 => (Kd.int .u8).R 5 W w2.heap.size (fun _ => True) (vs 1) (twoL [f]) | 2 => (Kd.int .u8).R 5 W w2.heap.size (fun _ => True) (vs 1) (twoL [f]) ∧ (Kd.int .u8).R 5 W w2.heap.size (fun _ => True) (vs 2) (twoL [t]) | 3 => (Kd.int .u8).R 5 W w2.heap.size (fun _ => True) (vs 3) (twoL [f] ++ twoL [t]) | 4 => (Kd.int .u8).R 5 W w2.heap.size (fun _ => True) (vs 3) (twoL [f] ++ twoL [t]) ∧ (Kd.int .u8).R 5 W w2.heap.size (fun _ => True) (vs 4) (fourL [q]) | 5 => (Kd.int .u8).R 5 W w2.heap.size (fun _ => True) (vs 5) (twoL [f] ++ twoL [t] ++ fourL [q]) | _ => (Kd.int .u8).R 5 W w2.heap.size (fun _ => True) (vs 6) (twoL [f] ++ twoL [t] ++ fourL [q]))) (fun vs => [(0, 31, .pointer (some ⟨g, 0, none⟩)), (1, 32, .int .u16 f), (2, 33, vs 1), (3, 34, .pointer (some ⟨g, 1, none⟩)), (4, 35, .int .u16 t), (5, 36, vs 2), (6, 37, vs 3), (7, 38, .pointer (some ⟨g, 2, none⟩)), (8, 39, .int .u32 q), (9, 40, vs 4), (10, 41, vs 5), (11, 6, vs 6)]) (by kernel_rfl) rfl (l := #[false, false, false, false, false, false, false, false, false, false, false, false]) rfl rpetab10 rpebits10 (by kernel_rfl) (by kernel_rfl) (fun _ => rfl) rfl (fun _ => undef) ?_ ?_ ?_
   ·exact ⟨pw_below_drewN (Below.refl _ _) 1, trivial⟩
   ·exact steps_cons (gv_op 0 0 [(1, fun vs => .pointer (some ⟨g, 0, none⟩))] 0 0 (fv := fun vs => .pointer (some ⟨g, 0, none⟩)) rfl rfl (wt_none rfl) (fun _ => rfl) (fun _ => rfl) rfl rfl (by kernel_rfl) (by kernel_rfl) ⟨rd_off (p := 1) (fun _ => rfl) rfl, trivial⟩ (fun a w s vs hm hs h e => by
     obtain rfl : s = 0 := by omega
     obtain ⟨e1, _⟩ := e
     replace e1 : a.tmps[1]? = some (.pointer (some ⟨g, 0, none⟩)) := e1
     go_simp)) (steps_cons (gv_op 0 0 [(31, fun vs => .pointer (some ⟨g, 0, none⟩))] 1 1 (fv := fun vs => .int .u16 f) rfl rfl (wt_none rfl) (fun _ => rfl) (fun _ => rfl) rfl rfl (by kernel_rfl) (by kernel_rfl) ⟨rd_on (p := 31) 0 0 (fun _ => rfl) (fun _ => rfl) (by kernel_rfl) rfl, trivial⟩ (fun a w s vs hm hs h e => by
     obtain rfl : s = 0 := by omega
     obtain ⟨e31, _⟩ := e
     replace e31 : a.tmps[31]? = some (.pointer (some ⟨g, 0, none⟩)) := e31
     have hs : w.cell? ⟨g, 0, none⟩ = some (.int .u16 f) := blk_cell (blk_below HBG.out h.1) 0; go_simp)) (steps_cons (gv_call (vals := fun vs => [.int .u16 f]) 2 2 0 rfl rfl (wt_none rfl) rfl (fun _ => rfl) (fun _ _ => rfl) (fun _ => rfl) rfl (by kernel_rfl) Tryd.func41 (by kernel_rfl) rfl rfl (arv_t (rd_on (p := 32) 1 1 (fun _ => rfl) (fun _ => rfl) (by kernel_rfl) rfl) (arv_n)) (fun vs w h => (H2F.out w).mono fun e w' ⟨v', h1, h2, h3⟩ => ⟨v', h1, below_then h.1 h.1.size h3, Kd.R_lower h2 h.1.size⟩)) (steps_cons (gv_op 0 1 [(1, fun vs => .pointer (some ⟨g, 0, none⟩))] 3 3 (fv := fun vs => .pointer (some ⟨g, 1, none⟩)) rfl rfl (wt_none rfl) (fun _ => rfl) (fun _ => rfl) rfl rfl (by kernel_rfl) (by kernel_rfl) ⟨rd_off (p := 1) (fun _ => rfl) rfl, trivial⟩ (fun a w s vs hm hs h e => by
     obtain ⟨e1, _⟩ := e
     replace e1 : a.tmps[1]? = some (.pointer (some ⟨g, 0, none⟩)) := e1
     go_simp)) (steps_cons (gv_op 0 1 [(34, fun vs => .pointer (some ⟨g, 1, none⟩))] 4 4 (fv := fun vs => .int .u16 t) rfl rfl (wt_none rfl) (fun _ => rfl) (fun _ => rfl) rfl rfl (by kernel_rfl) (by kernel_rfl) ⟨rd_on (p := 34) 3 3 (fun _ => rfl) (fun _ => rfl) (by kernel_rfl) rfl, trivial⟩ (fun a w s vs hm hs h e => by
     obtain ⟨e34, _⟩ := e
     replace e34 : a.tmps[34]? = some (.pointer (some ⟨g, 1, none⟩)) := e34
     have hs : w.cell? ⟨g, 1, none⟩ = some (.int .u16 t) := blk_cell (blk_below HBG.out h.1) 1; go_simp)) (steps_cons (gv_call (vals := fun vs => [.int .u16 t]) 5 5 1 rfl rfl (wt_none rfl) rfl (fun _ => rfl) (fun _ _ => rfl) (fun _ => rfl) rfl (by kernel_rfl) Tryd.func41 (by kernel_rfl) rfl rfl (arv_t (rd_on (p := 35) 4 4 (fun _ => rfl) (fun _ => rfl) (by kernel_rfl) rfl) (arv_n)) (fun vs w h => (H2T.out w).mono fun e w' ⟨v', h1, h2, h3⟩ => ⟨v', h1, below_then h.1 h.1.size h3, Kd.R_below h.2 h3, Kd.R_lower h2 h.1.size⟩)) (steps_cons (gv_gen [(33, fun vs => vs 1), (36, fun vs => vs 2)] 6 6 2 rfl rfl (wt_none rfl) rfl (fun _ => rfl) (fun _ _ => rfl) (fun _ => rfl) rfl (by kernel_rfl) ⟨rd_on (p := 33) 2 2 (fun _ => rfl) (fun _ => rfl) (by kernel_rfl) rfl, rd_on (p := 36) 5 5 (fun _ => rfl) (fun _ => rfl) (by kernel_rfl) rfl, trivial⟩ (fun a w K vs h e hw hK => by
     obtain ⟨e33, e36, _⟩ := e
     replace e33 : a.tmps[33]? = some (vs 1) := e33
     replace e36 : a.tmps[36]? = some (vs 2) := e36
     obtain ⟨h1, h2, h3⟩ := h
     obtain ⟨A9, c9, hv9, _, hC9⟩ := Kd.R_reads h3
     refine Kd.R_append_rows_step (Kd.int .u8) (Rr := (Kd.int .u8).K w) (w0 := w2) (W := w) w2.heap.size hw _ _ 27 5 _ 1 rfl Tryd.underlying27 info_u8 rfl (by decide) (by decide) (vs 1) (twoL [f]) (twoL [t]) A9 (twoL [t]).length c9 (fun _ => True) (fun _ => False) (eval_of e33) ((eval_of e36).trans hv9) h2 hC9 (fun _ _ h => h) (fun _ h => h.elim) (fun _ _ => trivial) h1 h1.size (by simp [twoL_length, fourL_length]) ?_
     intro v1 w1 hR1 hB1 _ _
     exact hK v1 w1 ⟨hB1, hR1⟩)) (steps_cons (gv_op 0 3 [(1, fun vs => .pointer (some ⟨g, 0, none⟩))] 7 7 (fv := fun vs => .pointer (some ⟨g, 2, none⟩)) rfl rfl (wt_none rfl) (fun _ => rfl) (fun _ => rfl) rfl rfl (by kernel_rfl) (by kernel_rfl) ⟨rd_off (p := 1) (fun _ => rfl) rfl, trivial⟩ (fun a w s vs hm hs h e => by
     obtain ⟨e1, _⟩ := e
     replace e1 : a.tmps[1]? = some (.pointer (some ⟨g, 0, none⟩)) := e1
     go_simp)) (steps_cons (gv_op 0 3 [(38, fun vs => .pointer (some ⟨g, 2, none⟩))] 8 8 (fv := fun vs => .int .u32 q) rfl rfl (wt_none rfl) (fun _ => rfl) (fun _ => rfl) rfl rfl (by kernel_rfl) (by kernel_rfl) ⟨rd_on (p := 38) 7 7 (fun _ => rfl) (fun _ => rfl) (by kernel_rfl) rfl, trivial⟩ (fun a w s vs hm hs h e => by
     obtain ⟨e38, _⟩ := e
     replace e38 : a.tmps[38]? = some (.pointer (some ⟨g, 2, none⟩)) := e38
     have hs : w.cell? ⟨g, 2, none⟩ = some (.int .u32 q) := blk_cell (blk_below HBG.out h.1) 2; go_simp)) (steps_cons (gv_call (vals := fun vs => [.int .u32 q]) 9 9 3 rfl rfl (wt_none rfl) rfl (fun _ => rfl) (fun _ _ => rfl) (fun _ => rfl) rfl (by kernel_rfl) Tryd.func42 (by kernel_rfl) rfl rfl (arv_t (rd_on (p := 39) 8 8 (fun _ => rfl) (fun _ => rfl) (by kernel_rfl) rfl) (arv_n)) (fun vs w h => (H4Q.out w).mono fun e w' ⟨v', h1, h2, h3⟩ => ⟨v', h1, below_then h.1 h.1.size h3, Kd.R_below h.2 h3, Kd.R_lower h2 h.1.size⟩)) (steps_cons (gv_gen [(37, fun vs => vs 3), (40, fun vs => vs 4)] 10 10 4 rfl rfl (wt_none rfl) rfl (fun _ => rfl) (fun _ _ => rfl) (fun _ => rfl) rfl (by kernel_rfl) ⟨rd_on (p := 37) 6 6 (fun _ => rfl) (fun _ => rfl) (by kernel_rfl) rfl, rd_on (p := 40) 9 9 (fun _ => rfl) (fun _ => rfl) (by kernel_rfl) rfl, trivial⟩ (fun a w K vs h e hw hK => by
     obtain ⟨e37, e40, _⟩ := e
     replace e37 : a.tmps[37]? = some (vs 3) := e37
     replace e40 : a.tmps[40]? = some (vs 4) := e40
     obtain ⟨h1, h2, h3⟩ := h
     obtain ⟨A9, c9, hv9, _, hC9⟩ := Kd.R_reads h3
     refine Kd.R_append_rows_step (Kd.int .u8) (Rr := (Kd.int .u8).K w) (w0 := w2) (W := w) w2.heap.size hw _ _ 27 5 _ 1 rfl Tryd.underlying27 info_u8 rfl (by decide) (by decide) (vs 3) (twoL [f] ++ twoL [t]) (fourL [q]) A9 (fourL [q]).length c9 (fun _ => True) (fun _ => False) (eval_of e37) ((eval_of e40).trans hv9) h2 hC9 (fun _ _ h => h) (fun _ h => h.elim) (fun _ _ => trivial) h1 h1.size (by simp [twoL_length, fourL_length]) ?_
     intro v1 w1 hR1 hB1 _ _
     exact hK v1 w1 ⟨hB1, hR1⟩)) (steps_cons (gv_gen [(41, fun vs => vs 5)] 11 11 5 rfl rfl (wt_none rfl) rfl (fun _ => rfl) (fun _ _ => rfl) (fun _ => rfl) rfl (by kernel_rfl) ⟨rd_on (p := 41) 10 10 (fun _ => rfl) (fun _ => rfl) (by kernel_rfl) rfl, trivial⟩ (fun a w K vs h e hw hK => by
     obtain ⟨e41, _⟩ := e
     replace e41 : a.tmps[41]? = some (vs 5) := e41
     exact value_ (w1 := w) (v := vs 5) hw rfl (by go_simp) (hK _ _ h))) steps_nil)))))))))))
   intro vs W4 hX9
   obtain ⟨hB9, hR9⟩ := hX9
   simp only [putSel, if_true, Act.put, List.setIfInBounds_toArray, List.set_cons_zero, List.set_cons_succ]
   obtain ⟨u_, hu⟩ : ∃ u, vs 6 = u := ⟨_, rfl⟩
   replace hR9 : (Kd.int .u8).R 5 W4 w2.heap.size (fun _ => True) (vs 6) (twoL [f] ++ twoL [t] ++ fourL [q]) := hR9
   rw [hu] at hR9 ⊢
   clear hu
   obtain ⟨Au, cu, hu⟩ := Kd.R_slice hR9
   subst hu
   have HY8 := Lib.hid (show (twoL [f] ++ twoL [t] ++ fourL [q]).length = 8 by simp [twoL_length, fourL_length])
   have HYY := Lib.hid (show twoL [f] ++ twoL [t] ++ fourL [q] ++ [0, 0, 0, 0] = headL f t q from rfl)
   generalize twoL [f] ++ twoL [t] ++ fourL [q] = ys8 at *
   have HR9 := Lib.hid hR9
   have HB9 := Lib.hid hB9
   clear hR9 hB9 H2F H2T H4Q
   have HAPZ := Lib.hid (fun (W : World) => (row_lit (Kd.int .u8) rfl W 5 [.int .u8 0, .int .u8 0, .int .u8 0, .int .u8 0] [0, 0, 0, 0] rfl (by simp) (fun j v p hv hp => by rcases j with _ | _ | _ | _ | j <;> simp at hv hp <;> (subst hv; subst hp; rfl)) : (Kd.int .u8).C (W.alloc (.cells #[.int .u8 0, .int .u8 0, .int .u8 0, .int .u8 0] 5)) (some ⟨W.heap.size, 0, none⟩) 4 [0, 0, 0, 0]))
   go_wp2_with ((with_reducible refine gate_dst (N := 44) rfl ?_); go_must (refine Kd.R_append_row (Value.int .u8) (0 : Int) (h1 := fun _ => rfl) (w0 := w2) (W := W4.alloc (.cells #[.int .u8 0, .int .u8 0, .int .u8 0, .int .u8 0] 5)) w2.heap.size rfl _ _ 27 5 _ 1 rfl Tryd.underlying27 info_u8 rfl (by decide) (.slice Au ys8.length cu) ys8 [0, 0, 0, 0] (some ⟨W4.heap.size, 0, none⟩) 4 4 (fun _ => True) rfl rfl (fun _ _ => trivial) (Kd.R_alloc HR9.out (.cells #[.int .u8 0, .int .u8 0, .int .u8 0, .int .u8 0] 5)) (HAPZ.out W4) (HB9.out.alloc HB9.out.size _) (by have := HB9.out.size; simp; omega) (by have := HY8.out; omega) ?_); (intro v1 w1 hR1 hB1 hG1 _; rw [HYY.out] at hR1; have HR1 := Lib.hid hR1; have HB1 := Lib.hid hB1; obtain ⟨A5_, c5_, hv5_⟩ := Kd.R_slice hR1; subst hv5_; clear hR1 hB1 hG1; refine RowKit.Hid.out ?_))
   refine Lib.hid ?_
   have HYL := Lib.hid (headL_length f t q)
   have HYI := Lib.hid (head_in f t q)
   generalize headL f t q = ys at *
   clear HAPZ HR9 HY8 HYY
   go_wp2_with ((with_reducible refine gate_dst (N := 46) rfl ?_); go_must (refine Kd.R_append_row (Value.int .u8) (0 : Int) (h1 := fun _ => rfl) (w0 := w2) (W := w1) w2.heap.size rfl _ _ 27 5 _ 1 rfl Tryd.underlying27 info_u8 rfl (by decide) (.slice A5_ ys.length c5_) ys eb A1 _ c1 (fun _ => True) rfl rfl (fun _ _ => trivial) HR1.out (Kd.C_below HC1.out HB1.out) HB1.out HB1.out.size (by have := HYL.out; have := HN1.out; omega) ?_); (intro v1 w6 hR1 hB1 hG1 _; have HR6 := Lib.hid hR1; have HB6 := Lib.hid hB1; clear hR1 hB1 hG1; refine RowKit.Hid.out ?_))
   refine Lib.hid ?_
   obtain ⟨A6, c6, hv6, hle6, hC6⟩ := Kd.R_reads HR6.out
   subst hv6
   have hlen : (ys ++ eb).length = 12 + eb.length := by rw [List.length_append, HYL.out]
   by_cases hl6 : 65536 < 12 + eb.length
   ·have hd := HD.out
    rw [if_pos hl6] at hd
    have hz2 : decide ((65536 : Int) < (((ys ++ eb).length : Nat) : Int)) = true := decide_eq_true (by omega)
    have HD1 := Lib.hid hd
    have HBF := Lib.hid (below_then HBW.out HBW.out.size HB6.out)
    clear hd HIN hl6 HR6 HB6 hC6 HR1 HB1 hlen hle6
    generalize (ys ++ eb).length = n12 at *
    go_wp2
    go_ret2
    rw [← HD1.out]
    exact ⟨_, rfl, Kd.R_nil _ _ _ _ _, HBF.out⟩
   ·have hd := HD.out
    rw [if_neg hl6] at hd
    have HD1 := Lib.hid hd
    clear hd
    have hin5 : ∀ b ∈ ys ++ eb, inB b := fun b hb => by
     rcases List.mem_append.1 hb with h | h
     ·exact HYI.out b h
     ·exact HIN.out b h
    obtain ⟨bs, hbs⟩ : ∃ bs, bytesOf (ys ++ eb) = bs := ⟨_, rfl⟩
    have hbi : ints bs = ys ++ eb := by rw [← hbs]; exact ints_bytesOf _ hin5
    have hbl : (ys ++ eb).length = bs.length := by rw [← hbi, ints_length]
    rw [hbs] at HD1
    have HC5 := byte_of_int (by rw [hbi]; exact hC6 : (Kd.int .u8).C w6 A6 (ints bs).length (ints bs))
    have HPUT := Lib.hid (Crc.refPut_calls A6 c6 bs w6 HC5 (by rw [← hbl]; exact hle6) (by have := HN1.out; omega) (by omega))
    unfold PutDone at HPUT
    have HB5 := Lib.hid (below_then HBW.out HBW.out.size HB6.out)
    have hz2 : decide ((65536 : Int) < ((bs.length : Nat) : Int)) = false := decide_eq_false (by omega)
    rw [hbl]
    clear hbl hbi hin5 hlen HC5 hC6 hle6 hbs HR6 HB6 HIN HC1 HR1 HB1 hl6
    generalize bs.length = bl at *
    generalize putL bs = pl at *
    go_wp2_with fail
    refine HPUT.out.mono ?_
    rintro e W6 ⟨v6, rfl, hR6, hB6⟩
    have HR6 := Lib.hid hR6
    have HB6 := Lib.hid hB6
    clear hR6 hB6 HPUT
    go_wp2
    go_ret2
    rw [← HD1.out]
    exact ⟨_, rfl, Kd.R_lower HR6.out HB5.out.size, below_then HB5.out HB5.out.size HB6.out⟩
  ·have hd := HD.out
   rw [if_neg hec] at hd
   have hz : (ec != 0) = true := by simp [hec]
   have HD1 := Lib.hid hd
   clear hd HD HEN HIN
   go_wp2
   go_ret2
   rw [← HD1.out]
   exact ⟨_, rfl, Kd.R_nil _ _ _ _ _, HBW.out⟩
end Go.Proofs.YtdlamomabonkjaaDoor.Pk
end
section
namespace Go.Proofs.YtdlamomabonkjaaDoor.Pk
open Go.RowKit YtdlamomabonkjaaDoorW.PrintWords YtdlamomabonkjaaDoorW.PrintLast Base PCh ParDec ParEnc Ch Crc CrcMath
set_option maxHeartbeats 4000000 in
theorem encodes_row {w : World} (f t q : Int) (A : Option Addr) (c : Nat) (l : List Chk) (hc : l.length ≤ c) (hl : Kd.C k41 w A l.length l) (hf : in16 f) (ht0 : in16 t) (hq : in32 q) (ho : OkL l) (k : Int) (wk : (Lit.int .u8 k).wf = true) (ht : Table w) :
  Calls Tryd.prog 6 #[.agg #[.int .u16 f, .int .u16 t, .int .u32 q, .slice A l.length c], .int .u8 k] w fun e w' => e = .returned (.bool true) ∧ Below w.heap.size w w' := by
 have HE := Lib.hid (fun (W : World) (h : Below w.heap.size w W) => pencode_calls W f t q A c l (ht.below h) (Kd.C_below hl h) hc (fun x hx => Nat.le_trans (ho.2 x hx).l13 (by decide)) (enc_in ho.2) (fun he => by rw [(enc_good he).2.1]; exact (enc_good he).2.2))
 have HR := Lib.hid (fun (W : World) (h : Below w.heap.size w W) => rpencode_calls W f t q A c l hf.1 ht0.1 (Kd.C_below hl h) hc ho.2 (enc_in ho.2) (fun he => by rw [(enc_good he).2.1]; exact (enc_good he).2.2))
 have HCK := Lib.hid (fun (W : World) (h : Below w.heap.size w W) => pcheck_calls W f t q A c l (ht.below h) (Kd.C_below hl h) hc (fun x hx => Nat.le_trans (ho.2 x hx).l13 (by decide)) (enc_in ho.2) (fun he => by rw [(enc_good he).2.1]; exact (enc_good he).2.2))
 have HA := Lib.hid (fun (W : World) (h : Below w.heap.size w W) => alive_calls W (ht.below h))
 have HA1 := Lib.hid (fun (W : World) => alone_calls k W)
 have HA2 := Lib.hid (fun (W : World) => ralone_calls k W)
 clear hl hf ht0 hq ho ht hc wk
 generalize pencD f t q l = D at *
 obtain ⟨B, ec⟩ := D
 dsimp only at HE HR HCK
 generalize aloneK k = ak at *
 generalize l.length = n at *
 obtain ⟨g2, hg2⟩ : ∃ g, w.heap.size = g := ⟨_, rfl⟩
 have HG := Lib.hid hg2
 clear hg2
 go_enter Tryd.func6, Tryd.ntmps6
 go_upto_region 1 with (fail)
 refine wp_gen (fun W => W.heap[w.heap.size]? = some (.cells #[.int .u16 f, .int .u16 t, .int .u32 q, .slice A n c] 26 (0, 0)) ∧ Below w.heap.size w W) ⟨blk_new _ _, below_alloc (Below.refl _ _) _⟩ ?_
 rintro W0 ⟨h0, hB⟩
 rw [HG.out] at h0 ⊢
 have K0 := Lib.hid h0
 have HB0 := Lib.hid hB
 clear h0 hB
 go_wp2_with ((with_reducible refine gate_dst (N := 11) rfl ?_); go_must (refine wpList_load_row rfl 26 (.tmp 2) rfl _ rfl 26 _ (0, 0) _ K0.out Tryd.underlying26 rfl (by kernel_rfl) ?_))
 refine (HE.out W0 HB0.out).mono ?_
 rintro e W1 ⟨v1, rfl, hR1, hB1⟩
 obtain ⟨A1, c1, rfl, _, hC1⟩ := Kd.R_reads hR1
 have K1 := Lib.hid (blk_below K0.out hB1)
 have HB1 := Lib.hid (below_then HB0.out HB0.out.size hB1)
 have HC1 := Lib.hid hC1
 clear hR1 hB1 hC1 HE HB0 K0
 go_wp2_with ((with_reducible refine gate_dst (N := 16) rfl ?_); go_must (refine wpList_load_row rfl 26 (.tmp 2) rfl _ rfl 26 _ (0, 0) _ K1.out Tryd.underlying26 rfl (by kernel_rfl) ?_))
 refine (HR.out W1 HB1.out).mono ?_
 rintro e W2 ⟨v2, rfl, hR2, hB2⟩
 obtain ⟨A2, c2, rfl, _, hC2⟩ := Kd.R_reads hR2
 have K2 := Lib.hid (blk_below K1.out hB2)
 have HB2 := Lib.hid (below_then HB1.out HB1.out.size hB2)
 have r1 := run_bstr (c := c1) (Kd.C_below HC1.out hB2)
 have r2 := run_bstr (c := c2) hC2
 have hs : ((bstr B).toList == (bstr B).toList) = true := by simp
 clear hR2 hB2 hC2 HR HB1 K1 HC1
 generalize bstr B = sb at *
 generalize B.length = nb at *
 have HCC := Lib.hid (HCK.out W2 HB2.out)
 clear HCK
 go_wp2_with ((with_reducible refine gate_dst (N := 32) rfl ?_); go_must (refine gate_guard (wanted_on rfl rfl rfl rfl) ?_; refine wpList_load_row rfl 26 (.tmp 2) rfl _ rfl 26 _ (0, 0) _ K2.out Tryd.underlying26 rfl (by kernel_rfl) ?_))
 refine HCC.out.mono ?_
 rintro e W3 ⟨rfl, hB3⟩
 have HB3 := Lib.hid (below_then HB2.out HB2.out.size hB3)
 clear hB3 HCC r1 r2 hs K2
 go_wp2_with fail
 refine (HA1.out W3).mono ?_
 rintro e W4 ⟨rfl, hD4⟩
 have HB4 := Lib.hid (below_then HB3.out HB3.out.size (drawn_below hD4))
 clear hD4 HA1
 go_wp2_with fail
 refine (HA2.out W4).mono ?_
 rintro e W5 ⟨rfl, hD5⟩
 have HB5 := Lib.hid (below_then HB4.out HB4.out.size (drawn_below hD5))
 clear hD5 HA2
 have HAL := Lib.hid (HA.out W5 HB5.out)
 go_wp2_with fail
 refine HAL.out.mono ?_
 rintro e W8 ⟨rfl, hB8⟩
 have HB8 := Lib.hid (below_then HB5.out HB5.out.size hB8)
 clear hB8 HAL
 go_wp2
 go_ret
 exact ⟨rfl, HB8.out⟩
end Go.Proofs.YtdlamomabonkjaaDoor.Pk
end
section
namespace Go.Proofs.YtdlamomabonkjaaDoor.Crc
open Go.RowKit YtdlamomabonkjaaDoorW.PrintWords Base CrcMath
theorem gSteps : Tryd.prog.globalNamed "ropewalk/crc.steps" = some 0 := by kernel_rfl
theorem gStepsType : (Tryd.prog.globals[0]?).map (·.type) = some 136 := by kernel_rfl
theorem cells16 : Tryd.prog.cellsOf 136 = 16 := by kernel_rfl
theorem cells32 : Tryd.prog.cellsOf 23 = 1 := by kernel_rfl
theorem table_of {W : World} (h : laidMetH Tryd.prog [("ropewalk/crc.steps", Rows.laid_ropewalk_crc_steps)] W) : Table W := by
 have ht : Lib.TabIs Tryd.prog W "ropewalk/crc.steps" .u32 [0, 274646895, 549293790, 820201905, 1098587580, 1361435347, 1640403810, 1905808397, 2197175160, 2460548119, 2722870694, 2987750089, 3280807620, 3553878443, 3811616794, 4084100981] :=
  Lib.tabIs_of_head (rest := []) gSteps gStepsType Tryd.underlying136 Tryd.underlying23 cells32 cells16 h
 refine ⟨fun i hi => ?_⟩
 have := ht.cell gSteps i (by simpa using hi)
 rw [this]
 have hn : ∀ i : Nat, i < 16 → ([0, 274646895, 549293790, 820201905, 1098587580, 1361435347, 1640403810, 1905808397, 2197175160, 2460548119, 2722870694, 2987750089, 3280807620, 3553878443, 3811616794, 4084100981] : List Int).getD i 0 = (nib i : Int) := by decide +kernel
 rw [← hn i hi]
end Go.Proofs.YtdlamomabonkjaaDoor.Crc
end
section
namespace Go.Proofs.YtdlamomabonkjaaDoor.packetEncodes
open Go.ChangeShapes Go.WideShapes Go.ChangeAt Go.RowKit Base
open Go.ChangeMaps (open_string shut_string)
set_option maxRecDepth 100000 in
theorem contract (H : Type) (enc : TypeId × Value → H) (W : World) (base : Nat) (args : Array Value) (ds gs : List (DataW H)) (before : List MemPlace)
  (hval : ∀ (j : Nat) t v, Tryd.f6.params[j]? = some t → args[j]? = some v → Value.okWide Tryd.prog W .any base t v)
  (hW : DataW.Whole enc Tryd.prog Tryd.f6.params.toList Rows.packetEncodesSpec.vars false W args.toList ds gs before)
  (hsz0 : (DataW.weightsEach Tryd.prog (Tryd.f6.params.toList ++ (OpenSpec.ofChange Rows.packetEncodesSpec).bare.plain.varTypes Tryd.prog) (ds ++ gs)).all (· ≤ reachBytes) = true)
  (hL : laidMetH Tryd.prog Rows.packetEncodesRow.laid W) :
  Calls Tryd.prog 6 args W fun e W' => ∃ v, e = .returned v ∧ Rows.packetEncodesSpec.post enc Tryd.prog Tryd.f6 false true false false W args v W' := by
 have hW' := hW
 obtain ⟨p, q, hA0, hV, rfl, hfz, hnd⟩ := hW
 have hA : DataW.TrodAll enc Tryd.prog W 0 (fun _ => true) true Tryd.f6.params.toList args.toList ds p := hA0
 rw [Tryd.params6] at hA hval
 obtain ⟨v0, vs0, d0, ds0, p0, q0, hargs, rfl, rfl, h0, r0⟩ := trodAll_cons hA
 obtain ⟨v1, vs1, d1, ds1, p1, q1, rfl, rfl, rfl, h1, r1⟩ := trodAll_cons r0
 obtain ⟨rfl, rfl, rfl⟩ := trodAll_nil r1
 obtain rfl : args = #[v0, v1] := by cases args; simp_all
 obtain ⟨rfl, rfl⟩ := trodVars_none hV
 have hsz := hsz0
 rw [Tryd.params6] at hsz
 have k0 := h0
 have lt0 : ∀ x ∈ p0, x.block < W.heap.size := by obtain ⟨m, hm⟩ := k0; exact DataW.trod_lt m _ _ _ hm
 obtain ⟨pf0, pt0, pq0, a0, cap0, l0, rfl, hc0, hb0, if0, it0, iq0, io0⟩ := Pk.open_packet h0 (short_part hsz (j := 0) rfl rfl)
 obtain ⟨a1, rfl, rfl, rfl, w1⟩ := open_int Tryd.underlying5 (hval 1 5 v1 rfl rfl) h1
 clear hA0 hsz hsz0
 have ht := Crc.table_of hL
 refine (Pk.encodes_row pf0 pt0 pq0 a0 cap0 l0 hc0 hb0 if0 it0 iq0 io0 a1 w1 ht).mono fun e W' ⟨he, bel⟩ => ?_
 subst he
 exact ⟨_, rfl, _, _, _, [], _, [], hW', trodAll_mk1 (shut_bool Tryd.underlying4 _), (trodAll_cons_mk (Below.trod laidOut (by kernel_rfl) (of_decide_eq_true (by kernel_rfl)) k0 bel lt0) (trodAll_cons_mk (shut_int Tryd.underlying5 w1) trodAll_mk0)), rfl, bel.frame _, fun h => by cases h⟩
noncomputable def laidWorld (os : Os) : World := World.doorLaid Tryd.prog 14 os
theorem laid_met (os : Os) : laidMet Tryd.prog Rows.packetEncodesRow.laid ((laidWorld os).forCall (fun _ _ => 0) ⟨#[], #[.agg #[.int .u16 0, .int .u16 0, .int .u32 0, .slice none 0 0], .int .u8 0], []⟩).memory :=
 laidMet_of_run' 8 (by kernel_rfl) (by kernel_rfl)
theorem reads (os : Os) {H : Type} (enc : TypeId × Value → H) : ∃ places, DataW.whole enc Tryd.prog ((laidWorld os).forCall (fun _ _ => 0) ⟨#[], #[.agg #[.int .u16 0, .int .u16 0, .int .u32 0, .slice none 0 0], .int .u8 0], []⟩).memory Tryd.f6.params.toList Rows.packetEncodesSpec.vars false (#[.agg #[.int .u16 0, .int .u16 0, .int .u32 0, .slice none 0 0], .int .u8 0] : Array Value).toList 8 = some ([.agg [.lit (.int .u16 0), .lit (.int .u16 0), .lit (.int .u32 0), .nil], .lit (.int .u8 0)], [], places) :=
 ⟨[], by kernel_rfl⟩
set_option maxRecDepth 100000 in
theorem lifted (os : Os) (started : os.Started) (H : Type) (enc : TypeId × Value → H) (F : Stop.Interp) :
  ReturnsInHanded {} Tryd.checked os 6 .any ((OpenSpec.ofChange Rows.packetEncodesSpec).preRow enc Tryd.prog Tryd.f6 Rows.packetEncodesRow.domain false Rows.packetEncodesRow.laid) (((OpenSpec.ofChange Rows.packetEncodesSpec).at F).post enc Tryd.prog Tryd.f6 false true false false) := by
 obtain ⟨places, hx⟩ := reads os enc
 refine returnsInHanded_of_row (C := Tryd.checked) (s := (OpenSpec.ofChange Rows.packetEncodesSpec)) own started (by kernel_rfl) Tryd.func6
  (witness_row_at (enc := enc) (C := Tryd.checked) false (laidWorld os) #[.agg #[.int .u16 0, .int .u16 0, .int .u32 0, .slice none 0 0], .int .u8 0] rfl (by kernel_rfl) (by kernel_rfl) (by kernel_rfl)
   (OpenSpec.preRow_of_cond 8 hx (by kernel_rfl) (fun k hk => by cases hk) (by kernel_rfl) (laid_met os))) ?_
 intro W base args ds gs before hval hW _ hcond hsz hL _ _
 exact contract H enc W base args ds gs before hval hW hsz hL
theorem said : Rows.PacketEncodesSaid :=
 OpenClaim.holds_of_cond 6 Tryd.f6 rfl rfl rfl rfl rfl rfl rfl ⟨rfl, rfl, rfl, rfl, rfl⟩ rfl rfl rfl rfl rfl (by kernel_rfl) Tryd.func6 (by kernel_rfl)
  (of_decide_eq_true (by kernel_rfl)) (by unfold Func.isWrapper; first | (rw [if_pos (by decide +kernel)]; kernel_rfl) | (rw [if_neg (by decide +kernel)]; exact ⟨rfl, rfl⟩))
  (fun os started H enc _ F => by rw [OpenClaim.pre_eq_preRow]; exact lifted os started H enc F)
theorem plain (f : FuncId) (fn : Func) (hf : Tryd.pinned.checked.prog.funcNamed "ropewalk/ropewalklaw07.PacketEncodes" = some f) (hfn : Tryd.pinned.checked.prog.funcs[f]? = some fn) :
  true = Tryd.pinned.checked.prog.looks [] ∧ ∀ (j : Nat) t, fn.params[j]? = some t → Tryd.pinned.checked.prog.wantsStandIn t = false := by
 obtain rfl : f = 6 := Option.some.inj ((show Tryd.prog.funcNamed "ropewalk/ropewalklaw07.PacketEncodes" = some 6 by kernel_rfl).symm.trans hf) |>.symm
 obtain rfl : fn = Tryd.f6 := (Option.some.inj (Tryd.func6.symm.trans hfn)).symm
 refine ⟨by kernel_rfl, fun j t ht => ?_⟩
 rw [Tryd.params6] at ht
 have hm : t ∈ [26, 5] := by simpa using Array.mem_of_getElem? ht
 have hall : ([26, 5].all fun u => !Tryd.prog.wantsStandIn u) = true := by kernel_rfl
 exact (show Tryd.prog.wantsStandIn t = false by simpa using List.all_eq_true.1 hall t hm)
theorem packetEncodes_holds : Rows.PacketEncodesCardSaid :=
 Claim7.holds_tied_plain_at .later [] _ _ _ _ said (fun _ h => by cases h) (by kernel_rfl) (fun _ h => by cases h) packetEncodes_row_tie rfl ⟨rfl, rfl⟩ (by kernel_rfl) rfl plain (by kernel_rfl)
#print axioms packetEncodes_holds
end Go.Proofs.YtdlamomabonkjaaDoor.packetEncodes
end
