/- The reference's Make: walked. (Printed by gen/CkF.py.) -/
import Derived.Test.YthdemajmlidefaaCkE
namespace Go.Proofs.Ythdemajmlidefaa.Ck
open Go.RowKit Go.Proofs.YthdemajmlidefaaW.PrintWords Go.Proofs.YthdemajmlidefaaW.PrintLast Go.Proofs.Ythdemajmlidefaa.Base Go.Proofs.Ythdemajmlidefaa.Mac
set_option linter.unusedVariables false
set_option linter.unusedSimpArgs false
set_option maxHeartbeats 2000000 in
theorem sealed_calls (w : World) (x : Nat → Nat) (h0 : x 0 ≤ 1099511627776) (hx : ∀ i, i < 13 → x i < 256 ^ nF i) :
    Calls Try.prog 23 #[.int .i64 (x 0 : Nat), .int .i64 (x 1 : Nat), .agg (offV x)] w (RetR byte 5 (sealN x 13) w) := by
  have HO := Lib.hid (blk_new w (.cells (offV x) 27))
  have HB0 := Lib.hid (below_alloc (Below.refl w.heap.size w) (.cells (offV x) 27))
  have hs0 : (w.alloc (.cells (offV x) 27)).heap.size = w.heap.size + 1 := by simp
  have HB := Lib.hid (Below.refl (w.heap.size + 1) (w.alloc (.cells (offV x) 27)))
  have HR := Lib.hid (Kd.R_nil byte 5 (w.alloc (.cells (offV x) 27)) (w.heap.size + 1) (fun _ => True))
  have y0 : x 0 < 1099511627777 := by omega
  have y1 : x 1 < 4294967296 := hx 1 (by omega)
  have y2 : x 2 < 65536 := hx 2 (by omega)
  have y3 : x 3 < 65536 := hx 3 (by omega)
  have y4 : x 4 < 4294967296 := hx 4 (by omega)
  have y5 : x 5 < 4294967296 := hx 5 (by omega)
  have y6 : x 6 < 4294967296 := hx 6 (by omega)
  have y7 : x 7 < 4294967296 := hx 7 (by omega)
  have y8 : x 8 < 4294967296 := hx 8 (by omega)
  have y9 : x 9 < 65536 := hx 9 (by omega)
  have y10 : x 10 < 65536 := hx 10 (by omega)
  have y11 : x 11 < 4294967296 := hx 11 (by omega)
  have y12 : x 12 < 4294967296 := hx 12 (by omega)
  clear h0 hx
  have HS := Lib.hid (show sealN x 13 = sealN x 13 from rfl)
  go_enter Try.func23, Try.ntmps23
  go_wp2_with fail
  refine (put_calls (w.alloc (.cells (offV x) 27)) (w.alloc (.cells (offV x) 27)) (w.heap.size + 1) _ (sealN x 0) (x 0) 8 (by decide) (by omega) HR.out (by rw [sealN_length]; decide) HB.out (by have := HB.out.size; omega)).mono ?_
  rintro e w1 ⟨v1, rfl, hR, hB⟩
  replace HR := Lib.hid hR
  replace HB := Lib.hid hB
  clear hR hB
  go_wp2_with fail
  refine (put_calls (w.alloc (.cells (offV x) 27)) w1 (w.heap.size + 1) _ (sealN x 1) (x 1) 4 (by decide) (by omega) HR.out (by rw [sealN_length]; decide) HB.out (by have := HB.out.size; omega)).mono ?_
  rintro e w2 ⟨v2, rfl, hR, hB⟩
  replace HR := Lib.hid hR
  replace HB := Lib.hid hB
  clear hR hB
  have c2 := (blk_cell ((HB.out.block w.heap.size (by omega)).trans HO.out) 0).trans (show (offV x)[0]? = some (.int .u16 (x 2 : Nat)) from rfl)
  go_wp2_with fail
  clear c2
  refine (put_calls (w.alloc (.cells (offV x) 27)) w2 (w.heap.size + 1) _ (sealN x 2) (x 2) 2 (by decide) (by omega) HR.out (by rw [sealN_length]; decide) HB.out (by have := HB.out.size; omega)).mono ?_
  rintro e w3 ⟨v3, rfl, hR, hB⟩
  replace HR := Lib.hid hR
  replace HB := Lib.hid hB
  clear hR hB
  have c3 := (blk_cell ((HB.out.block w.heap.size (by omega)).trans HO.out) 1).trans (show (offV x)[1]? = some (.int .u16 (x 3 : Nat)) from rfl)
  go_wp2_with fail
  clear c3
  refine (put_calls (w.alloc (.cells (offV x) 27)) w3 (w.heap.size + 1) _ (sealN x 3) (x 3) 2 (by decide) (by omega) HR.out (by rw [sealN_length]; decide) HB.out (by have := HB.out.size; omega)).mono ?_
  rintro e w4 ⟨v4, rfl, hR, hB⟩
  replace HR := Lib.hid hR
  replace HB := Lib.hid hB
  clear hR hB
  have c4 := (blk_cell ((HB.out.block w.heap.size (by omega)).trans HO.out) 2).trans (show (offV x)[2]? = some (.int .u32 (x 4 : Nat)) from rfl)
  go_wp2_with fail
  clear c4
  refine (put_calls (w.alloc (.cells (offV x) 27)) w4 (w.heap.size + 1) _ (sealN x 4) (x 4) 4 (by decide) (by omega) HR.out (by rw [sealN_length]; decide) HB.out (by have := HB.out.size; omega)).mono ?_
  rintro e w5 ⟨v5, rfl, hR, hB⟩
  replace HR := Lib.hid hR
  replace HB := Lib.hid hB
  clear hR hB
  have c5 := (blk_cell ((HB.out.block w.heap.size (by omega)).trans HO.out) 3).trans (show (offV x)[3]? = some (.int .u32 (x 5 : Nat)) from rfl)
  go_wp2_with fail
  clear c5
  refine (put_calls (w.alloc (.cells (offV x) 27)) w5 (w.heap.size + 1) _ (sealN x 5) (x 5) 4 (by decide) (by omega) HR.out (by rw [sealN_length]; decide) HB.out (by have := HB.out.size; omega)).mono ?_
  rintro e w6 ⟨v6, rfl, hR, hB⟩
  replace HR := Lib.hid hR
  replace HB := Lib.hid hB
  clear hR hB
  have c6 := (blk_cell ((HB.out.block w.heap.size (by omega)).trans HO.out) 4).trans (show (offV x)[4]? = some (.int .u32 (x 6 : Nat)) from rfl)
  go_wp2_with fail
  clear c6
  refine (put_calls (w.alloc (.cells (offV x) 27)) w6 (w.heap.size + 1) _ (sealN x 6) (x 6) 4 (by decide) (by omega) HR.out (by rw [sealN_length]; decide) HB.out (by have := HB.out.size; omega)).mono ?_
  rintro e w7 ⟨v7, rfl, hR, hB⟩
  replace HR := Lib.hid hR
  replace HB := Lib.hid hB
  clear hR hB
  have c7 := (blk_cell ((HB.out.block w.heap.size (by omega)).trans HO.out) 5).trans (show (offV x)[5]? = some (.int .u32 (x 7 : Nat)) from rfl)
  go_wp2_with fail
  clear c7
  refine (put_calls (w.alloc (.cells (offV x) 27)) w7 (w.heap.size + 1) _ (sealN x 7) (x 7) 4 (by decide) (by omega) HR.out (by rw [sealN_length]; decide) HB.out (by have := HB.out.size; omega)).mono ?_
  rintro e w8 ⟨v8, rfl, hR, hB⟩
  replace HR := Lib.hid hR
  replace HB := Lib.hid hB
  clear hR hB
  have c8 := (blk_cell ((HB.out.block w.heap.size (by omega)).trans HO.out) 6).trans (show (offV x)[6]? = some (.int .u32 (x 8 : Nat)) from rfl)
  go_wp2_with fail
  clear c8
  refine (put_calls (w.alloc (.cells (offV x) 27)) w8 (w.heap.size + 1) _ (sealN x 8) (x 8) 4 (by decide) (by omega) HR.out (by rw [sealN_length]; decide) HB.out (by have := HB.out.size; omega)).mono ?_
  rintro e w9 ⟨v9, rfl, hR, hB⟩
  replace HR := Lib.hid hR
  replace HB := Lib.hid hB
  clear hR hB
  have c9 := (blk_cell ((HB.out.block w.heap.size (by omega)).trans HO.out) 7).trans (show (offV x)[7]? = some (.int .u16 (x 9 : Nat)) from rfl)
  go_wp2_with fail
  clear c9
  refine (put_calls (w.alloc (.cells (offV x) 27)) w9 (w.heap.size + 1) _ (sealN x 9) (x 9) 2 (by decide) (by omega) HR.out (by rw [sealN_length]; decide) HB.out (by have := HB.out.size; omega)).mono ?_
  rintro e w10 ⟨v10, rfl, hR, hB⟩
  replace HR := Lib.hid hR
  replace HB := Lib.hid hB
  clear hR hB
  have c10 := (blk_cell ((HB.out.block w.heap.size (by omega)).trans HO.out) 8).trans (show (offV x)[8]? = some (.int .u16 (x 10 : Nat)) from rfl)
  go_wp2_with fail
  clear c10
  refine (put_calls (w.alloc (.cells (offV x) 27)) w10 (w.heap.size + 1) _ (sealN x 10) (x 10) 2 (by decide) (by omega) HR.out (by rw [sealN_length]; decide) HB.out (by have := HB.out.size; omega)).mono ?_
  rintro e w11 ⟨v11, rfl, hR, hB⟩
  replace HR := Lib.hid hR
  replace HB := Lib.hid hB
  clear hR hB
  have c11 := (blk_cell ((HB.out.block w.heap.size (by omega)).trans HO.out) 9).trans (show (offV x)[9]? = some (.int .u32 (x 11 : Nat)) from rfl)
  go_wp2_with fail
  clear c11
  refine (put_calls (w.alloc (.cells (offV x) 27)) w11 (w.heap.size + 1) _ (sealN x 11) (x 11) 4 (by decide) (by omega) HR.out (by rw [sealN_length]; decide) HB.out (by have := HB.out.size; omega)).mono ?_
  rintro e w12 ⟨v12, rfl, hR, hB⟩
  replace HR := Lib.hid hR
  replace HB := Lib.hid hB
  clear hR hB
  have c12 := (blk_cell ((HB.out.block w.heap.size (by omega)).trans HO.out) 10).trans (show (offV x)[10]? = some (.int .u32 (x 12 : Nat)) from rfl)
  go_wp2_with fail
  clear c12
  refine (put_calls (w.alloc (.cells (offV x) 27)) w12 (w.heap.size + 1) _ (sealN x 12) (x 12) 4 (by decide) (by omega) HR.out (by rw [sealN_length]; decide) HB.out (by have := HB.out.size; omega)).mono ?_
  rintro e w13 ⟨v13, rfl, hR, hB⟩
  replace HR := Lib.hid hR
  replace HB := Lib.hid hB
  clear hR hB
  go_wp2
  go_ret
  exact ⟨_, rfl, Kd.R_lower HR.out (by omega), HB0.out.trans (HB.out.mono (by omega))⟩
set_option maxHeartbeats 2000000 in
theorem refMake_good (w : World) (k : List UInt8) (hk : k.length = 16) (x : Nat → Nat) (h0 : x 0 ≤ 1099511627776) (h1 : 1 ≤ x 1) (h2 : x 1 ≤ 2147483648) (hx : ∀ i, i < 13 → x i < 256 ^ nF i) :
    Calls Try.prog 9 #[.agg (keyV k), .int .i64 (x 0 : Nat), .int .i64 (x 1 : Nat), .agg (offV x)] w (MakeP k x w) := by
  have HSE := Lib.hid (fun W : World => sealed_calls W x h0 hx)
  have HK := Lib.hid (show ((w.alloc (.cells (keyV k) 23)).alloc (.cells (offV x) 27)).heap[w.heap.size]? = some (.cells (keyV k) 23 (0, 0)) from blk_alloc (blk_new _ _) _)
  have HO := Lib.hid (show ((w.alloc (.cells (keyV k) 23)).alloc (.cells (offV x) 27)).heap[w.heap.size + 1]? = some (.cells (offV x) 27 (0, 0)) by have h := blk_new (w.alloc (.cells (keyV k) 23)) (.cells (offV x) 27); rw [World.size_alloc] at h; exact h)
  have HB0 := Lib.hid (below_alloc (below_alloc (Below.refl w.heap.size w) (.cells (keyV k) 23)) (.cells (offV x) 27))
  have HKS := Lib.hid (key_size hk)
  have HOS := Lib.hid (show (Try.prog.info? 27).map (·.size) = some (offV x).size by kernel_rfl)
  have HSM := Lib.hid (fun (W : World) (A : Option Addr) (c : Nat) (h : bytesK.C W A [sealN x 13].length [sealN x 13]) => refSum_calls W k hk A c [sealN x 13] h (row_len _ (sealN_length x 13)))
  have HTX := Lib.hid (fun W : World => refText_calls W (sumS k [sealN x 13]))
  have HML := Lib.hid (show makeL k x = sealN x 13 ++ textL (sumS k [sealN x 13]) from rfl)
  have hsl : (sealN x 13).length = 48 := sealN_length x 13
  have htl : (textL (sumS k [sealN x 13])).length = 8 := rfl
  have g0 : ¬ ((x 0 : Nat) : Int) < 0 := by omega
  have g1 : ¬ ((x 0 : Nat) : Int) > 1099511627776 := by omega
  have g2 : ¬ ((x 1 : Nat) : Int) < 1 := by omega
  have g3 : ¬ ((x 1 : Nat) : Int) > 2147483648 := by omega
  clear hx h0 h1 h2
  generalize offV x = OV at *
  go_enter Try.func9, Try.ntmps9
  go_wp2_with (refine wpList_load_row rfl 27 _ rfl (w.heap.size + 1) rfl 27 OV (0, 0) _ HO.out Try.underlying27 rfl HOS.out ?_)
  generalize ((w.alloc (.cells (keyV k) 23)).alloc (.cells OV 27)) = W0 at *
  refine (HSE.out W0).mono ?_
  rintro e w3 ⟨v3, rfl, hR, hB⟩
  have hsz0 := HB0.out.size
  have HR3 := Lib.hid (Kd.R_lower hR hsz0)
  have HB3 := Lib.hid (HB0.out.trans (hB.mono hsz0))
  have HK3 := Lib.hid (blk_below HK.out hB)
  clear hR hB
  generalize keyV k = KV at *
  generalize textL (sumS k [sealN x 13]) = tx at *
  generalize ((sumS k [sealN x 13]).toNat : Int) = sm at *
  generalize sealN x 13 = sl at *
  obtain ⟨As, cs, rfl, hle, hC⟩ := Kd.R_reads HR3.out
  have H1C := Lib.hid (one_C hC hle)
  clear hC
  have hsl2 : sl.length ≤ 48 := by omega
  have htl2 : tx.length ≤ 8 := by omega
  have HRS := Lib.hid (fun o => Kd.R_alloc HR3.out o)
  have HBA := Lib.hid (fun o => HB3.out.alloc HB3.out.size o)
  clear hsl htl hle HR3
  go_wp2_with (refine wpList_load_row rfl 23 _ rfl w.heap.size rfl 23 KV (0, 0) _ HK3.out Try.underlying23 rfl HKS.out ?_)
  refine (HSM.out _ _ 1 H1C.out).mono ?_
  rintro e w5 ⟨rfl, hB5⟩
  have HB5 := Lib.hid (below_then (HBA.out _) (HBA.out _).size hB5)
  have HR5 := Lib.hid (Kd.R_below (HRS.out _) hB5)
  clear hB5
  go_wp2_with fail
  refine (HTX.out w5).mono ?_
  rintro e w6 ⟨v6, rfl, hR6, hB6⟩
  obtain ⟨At, ct, rfl, hlt, hCt⟩ := Kd.R_reads hR6
  have HB6 := Lib.hid (below_then HB5.out HB5.out.size hB6)
  have HR6 := Lib.hid (Kd.R_below HR5.out hB6)
  have HC6 := Lib.hid hCt
  clear hB6 hR6 hCt hlt
  go_wp2_with (at_builtin; go_must (refine Kd.R_append_row (fun b : UInt8 => .int .u8 (b.toNat : Int)) (0 : UInt8) (w0 := w) w.heap.size rfl _ _ 28 5 _ 1 rfl Try.underlying28 info_u8 rfl (by decide) (.slice As sl.length cs) sl tx At tx.length ct (fun _ => True) rfl rfl (fun _ _ => trivial) HR6.out HC6.out HB6.out HB6.out.size (by omega) ?_); intro v7 w7 hR7 hB7 _ _; have HR7 := Lib.hid hR7; have HB7 := Lib.hid hB7; clear hR7 hB7)
  go_ret2
  exact ⟨v7, rfl, by rw [HML.out]; exact HR7.out, HB7.out⟩
theorem refMake_bad (w : World) (k : List UInt8) (x : Nat → Nat) (now life : Int) (h : (timeB now && lifeB life) = false) :
    Calls Try.prog 9 #[.agg (keyV k), .int .i64 now, .int .i64 life, .agg (offV x)] w fun e w' => e = .returned (.tuple #[.slice none 0 0, .int .i64 1]) ∧ Below w.heap.size w w' := by
  have HB0 := Lib.hid (below_alloc (below_alloc (Below.refl w.heap.size w) (.cells (keyV k) 23)) (.cells (offV x) 27))
  generalize keyV k = KV at *
  generalize offV x = OV at *
  have hcase : now < 0 ∨ now > 1099511627776 ∨ life < 1 ∨ life > 2147483648 := by
    unfold timeB lifeB at h
    by_cases a : now < 0
    · exact Or.inl a
    by_cases b : now > 1099511627776
    · exact Or.inr (Or.inl b)
    by_cases c : life < 1
    · exact Or.inr (Or.inr (Or.inl c))
    by_cases d : life > 2147483648
    · exact Or.inr (Or.inr (Or.inr d))
    rw [decide_eq_true (by omega), decide_eq_true (by omega), decide_eq_true (by omega), decide_eq_true (by omega)] at h
    cases h
  clear h
  by_cases a : now < 0
  · go_enter Try.func9, Try.ntmps9
    go_wp2
    go_ret2
    exact ⟨rfl, HB0.out⟩
  by_cases b : now > 1099511627776
  · go_enter Try.func9, Try.ntmps9
    go_wp2
    go_ret2
    exact ⟨rfl, HB0.out⟩
  by_cases c : life < 1
  · go_enter Try.func9, Try.ntmps9
    go_wp2
    go_ret2
    exact ⟨rfl, HB0.out⟩
  have d : life > 2147483648 := by omega
  go_enter Try.func9, Try.ntmps9
  go_wp2
  go_ret2
  exact ⟨rfl, HB0.out⟩
end Go.Proofs.Ythdemajmlidefaa.Ck
