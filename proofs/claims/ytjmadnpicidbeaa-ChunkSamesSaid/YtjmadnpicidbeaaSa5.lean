/- The texts of one proof, merged: part 5. -/
import Derived.Test.YtjmadnpicidbeaaSa4
import Derived.Deep.WholeRow
import Derived.Lib.SlBytesConst
section
namespace Go.Proofs.Ytjmadnpicidbeaa.Ch
open Go.RowKit Go.Proofs.YtjmadnpicidbeaaW.PrintWords Go.Proofs.YtjmadnpicidbeaaW.PrintLast Go.Proofs.Ytjmadnpicidbeaa.Base Go.Proofs.Ytjmadnpicidbeaa.PCh Go.Proofs.Ytjmadnpicidbeaa.ParDec
set_option maxRecDepth 100000
set_option linter.unusedVariables false
set_option linter.unusedSimpArgs false
set_option maxHeartbeats 4000000 in
theorem bare_0 (w : World) (x : Chk) (L : Lay) (hx : CR w x L) (hk : x.f0 = 0) :
    Calls Try.prog 38 #[.agg (CV x L)] w fun e w' => e = .returned (.agg (CV (bareD x) (keepL (hasF x.f0) L))) ∧ Below w.heap.size w w' := by
  have hres : CV (bareD x) (keepL (hasF x.f0) L) = #[.int .u8 x.f0, .int .u8 (flD x.f0 x.f1), .int .u32 x.f2, .int .u16 x.f3, .int .u16 x.f4, .int .u32 x.f5, .int .u32 0, .int .u32 0, .int .u16 0, .int .u16 0, .slice none 0 0, .slice none 0 0, .slice none 0 0, .slice L.A13 x.f13.length L.c13, .slice none 0 0] := by
    have hf : hasF x.f0 = hasF 0 := by rw [hk]
    unfold bareD
    rw [hf]
    rfl
  rw [hres]
  have HX := Lib.hid hx
  obtain ⟨fl, hfl⟩ : ∃ fl, flD x.f0 x.f1 = fl := ⟨_, rfl⟩
  have HFL := Lib.hid (show bits .and .u8 x.f1 (maskD x.f0) = fl from hfl)
  rw [hfl]
  clear hfl hres hx
  have y0 : (CV x L)[0]? = some (.int .u8 x.f0) := rfl
  have y1 : (CV x L)[1]? = some (.int .u8 x.f1) := rfl
  have y2 : (CV x L)[2]? = some (.int .u32 x.f2) := rfl
  have y3 : (CV x L)[3]? = some (.int .u16 x.f3) := rfl
  have y4 : (CV x L)[4]? = some (.int .u16 x.f4) := rfl
  have y5 : (CV x L)[5]? = some (.int .u32 x.f5) := rfl
  have y6 : (CV x L)[6]? = some (.int .u32 x.f6) := rfl
  have y7 : (CV x L)[7]? = some (.int .u32 x.f7) := rfl
  have y8 : (CV x L)[8]? = some (.int .u16 x.f8) := rfl
  have y9 : (CV x L)[9]? = some (.int .u16 x.f9) := rfl
  have y10 : (CV x L)[10]? = some (.slice L.A10 x.f10.length L.c10) := rfl
  have y11 : (CV x L)[11]? = some (.slice L.A11 x.f11.length L.c11) := rfl
  have y12 : (CV x L)[12]? = some (.slice L.A12 x.f12.length L.c12) := rfl
  have y13 : (CV x L)[13]? = some (.slice L.A13 x.f13.length L.c13) := rfl
  have y14 : (CV x L)[14]? = some (.slice L.A14 x.f14.length L.c14) := rfl
  clear HX
  generalize x.f0 = a0 at *
  generalize x.f1 = a1 at *
  generalize x.f2 = a2 at *
  generalize x.f3 = a3 at *
  generalize x.f4 = a4 at *
  generalize x.f5 = a5 at *
  generalize x.f6 = a6 at *
  generalize x.f7 = a7 at *
  generalize x.f8 = a8 at *
  generalize x.f9 = a9 at *
  generalize x.f10.length = n10 at *
  generalize x.f11.length = n11 at *
  generalize x.f12.length = n12 at *
  generalize x.f13.length = n13 at *
  generalize x.f14.length = n14 at *
  subst hk
  generalize CV x L = CX at *
  have HB := Lib.hid (below_alloc (below_alloc (Below.refl w.heap.size w) (.cells CX 30)) (.cells #[.int .u8 0, .int .u8 0, .int .u32 0, .int .u16 0, .int .u16 0, .int .u32 0, .int .u32 0, .int .u32 0, .int .u16 0, .int .u16 0, .slice none 0 0, .slice none 0 0, .slice none 0 0, .slice none 0 0, .slice none 0 0] 30))
  have hb := (show ((w.alloc (.cells CX 30)).alloc (.cells #[.int .u8 0, .int .u8 0, .int .u32 0, .int .u16 0, .int .u16 0, .int .u32 0, .int .u32 0, .int .u32 0, .int .u16 0, .int .u16 0, .slice none 0 0, .slice none 0 0, .slice none 0 0, .slice none 0 0, .slice none 0 0] 30)).heap[w.heap.size]? = some (.cells CX 30 (0, 0)) from blk_alloc (blk_new _ _) _)
  have HZ := Lib.hid (show ((w.alloc (.cells CX 30)).alloc (.cells #[.int .u8 0, .int .u8 0, .int .u32 0, .int .u16 0, .int .u16 0, .int .u32 0, .int .u32 0, .int .u32 0, .int .u16 0, .int .u16 0, .slice none 0 0, .slice none 0 0, .slice none 0 0, .slice none 0 0, .slice none 0 0] 30)).heap[w.heap.size + 1]? = some (.cells #[.int .u8 0, .int .u8 0, .int .u32 0, .int .u16 0, .int .u16 0, .int .u32 0, .int .u32 0, .int .u32 0, .int .u16 0, .int .u16 0, .slice none 0 0, .slice none 0 0, .slice none 0 0, .slice none 0 0, .slice none 0 0] 30 (0, 0)) by have h := blk_new (w.alloc (.cells CX 30)) (.cells #[.int .u8 0, .int .u8 0, .int .u32 0, .int .u16 0, .int .u16 0, .int .u32 0, .int .u32 0, .int .u32 0, .int .u16 0, .int .u16 0, .slice none 0 0, .slice none 0 0, .slice none 0 0, .slice none 0 0, .slice none 0 0] 30); rw [World.size_alloc] at h; exact h)
  have U0 := Lib.hid ((blk_cell hb 0).trans y0)
  have U1 := Lib.hid ((blk_cell hb 1).trans y1)
  have U2 := Lib.hid ((blk_cell hb 2).trans y2)
  have U3 := Lib.hid ((blk_cell hb 3).trans y3)
  have U4 := Lib.hid ((blk_cell hb 4).trans y4)
  have U5 := Lib.hid ((blk_cell hb 5).trans y5)
  have U6 := Lib.hid ((blk_cell hb 6).trans y6)
  have U7 := Lib.hid ((blk_cell hb 7).trans y7)
  have U8 := Lib.hid ((blk_cell hb 8).trans y8)
  have U9 := Lib.hid ((blk_cell hb 9).trans y9)
  have U10 := Lib.hid ((blk_cell hb 10).trans y10)
  have U11 := Lib.hid ((blk_cell hb 11).trans y11)
  have U12 := Lib.hid ((blk_cell hb 12).trans y12)
  have U13 := Lib.hid ((blk_cell hb 13).trans y13)
  have U14 := Lib.hid ((blk_cell hb 14).trans y14)
  clear hb y0 y1 y2 y3 y4 y5 y6 y7 y8 y9 y10 y11 y12 y13 y14
  go_enter Try.func38, Try.ntmps38
  go_upto_region 1 with (fail)
  generalize ((w.alloc (.cells CX 30)).alloc (.cells #[.int .u8 0, .int .u8 0, .int .u32 0, .int .u16 0, .int .u16 0, .int .u32 0, .int .u32 0, .int .u32 0, .int .u16 0, .int .u16 0, .slice none 0 0, .slice none 0 0, .slice none 0 0, .slice none 0 0, .slice none 0 0] 30)) = W at *
  generalize hgr : w.heap.size + 1 = gr at *
  generalize hgb : w.heap.size = gb at *
  have HGL := Lib.hid (show gb < W.heap.size ∧ gr < W.heap.size ∧ gr = gb + 1 from ⟨World.block_lt_of_cell? W _ U0.out, blk_lt HZ.out, by omega⟩)
  have HGR := Lib.hid (show gr = gb + 1 by omega)
  clear hgr
  have B := True.intro
  refine start_ (n := 11) (S := fun w' => True) (ds := []) #[false, false, false, false, false, false, false, false, false, false, false] (by kernel_rfl) rfl rfl trivial (fun hHeld => ?_)
  refine with_tabW baretab1 barebits1 (fun HT_ HW_ => ?_)
  refine inv_at [0, 1, 2, 3, 4, 5, 6, 7, 8, 9, 10] (fun a0_ b a w' => ∃ (g3 : Nat) (m9_ : Value), a = putSel a0_ b [(0, 4, .pointer (some ⟨gb, 0, none⟩)), (1, 5, .int .u8 0), (2, 6, .pointer (some ⟨gb, 1, none⟩)), (3, 7, .int .u8 a1), (4, 8, .pointer (some ⟨gb, 0, none⟩)), (5, 9, .int .u8 0), (6, 10, .int .u8 (maskD 0)), (7, 11, .int .u8 fl), (8, 12, .agg #[.int .u8 0, .int .u8 fl, .int .u32 0, .int .u16 0, .int .u16 0, .int .u32 0, .int .u32 0, .int .u32 0, .int .u16 0, .int .u16 0, .slice none 0 0, .slice none 0 0, .slice none 0 0, .slice none 0 0, .slice none 0 0]), (9, 3, m9_)] ∧ (Below W.heap.size W w') ∧ (b 9 = true → b 10 = false → w'.heap[g3]? = some (.cells #[.int .u8 0, .int .u8 0, .int .u32 0, .int .u16 0, .int .u16 0, .int .u32 0, .int .u32 0, .int .u32 0, .int .u16 0, .int .u16 0, .slice none 0 0, .slice none 0 0, .slice none 0 0, .slice none 0 0, .slice none 0 0] 30 (0, 0)) ∧ W.heap.size ≤ g3) ∧ (b 10 = true → w'.heap[g3]? = some (.cells #[.int .u8 0, .int .u8 fl, .int .u32 0, .int .u16 0, .int .u16 0, .int .u32 0, .int .u32 0, .int .u32 0, .int .u16 0, .int .u16 0, .slice none 0 0, .slice none 0 0, .slice none 0 0, .slice none 0 0, .slice none 0 0] 30 (0, 0)) ∧ W.heap.size ≤ g3) ∧ (b 9 = true → (m9_ : Value) = .pointer (some ⟨g3, 0, none⟩))) HT_.out HW_.out (by kernel_rfl) (by kernel_rfl) ?_ ?_ ?_
  · exact ⟨0, .bool false, by simp only [putSel, Bool.false_eq_true, if_false], below_drew (Below.refl _ _), fun h_ => absurd h_ (by decide), fun h_ => absurd h_ (by decide), fun h_ => absurd h_ (by decide)⟩
  · skip
    clear B
    refine steps_cons ?_ ?_
    · rintro b a w' ⟨g3, m9_, ha, Q_B, Q_Z, Q_Z2, Q_X9_⟩ hb_ hon hoff
      refine ⟨_, rfl, fun K hK => ?_⟩
      have e1 : a.tmps[1]? = some (.pointer (some ⟨gb, 0, none⟩)) := by rw [ha]; exact (putSel_off rfl).trans rfl
      replace ha := Aside0.mk ha
      have B := Aside0.mk Q_B
      refine value_ (w1 := w') (v := .pointer (some ⟨gb, 0, none⟩)) (by rfl) rfl ?_ ?_
      · go_simp
        (try simp only [i64_w])
        try rfl
      refine hK.out _ _ ⟨g3, m9_, (by rw [ha.out]; exact putSel_upk 0 hb_ rfl rfl rfl), Q_B, Q_Z, fun h0_ => absurd ((hoff 10 (by kernel_rfl)).symm.trans h0_) (by decide), Q_X9_⟩
    refine steps_cons ?_ ?_
    · rintro b a w' ⟨g3, m9_, ha, Q_B, Q_Z, Q_Z2, Q_X9_⟩ hb_ hon hoff
      refine ⟨_, rfl, fun K hK => ?_⟩
      have e4 : a.tmps[4]? = some (.pointer (some ⟨gb, 0, none⟩)) := by rw [ha]; exact putSel_on (e := (0, 4, .pointer (some ⟨gb, 0, none⟩))) 0 rfl rfl (hon 0 (by kernel_rfl)) rfl
      replace ha := Aside0.mk ha
      have B := Aside0.mk Q_B
      have hs : w'.cell? ⟨gb, 0, none⟩ = some (.int .u8 0) := pw_cell_below B.out U0.out
      refine value_ (w1 := w') (v := .int .u8 0) (by rfl) rfl ?_ ?_
      · go_simp
        (try simp only [i64_w])
        try rfl
      refine hK.out _ _ ⟨g3, m9_, (by rw [ha.out]; exact putSel_upk 1 hb_ rfl rfl rfl), Q_B, Q_Z, fun h0_ => absurd ((hoff 10 (by kernel_rfl)).symm.trans h0_) (by decide), Q_X9_⟩
    refine steps_cons ?_ ?_
    · rintro b a w' ⟨g3, m9_, ha, Q_B, Q_Z, Q_Z2, Q_X9_⟩ hb_ hon hoff
      refine ⟨_, rfl, fun K hK => ?_⟩
      have e1 : a.tmps[1]? = some (.pointer (some ⟨gb, 0, none⟩)) := by rw [ha]; exact (putSel_off rfl).trans rfl
      replace ha := Aside0.mk ha
      have B := Aside0.mk Q_B
      refine value_ (w1 := w') (v := .pointer (some ⟨gb, 1, none⟩)) (by rfl) rfl ?_ ?_
      · go_simp
        (try simp only [i64_w])
        try rfl
      refine hK.out _ _ ⟨g3, m9_, (by rw [ha.out]; exact putSel_upk 2 hb_ rfl rfl rfl), Q_B, Q_Z, fun h0_ => absurd ((hoff 10 (by kernel_rfl)).symm.trans h0_) (by decide), Q_X9_⟩
    refine steps_cons ?_ ?_
    · rintro b a w' ⟨g3, m9_, ha, Q_B, Q_Z, Q_Z2, Q_X9_⟩ hb_ hon hoff
      refine ⟨_, rfl, fun K hK => ?_⟩
      have e6 : a.tmps[6]? = some (.pointer (some ⟨gb, 1, none⟩)) := by rw [ha]; exact putSel_on (e := (2, 6, .pointer (some ⟨gb, 1, none⟩))) 2 rfl rfl (hon 2 (by kernel_rfl)) rfl
      replace ha := Aside0.mk ha
      have B := Aside0.mk Q_B
      have hs : w'.cell? ⟨gb, 1, none⟩ = some (.int .u8 a1) := pw_cell_below B.out U1.out
      refine value_ (w1 := w') (v := .int .u8 a1) (by rfl) rfl ?_ ?_
      · go_simp
        (try simp only [i64_w])
        try rfl
      refine hK.out _ _ ⟨g3, m9_, (by rw [ha.out]; exact putSel_upk 3 hb_ rfl rfl rfl), Q_B, Q_Z, fun h0_ => absurd ((hoff 10 (by kernel_rfl)).symm.trans h0_) (by decide), Q_X9_⟩
    refine steps_cons ?_ ?_
    · rintro b a w' ⟨g3, m9_, ha, Q_B, Q_Z, Q_Z2, Q_X9_⟩ hb_ hon hoff
      refine ⟨_, rfl, fun K hK => ?_⟩
      have e1 : a.tmps[1]? = some (.pointer (some ⟨gb, 0, none⟩)) := by rw [ha]; exact (putSel_off rfl).trans rfl
      replace ha := Aside0.mk ha
      have B := Aside0.mk Q_B
      refine value_ (w1 := w') (v := .pointer (some ⟨gb, 0, none⟩)) (by rfl) rfl ?_ ?_
      · go_simp
        (try simp only [i64_w])
        try rfl
      refine hK.out _ _ ⟨g3, m9_, (by rw [ha.out]; exact putSel_upk 4 hb_ rfl rfl rfl), Q_B, Q_Z, fun h0_ => absurd ((hoff 10 (by kernel_rfl)).symm.trans h0_) (by decide), Q_X9_⟩
    refine steps_cons ?_ ?_
    · rintro b a w' ⟨g3, m9_, ha, Q_B, Q_Z, Q_Z2, Q_X9_⟩ hb_ hon hoff
      refine ⟨_, rfl, fun K hK => ?_⟩
      have e8 : a.tmps[8]? = some (.pointer (some ⟨gb, 0, none⟩)) := by rw [ha]; exact putSel_on (e := (4, 8, .pointer (some ⟨gb, 0, none⟩))) 4 rfl rfl (hon 4 (by kernel_rfl)) rfl
      replace ha := Aside0.mk ha
      have B := Aside0.mk Q_B
      have hs : w'.cell? ⟨gb, 0, none⟩ = some (.int .u8 0) := pw_cell_below B.out U0.out
      refine value_ (w1 := w') (v := .int .u8 0) (by rfl) rfl ?_ ?_
      · go_simp
        (try simp only [i64_w])
        try rfl
      refine hK.out _ _ ⟨g3, m9_, (by rw [ha.out]; exact putSel_upk 5 hb_ rfl rfl rfl), Q_B, Q_Z, fun h0_ => absurd ((hoff 10 (by kernel_rfl)).symm.trans h0_) (by decide), Q_X9_⟩
    refine steps_cons ?_ ?_
    · rintro b a w' ⟨g3, m9_, ha, Q_B, Q_Z, Q_Z2, Q_X9_⟩ hb_ hon hoff
      refine ⟨_, rfl, fun K hK => ?_⟩
      have e9 : a.tmps[9]? = some (.int .u8 0) := by rw [ha]; exact putSel_on (e := (5, 9, .int .u8 0)) 5 rfl rfl (hon 5 (by kernel_rfl)) rfl
      replace ha := Aside0.mk ha
      have B := Aside0.mk Q_B
      refine goes_ Try.func25 (by kernel_rfl) rfl #[.int .u8 0] (by rfl) rfl rfl (by first | (simp only [List.map_toArray, List.map_cons, List.map_nil, Act.eval, Array.getD_eq_getD_getElem?, Option.getD_some, e9]; done) | (simp only [List.map_toArray, List.map_cons, List.map_nil, Act.eval, Array.getD_eq_getD_getElem?, Option.getD_some, e9]; rfl)) ?_
      refine (mask_calls 0 w').mono ?_
      rintro e w1 ⟨rfl, hD1⟩
      refine ⟨_, rfl, ?_⟩
      refine hK.out _ _ ⟨g3, m9_, (by rw [ha.out]; exact putSel_upk 6 hb_ rfl rfl rfl), below_then B.out B.out.size (drawn_below hD1), fun h0_ h1_ => ⟨blk_below (Q_Z h0_ h1_).1 (drawn_below hD1), (Q_Z h0_ h1_).2⟩, fun h0_ => absurd ((hoff 10 (by kernel_rfl)).symm.trans h0_) (by decide), Q_X9_⟩
    refine steps_cons ?_ ?_
    · rintro b a w' ⟨g3, m9_, ha, Q_B, Q_Z, Q_Z2, Q_X9_⟩ hb_ hon hoff
      refine ⟨_, rfl, fun K hK => ?_⟩
      have e7 : a.tmps[7]? = some (.int .u8 a1) := by rw [ha]; exact putSel_on (e := (3, 7, .int .u8 a1)) 3 rfl rfl (hon 3 (by kernel_rfl)) rfl
      have e10 : a.tmps[10]? = some (.int .u8 (maskD 0)) := by rw [ha]; exact putSel_on (e := (6, 10, .int .u8 (maskD 0))) 6 rfl rfl (hon 6 (by kernel_rfl)) rfl
      replace ha := Aside0.mk ha
      have B := Aside0.mk Q_B
      refine value_ (w1 := w') (v := .int .u8 fl) (by rfl) rfl (by go_simp; first | done | exact HFL.out) ?_
      refine hK.out _ _ ⟨g3, m9_, (by rw [ha.out]; exact putSel_upk 7 hb_ rfl rfl rfl), B.out, fun h0_ h1_ => (Q_Z h0_ h1_), fun h0_ => absurd ((hoff 10 (by kernel_rfl)).symm.trans h0_) (by decide), Q_X9_⟩
    refine steps_cons ?_ ?_
    · rintro b a w' ⟨g3, m9_, ha, Q_B, Q_Z, Q_Z2, Q_X9_⟩ hb_ hon hoff
      refine ⟨_, rfl, fun K hK => ?_⟩
      have e5 : a.tmps[5]? = some (.int .u8 0) := by rw [ha]; exact putSel_on (e := (1, 5, .int .u8 0)) 1 rfl rfl (hon 1 (by kernel_rfl)) rfl
      have e11 : a.tmps[11]? = some (.int .u8 fl) := by rw [ha]; exact putSel_on (e := (7, 11, .int .u8 fl)) 7 rfl rfl (hon 7 (by kernel_rfl)) rfl
      replace ha := Aside0.mk ha
      have B := Aside0.mk Q_B
      refine value_ (w1 := w') (v := .agg #[.int .u8 0, .int .u8 fl, .int .u32 0, .int .u16 0, .int .u16 0, .int .u32 0, .int .u32 0, .int .u32 0, .int .u16 0, .int .u16 0, .slice none 0 0, .slice none 0 0, .slice none 0 0, .slice none 0 0, .slice none 0 0]) (by rfl) rfl ?_ ?_
      · go_simp
        (try simp only [i64_w])
        try rfl
      refine hK.out _ _ ⟨g3, m9_, (by rw [ha.out]; exact putSel_upk 8 hb_ rfl rfl rfl), Q_B, Q_Z, fun h0_ => absurd ((hoff 10 (by kernel_rfl)).symm.trans h0_) (by decide), Q_X9_⟩
    refine steps_cons ?_ ?_
    · rintro b a w' ⟨g3, m9_, ha, Q_B, Q_Z, Q_Z2, Q_X9_⟩ hb_ hon hoff
      refine ⟨_, rfl, fun K hK => ?_⟩
      replace ha := Aside0.mk ha
      have B := Aside0.mk Q_B
      refine value_ (w1 := w'.alloc (.cells #[.int .u8 0, .int .u8 0, .int .u32 0, .int .u16 0, .int .u16 0, .int .u32 0, .int .u32 0, .int .u32 0, .int .u16 0, .int .u16 0, .slice none 0 0, .slice none 0 0, .slice none 0 0, .slice none 0 0, .slice none 0 0] 30)) (v := .pointer (some ⟨w'.heap.size, 0, none⟩)) (by rfl) rfl (by go_simp; try rfl) ?_
      refine hK.out _ _ ⟨w'.heap.size, (.pointer (some ⟨w'.heap.size, 0, none⟩)), (by rw [ha.out]; exact putSel_upk 9 hb_ rfl rfl rfl), B.out.alloc B.out.size _, fun _ _ => ⟨blk_new _ _, B.out.size⟩, fun h0_ => absurd ((hoff 10 (by kernel_rfl)).symm.trans h0_) (by decide), fun _ => rfl⟩
    refine steps_cons ?_ ?_
    · rintro b a w' ⟨g3, m9_, ha, Q_B, Q_Z, Q_Z2, Q_X9_⟩ hb_ hon hoff
      refine ⟨_, rfl, fun K hK => ?_⟩
      have e3 : a.tmps[3]? = some (m9_) := by rw [ha]; exact putSel_on (e := (9, 3, m9_)) 9 rfl rfl (hon 9 (by kernel_rfl)) rfl
      rw [Q_X9_ (hon 9 (by kernel_rfl))] at e3
      have e12 : a.tmps[12]? = some (.agg #[.int .u8 0, .int .u8 fl, .int .u32 0, .int .u16 0, .int .u16 0, .int .u32 0, .int .u32 0, .int .u32 0, .int .u16 0, .int .u16 0, .slice none 0 0, .slice none 0 0, .slice none 0 0, .slice none 0 0, .slice none 0 0]) := by rw [ha]; exact putSel_on (e := (8, 12, .agg #[.int .u8 0, .int .u8 fl, .int .u32 0, .int .u16 0, .int .u16 0, .int .u32 0, .int .u32 0, .int .u32 0, .int .u16 0, .int .u16 0, .slice none 0 0, .slice none 0 0, .slice none 0 0, .slice none 0 0, .slice none 0 0])) 8 rfl rfl (hon 8 (by kernel_rfl)) rfl
      replace ha := Aside0.mk ha
      have B := Aside0.mk Q_B
      have Z := Aside0.mk (Q_Z (hon 9 (by kernel_rfl)) hb_)
      refine skip_ (w1 := w'.setRow g3 #[.int .u8 0, .int .u8 fl, .int .u32 0, .int .u16 0, .int .u16 0, .int .u32 0, .int .u32 0, .int .u32 0, .int .u16 0, .int .u16 0, .slice none 0 0, .slice none 0 0, .slice none 0 0, .slice none 0 0, .slice none 0 0]) (by rfl) rfl (exec_store_row 30 (.tmp 3) (.tmp 12) rfl (eval_of e3) (eval_of e12) Z.out.1 (by kernel_rfl) rfl (by simp [Value.oneCell'])) ?_
      refine hK.out _ _ ⟨g3, m9_, (by rw [ha.out]; exact putSel_none (v := undef) rfl), below_setRow B.out Z.out.2 _, fun _ h1_ => absurd ((up_self b 10).symm.trans h1_) (by decide), fun _ => ⟨setRow_heap _ _ _ _ _ _ Z.out.1, Z.out.2⟩, Q_X9_⟩
    exact steps_nil
  rintro b a w' hall ⟨g3, m9_, ha, Q_B, Q_Z, Q_Z2, Q_X9_⟩
  clear B
  have hb0_ := hall 0 (by kernel_rfl)
  have hb1_ := hall 1 (by kernel_rfl)
  have hb2_ := hall 2 (by kernel_rfl)
  have hb3_ := hall 3 (by kernel_rfl)
  have hb4_ := hall 4 (by kernel_rfl)
  have hb5_ := hall 5 (by kernel_rfl)
  have hb6_ := hall 6 (by kernel_rfl)
  have hb7_ := hall 7 (by kernel_rfl)
  have hb8_ := hall 8 (by kernel_rfl)
  have hb9_ := hall 9 (by kernel_rfl)
  have hb10_ := hall 10 (by kernel_rfl)
  subst ha
  obtain rfl := Q_X9_ hb9_
  simp only [putSel, hb0_, hb1_, hb2_, hb3_, hb4_, hb5_, hb6_, hb7_, hb8_, hb9_, hb10_, if_true, Act.put, List.setIfInBounds_toArray, List.set_cons_zero, List.set_cons_succ]
  have B := Aside0.mk Q_B
  clear Q_B
  clear Q_Z
  have Z2 := Aside0.mk (Q_Z2 hb10_)
  clear Q_Z2
  clear hall hb0_ hb1_ hb2_ hb3_ hb4_ hb5_ hb6_ hb7_ hb8_ hb9_ hb10_
  have HC := Lib.hid Z2.out.1
  have HNB := Lib.hid (show ¬ gb = g3 by have := Z2.out.2; have := HGL.out; omega)
  have HNR := Lib.hid (show ¬ gr = g3 by have := Z2.out.2; have := HGL.out; omega)
  have HLE := Lib.hid (show gb ≤ g3 by have := Z2.out.2; have := HGL.out; omega)
  replace HB := Lib.hid (below_then HB.out (by have := HGL.out; omega) B.out)
  replace HZ := Lib.hid (blk_below HZ.out B.out)
  replace U0 := Lib.hid (pw_cell_below B.out U0.out)
  replace U1 := Lib.hid (pw_cell_below B.out U1.out)
  replace U2 := Lib.hid (pw_cell_below B.out U2.out)
  replace U3 := Lib.hid (pw_cell_below B.out U3.out)
  replace U4 := Lib.hid (pw_cell_below B.out U4.out)
  replace U5 := Lib.hid (pw_cell_below B.out U5.out)
  replace U6 := Lib.hid (pw_cell_below B.out U6.out)
  replace U7 := Lib.hid (pw_cell_below B.out U7.out)
  replace U8 := Lib.hid (pw_cell_below B.out U8.out)
  replace U9 := Lib.hid (pw_cell_below B.out U9.out)
  replace U10 := Lib.hid (pw_cell_below B.out U10.out)
  replace U11 := Lib.hid (pw_cell_below B.out U11.out)
  replace U12 := Lib.hid (pw_cell_below B.out U12.out)
  replace U13 := Lib.hid (pw_cell_below B.out U13.out)
  replace U14 := Lib.hid (pw_cell_below B.out U14.out)
  clear B Z2 HFL HGL
  generalize w' = W at *
  have k0 := U0.out
  go_upto_region 16 with (fail)
  clear k0
  have B := True.intro
  have C := True.intro
  refine start_ (n := 20) (S := fun w' => True) (ds := []) #[false, false, false, false, false, false, false, false, false, false, false, false, false, false, false, false, false, false, false, false] (by kernel_rfl) rfl rfl trivial (fun hHeld => ?_)
  refine with_tabW baretab16 barebits16 (fun HT_ HW_ => ?_)
  refine inv_at [0, 1, 2, 3, 4, 5, 6, 7, 8, 9, 10, 11, 12, 13, 14, 15, 16, 17, 18, 19] (fun a0_ b a w' => ∃ (x2 : Value) (x3 : Value) (x4 : Value) (x5 : Value) (x13 : Value), a = putSel a0_ b [(0, 36, .pointer (some ⟨gb, 2, none⟩)), (1, 37, .int .u32 a2), (2, 38, .pointer (some ⟨gb, 3, none⟩)), (3, 39, .int .u16 a3), (4, 40, .pointer (some ⟨gb, 4, none⟩)), (5, 41, .int .u16 a4), (6, 42, .pointer (some ⟨gb, 5, none⟩)), (7, 43, .int .u32 a5), (8, 44, .pointer (some ⟨gb, 13, none⟩)), (9, 45, .slice L.A13 n13 L.c13), (10, 46, .pointer (some ⟨g3, 2, none⟩)), (12, 47, .pointer (some ⟨g3, 3, none⟩)), (14, 48, .pointer (some ⟨g3, 4, none⟩)), (16, 49, .pointer (some ⟨g3, 5, none⟩)), (18, 50, .pointer (some ⟨g3, 13, none⟩))] ∧ (Only (· = g3) W w') ∧ (w'.heap[g3]? = some (.cells #[.int .u8 0, .int .u8 fl, x2, x3, x4, x5, .int .u32 0, .int .u32 0, .int .u16 0, .int .u16 0, .slice none 0 0, .slice none 0 0, .slice none 0 0, x13, .slice none 0 0] 30 (0, 0))) ∧ (b 11 = true → x2 = .int .u32 a2) ∧ (b 13 = true → x3 = .int .u16 a3) ∧ (b 15 = true → x4 = .int .u16 a4) ∧ (b 17 = true → x5 = .int .u32 a5) ∧ (b 19 = true → x13 = .slice L.A13 n13 L.c13)) HT_.out HW_.out (by kernel_rfl) (by kernel_rfl) ?_ ?_ ?_
  · exact ⟨.int .u32 0, .int .u16 0, .int .u16 0, .int .u32 0, .slice none 0 0, by simp only [putSel, Bool.false_eq_true, if_false], (Only.refl _ _).drew, HC.out, fun h_ => absurd h_ (by decide), fun h_ => absurd h_ (by decide), fun h_ => absurd h_ (by decide), fun h_ => absurd h_ (by decide), fun h_ => absurd h_ (by decide)⟩
  · skip
    clear B C
    refine steps_cons ?_ ?_
    · rintro b a w' ⟨x2, x3, x4, x5, x13, ha, Q_B, Q_C, Q_E2, Q_E3, Q_E4, Q_E5, Q_E13⟩ hb_ hon hoff
      refine ⟨_, rfl, fun K hK => ?_⟩
      have e1 : a.tmps[1]? = some (.pointer (some ⟨gb, 0, none⟩)) := by rw [ha]; exact (putSel_off rfl).trans rfl
      replace ha := Aside0.mk ha
      have B := Aside0.mk Q_B
      have C := Aside0.mk Q_C
      refine value_ (w1 := w') (v := .pointer (some ⟨gb, 2, none⟩)) (by rfl) rfl ?_ ?_
      · go_simp
        (try simp only [i64_w])
        try rfl
      refine hK.out _ _ ⟨x2, x3, x4, x5, x13, (by rw [ha.out]; exact putSel_upk 0 hb_ rfl rfl rfl), Q_B, Q_C, fun h0_ => absurd ((hoff 11 (by kernel_rfl)).symm.trans h0_) (by decide), fun h0_ => absurd ((hoff 13 (by kernel_rfl)).symm.trans h0_) (by decide), fun h0_ => absurd ((hoff 15 (by kernel_rfl)).symm.trans h0_) (by decide), fun h0_ => absurd ((hoff 17 (by kernel_rfl)).symm.trans h0_) (by decide), fun h0_ => absurd ((hoff 19 (by kernel_rfl)).symm.trans h0_) (by decide)⟩
    refine steps_cons ?_ ?_
    · rintro b a w' ⟨x2, x3, x4, x5, x13, ha, Q_B, Q_C, Q_E2, Q_E3, Q_E4, Q_E5, Q_E13⟩ hb_ hon hoff
      refine ⟨_, rfl, fun K hK => ?_⟩
      have e36 : a.tmps[36]? = some (.pointer (some ⟨gb, 2, none⟩)) := by rw [ha]; exact putSel_on (e := (0, 36, .pointer (some ⟨gb, 2, none⟩))) 0 rfl rfl (hon 0 (by kernel_rfl)) rfl
      replace ha := Aside0.mk ha
      have B := Aside0.mk Q_B
      have C := Aside0.mk Q_C
      have hs : w'.cell? ⟨gb, 2, none⟩ = some (.int .u32 a2) := B.out.cell U2.out HNB.out
      refine value_ (w1 := w') (v := .int .u32 a2) (by rfl) rfl ?_ ?_
      · go_simp
        (try simp only [i64_w])
        try rfl
      refine hK.out _ _ ⟨x2, x3, x4, x5, x13, (by rw [ha.out]; exact putSel_upk 1 hb_ rfl rfl rfl), Q_B, Q_C, fun h0_ => absurd ((hoff 11 (by kernel_rfl)).symm.trans h0_) (by decide), fun h0_ => absurd ((hoff 13 (by kernel_rfl)).symm.trans h0_) (by decide), fun h0_ => absurd ((hoff 15 (by kernel_rfl)).symm.trans h0_) (by decide), fun h0_ => absurd ((hoff 17 (by kernel_rfl)).symm.trans h0_) (by decide), fun h0_ => absurd ((hoff 19 (by kernel_rfl)).symm.trans h0_) (by decide)⟩
    refine steps_cons ?_ ?_
    · rintro b a w' ⟨x2, x3, x4, x5, x13, ha, Q_B, Q_C, Q_E2, Q_E3, Q_E4, Q_E5, Q_E13⟩ hb_ hon hoff
      refine ⟨_, rfl, fun K hK => ?_⟩
      have e1 : a.tmps[1]? = some (.pointer (some ⟨gb, 0, none⟩)) := by rw [ha]; exact (putSel_off rfl).trans rfl
      replace ha := Aside0.mk ha
      have B := Aside0.mk Q_B
      have C := Aside0.mk Q_C
      refine value_ (w1 := w') (v := .pointer (some ⟨gb, 3, none⟩)) (by rfl) rfl ?_ ?_
      · go_simp
        (try simp only [i64_w])
        try rfl
      refine hK.out _ _ ⟨x2, x3, x4, x5, x13, (by rw [ha.out]; exact putSel_upk 2 hb_ rfl rfl rfl), Q_B, Q_C, Q_E2, fun h0_ => absurd ((hoff 13 (by kernel_rfl)).symm.trans h0_) (by decide), fun h0_ => absurd ((hoff 15 (by kernel_rfl)).symm.trans h0_) (by decide), fun h0_ => absurd ((hoff 17 (by kernel_rfl)).symm.trans h0_) (by decide), fun h0_ => absurd ((hoff 19 (by kernel_rfl)).symm.trans h0_) (by decide)⟩
    refine steps_cons ?_ ?_
    · rintro b a w' ⟨x2, x3, x4, x5, x13, ha, Q_B, Q_C, Q_E2, Q_E3, Q_E4, Q_E5, Q_E13⟩ hb_ hon hoff
      refine ⟨_, rfl, fun K hK => ?_⟩
      have e38 : a.tmps[38]? = some (.pointer (some ⟨gb, 3, none⟩)) := by rw [ha]; exact putSel_on (e := (2, 38, .pointer (some ⟨gb, 3, none⟩))) 2 rfl rfl (hon 2 (by kernel_rfl)) rfl
      replace ha := Aside0.mk ha
      have B := Aside0.mk Q_B
      have C := Aside0.mk Q_C
      have hs : w'.cell? ⟨gb, 3, none⟩ = some (.int .u16 a3) := B.out.cell U3.out HNB.out
      refine value_ (w1 := w') (v := .int .u16 a3) (by rfl) rfl ?_ ?_
      · go_simp
        (try simp only [i64_w])
        try rfl
      refine hK.out _ _ ⟨x2, x3, x4, x5, x13, (by rw [ha.out]; exact putSel_upk 3 hb_ rfl rfl rfl), Q_B, Q_C, Q_E2, fun h0_ => absurd ((hoff 13 (by kernel_rfl)).symm.trans h0_) (by decide), fun h0_ => absurd ((hoff 15 (by kernel_rfl)).symm.trans h0_) (by decide), fun h0_ => absurd ((hoff 17 (by kernel_rfl)).symm.trans h0_) (by decide), fun h0_ => absurd ((hoff 19 (by kernel_rfl)).symm.trans h0_) (by decide)⟩
    refine steps_cons ?_ ?_
    · rintro b a w' ⟨x2, x3, x4, x5, x13, ha, Q_B, Q_C, Q_E2, Q_E3, Q_E4, Q_E5, Q_E13⟩ hb_ hon hoff
      refine ⟨_, rfl, fun K hK => ?_⟩
      have e1 : a.tmps[1]? = some (.pointer (some ⟨gb, 0, none⟩)) := by rw [ha]; exact (putSel_off rfl).trans rfl
      replace ha := Aside0.mk ha
      have B := Aside0.mk Q_B
      have C := Aside0.mk Q_C
      refine value_ (w1 := w') (v := .pointer (some ⟨gb, 4, none⟩)) (by rfl) rfl ?_ ?_
      · go_simp
        (try simp only [i64_w])
        try rfl
      refine hK.out _ _ ⟨x2, x3, x4, x5, x13, (by rw [ha.out]; exact putSel_upk 4 hb_ rfl rfl rfl), Q_B, Q_C, Q_E2, Q_E3, fun h0_ => absurd ((hoff 15 (by kernel_rfl)).symm.trans h0_) (by decide), fun h0_ => absurd ((hoff 17 (by kernel_rfl)).symm.trans h0_) (by decide), fun h0_ => absurd ((hoff 19 (by kernel_rfl)).symm.trans h0_) (by decide)⟩
    refine steps_cons ?_ ?_
    · rintro b a w' ⟨x2, x3, x4, x5, x13, ha, Q_B, Q_C, Q_E2, Q_E3, Q_E4, Q_E5, Q_E13⟩ hb_ hon hoff
      refine ⟨_, rfl, fun K hK => ?_⟩
      have e40 : a.tmps[40]? = some (.pointer (some ⟨gb, 4, none⟩)) := by rw [ha]; exact putSel_on (e := (4, 40, .pointer (some ⟨gb, 4, none⟩))) 4 rfl rfl (hon 4 (by kernel_rfl)) rfl
      replace ha := Aside0.mk ha
      have B := Aside0.mk Q_B
      have C := Aside0.mk Q_C
      have hs : w'.cell? ⟨gb, 4, none⟩ = some (.int .u16 a4) := B.out.cell U4.out HNB.out
      refine value_ (w1 := w') (v := .int .u16 a4) (by rfl) rfl ?_ ?_
      · go_simp
        (try simp only [i64_w])
        try rfl
      refine hK.out _ _ ⟨x2, x3, x4, x5, x13, (by rw [ha.out]; exact putSel_upk 5 hb_ rfl rfl rfl), Q_B, Q_C, Q_E2, Q_E3, fun h0_ => absurd ((hoff 15 (by kernel_rfl)).symm.trans h0_) (by decide), fun h0_ => absurd ((hoff 17 (by kernel_rfl)).symm.trans h0_) (by decide), fun h0_ => absurd ((hoff 19 (by kernel_rfl)).symm.trans h0_) (by decide)⟩
    refine steps_cons ?_ ?_
    · rintro b a w' ⟨x2, x3, x4, x5, x13, ha, Q_B, Q_C, Q_E2, Q_E3, Q_E4, Q_E5, Q_E13⟩ hb_ hon hoff
      refine ⟨_, rfl, fun K hK => ?_⟩
      have e1 : a.tmps[1]? = some (.pointer (some ⟨gb, 0, none⟩)) := by rw [ha]; exact (putSel_off rfl).trans rfl
      replace ha := Aside0.mk ha
      have B := Aside0.mk Q_B
      have C := Aside0.mk Q_C
      refine value_ (w1 := w') (v := .pointer (some ⟨gb, 5, none⟩)) (by rfl) rfl ?_ ?_
      · go_simp
        (try simp only [i64_w])
        try rfl
      refine hK.out _ _ ⟨x2, x3, x4, x5, x13, (by rw [ha.out]; exact putSel_upk 6 hb_ rfl rfl rfl), Q_B, Q_C, Q_E2, Q_E3, Q_E4, fun h0_ => absurd ((hoff 17 (by kernel_rfl)).symm.trans h0_) (by decide), fun h0_ => absurd ((hoff 19 (by kernel_rfl)).symm.trans h0_) (by decide)⟩
    refine steps_cons ?_ ?_
    · rintro b a w' ⟨x2, x3, x4, x5, x13, ha, Q_B, Q_C, Q_E2, Q_E3, Q_E4, Q_E5, Q_E13⟩ hb_ hon hoff
      refine ⟨_, rfl, fun K hK => ?_⟩
      have e42 : a.tmps[42]? = some (.pointer (some ⟨gb, 5, none⟩)) := by rw [ha]; exact putSel_on (e := (6, 42, .pointer (some ⟨gb, 5, none⟩))) 6 rfl rfl (hon 6 (by kernel_rfl)) rfl
      replace ha := Aside0.mk ha
      have B := Aside0.mk Q_B
      have C := Aside0.mk Q_C
      have hs : w'.cell? ⟨gb, 5, none⟩ = some (.int .u32 a5) := B.out.cell U5.out HNB.out
      refine value_ (w1 := w') (v := .int .u32 a5) (by rfl) rfl ?_ ?_
      · go_simp
        (try simp only [i64_w])
        try rfl
      refine hK.out _ _ ⟨x2, x3, x4, x5, x13, (by rw [ha.out]; exact putSel_upk 7 hb_ rfl rfl rfl), Q_B, Q_C, Q_E2, Q_E3, Q_E4, fun h0_ => absurd ((hoff 17 (by kernel_rfl)).symm.trans h0_) (by decide), fun h0_ => absurd ((hoff 19 (by kernel_rfl)).symm.trans h0_) (by decide)⟩
    refine steps_cons ?_ ?_
    · rintro b a w' ⟨x2, x3, x4, x5, x13, ha, Q_B, Q_C, Q_E2, Q_E3, Q_E4, Q_E5, Q_E13⟩ hb_ hon hoff
      refine ⟨_, rfl, fun K hK => ?_⟩
      have e1 : a.tmps[1]? = some (.pointer (some ⟨gb, 0, none⟩)) := by rw [ha]; exact (putSel_off rfl).trans rfl
      replace ha := Aside0.mk ha
      have B := Aside0.mk Q_B
      have C := Aside0.mk Q_C
      refine value_ (w1 := w') (v := .pointer (some ⟨gb, 13, none⟩)) (by rfl) rfl ?_ ?_
      · go_simp
        (try simp only [i64_w])
        try rfl
      refine hK.out _ _ ⟨x2, x3, x4, x5, x13, (by rw [ha.out]; exact putSel_upk 8 hb_ rfl rfl rfl), Q_B, Q_C, Q_E2, Q_E3, Q_E4, Q_E5, fun h0_ => absurd ((hoff 19 (by kernel_rfl)).symm.trans h0_) (by decide)⟩
    refine steps_cons ?_ ?_
    · rintro b a w' ⟨x2, x3, x4, x5, x13, ha, Q_B, Q_C, Q_E2, Q_E3, Q_E4, Q_E5, Q_E13⟩ hb_ hon hoff
      refine ⟨_, rfl, fun K hK => ?_⟩
      have e44 : a.tmps[44]? = some (.pointer (some ⟨gb, 13, none⟩)) := by rw [ha]; exact putSel_on (e := (8, 44, .pointer (some ⟨gb, 13, none⟩))) 8 rfl rfl (hon 8 (by kernel_rfl)) rfl
      replace ha := Aside0.mk ha
      have B := Aside0.mk Q_B
      have C := Aside0.mk Q_C
      have hs : w'.cell? ⟨gb, 13, none⟩ = some (.slice L.A13 n13 L.c13) := B.out.cell U13.out HNB.out
      refine value_ (w1 := w') (v := .slice L.A13 n13 L.c13) (by rfl) rfl ?_ ?_
      · go_simp
        (try simp only [i64_w])
        try rfl
      refine hK.out _ _ ⟨x2, x3, x4, x5, x13, (by rw [ha.out]; exact putSel_upk 9 hb_ rfl rfl rfl), Q_B, Q_C, Q_E2, Q_E3, Q_E4, Q_E5, fun h0_ => absurd ((hoff 19 (by kernel_rfl)).symm.trans h0_) (by decide)⟩
    refine steps_cons ?_ ?_
    · rintro b a w' ⟨x2, x3, x4, x5, x13, ha, Q_B, Q_C, Q_E2, Q_E3, Q_E4, Q_E5, Q_E13⟩ hb_ hon hoff
      refine ⟨_, rfl, fun K hK => ?_⟩
      have e3 : a.tmps[3]? = some (.pointer (some ⟨g3, 0, none⟩)) := by rw [ha]; exact (putSel_off rfl).trans rfl
      replace ha := Aside0.mk ha
      have B := Aside0.mk Q_B
      have C := Aside0.mk Q_C
      refine value_ (w1 := w') (v := .pointer (some ⟨g3, 2, none⟩)) (by rfl) rfl ?_ ?_
      · go_simp
        (try simp only [i64_w])
        try rfl
      refine hK.out _ _ ⟨x2, x3, x4, x5, x13, (by rw [ha.out]; exact putSel_upk 10 hb_ rfl rfl rfl), Q_B, Q_C, fun h0_ => absurd ((hoff 11 (by kernel_rfl)).symm.trans h0_) (by decide), fun h0_ => absurd ((hoff 13 (by kernel_rfl)).symm.trans h0_) (by decide), fun h0_ => absurd ((hoff 15 (by kernel_rfl)).symm.trans h0_) (by decide), fun h0_ => absurd ((hoff 17 (by kernel_rfl)).symm.trans h0_) (by decide), fun h0_ => absurd ((hoff 19 (by kernel_rfl)).symm.trans h0_) (by decide)⟩
    refine steps_cons ?_ ?_
    · rintro b a w' ⟨x2, x3, x4, x5, x13, ha, Q_B, Q_C, Q_E2, Q_E3, Q_E4, Q_E5, Q_E13⟩ hb_ hon hoff
      refine ⟨_, rfl, fun K hK => ?_⟩
      have e46 : a.tmps[46]? = some (.pointer (some ⟨g3, 2, none⟩)) := by rw [ha]; exact putSel_on (e := (10, 46, .pointer (some ⟨g3, 2, none⟩))) 10 rfl rfl (hon 10 (by kernel_rfl)) rfl
      have e37 : a.tmps[37]? = some (.int .u32 a2) := by rw [ha]; exact putSel_on (e := (1, 37, .int .u32 a2)) 1 rfl rfl (hon 1 (by kernel_rfl)) rfl
      replace ha := Aside0.mk ha
      have B := Aside0.mk Q_B
      have C := Aside0.mk Q_C
      have hs : w'.cell? ⟨g3, 2, none⟩ = some x2 := blk_cell C.out 2
      have hf := blk_frozen C.out 2
      refine skip_ (w1 := w'.setCell ⟨g3, 2, none⟩ (.int .u32 a2)) (by rfl) rfl (by go_simp; try rfl) ?_
      refine hK.out _ _ ⟨.int .u32 a2, x3, x4, x5, x13, (by rw [ha.out]; exact putSel_none (v := undef) rfl), B.out.setCell (fun _ => rfl) _, blk_put C.out 2 (.int .u32 a2) rfl, fun _ => rfl, fun h0_ => absurd ((hoff 13 (by kernel_rfl)).symm.trans h0_) (by decide), fun h0_ => absurd ((hoff 15 (by kernel_rfl)).symm.trans h0_) (by decide), fun h0_ => absurd ((hoff 17 (by kernel_rfl)).symm.trans h0_) (by decide), fun h0_ => absurd ((hoff 19 (by kernel_rfl)).symm.trans h0_) (by decide)⟩
    refine steps_cons ?_ ?_
    · rintro b a w' ⟨x2, x3, x4, x5, x13, ha, Q_B, Q_C, Q_E2, Q_E3, Q_E4, Q_E5, Q_E13⟩ hb_ hon hoff
      refine ⟨_, rfl, fun K hK => ?_⟩
      have e3 : a.tmps[3]? = some (.pointer (some ⟨g3, 0, none⟩)) := by rw [ha]; exact (putSel_off rfl).trans rfl
      replace ha := Aside0.mk ha
      have B := Aside0.mk Q_B
      have C := Aside0.mk Q_C
      have E2 := Aside0.mk (Q_E2 (hon 11 (by kernel_rfl)))
      refine value_ (w1 := w') (v := .pointer (some ⟨g3, 3, none⟩)) (by rfl) rfl ?_ ?_
      · go_simp
        (try simp only [i64_w])
        try rfl
      refine hK.out _ _ ⟨x2, x3, x4, x5, x13, (by rw [ha.out]; exact putSel_upk 11 hb_ rfl rfl rfl), Q_B, Q_C, Q_E2, fun h0_ => absurd ((hoff 13 (by kernel_rfl)).symm.trans h0_) (by decide), fun h0_ => absurd ((hoff 15 (by kernel_rfl)).symm.trans h0_) (by decide), fun h0_ => absurd ((hoff 17 (by kernel_rfl)).symm.trans h0_) (by decide), fun h0_ => absurd ((hoff 19 (by kernel_rfl)).symm.trans h0_) (by decide)⟩
    refine steps_cons ?_ ?_
    · rintro b a w' ⟨x2, x3, x4, x5, x13, ha, Q_B, Q_C, Q_E2, Q_E3, Q_E4, Q_E5, Q_E13⟩ hb_ hon hoff
      refine ⟨_, rfl, fun K hK => ?_⟩
      have e47 : a.tmps[47]? = some (.pointer (some ⟨g3, 3, none⟩)) := by rw [ha]; exact putSel_on (e := (12, 47, .pointer (some ⟨g3, 3, none⟩))) 11 rfl rfl (hon 12 (by kernel_rfl)) rfl
      have e39 : a.tmps[39]? = some (.int .u16 a3) := by rw [ha]; exact putSel_on (e := (3, 39, .int .u16 a3)) 3 rfl rfl (hon 3 (by kernel_rfl)) rfl
      replace ha := Aside0.mk ha
      have B := Aside0.mk Q_B
      have C := Aside0.mk Q_C
      have E2 := Aside0.mk (Q_E2 (hon 11 (by kernel_rfl)))
      have hs : w'.cell? ⟨g3, 3, none⟩ = some x3 := blk_cell C.out 3
      have hf := blk_frozen C.out 3
      refine skip_ (w1 := w'.setCell ⟨g3, 3, none⟩ (.int .u16 a3)) (by rfl) rfl (by go_simp; try rfl) ?_
      refine hK.out _ _ ⟨x2, .int .u16 a3, x4, x5, x13, (by rw [ha.out]; exact putSel_none (v := undef) rfl), B.out.setCell (fun _ => rfl) _, blk_put C.out 3 (.int .u16 a3) rfl, fun _ => E2.out, fun _ => rfl, fun h0_ => absurd ((hoff 15 (by kernel_rfl)).symm.trans h0_) (by decide), fun h0_ => absurd ((hoff 17 (by kernel_rfl)).symm.trans h0_) (by decide), fun h0_ => absurd ((hoff 19 (by kernel_rfl)).symm.trans h0_) (by decide)⟩
    refine steps_cons ?_ ?_
    · rintro b a w' ⟨x2, x3, x4, x5, x13, ha, Q_B, Q_C, Q_E2, Q_E3, Q_E4, Q_E5, Q_E13⟩ hb_ hon hoff
      refine ⟨_, rfl, fun K hK => ?_⟩
      have e3 : a.tmps[3]? = some (.pointer (some ⟨g3, 0, none⟩)) := by rw [ha]; exact (putSel_off rfl).trans rfl
      replace ha := Aside0.mk ha
      have B := Aside0.mk Q_B
      have C := Aside0.mk Q_C
      have E2 := Aside0.mk (Q_E2 (hon 11 (by kernel_rfl)))
      have E3 := Aside0.mk (Q_E3 (hon 13 (by kernel_rfl)))
      refine value_ (w1 := w') (v := .pointer (some ⟨g3, 4, none⟩)) (by rfl) rfl ?_ ?_
      · go_simp
        (try simp only [i64_w])
        try rfl
      refine hK.out _ _ ⟨x2, x3, x4, x5, x13, (by rw [ha.out]; exact putSel_upk 12 hb_ rfl rfl rfl), Q_B, Q_C, Q_E2, Q_E3, fun h0_ => absurd ((hoff 15 (by kernel_rfl)).symm.trans h0_) (by decide), fun h0_ => absurd ((hoff 17 (by kernel_rfl)).symm.trans h0_) (by decide), fun h0_ => absurd ((hoff 19 (by kernel_rfl)).symm.trans h0_) (by decide)⟩
    refine steps_cons ?_ ?_
    · rintro b a w' ⟨x2, x3, x4, x5, x13, ha, Q_B, Q_C, Q_E2, Q_E3, Q_E4, Q_E5, Q_E13⟩ hb_ hon hoff
      refine ⟨_, rfl, fun K hK => ?_⟩
      have e48 : a.tmps[48]? = some (.pointer (some ⟨g3, 4, none⟩)) := by rw [ha]; exact putSel_on (e := (14, 48, .pointer (some ⟨g3, 4, none⟩))) 12 rfl rfl (hon 14 (by kernel_rfl)) rfl
      have e41 : a.tmps[41]? = some (.int .u16 a4) := by rw [ha]; exact putSel_on (e := (5, 41, .int .u16 a4)) 5 rfl rfl (hon 5 (by kernel_rfl)) rfl
      replace ha := Aside0.mk ha
      have B := Aside0.mk Q_B
      have C := Aside0.mk Q_C
      have E2 := Aside0.mk (Q_E2 (hon 11 (by kernel_rfl)))
      have E3 := Aside0.mk (Q_E3 (hon 13 (by kernel_rfl)))
      have hs : w'.cell? ⟨g3, 4, none⟩ = some x4 := blk_cell C.out 4
      have hf := blk_frozen C.out 4
      refine skip_ (w1 := w'.setCell ⟨g3, 4, none⟩ (.int .u16 a4)) (by rfl) rfl (by go_simp; try rfl) ?_
      refine hK.out _ _ ⟨x2, x3, .int .u16 a4, x5, x13, (by rw [ha.out]; exact putSel_none (v := undef) rfl), B.out.setCell (fun _ => rfl) _, blk_put C.out 4 (.int .u16 a4) rfl, fun _ => E2.out, fun _ => E3.out, fun _ => rfl, fun h0_ => absurd ((hoff 17 (by kernel_rfl)).symm.trans h0_) (by decide), fun h0_ => absurd ((hoff 19 (by kernel_rfl)).symm.trans h0_) (by decide)⟩
    refine steps_cons ?_ ?_
    · rintro b a w' ⟨x2, x3, x4, x5, x13, ha, Q_B, Q_C, Q_E2, Q_E3, Q_E4, Q_E5, Q_E13⟩ hb_ hon hoff
      refine ⟨_, rfl, fun K hK => ?_⟩
      have e3 : a.tmps[3]? = some (.pointer (some ⟨g3, 0, none⟩)) := by rw [ha]; exact (putSel_off rfl).trans rfl
      replace ha := Aside0.mk ha
      have B := Aside0.mk Q_B
      have C := Aside0.mk Q_C
      have E2 := Aside0.mk (Q_E2 (hon 11 (by kernel_rfl)))
      have E3 := Aside0.mk (Q_E3 (hon 13 (by kernel_rfl)))
      have E4 := Aside0.mk (Q_E4 (hon 15 (by kernel_rfl)))
      refine value_ (w1 := w') (v := .pointer (some ⟨g3, 5, none⟩)) (by rfl) rfl ?_ ?_
      · go_simp
        (try simp only [i64_w])
        try rfl
      refine hK.out _ _ ⟨x2, x3, x4, x5, x13, (by rw [ha.out]; exact putSel_upk 13 hb_ rfl rfl rfl), Q_B, Q_C, Q_E2, Q_E3, Q_E4, fun h0_ => absurd ((hoff 17 (by kernel_rfl)).symm.trans h0_) (by decide), fun h0_ => absurd ((hoff 19 (by kernel_rfl)).symm.trans h0_) (by decide)⟩
    refine steps_cons ?_ ?_
    · rintro b a w' ⟨x2, x3, x4, x5, x13, ha, Q_B, Q_C, Q_E2, Q_E3, Q_E4, Q_E5, Q_E13⟩ hb_ hon hoff
      refine ⟨_, rfl, fun K hK => ?_⟩
      have e49 : a.tmps[49]? = some (.pointer (some ⟨g3, 5, none⟩)) := by rw [ha]; exact putSel_on (e := (16, 49, .pointer (some ⟨g3, 5, none⟩))) 13 rfl rfl (hon 16 (by kernel_rfl)) rfl
      have e43 : a.tmps[43]? = some (.int .u32 a5) := by rw [ha]; exact putSel_on (e := (7, 43, .int .u32 a5)) 7 rfl rfl (hon 7 (by kernel_rfl)) rfl
      replace ha := Aside0.mk ha
      have B := Aside0.mk Q_B
      have C := Aside0.mk Q_C
      have E2 := Aside0.mk (Q_E2 (hon 11 (by kernel_rfl)))
      have E3 := Aside0.mk (Q_E3 (hon 13 (by kernel_rfl)))
      have E4 := Aside0.mk (Q_E4 (hon 15 (by kernel_rfl)))
      have hs : w'.cell? ⟨g3, 5, none⟩ = some x5 := blk_cell C.out 5
      have hf := blk_frozen C.out 5
      refine skip_ (w1 := w'.setCell ⟨g3, 5, none⟩ (.int .u32 a5)) (by rfl) rfl (by go_simp; try rfl) ?_
      refine hK.out _ _ ⟨x2, x3, x4, .int .u32 a5, x13, (by rw [ha.out]; exact putSel_none (v := undef) rfl), B.out.setCell (fun _ => rfl) _, blk_put C.out 5 (.int .u32 a5) rfl, fun _ => E2.out, fun _ => E3.out, fun _ => E4.out, fun _ => rfl, fun h0_ => absurd ((hoff 19 (by kernel_rfl)).symm.trans h0_) (by decide)⟩
    refine steps_cons ?_ ?_
    · rintro b a w' ⟨x2, x3, x4, x5, x13, ha, Q_B, Q_C, Q_E2, Q_E3, Q_E4, Q_E5, Q_E13⟩ hb_ hon hoff
      refine ⟨_, rfl, fun K hK => ?_⟩
      have e3 : a.tmps[3]? = some (.pointer (some ⟨g3, 0, none⟩)) := by rw [ha]; exact (putSel_off rfl).trans rfl
      replace ha := Aside0.mk ha
      have B := Aside0.mk Q_B
      have C := Aside0.mk Q_C
      have E2 := Aside0.mk (Q_E2 (hon 11 (by kernel_rfl)))
      have E3 := Aside0.mk (Q_E3 (hon 13 (by kernel_rfl)))
      have E4 := Aside0.mk (Q_E4 (hon 15 (by kernel_rfl)))
      have E5 := Aside0.mk (Q_E5 (hon 17 (by kernel_rfl)))
      refine value_ (w1 := w') (v := .pointer (some ⟨g3, 13, none⟩)) (by rfl) rfl ?_ ?_
      · go_simp
        (try simp only [i64_w])
        try rfl
      refine hK.out _ _ ⟨x2, x3, x4, x5, x13, (by rw [ha.out]; exact putSel_upk 14 hb_ rfl rfl rfl), Q_B, Q_C, Q_E2, Q_E3, Q_E4, Q_E5, fun h0_ => absurd ((hoff 19 (by kernel_rfl)).symm.trans h0_) (by decide)⟩
    refine steps_cons ?_ ?_
    · rintro b a w' ⟨x2, x3, x4, x5, x13, ha, Q_B, Q_C, Q_E2, Q_E3, Q_E4, Q_E5, Q_E13⟩ hb_ hon hoff
      refine ⟨_, rfl, fun K hK => ?_⟩
      have e50 : a.tmps[50]? = some (.pointer (some ⟨g3, 13, none⟩)) := by rw [ha]; exact putSel_on (e := (18, 50, .pointer (some ⟨g3, 13, none⟩))) 14 rfl rfl (hon 18 (by kernel_rfl)) rfl
      have e45 : a.tmps[45]? = some (.slice L.A13 n13 L.c13) := by rw [ha]; exact putSel_on (e := (9, 45, .slice L.A13 n13 L.c13)) 9 rfl rfl (hon 9 (by kernel_rfl)) rfl
      replace ha := Aside0.mk ha
      have B := Aside0.mk Q_B
      have C := Aside0.mk Q_C
      have E2 := Aside0.mk (Q_E2 (hon 11 (by kernel_rfl)))
      have E3 := Aside0.mk (Q_E3 (hon 13 (by kernel_rfl)))
      have E4 := Aside0.mk (Q_E4 (hon 15 (by kernel_rfl)))
      have E5 := Aside0.mk (Q_E5 (hon 17 (by kernel_rfl)))
      have hs : w'.cell? ⟨g3, 13, none⟩ = some x13 := blk_cell C.out 13
      have hf := blk_frozen C.out 13
      refine skip_ (w1 := w'.setCell ⟨g3, 13, none⟩ (.slice L.A13 n13 L.c13)) (by rfl) rfl (by go_simp; try rfl) ?_
      refine hK.out _ _ ⟨x2, x3, x4, x5, .slice L.A13 n13 L.c13, (by rw [ha.out]; exact putSel_none (v := undef) rfl), B.out.setCell (fun _ => rfl) _, blk_put C.out 13 (.slice L.A13 n13 L.c13) rfl, fun _ => E2.out, fun _ => E3.out, fun _ => E4.out, fun _ => E5.out, fun _ => rfl⟩
    exact steps_nil
  rintro b a w' hall ⟨x2, x3, x4, x5, x13, ha, Q_B, Q_C, Q_E2, Q_E3, Q_E4, Q_E5, Q_E13⟩
  clear B C
  have hb0_ := hall 0 (by kernel_rfl)
  have hb1_ := hall 1 (by kernel_rfl)
  have hb2_ := hall 2 (by kernel_rfl)
  have hb3_ := hall 3 (by kernel_rfl)
  have hb4_ := hall 4 (by kernel_rfl)
  have hb5_ := hall 5 (by kernel_rfl)
  have hb6_ := hall 6 (by kernel_rfl)
  have hb7_ := hall 7 (by kernel_rfl)
  have hb8_ := hall 8 (by kernel_rfl)
  have hb9_ := hall 9 (by kernel_rfl)
  have hb10_ := hall 10 (by kernel_rfl)
  have hb11_ := hall 11 (by kernel_rfl)
  have hb12_ := hall 12 (by kernel_rfl)
  have hb13_ := hall 13 (by kernel_rfl)
  have hb14_ := hall 14 (by kernel_rfl)
  have hb15_ := hall 15 (by kernel_rfl)
  have hb16_ := hall 16 (by kernel_rfl)
  have hb17_ := hall 17 (by kernel_rfl)
  have hb18_ := hall 18 (by kernel_rfl)
  have hb19_ := hall 19 (by kernel_rfl)
  subst ha
  simp only [putSel, hb0_, hb1_, hb2_, hb3_, hb4_, hb5_, hb6_, hb7_, hb8_, hb9_, hb10_, hb11_, hb12_, hb13_, hb14_, hb15_, hb16_, hb17_, hb18_, hb19_, if_true, Act.put, List.setIfInBounds_toArray, List.set_cons_zero, List.set_cons_succ]
  have B := Aside0.mk Q_B
  clear Q_B
  have C := Aside0.mk Q_C
  clear Q_C
  have E2 := Aside0.mk (Q_E2 hb11_)
  clear Q_E2
  have E3 := Aside0.mk (Q_E3 hb13_)
  clear Q_E3
  have E4 := Aside0.mk (Q_E4 hb15_)
  clear Q_E4
  have E5 := Aside0.mk (Q_E5 hb17_)
  clear Q_E5
  have E13 := Aside0.mk (Q_E13 hb19_)
  clear Q_E13
  clear hall hb0_ hb1_ hb2_ hb3_ hb4_ hb5_ hb6_ hb7_ hb8_ hb9_ hb10_ hb11_ hb12_ hb13_ hb14_ hb15_ hb16_ hb17_ hb18_ hb19_
  have e2_ := E2.out
  subst e2_
  have e3_ := E3.out
  subst e3_
  have e4_ := E4.out
  subst e4_
  have e5_ := E5.out
  subst e5_
  have e13_ := E13.out
  subst e13_
  have HC2 := Lib.hid C.out
  replace HB := Lib.hid (HB.out.trans (B.out.below (by have := World.block_lt_of_cell? W _ U0.out; dsimp only at this; omega) (fun k hk => by have := HLE.out; omega)))
  replace HZ := Lib.hid (B.out.blk HZ.out HNR.out)
  clear B C E2 E3 E4 E5 E13
  clear HC
  have HC := HC2
  clear HC2
  have k0 := U0.out
  go_wp2_with (first | (refine wpList_load_row rfl 30 _ rfl g3 rfl 30 #[.int .u8 0, .int .u8 fl, .int .u32 a2, .int .u16 a3, .int .u16 a4, .int .u32 a5, .int .u32 0, .int .u32 0, .int .u16 0, .int .u16 0, .slice none 0 0, .slice none 0 0, .slice none 0 0, .slice L.A13 n13 L.c13, .slice none 0 0] (0, 0) _ HC.out Try.underlying30 rfl (by kernel_rfl) ?_) | (refine wpList_store_row rfl 30 _ _ rfl gr #[.int .u8 0, .int .u8 fl, .int .u32 a2, .int .u16 a3, .int .u16 a4, .int .u32 a5, .int .u32 0, .int .u32 0, .int .u16 0, .int .u16 0, .slice none 0 0, .slice none 0 0, .slice none 0 0, .slice L.A13 n13 L.c13, .slice none 0 0] rfl rfl 30 #[.int .u8 0, .int .u8 0, .int .u32 0, .int .u16 0, .int .u16 0, .int .u32 0, .int .u32 0, .int .u32 0, .int .u16 0, .int .u16 0, .slice none 0 0, .slice none 0 0, .slice none 0 0, .slice none 0 0, .slice none 0 0] HZ.out (by kernel_rfl) rfl (by simp [Value.oneCell']) ?_))
  refine bodyPost_ret (results_cell_row rfl _ _ gr 30 _ (0, 0) _ rfl (setRow_heap _ _ _ #[.int .u8 0, .int .u8 fl, .int .u32 a2, .int .u16 a3, .int .u16 a4, .int .u32 a5, .int .u32 0, .int .u32 0, .int .u16 0, .int .u16 0, .slice none 0 0, .slice none 0 0, .slice none 0 0, .slice L.A13 n13 L.c13, .slice none 0 0] _ _ HZ.out) Try.underlying30 rfl (by kernel_rfl)) rfl ⟨rfl, ?_⟩
  exact below_setRow HB.out (by have := HGR.out; omega) _
end Go.Proofs.Ytjmadnpicidbeaa.Ch
end
section
namespace Go.Proofs.Ytjmadnpicidbeaa.Ch
open Go.RowKit Go.Proofs.YtjmadnpicidbeaaW.PrintWords Go.Proofs.Ytjmadnpicidbeaa.Base Go.Proofs.Ytjmadnpicidbeaa.PCh
set_option maxRecDepth 100000
set_option linter.unusedVariables false
set_option linter.unusedSimpArgs false
def WS (w : World) (gw : Nat) (xs : List Int) : Prop := ∃ u, w.heap[gw]? = some (.cells #[u] 66 (0, 0)) ∧ (Kd.int .u8).R 5 w (gw + 1) (fun k => k ≠ gw) u xs
structure Fr (gw : Nat) (w W : World) : Prop where
  below : Below gw w W
  kept : ∀ (k : Nat) (cells : Array Value) (t : TypeId), t ≠ 5 → t ≠ 66 → w.heap[k]? = some (Obj.cells cells t (0, 0)) → W.heap[k]? = some (Obj.cells cells t (0, 0))
theorem Fr.refl (gw : Nat) (w : World) : Fr gw w w := ⟨Below.refl _ _, fun _ _ _ _ _ h => h⟩
theorem Fr.trans {gw : Nat} {a b c : World} (h : Fr gw a b) (k : Fr gw b c) : Fr gw a c := ⟨h.below.trans k.below, fun i cells t h1 h2 h3 => k.kept i cells t h1 h2 (h.kept i cells t h1 h2 h3)⟩
theorem Fr.alloc {gw : Nat} {a b : World} (h : Fr gw a b) (hg : gw ≤ b.heap.size) (x : Obj) : Fr gw a (b.alloc x) := ⟨h.below.alloc hg x, fun i cells t h1 h2 h3 => blk_alloc (h.kept i cells t h1 h2 h3) x⟩
theorem Fr.drewN {gw : Nat} {a b : World} (h : Fr gw a b) (n : Nat) : Fr gw a (b.drewN n) := ⟨pw_below_drewN h.below n, fun i cells t h1 h2 h3 => blk_drewN (h.kept i cells t h1 h2 h3) n⟩
theorem Fr.set {gw : Nat} {a b : World} (h : Fr gw a b) {cs : Array Value} (hg : b.heap[gw]? = some (.cells cs 66 (0, 0))) (i : Nat) (u : Value) : Fr gw a (b.setCell ⟨gw, i, none⟩ u) :=
  ⟨h.below.setCell (Nat.le_refl _) u, fun k cells t h1 h2 h3 => blk_far (h.kept k cells t h1 h2 h3) (by
    intro e
    have h4 := h.kept k cells t h1 h2 h3
    dsimp only at e
    subst e
    rw [hg] at h4
    injection h4 with h4
    injection h4 with _ h5 _
    exact h2 h5.symm) u⟩
theorem Fr.grown {gw base : Nat} {a b c : World} {u : Value} {xs : List Int} {ok : Nat → Prop} (h : Fr gw a b) (hR : (Kd.int .u8).R 5 b base ok u xs) (hB : Below gw b c) (hG : b.grownBy c u.ownBlock) : Fr gw a c :=
  ⟨h.below.trans hB, fun k cells t h1 h2 h3 => blk_grown (h.kept k cells t h1 h2 h3) hG (Kd.R_ne hR (h.kept k cells t h1 h2 h3) (fun e => h1 e.symm))⟩
theorem Fr.C_lit {gw g t n : Nat} {w W : World} {cells : Array Value} {kk : IntKind} {ns : List Int} (h : Fr gw w W) (h1 : t ≠ 5) (h2 : t ≠ 66) (hg : w.heap[g]? = some (.cells cells t (0, 0))) (hC : (Kd.int kk).C w (some ⟨g, 0, none⟩) n ns) : (Kd.int kk).C W (some ⟨g, 0, none⟩) n ns := by
  obtain ⟨e1, e2, e3⟩ := hC
  refine ⟨e1, e2, fun hn => ?_⟩
  obtain ⟨ad, e, hc⟩ := e3 hn
  injection e with e
  subst e
  refine ⟨_, rfl, fun j p hj => ?_⟩
  obtain ⟨cs, c1, c2, c3⟩ := hc j p hj
  refine ⟨cs, c1, c2, fun i u hu => ?_⟩
  have := c3 i u hu
  have hb : (Addr.add ⟨g, 0, none⟩ (j * (Kd.int kk).sz + i)).block = g := add_block _ _
  unfold World.cell? at this ⊢
  rw [hb, h.kept g cells t h1 h2 hg]
  rw [hb, hg] at this
  exact this
def twoL : List Int → List Int
  | [] => []
  | n :: r => [n / 256 % 256, n % 256] ++ twoL r
def fourL : List Int → List Int
  | [] => []
  | n :: r => [n / 16777216 % 256, n / 65536 % 256, n / 256 % 256, n % 256] ++ fourL r
theorem twoL_length (l : List Int) : (twoL l).length = 2 * l.length := by
  induction l with
  | nil => rfl
  | cons n r ih => simp only [twoL, List.length_append, List.length_cons, List.length_nil, ih]; omega
theorem fourL_length (l : List Int) : (fourL l).length = 4 * l.length := by
  induction l with
  | nil => rfl
  | cons n r ih => simp only [fourL, List.length_append, List.length_cons, List.length_nil, ih]; omega
set_option maxHeartbeats 2000000 in
theorem wtwo_calls (w : World) (gw : Nat) (xs : List Int) (A : Option Addr) (c : Nat) (ns : List Int) (hs : WS w gw xs) (hA : ∀ W, Fr gw w W → (Kd.int .u16).C W A ns.length ns) (hx : xs.length + 2 * ns.length ≤ 140737488355328) :
    Calls Try.prog 37 #[.pointer (some ⟨gw, 0, none⟩), .slice A ns.length c] w fun e w' => e = .returned (.tuple #[]) ∧ WS w' gw (xs ++ twoL ns) ∧ Fr gw w w' := by
  have HS := Lib.hid hs
  have HA := Lib.hid hA
  have hm := (hA w (Fr.refl _ _)).2.1
  clear hs hA
  go_enter Try.func37, Try.ntmps37
  go_wp2
  go_loopw [5, 8] (fun v5 v8 wr => ∃ (i : Nat) (ys : List Int), i ≤ ns.length ∧ v8 = .int .i64 (i : Int) ∧ Hid (ys.length = xs.length + 2 * i) ∧ Hid (ys ++ twoL (ns.drop i) = xs ++ twoL ns) ∧ Hid (WS wr gw ys) ∧ Hid (Fr gw w wr)) (fun _ v8 _ => ns.length - (intOf v8).toNat)
  case atStart => exact ⟨0, xs, Nat.zero_le _, rfl, (by show _ = _; omega), rfl, HS.out, Fr.refl _ _⟩
  case round =>
    clear HS
    obtain ⟨i, ys, hi, rfl, HYL, HE, HW, HF⟩ := hrel
    by_cases hlt : i < ns.length
    · obtain ⟨ad, rfl, x0⟩ := int_at (HA.out wr HF.out) i hlt
      obtain ⟨u, hg, hR⟩ := HW.out
      obtain ⟨Au, cu, rfl⟩ := Kd.R_slice hR
      have hE := HE.out
      have hd : ns.drop i = ns.getD i 0 :: ns.drop (i + 1) := by
        rw [List.drop_eq_getElem_cons hlt]
        congr 1
        simp [List.getD_eq_getElem?_getD, hlt]
      rw [hd, twoL] at hE
      generalize ns.getD i 0 = q at *
      have hE2 : (ys ++ [q / 256 % 256, q % 256]) ++ twoL (ns.drop (i + 1)) = xs ++ twoL ns := by rw [List.append_assoc]; exact hE
      have HE2 := Lib.hid hE2
      have HG := Lib.hid hg
      have HR := Lib.hid hR
      have k0 : wr.cell? ⟨gw, 0, none⟩ = some (.slice Au ys.length cu) := blk_cell hg 0
      have HLT := Lib.hid (blk_lt hg)
      clear hE hE2 hd HE HW hg hR
      go_wp2_with (at_builtin; go_must (refine Kd.R_append_row (Value.int .u8) (0 : Int) (w0 := wr.alloc (.cells #[.int .u8 (q / 256 % 256), .int .u8 (q % 256)] 5)) (W := wr.alloc (.cells #[.int .u8 (q / 256 % 256), .int .u8 (q % 256)] 5)) (gw + 1) rfl _ _ 22 5 _ 1 rfl Try.underlying22 info_u8 rfl (by decide) (.slice Au ys.length cu) ys [q / 256 % 256, q % 256] (some ⟨wr.heap.size, 0, none⟩) 2 2 (fun k => k ≠ gw) rfl rfl (fun k hk => by have := HLT.out; simp at hk; omega) (Kd.R_alloc HR.out _) (row_lit (Kd.int .u8) rfl wr 5 [.int .u8 (q / 256 % 256), .int .u8 (q % 256)] [q / 256 % 256, q % 256] rfl (by simp) (fun j v p hv hp => by rcases j with _ | _ | j <;> simp at hv hp <;> (subst hv; subst hp; rfl))) (Below.refl _ _) (by have := HLT.out; simp; omega) (by have := HYL.out; omega) ?_); (intro v1 w1 hR1 hB1 hG1 _; have HR1 := Lib.hid hR1; have HB1 := Lib.hid hB1; have HGR := Lib.hid hG1; clear hR1 hB1 hG1; refine RowKit.Hid.out ?_))
      refine Lib.hid ?_
      obtain ⟨A7, c7, hv1⟩ := Kd.R_slice HR1.out
      subst hv1
      have hown : (Value.slice Au ys.length cu).ownBlock ≠ some gw := fun e => (Kd.R_alloc HR.out (.cells #[.int .u8 (q / 256 % 256), .int .u8 (q % 256)] 5)).1 _ e rfl
      have hg1 := blk_grown (blk_alloc HG.out (.cells #[.int .u8 (q / 256 % 256), .int .u8 (q % 256)] 5)) HGR.out (fun e => hown e.symm)
      have hs := blk_cell hg1 0
      have hf := blk_frozen hg1 0
      have HG1 := Lib.hid hg1
      have HF1 := Lib.hid (Fr.grown (HF.out.alloc (Nat.le_of_lt HLT.out) (.cells #[.int .u8 (q / 256 % 256), .int .u8 (q % 256)] 5)) (Kd.R_alloc HR.out _) (HB1.out.mono (Nat.le_succ _)) HGR.out)
      have HR2 := Lib.hid (Kd.R_far HR1.out (p := ⟨gw, 0, none⟩) (fun k hk => hk) (.slice A7 (ys ++ [q / 256 % 256, q % 256]).length c7))
      rw [show (ys ++ [q / 256 % 256, q % 256]).length = ys.length + 2 by simp] at HR2
      clear hg1 HGR HB1 HF HR HG k0
      go_wp2
      go_roundw
      case rel => exact ⟨i + 1, ys ++ [q / 256 % 256, q % 256], by omega, by go_num, (by have := HYL.out; show _ = _; simp only [List.length_append, List.length_cons, List.length_nil]; omega), HE2, ⟨_, blk_put HG1.out 0 _ rfl, HR2.out⟩, HF1.out.set HG1.out 0 _⟩
      case measure => simp [intOf]; omega
    · obtain rfl : i = ns.length := by omega
      have hE := HE.out
      rw [List.drop_length, twoL, List.append_nil] at hE
      have HE2 := Lib.hid hE
      clear hE HE HA
      go_wp2
      go_end0
      exact ⟨rfl, by rw [← HE2.out]; exact HW.out, HF.out⟩
set_option maxHeartbeats 2000000 in
theorem wfour_calls (w : World) (gw : Nat) (xs : List Int) (A : Option Addr) (c : Nat) (ns : List Int) (hs : WS w gw xs) (hA : ∀ W, Fr gw w W → (Kd.int .u32).C W A ns.length ns) (hx : xs.length + 4 * ns.length ≤ 140737488355328) :
    Calls Try.prog 58 #[.pointer (some ⟨gw, 0, none⟩), .slice A ns.length c] w fun e w' => e = .returned (.tuple #[]) ∧ WS w' gw (xs ++ fourL ns) ∧ Fr gw w w' := by
  have HS := Lib.hid hs
  have HA := Lib.hid hA
  have hm := (hA w (Fr.refl _ _)).2.1
  clear hs hA
  go_enter Try.func58, Try.ntmps58
  go_wp2
  go_loopw [5, 8] (fun v5 v8 wr => ∃ (i : Nat) (ys : List Int), i ≤ ns.length ∧ v8 = .int .i64 (i : Int) ∧ Hid (ys.length = xs.length + 4 * i) ∧ Hid (ys ++ fourL (ns.drop i) = xs ++ fourL ns) ∧ Hid (WS wr gw ys) ∧ Hid (Fr gw w wr)) (fun _ v8 _ => ns.length - (intOf v8).toNat)
  case atStart => exact ⟨0, xs, Nat.zero_le _, rfl, (by show _ = _; omega), rfl, HS.out, Fr.refl _ _⟩
  case round =>
    clear HS
    obtain ⟨i, ys, hi, rfl, HYL, HE, HW, HF⟩ := hrel
    by_cases hlt : i < ns.length
    · obtain ⟨ad, rfl, x0⟩ := int_at (HA.out wr HF.out) i hlt
      obtain ⟨u, hg, hR⟩ := HW.out
      obtain ⟨Au, cu, rfl⟩ := Kd.R_slice hR
      have hE := HE.out
      have hd : ns.drop i = ns.getD i 0 :: ns.drop (i + 1) := by
        rw [List.drop_eq_getElem_cons hlt]
        congr 1
        simp [List.getD_eq_getElem?_getD, hlt]
      rw [hd, fourL] at hE
      generalize ns.getD i 0 = q at *
      have hE2 : (ys ++ [q / 16777216 % 256, q / 65536 % 256, q / 256 % 256, q % 256]) ++ fourL (ns.drop (i + 1)) = xs ++ fourL ns := by rw [List.append_assoc]; exact hE
      have HE2 := Lib.hid hE2
      have HG := Lib.hid hg
      have HR := Lib.hid hR
      have k0 : wr.cell? ⟨gw, 0, none⟩ = some (.slice Au ys.length cu) := blk_cell hg 0
      have HLT := Lib.hid (blk_lt hg)
      clear hE hE2 hd HE HW hg hR
      go_wp2_with (at_builtin; go_must (refine Kd.R_append_row (Value.int .u8) (0 : Int) (w0 := wr.alloc (.cells #[.int .u8 (q / 16777216 % 256), .int .u8 (q / 65536 % 256), .int .u8 (q / 256 % 256), .int .u8 (q % 256)] 5)) (W := wr.alloc (.cells #[.int .u8 (q / 16777216 % 256), .int .u8 (q / 65536 % 256), .int .u8 (q / 256 % 256), .int .u8 (q % 256)] 5)) (gw + 1) rfl _ _ 22 5 _ 1 rfl Try.underlying22 info_u8 rfl (by decide) (.slice Au ys.length cu) ys [q / 16777216 % 256, q / 65536 % 256, q / 256 % 256, q % 256] (some ⟨wr.heap.size, 0, none⟩) 4 4 (fun k => k ≠ gw) rfl rfl (fun k hk => by have := HLT.out; simp at hk; omega) (Kd.R_alloc HR.out _) (row_lit (Kd.int .u8) rfl wr 5 [.int .u8 (q / 16777216 % 256), .int .u8 (q / 65536 % 256), .int .u8 (q / 256 % 256), .int .u8 (q % 256)] [q / 16777216 % 256, q / 65536 % 256, q / 256 % 256, q % 256] rfl (by simp) (fun j v p hv hp => by rcases j with _ | _ | _ | _ | j <;> simp at hv hp <;> (subst hv; subst hp; rfl))) (Below.refl _ _) (by have := HLT.out; simp; omega) (by have := HYL.out; omega) ?_); (intro v1 w1 hR1 hB1 hG1 _; have HR1 := Lib.hid hR1; have HB1 := Lib.hid hB1; have HGR := Lib.hid hG1; clear hR1 hB1 hG1; refine RowKit.Hid.out ?_))
      refine Lib.hid ?_
      obtain ⟨A7, c7, hv1⟩ := Kd.R_slice HR1.out
      subst hv1
      have hown : (Value.slice Au ys.length cu).ownBlock ≠ some gw := fun e => (Kd.R_alloc HR.out (.cells #[.int .u8 (q / 16777216 % 256), .int .u8 (q / 65536 % 256), .int .u8 (q / 256 % 256), .int .u8 (q % 256)] 5)).1 _ e rfl
      have hg1 := blk_grown (blk_alloc HG.out (.cells #[.int .u8 (q / 16777216 % 256), .int .u8 (q / 65536 % 256), .int .u8 (q / 256 % 256), .int .u8 (q % 256)] 5)) HGR.out (fun e => hown e.symm)
      have hs := blk_cell hg1 0
      have hf := blk_frozen hg1 0
      have HG1 := Lib.hid hg1
      have HF1 := Lib.hid (Fr.grown (HF.out.alloc (Nat.le_of_lt HLT.out) (.cells #[.int .u8 (q / 16777216 % 256), .int .u8 (q / 65536 % 256), .int .u8 (q / 256 % 256), .int .u8 (q % 256)] 5)) (Kd.R_alloc HR.out _) (HB1.out.mono (Nat.le_succ _)) HGR.out)
      have HR2 := Lib.hid (Kd.R_far HR1.out (p := ⟨gw, 0, none⟩) (fun k hk => hk) (.slice A7 (ys ++ [q / 16777216 % 256, q / 65536 % 256, q / 256 % 256, q % 256]).length c7))
      rw [show (ys ++ [q / 16777216 % 256, q / 65536 % 256, q / 256 % 256, q % 256]).length = ys.length + 4 by simp] at HR2
      clear hg1 HGR HB1 HF HR HG k0
      go_wp2
      go_roundw
      case rel => exact ⟨i + 1, ys ++ [q / 16777216 % 256, q / 65536 % 256, q / 256 % 256, q % 256], by omega, by go_num, (by have := HYL.out; show _ = _; simp only [List.length_append, List.length_cons, List.length_nil]; omega), HE2, ⟨_, blk_put HG1.out 0 _ rfl, HR2.out⟩, HF1.out.set HG1.out 0 _⟩
      case measure => simp [intOf]; omega
    · obtain rfl : i = ns.length := by omega
      have hE := HE.out
      rw [List.drop_length, fourL, List.append_nil] at hE
      have HE2 := Lib.hid hE
      clear hE HE HA
      go_wp2
      go_end0
      exact ⟨rfl, by rw [← HE2.out]; exact HW.out, HF.out⟩
end Go.Proofs.Ytjmadnpicidbeaa.Ch
end
section
namespace Go.Proofs.Ytjmadnpicidbeaa.Ch
open Go.RowKit Go.Proofs.YtjmadnpicidbeaaW.PrintWords Go.Proofs.YtjmadnpicidbeaaW.PrintLast Go.Proofs.Ytjmadnpicidbeaa.Base Go.Proofs.Ytjmadnpicidbeaa.PCh Go.Proofs.Ytjmadnpicidbeaa.ParDec Go.Proofs.Ytjmadnpicidbeaa.ParEnc
set_option maxRecDepth 100000
set_option linter.unusedVariables false
set_option linter.unusedSimpArgs false
def valAT8 : Bool × List (List Nat × List Nat) := (true, [([], []), ([], []), ([1], [1]), ([2], [2]), ([3], [3]), ([], []), ([5], [5]), ([4, 6], [4, 6]), ([0, 0, 1, 2, 3, 4, 5, 6, 7], [0]), ([8, 0, 1, 2, 3, 4, 5, 6, 7], [8]), ([9, 7, 7, 0, 1, 2, 3, 4, 5, 6, 7], [7, 9])])
def valAB8 : List Nat := [0, 0, 2, 6, 14, 0, 32, 126, 255, 511, 1023]
theorem valAtab8 : Go.Proofs.YtjmadnpicidbeaaW.PrintLast.rtab .any (Go.Proofs.YtjmadnpicidbeaaW.PrintLast.opsOf Try.f36 8) = valAT8 := by kernel_rfl
theorem valAbits8 : Go.Proofs.YtjmadnpicidbeaaW.PrintLast.waitsOk valAT8.2 valAB8 = true := by kernel_rfl
def encP (ps : List PrmS) : List Int × Int := if ps.length > 256 then ([], 3) else runB [] ps
def gapL : List GapS → List Int
  | [] => []
  | g :: r => [g.f0, g.f1] ++ gapL r
def valData (x : Chk) : List Int := fourL [x.f2] ++ twoL [x.f3, x.f4] ++ fourL [x.f5] ++ x.f13
def valueD (x : Chk) : List Int :=
  if x.f0 = 0 then valData x
  else if x.f0 = 1 ∨ x.f0 = 2 then fourL [x.f6, x.f7] ++ twoL [x.f8, x.f9] ++ fourL [x.f2] ++ (encP x.f14).1
  else if x.f0 = 3 then fourL [x.f2, x.f7] ++ twoL [IntKind.u16.wrap (x.f10.length : Int), IntKind.u16.wrap (x.f12.length : Int)] ++ twoL (gapL x.f10) ++ fourL x.f12
  else if x.f0 = 16 then fourL [x.f2, x.f7] ++ twoL [IntKind.u16.wrap (x.f10.length : Int), IntKind.u16.wrap (x.f11.length : Int), IntKind.u16.wrap (x.f12.length : Int), 0] ++ twoL (gapL x.f10) ++ twoL (gapL x.f11) ++ fourL x.f12
  else if x.f0 = 4 ∨ x.f0 = 5 ∨ x.f0 = 6 ∨ x.f0 = 9 then (encP x.f14).1
  else if x.f0 = 7 then fourL [x.f2]
  else if x.f0 = 8 ∨ x.f0 = 11 ∨ x.f0 = 14 then []
  else x.f13
def ValP (xs : List Int) (w : World) (e : Ending) (w' : World) : Prop := ∃ A c, e = .returned (.slice A xs.length c) ∧ xs.length ≤ c ∧ (Kd.int .u8).C w' A xs.length xs ∧ Below w.heap.size w w'
def ValQ (b0 : Nat) (xs : List Int) (w : World) (e : Ending) (w' : World) : Prop :=
  ∃ A c, e = .returned (.slice A xs.length c) ∧ xs.length ≤ c ∧ (∀ W, Only (fun k => b0 ≤ k ∧ k < w.heap.size) w' W → (Kd.int .u8).C W A xs.length xs) ∧ Below w.heap.size w w'
theorem ValQ.P {b0 : Nat} {xs : List Int} {w w' : World} {e : Ending} (h : ValQ b0 xs w e w') : ValP xs w e w' := by
  obtain ⟨A, c, h1, h2, h3, h4⟩ := h
  exact ⟨A, c, h1, h2, h3 _ (Only.refl _ _), h4⟩
theorem ValQ.of_R {b0 base : Nat} {ok : Nat → Prop} {v : Value} {xs : List Int} {w w' : World} (hR : (Kd.int .u8).R 5 w' base ok v xs) (hb : w.heap.size ≤ base) (hB : Below w.heap.size w w') : ValQ b0 xs w (.returned v) w' := by
  obtain ⟨A, c, rfl, hle, hC⟩ := Kd.R_reads hR
  refine ⟨A, c, rfl, hle, fun W hO => ?_, hB⟩
  obtain ⟨A2, c2, he, _, hC2⟩ := Kd.R_reads (R_only hR hO (fun k hk _ h => by omega))
  injection he with e1 _ _
  rw [e1]
  exact hC2
theorem wfour_lit (w : World) (gw : Nat) (xs ns : List Int) (vs : List Value) (n : Nat) (hv : vs = ns.map (Value.int .u32)) (hn : ns.length = n) (hs : WS w gw xs) (hx : xs.length + 4 * ns.length ≤ 140737488355328) :
    Calls Try.prog 58 #[.pointer (some ⟨gw, 0, none⟩), .slice (some ⟨w.heap.size, 0, none⟩) n n] (w.alloc (.cells vs.toArray 24)) fun e w' => e = .returned (.tuple #[]) ∧ WS w' gw (xs ++ fourL ns) ∧ Fr gw w w' := by
  subst hn
  obtain ⟨u, hg, hR⟩ := hs
  have hlt := blk_lt hg
  have hC : (Kd.int .u32).C (w.alloc (.cells vs.toArray 24)) (some ⟨w.heap.size, 0, none⟩) ns.length ns := row_lit (Kd.int .u32) rfl w _ vs ns (by rw [hv, List.length_map]) (by omega) (fun j v p h1 h2 => by
    rw [hv, List.getElem?_map, h2] at h1
    injection h1 with h1
    subst h1
    rfl)
  refine (wfour_calls (w.alloc (.cells vs.toArray 24)) gw xs (some ⟨w.heap.size, 0, none⟩) ns.length ns ⟨u, blk_alloc hg _, Kd.R_alloc hR _⟩ (fun W hF => hF.C_lit (by decide) (by decide) (blk_new _ _) hC) hx).mono ?_
  rintro e w' ⟨h1, h2, h3⟩
  exact ⟨h1, h2, ((Fr.refl gw w).alloc (Nat.le_of_lt hlt) _).trans h3⟩
theorem wtwo_lit (w : World) (gw : Nat) (xs ns : List Int) (vs : List Value) (n : Nat) (hv : vs = ns.map (Value.int .u16)) (hn : ns.length = n) (hs : WS w gw xs) (hx : xs.length + 2 * ns.length ≤ 140737488355328) :
    Calls Try.prog 37 #[.pointer (some ⟨gw, 0, none⟩), .slice (some ⟨w.heap.size, 0, none⟩) n n] (w.alloc (.cells vs.toArray 25)) fun e w' => e = .returned (.tuple #[]) ∧ WS w' gw (xs ++ twoL ns) ∧ Fr gw w w' := by
  subst hn
  obtain ⟨u, hg, hR⟩ := hs
  have hlt := blk_lt hg
  have hC : (Kd.int .u16).C (w.alloc (.cells vs.toArray 25)) (some ⟨w.heap.size, 0, none⟩) ns.length ns := row_lit (Kd.int .u16) rfl w _ vs ns (by rw [hv, List.length_map]) (by omega) (fun j v p h1 h2 => by
    rw [hv, List.getElem?_map, h2] at h1
    injection h1 with h1
    subst h1
    rfl)
  refine (wtwo_calls (w.alloc (.cells vs.toArray 25)) gw xs (some ⟨w.heap.size, 0, none⟩) ns.length ns ⟨u, blk_alloc hg _, Kd.R_alloc hR _⟩ (fun W hF => hF.C_lit (by decide) (by decide) (blk_new _ _) hC) hx).mono ?_
  rintro e w' ⟨h1, h2, h3⟩
  exact ⟨h1, h2, ((Fr.refl gw w).alloc (Nat.le_of_lt hlt) _).trans h3⟩
end Go.Proofs.Ytjmadnpicidbeaa.Ch
end
section
namespace Go.Proofs.Ytjmadnpicidbeaa.Ch
open Go.RowKit Go.Proofs.YtjmadnpicidbeaaW.PrintWords Go.Proofs.YtjmadnpicidbeaaW.PrintLast Go.Proofs.Ytjmadnpicidbeaa.Base Go.Proofs.Ytjmadnpicidbeaa.PCh Go.Proofs.Ytjmadnpicidbeaa.ParDec Go.Proofs.Ytjmadnpicidbeaa.ParEnc
set_option maxRecDepth 100000
set_option linter.unusedVariables false
set_option linter.unusedSimpArgs false
theorem below_cell {B : Nat} {w W : World} {a : Addr} {v : Value} (h : Below B w W) (hlt : a.block < B) (hc : w.cell? a = some v) : W.cell? a = some v := by
  have := h.block a.block hlt
  simpa [World.cell?, this] using hc
theorem fr_cell {gw : Nat} {w W : World} {a : Addr} {v : Value} (h : Fr gw w W) (hlt : a.block < gw) (hc : w.cell? a = some v) : W.cell? a = some v := below_cell h.below hlt hc
set_option maxHeartbeats 4000000 in
theorem value_data (b0 : Nat) (w : World) (x : Chk) (L : Lay) (hx : CR w x L) (hk : x.f0 = 0) (hl : x.f13.length ≤ 140737488355232) :
    Calls Try.prog 36 #[.agg (CV x L)] w (ValQ b0 (valData x) w) := by
  unfold valData
  have HBD0 := Lib.hid hx.h13
  have y0 : (CV x L)[0]? = some (.int .u8 x.f0) := rfl
  have y1 : (CV x L)[1]? = some (.int .u8 x.f1) := rfl
  have y2 : (CV x L)[2]? = some (.int .u32 x.f2) := rfl
  have y3 : (CV x L)[3]? = some (.int .u16 x.f3) := rfl
  have y4 : (CV x L)[4]? = some (.int .u16 x.f4) := rfl
  have y5 : (CV x L)[5]? = some (.int .u32 x.f5) := rfl
  have y6 : (CV x L)[6]? = some (.int .u32 x.f6) := rfl
  have y7 : (CV x L)[7]? = some (.int .u32 x.f7) := rfl
  have y8 : (CV x L)[8]? = some (.int .u16 x.f8) := rfl
  have y9 : (CV x L)[9]? = some (.int .u16 x.f9) := rfl
  have y10 : (CV x L)[10]? = some (.slice L.A10 x.f10.length L.c10) := rfl
  have y11 : (CV x L)[11]? = some (.slice L.A11 x.f11.length L.c11) := rfl
  have y12 : (CV x L)[12]? = some (.slice L.A12 x.f12.length L.c12) := rfl
  have y13 : (CV x L)[13]? = some (.slice L.A13 x.f13.length L.c13) := rfl
  have y14 : (CV x L)[14]? = some (.slice L.A14 x.f14.length L.c14) := rfl
  clear hx
  generalize x.f0 = a0 at *
  generalize x.f1 = a1 at *
  generalize x.f2 = a2 at *
  generalize x.f3 = a3 at *
  generalize x.f4 = a4 at *
  generalize x.f5 = a5 at *
  generalize x.f6 = a6 at *
  generalize x.f7 = a7 at *
  generalize x.f8 = a8 at *
  generalize x.f9 = a9 at *
  generalize x.f10 = l10 at *
  generalize x.f11 = l11 at *
  generalize x.f12 = l12 at *
  generalize x.f13 = l13 at *
  generalize x.f14 = l14 at *
  subst hk
  generalize CV x L = CX at *
  have HB := Lib.hid (below_alloc (below_alloc (Below.refl w.heap.size w) (.cells CX 30)) (.cells #[.slice none 0 0] 66))
  have hb := (show ((w.alloc (.cells CX 30)).alloc (.cells #[.slice none 0 0] 66)).heap[w.heap.size]? = some (.cells CX 30 (0, 0)) from blk_alloc (blk_new _ _) _)
  have hw := (show ((w.alloc (.cells CX 30)).alloc (.cells #[.slice none 0 0] 66)).heap[w.heap.size + 1]? = some (.cells #[.slice none 0 0] 66 (0, 0)) by have h := blk_new (w.alloc (.cells CX 30)) (.cells #[.slice none 0 0] 66); rw [World.size_alloc] at h; exact h)
  have HSZ := Lib.hid (show ((w.alloc (.cells CX 30)).alloc (.cells #[.slice none 0 0] 66)).heap.size = w.heap.size + 2 by simp)
  have HS := Lib.hid (show WS ((w.alloc (.cells CX 30)).alloc (.cells #[.slice none 0 0] 66)) (w.heap.size + 1) [] from ⟨_, hw, Kd.R_nil _ _ _ _ _⟩)
  have U0 := Lib.hid ((blk_cell hb 0).trans y0)
  have U1 := Lib.hid ((blk_cell hb 1).trans y1)
  have U2 := Lib.hid ((blk_cell hb 2).trans y2)
  have U3 := Lib.hid ((blk_cell hb 3).trans y3)
  have U4 := Lib.hid ((blk_cell hb 4).trans y4)
  have U5 := Lib.hid ((blk_cell hb 5).trans y5)
  have U6 := Lib.hid ((blk_cell hb 6).trans y6)
  have U7 := Lib.hid ((blk_cell hb 7).trans y7)
  have U8 := Lib.hid ((blk_cell hb 8).trans y8)
  have U9 := Lib.hid ((blk_cell hb 9).trans y9)
  have U10 := Lib.hid ((blk_cell hb 10).trans y10)
  have U11 := Lib.hid ((blk_cell hb 11).trans y11)
  have U12 := Lib.hid ((blk_cell hb 12).trans y12)
  have U13 := Lib.hid ((blk_cell hb 13).trans y13)
  have U14 := Lib.hid ((blk_cell hb 14).trans y14)
  clear hb hw y0 y1 y2 y3 y4 y5 y6 y7 y8 y9 y10 y11 y12 y13 y14
  have k0 := U0.out
  go_enter Try.func36, Try.ntmps36
  go_upto_region 2 with (fail)
  clear k0
  generalize ((w.alloc (.cells CX 30)).alloc (.cells #[.slice none 0 0] 66)) = W at *
  generalize hgw : w.heap.size + 1 = gw at *
  generalize hgb : w.heap.size = gb at *
  have HGL := Lib.hid (show gb < gw ∧ gw = gb + 1 ∧ w.heap.size = gb from ⟨by omega, by omega, hgb⟩)
  have HFR := Lib.hid (Fr.refl gw W)
  clear hgw
  have k0 := U0.out
  have u2 := U2.out
  go_wp2_with fail
  refine (wfour_lit W gw ([]) [a2] [.int .u32 a2] 1 rfl rfl HS.out (by simp [twoL_length, fourL_length]; try omega)).mono ?_
  rintro e w1 ⟨rfl, hS, hF⟩
  clear u2
  replace HS := Lib.hid hS
  replace HFR := Lib.hid (HFR.out.trans hF)
  replace U0 := Lib.hid (fr_cell hF (by have := HGL.out; dsimp only; omega) U0.out)
  replace U1 := Lib.hid (fr_cell hF (by have := HGL.out; dsimp only; omega) U1.out)
  replace U2 := Lib.hid (fr_cell hF (by have := HGL.out; dsimp only; omega) U2.out)
  replace U3 := Lib.hid (fr_cell hF (by have := HGL.out; dsimp only; omega) U3.out)
  replace U4 := Lib.hid (fr_cell hF (by have := HGL.out; dsimp only; omega) U4.out)
  replace U5 := Lib.hid (fr_cell hF (by have := HGL.out; dsimp only; omega) U5.out)
  replace U6 := Lib.hid (fr_cell hF (by have := HGL.out; dsimp only; omega) U6.out)
  replace U7 := Lib.hid (fr_cell hF (by have := HGL.out; dsimp only; omega) U7.out)
  replace U8 := Lib.hid (fr_cell hF (by have := HGL.out; dsimp only; omega) U8.out)
  replace U9 := Lib.hid (fr_cell hF (by have := HGL.out; dsimp only; omega) U9.out)
  replace U10 := Lib.hid (fr_cell hF (by have := HGL.out; dsimp only; omega) U10.out)
  replace U11 := Lib.hid (fr_cell hF (by have := HGL.out; dsimp only; omega) U11.out)
  replace U12 := Lib.hid (fr_cell hF (by have := HGL.out; dsimp only; omega) U12.out)
  replace U13 := Lib.hid (fr_cell hF (by have := HGL.out; dsimp only; omega) U13.out)
  replace U14 := Lib.hid (fr_cell hF (by have := HGL.out; dsimp only; omega) U14.out)
  clear hS hF
  have u3 := U3.out
  have u4 := U4.out
  go_wp2_with fail
  refine (wtwo_lit w1 gw ([] ++ fourL [a2]) [a3, a4] [.int .u16 a3, .int .u16 a4] 2 rfl rfl HS.out (by simp [twoL_length, fourL_length]; try omega)).mono ?_
  rintro e w2 ⟨rfl, hS, hF⟩
  clear u3 u4
  replace HS := Lib.hid hS
  replace HFR := Lib.hid (HFR.out.trans hF)
  replace U0 := Lib.hid (fr_cell hF (by have := HGL.out; dsimp only; omega) U0.out)
  replace U1 := Lib.hid (fr_cell hF (by have := HGL.out; dsimp only; omega) U1.out)
  replace U2 := Lib.hid (fr_cell hF (by have := HGL.out; dsimp only; omega) U2.out)
  replace U3 := Lib.hid (fr_cell hF (by have := HGL.out; dsimp only; omega) U3.out)
  replace U4 := Lib.hid (fr_cell hF (by have := HGL.out; dsimp only; omega) U4.out)
  replace U5 := Lib.hid (fr_cell hF (by have := HGL.out; dsimp only; omega) U5.out)
  replace U6 := Lib.hid (fr_cell hF (by have := HGL.out; dsimp only; omega) U6.out)
  replace U7 := Lib.hid (fr_cell hF (by have := HGL.out; dsimp only; omega) U7.out)
  replace U8 := Lib.hid (fr_cell hF (by have := HGL.out; dsimp only; omega) U8.out)
  replace U9 := Lib.hid (fr_cell hF (by have := HGL.out; dsimp only; omega) U9.out)
  replace U10 := Lib.hid (fr_cell hF (by have := HGL.out; dsimp only; omega) U10.out)
  replace U11 := Lib.hid (fr_cell hF (by have := HGL.out; dsimp only; omega) U11.out)
  replace U12 := Lib.hid (fr_cell hF (by have := HGL.out; dsimp only; omega) U12.out)
  replace U13 := Lib.hid (fr_cell hF (by have := HGL.out; dsimp only; omega) U13.out)
  replace U14 := Lib.hid (fr_cell hF (by have := HGL.out; dsimp only; omega) U14.out)
  clear hS hF
  have u5 := U5.out
  go_wp2_with fail
  refine (wfour_lit w2 gw ([] ++ fourL [a2] ++ twoL [a3, a4]) [a5] [.int .u32 a5] 1 rfl rfl HS.out (by simp [twoL_length, fourL_length]; try omega)).mono ?_
  rintro e w3 ⟨rfl, hS, hF⟩
  clear u5
  replace HS := Lib.hid hS
  replace HFR := Lib.hid (HFR.out.trans hF)
  replace U0 := Lib.hid (fr_cell hF (by have := HGL.out; dsimp only; omega) U0.out)
  replace U1 := Lib.hid (fr_cell hF (by have := HGL.out; dsimp only; omega) U1.out)
  replace U2 := Lib.hid (fr_cell hF (by have := HGL.out; dsimp only; omega) U2.out)
  replace U3 := Lib.hid (fr_cell hF (by have := HGL.out; dsimp only; omega) U3.out)
  replace U4 := Lib.hid (fr_cell hF (by have := HGL.out; dsimp only; omega) U4.out)
  replace U5 := Lib.hid (fr_cell hF (by have := HGL.out; dsimp only; omega) U5.out)
  replace U6 := Lib.hid (fr_cell hF (by have := HGL.out; dsimp only; omega) U6.out)
  replace U7 := Lib.hid (fr_cell hF (by have := HGL.out; dsimp only; omega) U7.out)
  replace U8 := Lib.hid (fr_cell hF (by have := HGL.out; dsimp only; omega) U8.out)
  replace U9 := Lib.hid (fr_cell hF (by have := HGL.out; dsimp only; omega) U9.out)
  replace U10 := Lib.hid (fr_cell hF (by have := HGL.out; dsimp only; omega) U10.out)
  replace U11 := Lib.hid (fr_cell hF (by have := HGL.out; dsimp only; omega) U11.out)
  replace U12 := Lib.hid (fr_cell hF (by have := HGL.out; dsimp only; omega) U12.out)
  replace U13 := Lib.hid (fr_cell hF (by have := HGL.out; dsimp only; omega) U13.out)
  replace U14 := Lib.hid (fr_cell hF (by have := HGL.out; dsimp only; omega) U14.out)
  clear hS hF
  go_upto_region 8 with (fail)
  rw [List.nil_append] at HS
  have HXL := Lib.hid (show (fourL [a2] ++ twoL [a3, a4] ++ fourL [a5]).length + l13.length ≤ 140737488355328 by simp [twoL_length, fourL_length]; omega)
  obtain ⟨xs, hxs⟩ : ∃ xs, fourL [a2] ++ twoL [a3, a4] ++ fourL [a5] = xs := ⟨_, rfl⟩
  rw [hxs] at HS HXL
  have HXS := Lib.hid hxs
  clear hxs
  obtain ⟨u, hg, hR⟩ := HS.out
  obtain ⟨Au, cu, rfl⟩ := Kd.R_slice hR
  have HC := Lib.hid hg
  have HR := Lib.hid hR
  have HBW := Lib.hid (show Below gb w w3 from HB.out.trans (HFR.out.below.mono (by have := HGL.out; omega)))
  have HU := Lib.hid (fun (w' : World) (h : Below gw w3 w') => below_cell h (by have := HGL.out; dsimp only; omega) U13.out)
  have HBD := Lib.hid (fun (w' : World) (h : Below gw w3 w') => Kd.C_below HBD0.out (show Below w.heap.size w w' from by rw [hgb]; exact HBW.out.trans (h.mono (by have := HGL.out; omega))))
  clear hg hR HS HB HFR k0 U0 U1 U2 U3 U4 U5 U6 U7 U8 U9 U10 U11 U12 U13 U14
  generalize w3 = W at *
  have B := True.intro
  have C := True.intro
  have R := True.intro
  refine start_ (n := 11) (S := fun w' => True) (ds := []) #[false, false, false, false, false, false, false, false, false, false, false] (by kernel_rfl) rfl rfl trivial (fun hHeld => ?_)
  refine with_tabW valAtab8 valAbits8 (fun HT_ HW_ => ?_)
  refine pure_ (i := 0) (N := some 34) (v := ?_) (a' := ?_) #[true, false, false, false, false, false, false, false, false, false, false] rfl rfl (any_of HT_.out (by kernel_rfl)) (fun _ _ _ h => h) (Or.inl ⟨by rfl, ?_⟩) ?_ ?_
  rotate_left
  · intro w'
    go_simp
    with_reducible rfl
  rotate_left
  · simp only [Act.put, List.setIfInBounds_toArray, List.set_cons_zero, List.set_cons_succ, i64_w, i32_w]
    rfl
  refine pure_ (i := 1) (N := some 35) (v := ?_) (a' := ?_) #[true, true, false, false, false, false, false, false, false, false, false] rfl rfl (any_of HT_.out (by kernel_rfl)) (fun _ _ _ h => h) (Or.inl ⟨by rfl, ?_⟩) ?_ ?_
  rotate_left
  · intro w'
    go_simp
    with_reducible rfl
  rotate_left
  · simp only [Act.put, List.setIfInBounds_toArray, List.set_cons_zero, List.set_cons_succ, i64_w, i32_w]
    rfl
  refine inv_at [2, 3, 4, 5, 6, 7, 8, 9, 10] (fun a0_ b a w' => ∃ (v9 : Value), a = putSel a0_ b [(2, 36, .pointer (some ⟨gw, 0, none⟩)), (3, 37, .pointer (some ⟨gw, 0, none⟩)), (4, 38, .slice Au xs.length cu), (5, 39, .pointer (some ⟨gb, 13, none⟩)), (6, 40, .slice L.A13 l13.length L.c13), (7, 41, v9), (8, 42, .pointer (some ⟨gw, 0, none⟩)), (9, 43, .pointer (some ⟨gw, 0, none⟩))] ∧ (b 7 = false → Fr gw W w') ∧ (b 7 = false → w'.heap[gw]? = some (.cells #[.slice Au xs.length cu] 66 (0, 0))) ∧ (b 7 = false → (Kd.int .u8).R 5 w' (gw + 1) (fun k => k ≠ gw) (.slice Au xs.length cu) xs) ∧ (b 7 = true → b 10 = false → (Kd.int .u8).R 5 w' (gw + 1) (fun k => k ≠ gw) v9 (xs ++ l13) ∧ w'.heap[gw]? = some (.cells #[.slice Au xs.length cu] 66 (0, 0)) ∧ Fr gw W w') ∧ (b 10 = true → ∃ u, w'.heap[gw]? = some (.cells #[u] 66 (0, 0)) ∧ (Kd.int .u8).R 5 w' (gw + 1) (fun k => k ≠ gw) u (xs ++ l13) ∧ Fr gw W w')) HT_.out HW_.out (by kernel_rfl) (by kernel_rfl) ?_ ?_ ?_
  · exact ⟨.bool false, by simp only [putSel, Bool.false_eq_true, if_false], fun _ => (Fr.refl _ _).drewN 1, fun _ => HC.out, fun _ => HR.out, fun h_ => absurd h_ (by decide), fun h_ => absurd h_ (by decide)⟩
  · skip
    clear B C R
    refine steps_cons ?_ ?_
    · rintro b a w' ⟨v9, ha, Q_B, Q_C, Q_R, Q_S1, Q_S2⟩ hb_ hon hoff
      refine ⟨_, rfl, fun K hK => ?_⟩
      have e35 : a.tmps[35]? = some (.pointer (some ⟨gw, 0, none⟩)) := by rw [ha]; exact (putSel_off rfl).trans rfl
      replace ha := Aside0.mk ha
      have B := Aside0.mk (Q_B (hoff 7 (by kernel_rfl)))
      have C := Aside0.mk (Q_C (hoff 7 (by kernel_rfl)))
      have R := Aside0.mk (Q_R (hoff 7 (by kernel_rfl)))
      refine value_ (w1 := w') (v := .pointer (some ⟨gw, 0, none⟩)) (by rfl) rfl ?_ ?_
      · go_simp
        (try simp only [i64_w])
        try rfl
      refine hK.out _ _ ⟨v9, (by rw [ha.out]; exact putSel_upk 0 hb_ rfl rfl rfl), Q_B, Q_C, Q_R, fun h0_ _ => absurd ((hoff 7 (by kernel_rfl)).symm.trans h0_) (by decide), fun h0_ => absurd ((hoff 10 (by kernel_rfl)).symm.trans h0_) (by decide)⟩
    refine steps_cons ?_ ?_
    · rintro b a w' ⟨v9, ha, Q_B, Q_C, Q_R, Q_S1, Q_S2⟩ hb_ hon hoff
      refine ⟨_, rfl, fun K hK => ?_⟩
      have e36 : a.tmps[36]? = some (.pointer (some ⟨gw, 0, none⟩)) := by rw [ha]; exact putSel_on (e := (2, 36, .pointer (some ⟨gw, 0, none⟩))) 0 rfl rfl (hon 2 (by kernel_rfl)) rfl
      replace ha := Aside0.mk ha
      have B := Aside0.mk (Q_B (hoff 7 (by kernel_rfl)))
      have C := Aside0.mk (Q_C (hoff 7 (by kernel_rfl)))
      have R := Aside0.mk (Q_R (hoff 7 (by kernel_rfl)))
      refine value_ (w1 := w') (v := .pointer (some ⟨gw, 0, none⟩)) (by rfl) rfl ?_ ?_
      · go_simp
        (try simp only [i64_w])
        try rfl
      refine hK.out _ _ ⟨v9, (by rw [ha.out]; exact putSel_upk 1 hb_ rfl rfl rfl), Q_B, Q_C, Q_R, fun h0_ _ => absurd ((hoff 7 (by kernel_rfl)).symm.trans h0_) (by decide), fun h0_ => absurd ((hoff 10 (by kernel_rfl)).symm.trans h0_) (by decide)⟩
    refine steps_cons ?_ ?_
    · rintro b a w' ⟨v9, ha, Q_B, Q_C, Q_R, Q_S1, Q_S2⟩ hb_ hon hoff
      refine ⟨_, rfl, fun K hK => ?_⟩
      have e37 : a.tmps[37]? = some (.pointer (some ⟨gw, 0, none⟩)) := by rw [ha]; exact putSel_on (e := (3, 37, .pointer (some ⟨gw, 0, none⟩))) 1 rfl rfl (hon 3 (by kernel_rfl)) rfl
      replace ha := Aside0.mk ha
      have B := Aside0.mk (Q_B (hoff 7 (by kernel_rfl)))
      have C := Aside0.mk (Q_C (hoff 7 (by kernel_rfl)))
      have R := Aside0.mk (Q_R (hoff 7 (by kernel_rfl)))
      have hs := blk_cell C.out 0
      refine value_ (w1 := w') (v := .slice Au xs.length cu) (by rfl) rfl ?_ ?_
      · go_simp
        (try simp only [i64_w])
        try rfl
      refine hK.out _ _ ⟨v9, (by rw [ha.out]; exact putSel_upk 2 hb_ rfl rfl rfl), Q_B, Q_C, Q_R, fun h0_ _ => absurd ((hoff 7 (by kernel_rfl)).symm.trans h0_) (by decide), fun h0_ => absurd ((hoff 10 (by kernel_rfl)).symm.trans h0_) (by decide)⟩
    refine steps_cons ?_ ?_
    · rintro b a w' ⟨v9, ha, Q_B, Q_C, Q_R, Q_S1, Q_S2⟩ hb_ hon hoff
      refine ⟨_, rfl, fun K hK => ?_⟩
      have e1 : a.tmps[1]? = some (.pointer (some ⟨gb, 0, none⟩)) := by rw [ha]; exact (putSel_off rfl).trans rfl
      replace ha := Aside0.mk ha
      have B := Aside0.mk (Q_B (hoff 7 (by kernel_rfl)))
      have C := Aside0.mk (Q_C (hoff 7 (by kernel_rfl)))
      have R := Aside0.mk (Q_R (hoff 7 (by kernel_rfl)))
      refine value_ (w1 := w') (v := .pointer (some ⟨gb, 13, none⟩)) (by rfl) rfl ?_ ?_
      · go_simp
        (try simp only [i64_w])
        try rfl
      refine hK.out _ _ ⟨v9, (by rw [ha.out]; exact putSel_upk 3 hb_ rfl rfl rfl), Q_B, Q_C, Q_R, fun h0_ _ => absurd ((hoff 7 (by kernel_rfl)).symm.trans h0_) (by decide), fun h0_ => absurd ((hoff 10 (by kernel_rfl)).symm.trans h0_) (by decide)⟩
    refine steps_cons ?_ ?_
    · rintro b a w' ⟨v9, ha, Q_B, Q_C, Q_R, Q_S1, Q_S2⟩ hb_ hon hoff
      refine ⟨_, rfl, fun K hK => ?_⟩
      have e39 : a.tmps[39]? = some (.pointer (some ⟨gb, 13, none⟩)) := by rw [ha]; exact putSel_on (e := (5, 39, .pointer (some ⟨gb, 13, none⟩))) 3 rfl rfl (hon 5 (by kernel_rfl)) rfl
      replace ha := Aside0.mk ha
      have B := Aside0.mk (Q_B (hoff 7 (by kernel_rfl)))
      have C := Aside0.mk (Q_C (hoff 7 (by kernel_rfl)))
      have R := Aside0.mk (Q_R (hoff 7 (by kernel_rfl)))
      have hs : w'.cell? ⟨gb, 13, none⟩ = some (.slice L.A13 l13.length L.c13) := HU.out w' B.out.below
      refine value_ (w1 := w') (v := .slice L.A13 l13.length L.c13) (by rfl) rfl ?_ ?_
      · go_simp
        (try simp only [i64_w])
        try rfl
      refine hK.out _ _ ⟨v9, (by rw [ha.out]; exact putSel_upk 4 hb_ rfl rfl rfl), Q_B, Q_C, Q_R, fun h0_ _ => absurd ((hoff 7 (by kernel_rfl)).symm.trans h0_) (by decide), fun h0_ => absurd ((hoff 10 (by kernel_rfl)).symm.trans h0_) (by decide)⟩
    refine steps_cons ?_ ?_
    · rintro b a w' ⟨v9, ha, Q_B, Q_C, Q_R, Q_S1, Q_S2⟩ hb_ hon hoff
      refine ⟨_, rfl, fun K hK => ?_⟩
      have e38 : a.tmps[38]? = some (.slice Au xs.length cu) := by rw [ha]; exact putSel_on (e := (4, 38, .slice Au xs.length cu)) 2 rfl rfl (hon 4 (by kernel_rfl)) rfl
      have e40 : a.tmps[40]? = some (.slice L.A13 l13.length L.c13) := by rw [ha]; exact putSel_on (e := (6, 40, .slice L.A13 l13.length L.c13)) 4 rfl rfl (hon 6 (by kernel_rfl)) rfl
      replace ha := Aside0.mk ha
      have B := Aside0.mk (Q_B hb_)
      have C := Aside0.mk (Q_C hb_)
      have R := Aside0.mk (Q_R hb_)
      refine Kd.R_append_rows_step (Kd.int .u8) (Rr := (Kd.int .u8).K w') (w0 := w') (W := w') (gw + 1) (by rfl) _ _ 22 5 _ 1 rfl Try.underlying22 info_u8 rfl (by decide) (by decide) (.slice Au xs.length cu) xs l13 L.A13 l13.length L.c13 (fun k => k ≠ gw) (fun _ => False) (by simp [Act.eval, Array.getD_eq_getD_getElem?, e38]) (by simp [Act.eval, Array.getD_eq_getD_getElem?, e40]) R.out (HBD.out w' B.out.below) (fun _ _ h => h) (fun _ h => h.elim) (fun k hk => by have := blk_lt C.out; omega) (Below.refl _ _) (by have := blk_lt C.out; omega) (by have := HXL.out; omega) ?_
      intro v1 w1 hR1 hB1 hG1 _
      refine hK.out _ _ ⟨v1, (by rw [ha.out]; exact putSel_upk 5 hb_ rfl rfl rfl), fun h0_ => absurd ((up_self b 7).symm.trans h0_) (by decide), fun h0_ => absurd ((up_self b 7).symm.trans h0_) (by decide), fun h0_ => absurd ((up_self b 7).symm.trans h0_) (by decide), fun _ _ => ⟨hR1, blk_grown C.out hG1 (fun e => R.out.1 _ e.symm rfl), B.out.grown R.out (hB1.mono (Nat.le_succ _)) hG1⟩, fun h0_ => absurd ((hoff 10 (by kernel_rfl)).symm.trans h0_) (by decide)⟩
    refine steps_cons ?_ ?_
    · rintro b a w' ⟨v9, ha, Q_B, Q_C, Q_R, Q_S1, Q_S2⟩ hb_ hon hoff
      refine ⟨_, rfl, fun K hK => ?_⟩
      have e34 : a.tmps[34]? = some (.pointer (some ⟨gw, 0, none⟩)) := by rw [ha]; exact (putSel_off rfl).trans rfl
      replace ha := Aside0.mk ha
      have S1 := Aside0.mk (Q_S1 (hon 7 (by kernel_rfl)) (hoff 10 (by kernel_rfl)))
      refine value_ (w1 := w') (v := .pointer (some ⟨gw, 0, none⟩)) (by rfl) rfl ?_ ?_
      · go_simp
        (try simp only [i64_w])
        try rfl
      refine hK.out _ _ ⟨v9, (by rw [ha.out]; exact putSel_upk 6 hb_ rfl rfl rfl), fun h0_ => absurd ((hon 7 (by kernel_rfl)).symm.trans h0_) (by decide), fun h0_ => absurd ((hon 7 (by kernel_rfl)).symm.trans h0_) (by decide), fun h0_ => absurd ((hon 7 (by kernel_rfl)).symm.trans h0_) (by decide), Q_S1, fun h0_ => absurd ((hoff 10 (by kernel_rfl)).symm.trans h0_) (by decide)⟩
    refine steps_cons ?_ ?_
    · rintro b a w' ⟨v9, ha, Q_B, Q_C, Q_R, Q_S1, Q_S2⟩ hb_ hon hoff
      refine ⟨_, rfl, fun K hK => ?_⟩
      have e42 : a.tmps[42]? = some (.pointer (some ⟨gw, 0, none⟩)) := by rw [ha]; exact putSel_on (e := (8, 42, .pointer (some ⟨gw, 0, none⟩))) 6 rfl rfl (hon 8 (by kernel_rfl)) rfl
      replace ha := Aside0.mk ha
      have S1 := Aside0.mk (Q_S1 (hon 7 (by kernel_rfl)) (hoff 10 (by kernel_rfl)))
      refine value_ (w1 := w') (v := .pointer (some ⟨gw, 0, none⟩)) (by rfl) rfl ?_ ?_
      · go_simp
        (try simp only [i64_w])
        try rfl
      refine hK.out _ _ ⟨v9, (by rw [ha.out]; exact putSel_upk 7 hb_ rfl rfl rfl), fun h0_ => absurd ((hon 7 (by kernel_rfl)).symm.trans h0_) (by decide), fun h0_ => absurd ((hon 7 (by kernel_rfl)).symm.trans h0_) (by decide), fun h0_ => absurd ((hon 7 (by kernel_rfl)).symm.trans h0_) (by decide), Q_S1, fun h0_ => absurd ((hoff 10 (by kernel_rfl)).symm.trans h0_) (by decide)⟩
    refine steps_cons ?_ ?_
    · rintro b a w' ⟨v9, ha, Q_B, Q_C, Q_R, Q_S1, Q_S2⟩ hb_ hon hoff
      refine ⟨_, rfl, fun K hK => ?_⟩
      have e43 : a.tmps[43]? = some (.pointer (some ⟨gw, 0, none⟩)) := by rw [ha]; exact putSel_on (e := (9, 43, .pointer (some ⟨gw, 0, none⟩))) 7 rfl rfl (hon 9 (by kernel_rfl)) rfl
      have e41 : a.tmps[41]? = some (v9) := by rw [ha]; exact putSel_on (e := (7, 41, v9)) 5 rfl rfl (hon 7 (by kernel_rfl)) rfl
      replace ha := Aside0.mk ha
      have S1 := Aside0.mk (Q_S1 (hon 7 (by kernel_rfl)) hb_)
      obtain ⟨hR1, hC1, hF1⟩ := S1.out
      obtain ⟨A7, c7, hv9⟩ := Kd.R_slice hR1
      have hs := blk_cell hC1 0
      have hf := blk_frozen hC1 0
      refine skip_ (w1 := w'.setCell ⟨gw, 0, none⟩ v9) (by rfl) rfl (by generalize (xs ++ l13).length = zl at hv9; rw [hv9] at e41 ⊢; go_simp; try rfl) ?_
      refine hK.out _ _ ⟨v9, (by rw [ha.out]; exact putSel_none (v := undef) rfl), fun h0_ => absurd ((hon 7 (by kernel_rfl)).symm.trans h0_) (by decide), fun h0_ => absurd ((hon 7 (by kernel_rfl)).symm.trans h0_) (by decide), fun h0_ => absurd ((hon 7 (by kernel_rfl)).symm.trans h0_) (by decide), fun _ h1_ => absurd ((up_self b 10).symm.trans h1_) (by decide), fun _ => ⟨v9, blk_put hC1 0 v9 rfl, Kd.R_far hR1 (p := ⟨gw, 0, none⟩) (fun k hk => hk) v9, hF1.set hC1 0 v9⟩⟩
    exact steps_nil
  rintro b a w' hall ⟨v9, ha, Q_B, Q_C, Q_R, Q_S1, Q_S2⟩
  clear B C R
  have hb2_ := hall 2 (by kernel_rfl)
  have hb3_ := hall 3 (by kernel_rfl)
  have hb4_ := hall 4 (by kernel_rfl)
  have hb5_ := hall 5 (by kernel_rfl)
  have hb6_ := hall 6 (by kernel_rfl)
  have hb7_ := hall 7 (by kernel_rfl)
  have hb8_ := hall 8 (by kernel_rfl)
  have hb9_ := hall 9 (by kernel_rfl)
  have hb10_ := hall 10 (by kernel_rfl)
  subst ha
  simp only [putSel, hb2_, hb3_, hb4_, hb5_, hb6_, hb7_, hb8_, hb9_, hb10_, if_true, Act.put, List.setIfInBounds_toArray, List.set_cons_zero, List.set_cons_succ]
  clear Q_B
  clear Q_C
  clear Q_R
  clear Q_S1
  have S2 := Aside0.mk (Q_S2 hb10_)
  clear Q_S2
  clear hall hb2_ hb3_ hb4_ hb5_ hb6_ hb7_ hb8_ hb9_ hb10_
  obtain ⟨u, hg, hR, hF⟩ := S2.out
  obtain ⟨A7, c7, rfl⟩ := Kd.R_slice hR
  have HC7 := Lib.hid hg
  have k9 : w'.cell? ⟨gw, 0, none⟩ = some (.slice A7 (xs ++ l13).length c7) := blk_cell hg 0
  have HR7 := Lib.hid hR
  have HB7 := Lib.hid (HBW.out.trans (hF.below.mono (by have := HGL.out; omega)))
  clear hg hR hF S2
  generalize hn : (xs ++ l13).length = nl at *
  go_wp2
  go_ret
  rw [HXS.out]
  exact ValQ.of_R HR7.out (by have := HGL.out; omega) (by rw [HGL.out.2.2]; exact HB7.out)
end Go.Proofs.Ytjmadnpicidbeaa.Ch
end
section
namespace Go.Proofs.Ytjmadnpicidbeaa.Ch
open Go.RowKit Go.Proofs.YtjmadnpicidbeaaW.PrintWords Go.Proofs.YtjmadnpicidbeaaW.PrintLast Go.Proofs.Ytjmadnpicidbeaa.Base Go.Proofs.Ytjmadnpicidbeaa.PCh Go.Proofs.Ytjmadnpicidbeaa.ParDec Go.Proofs.Ytjmadnpicidbeaa.ParEnc
set_option maxRecDepth 100000
set_option linter.unusedVariables false
set_option linter.unusedSimpArgs false
def checkT1 : Bool × List (List Nat × List Nat) := (true, [([], []), ([], []), ([1], [1]), ([0, 2, 2], [0, 2]), ([3], [3]), ([4, 3], [4])])
def checkB1 : List Nat := [0, 0, 2, 7, 15, 31]
theorem checktab1 : Go.Proofs.YtjmadnpicidbeaaW.PrintLast.rtab .any (Go.Proofs.YtjmadnpicidbeaaW.PrintLast.opsOf Try.f16 1) = checkT1 := by kernel_rfl
theorem checkbits1 : Go.Proofs.YtjmadnpicidbeaaW.PrintLast.waitsOk checkT1.2 checkB1 = true := by kernel_rfl
noncomputable def checkD (x : Chk) : Int :=
  if decide (x = bareD x) = false then 63
  else if x.f0 = 0 ∧ x.f13.length = 0 then 62
  else if (x.f0 = 4 ∨ x.f0 = 5) ∧ beatB x.f14 = false then 61
  else if 4096 < x.f10.length ∨ 4096 < x.f11.length ∨ 4096 < x.f12.length then 3
  else if (encP x.f14).2 ≠ 0 then (encP x.f14).2
  else if 65531 < (valueD x).length then 2 else 0
theorem encP_calls (w : World) (A : Option Addr) (c : Nat) (ps : List PrmS) (h : Kd.C k75 w A ps.length ps) (hc : ps.length ≤ c) :
    Calls Try.prog 41 #[.slice A ps.length c] w fun e w' => ∃ v0 : Value, e = .returned (.tuple #[v0, .int .i64 (encP ps).2]) ∧ Kd.R (Kd.int .u8) 5 w' w.heap.size (fun _ => True) v0 (encP ps).1 ∧ Below w.heap.size w w' := by
  obtain ⟨k, hk⟩ := encode_run ps
  exact param_Encode.calls k A c ps _ _ w h hc hk
def ValOk (x : Chk) (L : Lay) : Prop := ∀ W, CR W x L → x = bareD x → x.f10.length ≤ 4096 → x.f11.length ≤ 4096 → x.f12.length ≤ 4096 → (encP x.f14).2 = 0 → Calls Try.prog 36 #[.agg (CV x L)] W (ValP (valueD x) W)
theorem isBeat_f (a : Int) : chunk_isBeat.f a = some (decide (a = 4 ∨ a = 5)) := by
  unfold chunk_isBeat.f
  by_cases h4 : a = 4
  · simp [h4]
  · by_cases h5 : a = 5
    · simp [h5]
    · simp [h4, h5]
theorem isBeat_calls (a : Int) (w : World) : Calls Try.prog 39 #[.int .u8 a] w fun e w' => e = .returned (.bool (decide (a = 4 ∨ a = 5))) ∧ Drawn0 w w' := chunk_isBeat.calls a _ w (isBeat_f a)
end Go.Proofs.Ytjmadnpicidbeaa.Ch
end
section
namespace Go.Proofs.Ytjmadnpicidbeaa.Ch
open Go.RowKit Go.Proofs.YtjmadnpicidbeaaW.PrintWords Go.Proofs.YtjmadnpicidbeaaW.PrintLast Go.Proofs.Ytjmadnpicidbeaa.Base Go.Proofs.Ytjmadnpicidbeaa.PCh Go.Proofs.Ytjmadnpicidbeaa.ParDec Go.Proofs.Ytjmadnpicidbeaa.ParEnc
set_option maxRecDepth 100000
set_option linter.unusedVariables false
set_option linter.unusedSimpArgs false
def padL (n : Nat) : List Int := List.replicate ((n + 3) / 4 * 4 - n) 0
noncomputable def chunkL (x : Chk) : List Int := [x.f0, x.f1] ++ twoL [IntKind.u16.wrap (4 + ((valueD x).length : Int))] ++ valueD x ++ padL (valueD x).length
noncomputable def runE : List Int → List Chk → List Int × Int
  | acc, [] => (acc, 0)
  | acc, x :: r => if 65536 < (acc ++ chunkL x).length then ([], 2) else runE (acc ++ chunkL x) r
noncomputable def chkAll : List Chk → Int
  | [] => 0
  | x :: r => if checkD x = 0 then chkAll r else checkD x
noncomputable def encD (xs : List Chk) : List Int × Int := if chkAll xs = 0 then runE [] xs else ([], chkAll xs)
theorem checkD_len {x : Chk} (h : checkD x = 0) : (valueD x).length ≤ 65531 := by
  unfold checkD at h
  split at h
  · cases h
  · split at h
    · cases h
    · split at h
      · cases h
      · split at h
        · cases h
        · split at h
          · contradiction
          · split at h
            · cases h
            · omega
theorem chkAll_mem {xs : List Chk} (h : chkAll xs = 0) {x : Chk} (hx : x ∈ xs) : checkD x = 0 := by
  induction xs with
  | nil => cases hx
  | cons y r ih =>
    unfold chkAll at h
    split at h
    · rcases List.mem_cons.1 hx with rfl | hx
      · assumption
      · exact ih h hx
    · contradiction
theorem _root_.Go.Proofs.Ytjmadnpicidbeaa.Base.Only.grown {S : Nat → Prop} {a b c : World} {own : Option Nat} (h : Only S a b) (hG : b.grownBy c own) (hS : ∀ k, k < a.heap.size → own = some k → S k) : Only S a c :=
  ⟨hG.os.trans h.os, hG.tape.trans h.tape, hG.output.trans h.output, Nat.le_trans h.size hG.size, fun k hk hn => (hG.block k (Nat.lt_of_lt_of_le hk h.size) (fun e => hn (hS k hk e.symm))).trans (h.block k hk hn)⟩
theorem chk_at {w : World} {A : Option Addr} {xs : List Chk} (h : Kd.C k30 w A xs.length xs) (i : Nat) (hi : i < xs.length) :
    ∃ ad x L, A = some ad ∧ xs.drop i = x :: xs.drop (i + 1) ∧ x ∈ xs ∧ (∀ j v, (CV x L).toList[j]? = some v → w.cell? ((ad.add (i * 15)).add j) = some v) ∧ CR w x L := by
  obtain ⟨ad, c, e, _, hK, hc0⟩ := Kd.C_get h xs[i] (i : Int) (by omega) (by omega)
  rw [Int.toNat_natCast] at hK hc0
  have e2 : xs.getD i xs[i] = xs[i] := getD_lt _ _ _ hi
  rw [e2] at hK
  obtain ⟨L, rfl, hx⟩ := CR.of_K hK
  refine ⟨ad, xs[i], L, e, List.drop_eq_getElem_cons hi, List.getElem_mem hi, fun j v hv => ?_, hx⟩
  rw [Addr.add_add]
  exact hc0 j v hv
theorem wpList_load_cells {P : Program} {ops : Array Oper} {rest : List Oper} {op : Oper} {a : Act} {w : World} {Q : Exit → Act → World → Prop} (hgd : op.guard = none) (ty : TypeId) (x : Operand) (ho : op.op = .load ty x)
    {ad : Addr} (hx : a.eval x = .pointer (some ad)) (cs : Array Value) (d : TypeDesc) (hc : ∀ j v, cs.toList[j]? = some v → w.cell? (ad.add j) = some v)
    (hu : P.underlying ty = some d) (hd : d.isRow = true) (hi : (P.info? ty).map (·.size) = some cs.size)
    (h : wpList P ops Q rest (a.put op.dst (.agg cs)) w) : wpList P ops Q (op :: rest) a w := by
  have hl : (loadCells ad cs.size).run P w = .ok cs w := run_loadCells_list (P := P) w ad cs.toList hc
  have hv : (loadVar ty ad).run P w = .ok (.agg cs) w := by
    cases hq : P.info? ty with
    | none => simp [hq] at hi
    | some i =>
      have hs : i.size = cs.size := by simpa [hq] using hi
      have hagg : (isAgg ty).run P w = .ok true w := by
        unfold isAgg
        rw [Sem.run_bind, run_underlying hu w]
        cases d <;> simp_all [TypeDesc.isRow]
      simp [loadVar, Sem.run_bind, hagg, sizeOf, typeInfo, hq, hs, hl]
  refine wpList_plain hgd fun _ hK => ?_
  have hK' := hK _ _ h
  unfold Oper.wp execOp
  simp only [ho, hx, Instr.loadAt, Instr.sureAddr, Sem.run_bind, Sem.run_pure, Result.andThen_ok, hv]
  exact hK'
theorem cells_of_blk {w : World} {g : Nat} {cs : Array Value} {t : TypeId} {fr : Nat × Nat} (h : w.heap[g]? = some (.cells cs t fr)) : ∀ (j : Nat) (v : Value), cs.toList[j]? = some v → w.cell? ((⟨g, 0, none⟩ : Addr).add j) = some v := fun j v hv => by
  rw [Addr.add_lit, Nat.zero_add]
  unfold World.cell?
  simp only [h]
  simpa using hv
theorem CV_one (x : Chk) (L : Lay) : (CV x L).all (·.oneCell') = true := by simp [CV, Value.oneCell']
theorem alloc_chunk {o : Oper} {a : Act} {w : World} (ho : o.op = .alloc 30) : (execOp a.eval o).run Try.prog w = .ok (.value (.pointer (some ⟨w.heap.size, 0, none⟩))) (w.alloc (.cells #[.int .u8 0, .int .u8 0, .int .u32 0, .int .u16 0, .int .u16 0, .int .u32 0, .int .u32 0, .int .u32 0, .int .u16 0, .int .u16 0, .slice none 0 0, .slice none 0 0, .slice none 0 0, .slice none 0 0, .slice none 0 0] 30)) := by
  unfold execOp
  simp only [ho]
  go_simp
theorem wpList_box {ops : Array Oper} {rest : List Oper} {o1 o2 : Oper} {a : Act} {w : World} {Q : Exit → Act → World → Prop} (h1 : o1.guard = none) (h2 : o2.guard = none) (n : Tmp) (hd : o1.dst = some n) (ho1 : o1.op = .alloc 30)
    (y : Operand) (ho2 : o2.op = .store 30 (.tmp n) y) (cs : Array Value) (hx : (a.put (some n) (.pointer (some ⟨w.heap.size, 0, none⟩))).eval (.tmp n) = .pointer (some ⟨w.heap.size, 0, none⟩))
    (hy : (a.put (some n) (.pointer (some ⟨w.heap.size, 0, none⟩))).eval y = .agg cs) (hsz : (#[.int .u8 0, .int .u8 0, .int .u32 0, .int .u16 0, .int .u16 0, .int .u32 0, .int .u32 0, .int .u32 0, .int .u16 0, .int .u16 0, .slice none 0 0, .slice none 0 0, .slice none 0 0, .slice none 0 0, .slice none 0 0] : Array Value).size = cs.size) (hi : (Try.prog.info? 30).map (·.size) = some cs.size) (hone : cs.all (·.oneCell') = true)
    (h : wpList Try.prog ops Q rest ((a.put (some n) (.pointer (some ⟨w.heap.size, 0, none⟩))).put o2.dst undef) (w.alloc (.cells cs 30))) : wpList Try.prog ops Q (o1 :: o2 :: rest) a w := by
  have h3 : wpList Try.prog ops Q (o2 :: rest) (a.put (some n) (.pointer (some ⟨w.heap.size, 0, none⟩))) (w.alloc (.cells #[.int .u8 0, .int .u8 0, .int .u32 0, .int .u16 0, .int .u16 0, .int .u32 0, .int .u32 0, .int .u32 0, .int .u16 0, .int .u16 0, .slice none 0 0, .slice none 0 0, .slice none 0 0, .slice none 0 0, .slice none 0 0] 30)) := by
    refine wpList_store_row h2 30 (.tmp n) y ho2 w.heap.size cs hx hy 30 #[.int .u8 0, .int .u8 0, .int .u32 0, .int .u16 0, .int .u16 0, .int .u32 0, .int .u32 0, .int .u32 0, .int .u16 0, .int .u16 0, .slice none 0 0, .slice none 0 0, .slice none 0 0, .slice none 0 0, .slice none 0 0] (blk_new _ _) hi hsz hone ?_
    rw [World.setRow_alloc_new]
    exact h
  refine wpList_plain h1 fun _ hK => ?_
  have hK' := hK _ _ h3
  rw [← hd] at hK'
  unfold Oper.wp
  rw [alloc_chunk ho1]
  exact hK'
def WSo (ok : Nat → Prop) (w : World) (gw : Nat) (xs : List Int) : Prop := ∃ u, w.heap[gw]? = some (.cells #[u] 66 (0, 0)) ∧ (Kd.int .u8).R 5 w (gw + 1) ok u xs
theorem C_blk {g n : Nat} {w W : World} {kk : IntKind} {ns : List Int} (hg : W.heap[g]? = w.heap[g]?) (hC : (Kd.int kk).C w (some ⟨g, 0, none⟩) n ns) : (Kd.int kk).C W (some ⟨g, 0, none⟩) n ns := by
  obtain ⟨e1, e2, e3⟩ := hC
  refine ⟨e1, e2, fun hn => ?_⟩
  obtain ⟨ad, e, hc⟩ := e3 hn
  injection e with e
  subst e
  refine ⟨_, rfl, fun j p hj => ?_⟩
  obtain ⟨cs, c1, c2, c3⟩ := hc j p hj
  refine ⟨cs, c1, c2, fun i u hu => ?_⟩
  have := c3 i u hu
  have hb : (Addr.add ⟨g, 0, none⟩ (j * (Kd.int kk).sz + i)).block = g := add_block _ _
  unfold World.cell? at this ⊢
  rw [hb, hg]
  rw [hb] at this
  exact this
set_option maxHeartbeats 2000000 in
theorem wtwo_o (w : World) (gw : Nat) (ok : Nat → Prop) (hok : ∀ k, w.heap.size ≤ k → ok k) (hgo : ¬ ok gw) (xs : List Int) (A : Option Addr) (c : Nat) (ns : List Int) (hs : WSo ok w gw xs) (hA : ∀ W, Only (fun k => k = gw ∨ ok k) w W → (Kd.int .u16).C W A ns.length ns) (hx : xs.length + 2 * ns.length ≤ 140737488355328) :
    Calls Try.prog 37 #[.pointer (some ⟨gw, 0, none⟩), .slice A ns.length c] w fun e w' => e = .returned (.tuple #[]) ∧ WSo ok w' gw (xs ++ twoL ns) ∧ Only (fun k => k = gw ∨ ok k) w w' := by
  have HS := Lib.hid hs
  have HA := Lib.hid hA
  have hm := (hA w (Only.refl _ _)).2.1
  have HOK := Lib.hid hok
  have HGO := Lib.hid hgo
  clear hs hA hok hgo
  go_enter Try.func37, Try.ntmps37
  go_wp2
  go_loopw [5, 8] (fun v5 v8 wr => ∃ (i : Nat) (ys : List Int), i ≤ ns.length ∧ v8 = .int .i64 (i : Int) ∧ Hid (ys.length = xs.length + 2 * i) ∧ Hid (ys ++ twoL (ns.drop i) = xs ++ twoL ns) ∧ Hid (WSo ok wr gw ys) ∧ Hid (Only (fun k => k = gw ∨ ok k) w wr)) (fun _ v8 _ => ns.length - (intOf v8).toNat)
  case atStart => exact ⟨0, xs, Nat.zero_le _, rfl, (by show _ = _; omega), rfl, HS.out, Only.refl _ _⟩
  case round =>
    clear HS
    obtain ⟨i, ys, hi, rfl, HYL, HE, HW, HF⟩ := hrel
    by_cases hlt : i < ns.length
    · obtain ⟨ad, rfl, x0⟩ := int_at (HA.out wr HF.out) i hlt
      obtain ⟨u, hg, hR⟩ := HW.out
      obtain ⟨Au, cu, rfl⟩ := Kd.R_slice hR
      have hE := HE.out
      have hd : ns.drop i = ns.getD i 0 :: ns.drop (i + 1) := by
        rw [List.drop_eq_getElem_cons hlt]
        congr 1
        simp [List.getD_eq_getElem?_getD, hlt]
      rw [hd, twoL] at hE
      generalize ns.getD i 0 = q at *
      have hE2 : (ys ++ [q / 256 % 256, q % 256]) ++ twoL (ns.drop (i + 1)) = xs ++ twoL ns := by rw [List.append_assoc]; exact hE
      have HE2 := Lib.hid hE2
      have HG := Lib.hid hg
      have HR := Lib.hid hR
      have k0 : wr.cell? ⟨gw, 0, none⟩ = some (.slice Au ys.length cu) := blk_cell hg 0
      have HLT := Lib.hid (blk_lt hg)
      clear hE hE2 hd HE HW hg hR
      go_wp2_with (at_builtin; go_must (refine Kd.R_append_row (Value.int .u8) (0 : Int) (w0 := wr.alloc (.cells #[.int .u8 (q / 256 % 256), .int .u8 (q % 256)] 5)) (W := wr.alloc (.cells #[.int .u8 (q / 256 % 256), .int .u8 (q % 256)] 5)) (gw + 1) rfl _ _ 22 5 _ 1 rfl Try.underlying22 info_u8 rfl (by decide) (.slice Au ys.length cu) ys [q / 256 % 256, q % 256] (some ⟨wr.heap.size, 0, none⟩) 2 2 ok rfl rfl (fun k hk => HOK.out k (by have := HF.out.size; simp at hk; omega)) (Kd.R_alloc HR.out _) (row_lit (Kd.int .u8) rfl wr 5 [.int .u8 (q / 256 % 256), .int .u8 (q % 256)] [q / 256 % 256, q % 256] rfl (by simp) (fun j v p hv hp => by rcases j with _ | _ | j <;> simp at hv hp <;> (subst hv; subst hp; rfl))) (Below.refl _ _) (by have := HLT.out; simp; omega) (by have := HYL.out; omega) ?_); (intro v1 w1 hR1 hB1 hG1 _; have HR1 := Lib.hid hR1; have HB1 := Lib.hid hB1; have HGR := Lib.hid hG1; clear hR1 hB1 hG1; refine RowKit.Hid.out ?_))
      refine Lib.hid ?_
      obtain ⟨A7, c7, hv1⟩ := Kd.R_slice HR1.out
      subst hv1
      have hown : (Value.slice Au ys.length cu).ownBlock ≠ some gw := fun e => HGO.out ((Kd.R_alloc HR.out (.cells #[.int .u8 (q / 256 % 256), .int .u8 (q % 256)] 5)).1 _ e)
      have hg1 := blk_grown (blk_alloc HG.out (.cells #[.int .u8 (q / 256 % 256), .int .u8 (q % 256)] 5)) HGR.out (fun e => hown e.symm)
      have hs := blk_cell hg1 0
      have hf := blk_frozen hg1 0
      have HG1 := Lib.hid hg1
      have HF1 := Lib.hid ((HF.out.alloc (.cells #[.int .u8 (q / 256 % 256), .int .u8 (q % 256)] 5)).grown HGR.out (fun k _ e => Or.inr ((Kd.R_alloc HR.out (.cells #[.int .u8 (q / 256 % 256), .int .u8 (q % 256)] 5)).1 _ e)))
      have HR2 := Lib.hid (Kd.R_far HR1.out (p := ⟨gw, 0, none⟩) (fun k hk (e : k = gw) => HGO.out (e ▸ hk)) (.slice A7 (ys ++ [q / 256 % 256, q % 256]).length c7))
      rw [show (ys ++ [q / 256 % 256, q % 256]).length = ys.length + 2 by simp] at HR2
      clear hg1 HGR HB1 HF HR HG k0
      go_wp2
      go_roundw
      case rel => exact ⟨i + 1, ys ++ [q / 256 % 256, q % 256], by omega, by go_num, (by have := HYL.out; show _ = _; simp only [List.length_append, List.length_cons, List.length_nil]; omega), HE2, ⟨_, blk_put HG1.out 0 _ rfl, HR2.out⟩, HF1.out.setCell (fun _ => Or.inl rfl) _⟩
      case measure => simp [intOf]; omega
    · obtain rfl : i = ns.length := by omega
      have hE := HE.out
      rw [List.drop_length, twoL, List.append_nil] at hE
      have HE2 := Lib.hid hE
      clear hE HE HA
      go_wp2
      go_end0
      exact ⟨rfl, by rw [← HE2.out]; exact HW.out, HF.out⟩
theorem WSo.only {ok : Nat → Prop} {S : Nat → Prop} {w w' : World} {gw : Nat} {xs : List Int} (h : WSo ok w gw xs) (o : Only S w w') (hs : ∀ k, gw ≤ k → k < w.heap.size → ¬ S k) : WSo ok w' gw xs := by
  obtain ⟨u, h1, h2⟩ := h
  exact ⟨u, o.blk h1 (hs gw (Nat.le_refl _) (blk_lt h1)), R_only h2 o (fun k hk => hs k (by omega))⟩
theorem wtwo_lit_o (w : World) (gw : Nat) (ok : Nat → Prop) (hok : ∀ k, w.heap.size ≤ k → ok k) (hgo : ¬ ok gw) (xs ns : List Int) (vs : List Value) (n : Nat) (hv : vs = ns.map (Value.int .u16)) (hn : ns.length = n) (hs : WSo ok w gw xs) (hx : xs.length + 2 * ns.length ≤ 140737488355328) :
    Calls Try.prog 37 #[.pointer (some ⟨gw, 0, none⟩), .slice (some ⟨w.heap.size, 0, none⟩) n n] (w.alloc (.cells vs.toArray 25)) fun e w' => e = .returned (.tuple #[]) ∧ WSo ok w' gw (xs ++ twoL ns) ∧ Only (fun k => k = gw ∨ ok k) w w' := by
  subst hn
  obtain ⟨u, hg, hR⟩ := hs
  have hlt := blk_lt hg
  have hC : (Kd.int .u16).C (w.alloc (.cells vs.toArray 25)) (some ⟨w.heap.size, 0, none⟩) ns.length ns := row_lit (Kd.int .u16) rfl w _ vs ns (by rw [hv, List.length_map]) (by omega) (fun j v p h1 h2 => by
    rw [hv, List.getElem?_map, h2] at h1
    injection h1 with h1
    subst h1
    rfl)
  have hR' : (Kd.int .u8).R 5 (w.alloc (.cells vs.toArray 25)) (gw + 1) (fun k => ok k ∧ k ≠ w.heap.size) u xs := Kd.R_alloc (Kd.R_mono (Kd.R_bound hR) (fun k hk => ⟨hk.1, by have := hk.2.2.1; omega⟩)) _
  have hsz : (w.alloc (.cells vs.toArray 25)).heap.size = w.heap.size + 1 := by simp
  refine (wtwo_o (w.alloc (.cells vs.toArray 25)) gw (fun k => ok k ∧ k ≠ w.heap.size) (fun k hk => ⟨hok k (by omega), by omega⟩) (fun h => hgo h.1) xs (some ⟨w.heap.size, 0, none⟩) ns.length ns ⟨u, blk_alloc hg _, hR'⟩ (fun W hO => ?_) hx).mono ?_
  · exact C_blk (hO.block _ (by omega) (fun h => h.elim (fun h => absurd h (by omega)) (fun h => h.2 rfl))) hC
  · rintro e w' ⟨h1, ⟨u', h2, h3⟩, h4⟩
    exact ⟨h1, ⟨u', h2, Kd.R_mono h3 (fun k hk => hk.1)⟩, ((Only.refl _ w).alloc _).trans h4 (fun k _ h => h.elim Or.inl (fun h => Or.inr h.1))⟩
end Go.Proofs.Ytjmadnpicidbeaa.Ch
end
section
namespace Go.Proofs.Ytjmadnpicidbeaa.Ch
open Go.RowKit Go.Proofs.YtjmadnpicidbeaaW.PrintWords Go.Proofs.YtjmadnpicidbeaaW.PrintLast Go.Proofs.Ytjmadnpicidbeaa.Base Go.Proofs.Ytjmadnpicidbeaa.PCh Go.Proofs.Ytjmadnpicidbeaa.ParDec Go.Proofs.Ytjmadnpicidbeaa.ParEnc
set_option maxRecDepth 100000
set_option linter.unusedVariables false
set_option linter.unusedSimpArgs false
def encAT13 : Bool × List (List Nat × List Nat) := (true, [([], []), ([], []), ([1], [1]), ([2], [2]), ([3], [3]), ([], []), ([5], [5]), ([], []), ([7], [7]), ([6, 8], [6, 8]), ([4, 9], [4, 9]), ([0, 0, 1, 2, 3, 4, 5, 6, 7, 8, 9, 10], [0]), ([11, 0, 1, 2, 3, 4, 5, 6, 7, 8, 9, 10], [11]), ([12, 10, 10, 0, 1, 2, 3, 4, 5, 6, 7, 8, 9, 10], [10, 12])])
def encAB13 : List Nat := [0, 0, 2, 6, 14, 0, 32, 0, 128, 480, 1022, 2047, 4095, 8191]
theorem encAtab13 : Go.Proofs.YtjmadnpicidbeaaW.PrintLast.rtab .any (Go.Proofs.YtjmadnpicidbeaaW.PrintLast.opsOf Try.f15 13) = encAT13 := by kernel_rfl
theorem encAbits13 : Go.Proofs.YtjmadnpicidbeaaW.PrintLast.waitsOk encAT13.2 encAB13 = true := by kernel_rfl
def encBT16 : Bool × List (List Nat × List Nat) := (true, [([], []), ([], []), ([1], [1]), ([2], [2]), ([3], [3]), ([], []), ([5], [5]), ([6], [6]), ([], []), ([8], [8]), ([7, 9], [7, 9]), ([4, 10, 7], [4, 10]), ([0, 0, 1, 2, 3, 4, 5, 6, 7, 8, 9, 10, 11], [0]), ([12, 0, 1, 2, 3, 4, 5, 6, 7, 8, 9, 10, 11], [12]), ([13, 11, 11, 0, 1, 2, 3, 4, 5, 6, 7, 8, 9, 10, 11], [11, 13])])
def encBB16 : List Nat := [0, 0, 2, 6, 14, 0, 32, 96, 0, 256, 992, 2046, 4095, 8191, 16383]
theorem encBtab16 : Go.Proofs.YtjmadnpicidbeaaW.PrintLast.rtab .any (Go.Proofs.YtjmadnpicidbeaaW.PrintLast.opsOf Try.f15 16) = encBT16 := by kernel_rfl
theorem encBbits16 : Go.Proofs.YtjmadnpicidbeaaW.PrintLast.waitsOk encBT16.2 encBB16 = true := by kernel_rfl
set_option maxHeartbeats 4000000 in
theorem encode_chunks (w : World) (A : Option Addr) (c : Nat) (l : List Chk) (hl : Kd.C k30 w A l.length l)
    (hck : ∀ x ∈ l, ∀ W L, CR W x L → Calls Try.prog 16 #[.agg (CV x L)] W fun e w' => e = .returned (.int .i64 (checkD x)) ∧ Below W.heap.size W w')
    (hval : ∀ x ∈ l, checkD x = 0 → ∀ W L, (∀ W', Below w.heap.size W W' → CR W' x L) → Calls Try.prog 36 #[.agg (CV x L)] W (ValQ w.heap.size (valueD x) W)) :
    Calls Try.prog 15 #[.slice A l.length c] w fun e w' => ∃ v, e = .returned (.tuple #[v, .int .i64 (encD l).2]) ∧ (Kd.int .u8).R 5 w' w.heap.size (fun _ => True) v (encD l).1 ∧ Below w.heap.size w w' := by
  have HLC := Lib.hid (fun (W : World) (h : Below w.heap.size w W) => Kd.C_below hl h)
  have HCK := Lib.hid hck
  have HVAL := Lib.hid hval
  have HMX := Lib.hid hl.2.1
  obtain ⟨E, hE⟩ : ∃ E, encD l = E := ⟨_, rfl⟩
  rw [hE]
  have HE := Lib.hid hE
  clear hl hck hval hE
  go_enter Try.func15, Try.ntmps15
  have hm := HMX.out
  go_wp2
  go_loopw [13] (fun v13 wr => ∃ (i : Nat), i ≤ l.length ∧ v13 = .int .i64 (i : Int) ∧ Hid (chkAll (l.drop i) = chkAll l) ∧ Hid (Below w.heap.size w wr)) (fun v13 _ => l.length - (intOf v13).toNat)
  case atStart => exact ⟨0, Nat.zero_le _, rfl, rfl, Below.refl _ _⟩
  case round =>
    obtain ⟨i, hi, rfl, HA, HB⟩ := hrel
    by_cases hlt : i < l.length
    · obtain ⟨ad, x, L, rfl, hd, hxm, hcell, hx⟩ := chk_at (HLC.out wr HB.out) i hlt
      have hA := HA.out
      rw [hd, chkAll] at hA
      have HCX := Lib.hid (HCK.out x hxm (wr.alloc (.cells (CV x L) 30)) L (hx.below (below_alloc (Below.refl _ _) _)))
      have HCL := Lib.hid hcell
      have HXS := Lib.hid (show (Try.prog.info? 30).map (·.size) = some (CV x L).size by kernel_rfl)
      have HXZ := Lib.hid (show (#[.int .u8 0, .int .u8 0, .int .u32 0, .int .u16 0, .int .u16 0, .int .u32 0, .int .u32 0, .int .u32 0, .int .u16 0, .int .u16 0, .slice none 0 0, .slice none 0 0, .slice none 0 0, .slice none 0 0, .slice none 0 0] : Array Value).size = (CV x L).size from rfl)
      have HXO := Lib.hid (CV_one x L)
      clear hcell hd hxm
      generalize checkD x = q at *
      generalize CV x L = CX at *
      clear hx HA
      have HA2 := Lib.hid hA
      clear hA
      go_wp2_with (first | (with_reducible refine gate_dst (N := 16) rfl ?_; go_must (refine wpList_load_cells rfl 30 (.tmp 15) rfl rfl CX _ (fun j v hv => HCL.out j v hv) Try.underlying30 rfl HXS.out ?_)) | (with_reducible refine gate_dst (N := 5) rfl ?_; go_must (refine wpList_box rfl rfl 5 rfl rfl (.tmp 16) rfl CX rfl rfl HXZ.out HXS.out HXO.out ?_)) | (with_reducible refine gate_dst (N := 17) rfl ?_; go_must (refine wpList_load_cells rfl 30 (.tmp 5) rfl rfl CX _ (cells_of_blk (blk_new wr (.cells CX 30))) Try.underlying30 rfl HXS.out ?_)))
      refine HCX.out.mono ?_
      rintro e w1 ⟨rfl, hB1⟩
      have HB2 := Lib.hid (below_then HB.out (by have := HB.out.size; exact this) (below_then (below_alloc (Below.refl wr.heap.size wr) (.cells CX 30)) (by simp) hB1))
      clear hB1 HB HCL
      by_cases hq : q = 0
      · subst hq
        have hA := HA2.out
        rw [if_pos rfl] at hA
        have HA := Lib.hid hA
        clear hA HA2
        go_wp2
        go_roundw
        case rel => exact ⟨i + 1, by omega, by go_num, HA, HB2⟩
        case measure => simp [intOf]; omega
      · have hA := HA2.out
        rw [if_neg hq] at hA
        have HA := Lib.hid hA
        clear hA HA2
        go_wp2
        go_ret2
        have hE : encD l = ([], q) := by unfold encD; rw [← HA.out, if_neg hq]
        rw [← HE.out, hE]
        exact ⟨_, rfl, Kd.R_nil _ _ _ _ _, HB2.out⟩
    · obtain rfl : i = l.length := by omega
      have hA := HA.out
      rw [List.drop_length, chkAll] at hA
      have HAL := Lib.hid hA.symm
      have HRE := Lib.hid (show runE [] l = E by have := HE.out; unfold encD at this; rw [if_pos hA.symm] at this; exact this)
      clear hA HA HCK HE
      go_wp2
      have HW0 := Lib.hid (show WS (wr.alloc (.cells #[.slice none 0 0] 66)) wr.heap.size [] from ⟨_, blk_new _ _, Kd.R_nil _ _ _ _ _⟩)
      have HBW := Lib.hid (below_alloc HB.out (.cells #[.slice none 0 0] 66))
      have HGW := Lib.hid (show w.heap.size ≤ wr.heap.size from HB.out.size)
      clear HB
      generalize wr.alloc (.cells #[.slice none 0 0] 66) = W0 at *
      generalize wr.heap.size = gw at *
      go_loopw [27] (fun v27 wr => ∃ (i : Nat) (acc : List Int), i ≤ l.length ∧ v27 = .int .i64 (i : Int) ∧ Hid (runE acc (l.drop i) = E) ∧ Hid (acc.length ≤ 65536) ∧ Hid (WS wr gw acc) ∧ Hid (Below w.heap.size w wr)) (fun v27 _ => l.length - (intOf v27).toNat)
      case atStart => exact ⟨0, [], Nat.zero_le _, rfl, HRE.out, (by show _ ≤ _; simp), HW0.out, HBW.out⟩
      case round =>
        obtain ⟨i, acc, hi, rfl, HA, HLA, HW, HB⟩ := hrel
        by_cases hlt : i < l.length
        · obtain ⟨ad, x, L, rfl, hd, hxm, hcell, hx⟩ := chk_at (HLC.out w (Below.refl _ _)) i hlt
          have hA := HA.out
          rw [hd, runE, chunkL] at hA
          have hc0 := chkAll_mem HAL.out hxm
          have hvl := checkD_len hc0
          have HCL := Lib.hid (fun j v hv => pw_cell_below HB.out (hcell j v hv))
          have HV := Lib.hid (HVAL.out x hxm hc0 (wr.alloc (.cells (CV x L) 30)) L (fun W' h => hx.below ((below_alloc HB.out _).trans h)))
          have HXS := Lib.hid (show (Try.prog.info? 30).map (·.size) = some (CV x L).size by kernel_rfl)
          have HXZ := Lib.hid (show (#[.int .u8 0, .int .u8 0, .int .u32 0, .int .u16 0, .int .u16 0, .int .u32 0, .int .u32 0, .int .u32 0, .int .u16 0, .int .u16 0, .slice none 0 0, .slice none 0 0, .slice none 0 0, .slice none 0 0, .slice none 0 0] : Array Value).size = (CV x L).size from rfl)
          have HXO := Lib.hid (CV_one x L)
          have HY0 := Lib.hid (show (CV x L)[0]? = some (.int .u8 x.f0) from rfl)
          have HY1 := Lib.hid (show (CV x L)[1]? = some (.int .u8 x.f1) from rfl)
          clear hcell hd hxm hx hc0 HA HAL HRE HW0 HBW HLC HVAL
          generalize CV x L = CX at *
          generalize valueD x = v at *
          generalize x.f0 = a0 at *
          generalize x.f1 = a1 at *
          obtain ⟨pad, hpad⟩ : ∃ m : Nat, (v.length + 3) / 4 * 4 - v.length = m := ⟨_, rfl⟩
          unfold padL at hA
          rw [hpad] at hA
          simp only [← List.append_assoc] at hA
          have HPL := Lib.hid (show pad ≤ 3 by omega)
          have HSUB := Lib.hid (show wrap64 ((((v.length + 3) / 4 * 4 : Nat) : Int) - (v.length : Int)) = ((pad : Nat) : Int) by unfold wrap64; omega)
          have HPD := Lib.hid (fun W : World => padded_calls v.length (by omega) W)
          have HVL := Lib.hid hvl
          have HA2 := Lib.hid hA
          clear hA hpad hvl
          obtain ⟨n, hn⟩ : ∃ n, v.length = n := ⟨_, rfl⟩
          rw [hn] at HSUB HPD HVL HA2
          have HNV := Lib.hid hn
          clear hn
          generalize hpn : (n + 3) / 4 * 4 = pn at *
          clear hpn
          go_wp2_with (first | (with_reducible refine gate_dst (N := 30) rfl ?_; go_must (refine wpList_load_cells rfl 30 (.tmp 29) rfl rfl CX _ (fun j v hv => HCL.out j v hv) Try.underlying30 rfl HXS.out ?_)) | (with_reducible refine gate_dst (N := 9) rfl ?_; go_must (refine wpList_box rfl rfl 9 rfl rfl (.tmp 30) rfl CX rfl rfl HXZ.out HXS.out HXO.out ?_)) | (with_reducible refine gate_dst (N := 31) rfl ?_; go_must (refine wpList_load_cells rfl 30 (.tmp 9) rfl rfl CX _ (cells_of_blk (blk_new wr (.cells CX 30))) Try.underlying30 rfl HXS.out ?_)))
          refine HV.out.mono ?_
          rintro e W ⟨Av, cv, rfl, hvc, hVC, hB1⟩
          obtain ⟨u, hg, hR⟩ := HW.out
          obtain ⟨Au, cu, rfl⟩ := Kd.R_slice hR
          have hgx := blk_lt hg
          have hsz : (wr.alloc (.cells CX 30)).heap.size = wr.heap.size + 1 := by simp
          have hWz := hB1.size
          rw [hsz] at hWz
          obtain ⟨okW, hokW⟩ : ∃ f : Nat → Prop, ∀ k, f k ↔ (gw < k ∧ (k < wr.heap.size ∨ W.heap.size ≤ k)) := ⟨fun k => gw < k ∧ (k < wr.heap.size ∨ W.heap.size ≤ k), fun k => Iff.rfl⟩
          have HC := Lib.hid (blk_below (blk_alloc hg (.cells CX 30)) hB1)
          have HR := Lib.hid (show (Kd.int .u8).R 5 W (gw + 1) okW (.slice Au acc.length cu) acc from R_only (Kd.R_alloc (Kd.R_mono (Kd.R_bound hR) (fun k hk => (hokW k).2 ⟨by have := hk.2.1; omega, Or.inl hk.2.2.1⟩)) _) (Only.of_below (S := fun _ => False) hB1) (fun _ _ _ h => h))
          have HXB := Lib.hid (blk_below (blk_new wr (.cells CX 30)) hB1)
          have HNX := Lib.hid (show ¬ (wr.heap.size = gw ∨ okW wr.heap.size) from fun h => h.elim (fun h => by omega) (fun h => by have := (hokW _).1 h; omega))
          have HOK := Lib.hid (show ∀ k, W.heap.size ≤ k → okW k from fun k hk => (hokW k).2 ⟨by omega, Or.inr hk⟩)
          have HGO := Lib.hid (show ¬ okW gw from fun h => by have := (hokW _).1 h; omega)
          have HVC := Lib.hid (show ∀ W', Only (fun k => k = gw ∨ okW k) W W' → (Kd.int .u8).C W' Av n v from fun W' hO => by
            rw [← HNV.out]
            exact hVC W' (hO.mono (fun k hk h => by
              rw [hsz]
              have := HGW.out
              rcases h with rfl | h
              · omega
              · have h2 := (hokW k).1 h
                omega)))
          have HBW := Lib.hid ((below_alloc HB.out (.cells CX 30)).trans (hB1.mono (by have := HB.out.size; omega)))
          have HBO := Lib.hid (show ∀ k, (k = gw ∨ okW k) → w.heap.size ≤ k from fun k h => by
            have := HGW.out
            rcases h with rfl | h
            · omega
            · have h2 := (hokW k).1 h
              omega)
          have HXL := Lib.hid (show acc.length ≤ 65536 from HLA.out)
          rw [HNV.out]
          clear hokW hVC hB1 hWz hsz hgx hg hR HW HB HV HCL HLA hvc HXS HXZ HXO
          generalize wr.heap.size = gx at *
          generalize acc = xs at *
          clear wr
          go_upto_region 13 with (fail)
          have B := True.intro
          have C := True.intro
          have R := True.intro
          have D := True.intro
          refine start_ (n := 14) (S := fun w' => True) (ds := []) #[false, false, false, false, false, false, false, false, false, false, false, false, false, false] (by kernel_rfl) rfl rfl trivial (fun hHeld => ?_)
          refine with_tabW encAtab13 encAbits13 (fun HT_ HW_ => ?_)
          refine pure_ (i := 0) (N := some 33) (v := ?_) (a' := ?_) #[true, false, false, false, false, false, false, false, false, false, false, false, false, false] rfl rfl (any_of HT_.out (by kernel_rfl)) (fun _ _ _ h => h) (Or.inl ⟨by rfl, ?_⟩) ?_ ?_
          rotate_left
          · intro w'
            go_simp
            with_reducible rfl
          rotate_left
          · simp only [Act.put, List.setIfInBounds_toArray, List.set_cons_zero, List.set_cons_succ, i64_w, i32_w]
            rfl
          refine pure_ (i := 1) (N := some 34) (v := ?_) (a' := ?_) #[true, true, false, false, false, false, false, false, false, false, false, false, false, false] rfl rfl (any_of HT_.out (by kernel_rfl)) (fun _ _ _ h => h) (Or.inl ⟨by rfl, ?_⟩) ?_ ?_
          rotate_left
          · intro w'
            go_simp
            with_reducible rfl
          rotate_left
          · simp only [Act.put, List.setIfInBounds_toArray, List.set_cons_zero, List.set_cons_succ, i64_w, i32_w]
            rfl
          refine inv_at [2, 3, 4, 5, 6, 7, 8, 9, 10, 11, 12, 13] (fun a0_ b a w' => ∃ (g9 : Nat) (v9 : Value) (m9_ : Value), a = putSel a0_ b [(2, 35, .pointer (some ⟨gw, 0, none⟩)), (3, 36, .pointer (some ⟨gw, 0, none⟩)), (4, 37, .slice Au xs.length cu), (5, 38, .pointer (some ⟨gx, 0, none⟩)), (6, 39, .int .u8 a0), (7, 40, .pointer (some ⟨gx, 1, none⟩)), (8, 41, .int .u8 a1), (9, 42, m9_), (10, 43, v9), (11, 44, .pointer (some ⟨gw, 0, none⟩)), (12, 45, .pointer (some ⟨gw, 0, none⟩))] ∧ (b 10 = false → Only (fun k => k = gw ∨ okW k) W w') ∧ (b 10 = false → w'.heap[gw]? = some (.cells #[.slice Au xs.length cu] 66 (0, 0))) ∧ (b 10 = false → (Kd.int .u8).R 5 w' (gw + 1) okW (.slice Au xs.length cu) (xs)) ∧ (b 9 = true → b 10 = false → (Kd.int .u8).C w' (some ⟨g9, 0, none⟩) 2 [a0, a1]) ∧ (b 10 = true → b 13 = false → (Kd.int .u8).R 5 w' (gw + 1) okW (v9) (xs ++ [a0, a1]) ∧ w'.heap[gw]? = some (.cells #[.slice Au xs.length cu] 66 (0, 0)) ∧ Only (fun k => k = gw ∨ okW k) W w') ∧ (b 13 = true → ∃ u, w'.heap[gw]? = some (.cells #[u] 66 (0, 0)) ∧ (Kd.int .u8).R 5 w' (gw + 1) okW (u) (xs ++ [a0, a1]) ∧ Only (fun k => k = gw ∨ okW k) W w') ∧ (b 9 = true → (m9_ : Value) = .slice (some ⟨g9, 0, none⟩) 2 2)) HT_.out HW_.out (by kernel_rfl) (by kernel_rfl) ?_ ?_ ?_
          · exact ⟨0, .bool false, .bool false, by simp only [putSel, Bool.false_eq_true, if_false], fun _ => (Only.refl _ _).drewN 1, fun _ => HC.out, fun _ => HR.out, fun h_ => absurd h_ (by decide), fun h_ => absurd h_ (by decide), fun h_ => absurd h_ (by decide), fun h_ => absurd h_ (by decide)⟩
          · skip
            clear B C R
            refine steps_cons ?_ ?_
            · rintro b a w' ⟨g9, v9, m9_, ha, Q_B, Q_C, Q_R, Q_D, Q_S1, Q_S2, Q_X9_⟩ hb_ hon hoff
              refine ⟨_, rfl, fun K hK => ?_⟩
              have e34 : a.tmps[34]? = some (.pointer (some ⟨gw, 0, none⟩)) := by rw [ha]; exact (putSel_off rfl).trans rfl
              replace ha := Aside0.mk ha
              have B := Aside0.mk (Q_B (hoff 10 (by kernel_rfl)))
              have C := Aside0.mk (Q_C (hoff 10 (by kernel_rfl)))
              have R := Aside0.mk (Q_R (hoff 10 (by kernel_rfl)))
              refine value_ (w1 := w') (v := .pointer (some ⟨gw, 0, none⟩)) (by rfl) rfl ?_ ?_
              · go_simp
                (try simp only [i64_w])
                try rfl
              refine hK.out _ _ ⟨g9, v9, m9_, (by rw [ha.out]; exact putSel_upk 0 hb_ rfl rfl rfl), Q_B, Q_C, Q_R, Q_D, fun h0_ _ => absurd ((hoff 10 (by kernel_rfl)).symm.trans h0_) (by decide), fun h0_ => absurd ((hoff 13 (by kernel_rfl)).symm.trans h0_) (by decide), Q_X9_⟩
            refine steps_cons ?_ ?_
            · rintro b a w' ⟨g9, v9, m9_, ha, Q_B, Q_C, Q_R, Q_D, Q_S1, Q_S2, Q_X9_⟩ hb_ hon hoff
              refine ⟨_, rfl, fun K hK => ?_⟩
              have e35 : a.tmps[35]? = some (.pointer (some ⟨gw, 0, none⟩)) := by rw [ha]; exact putSel_on (e := (2, 35, .pointer (some ⟨gw, 0, none⟩))) 0 rfl rfl (hon 2 (by kernel_rfl)) rfl
              replace ha := Aside0.mk ha
              have B := Aside0.mk (Q_B (hoff 10 (by kernel_rfl)))
              have C := Aside0.mk (Q_C (hoff 10 (by kernel_rfl)))
              have R := Aside0.mk (Q_R (hoff 10 (by kernel_rfl)))
              refine value_ (w1 := w') (v := .pointer (some ⟨gw, 0, none⟩)) (by rfl) rfl ?_ ?_
              · go_simp
                (try simp only [i64_w])
                try rfl
              refine hK.out _ _ ⟨g9, v9, m9_, (by rw [ha.out]; exact putSel_upk 1 hb_ rfl rfl rfl), Q_B, Q_C, Q_R, Q_D, fun h0_ _ => absurd ((hoff 10 (by kernel_rfl)).symm.trans h0_) (by decide), fun h0_ => absurd ((hoff 13 (by kernel_rfl)).symm.trans h0_) (by decide), Q_X9_⟩
            refine steps_cons ?_ ?_
            · rintro b a w' ⟨g9, v9, m9_, ha, Q_B, Q_C, Q_R, Q_D, Q_S1, Q_S2, Q_X9_⟩ hb_ hon hoff
              refine ⟨_, rfl, fun K hK => ?_⟩
              have e36 : a.tmps[36]? = some (.pointer (some ⟨gw, 0, none⟩)) := by rw [ha]; exact putSel_on (e := (3, 36, .pointer (some ⟨gw, 0, none⟩))) 1 rfl rfl (hon 3 (by kernel_rfl)) rfl
              replace ha := Aside0.mk ha
              have B := Aside0.mk (Q_B (hoff 10 (by kernel_rfl)))
              have C := Aside0.mk (Q_C (hoff 10 (by kernel_rfl)))
              have R := Aside0.mk (Q_R (hoff 10 (by kernel_rfl)))
              have hs := blk_cell C.out 0
              refine value_ (w1 := w') (v := .slice Au xs.length cu) (by rfl) rfl ?_ ?_
              · go_simp
                (try simp only [i64_w])
                try rfl
              refine hK.out _ _ ⟨g9, v9, m9_, (by rw [ha.out]; exact putSel_upk 2 hb_ rfl rfl rfl), Q_B, Q_C, Q_R, Q_D, fun h0_ _ => absurd ((hoff 10 (by kernel_rfl)).symm.trans h0_) (by decide), fun h0_ => absurd ((hoff 13 (by kernel_rfl)).symm.trans h0_) (by decide), Q_X9_⟩
            refine steps_cons ?_ ?_
            · rintro b a w' ⟨g9, v9, m9_, ha, Q_B, Q_C, Q_R, Q_D, Q_S1, Q_S2, Q_X9_⟩ hb_ hon hoff
              refine ⟨_, rfl, fun K hK => ?_⟩
              have e9 : a.tmps[9]? = some (.pointer (some ⟨gx, 0, none⟩)) := by rw [ha]; exact (putSel_off rfl).trans rfl
              replace ha := Aside0.mk ha
              have B := Aside0.mk (Q_B (hoff 10 (by kernel_rfl)))
              have C := Aside0.mk (Q_C (hoff 10 (by kernel_rfl)))
              have R := Aside0.mk (Q_R (hoff 10 (by kernel_rfl)))
              refine value_ (w1 := w') (v := .pointer (some ⟨gx, 0, none⟩)) (by rfl) rfl ?_ ?_
              · go_simp
                (try simp only [i64_w])
                try rfl
              refine hK.out _ _ ⟨g9, v9, m9_, (by rw [ha.out]; exact putSel_upk 3 hb_ rfl rfl rfl), Q_B, Q_C, Q_R, fun h0_ _ => absurd ((hoff 9 (by kernel_rfl)).symm.trans h0_) (by decide), fun h0_ _ => absurd ((hoff 10 (by kernel_rfl)).symm.trans h0_) (by decide), fun h0_ => absurd ((hoff 13 (by kernel_rfl)).symm.trans h0_) (by decide), fun h0_ => absurd ((hoff 9 (by kernel_rfl)).symm.trans h0_) (by decide)⟩
            refine steps_cons ?_ ?_
            · rintro b a w' ⟨g9, v9, m9_, ha, Q_B, Q_C, Q_R, Q_D, Q_S1, Q_S2, Q_X9_⟩ hb_ hon hoff
              refine ⟨_, rfl, fun K hK => ?_⟩
              have e38 : a.tmps[38]? = some (.pointer (some ⟨gx, 0, none⟩)) := by rw [ha]; exact putSel_on (e := (5, 38, .pointer (some ⟨gx, 0, none⟩))) 3 rfl rfl (hon 5 (by kernel_rfl)) rfl
              replace ha := Aside0.mk ha
              have B := Aside0.mk (Q_B (hoff 10 (by kernel_rfl)))
              have C := Aside0.mk (Q_C (hoff 10 (by kernel_rfl)))
              have R := Aside0.mk (Q_R (hoff 10 (by kernel_rfl)))
              have hs : w'.cell? ⟨gx, 0, none⟩ = some (.int .u8 a0) := (blk_cell (B.out.blk HXB.out HNX.out) 0).trans HY0.out
              refine value_ (w1 := w') (v := .int .u8 a0) (by rfl) rfl ?_ ?_
              · go_simp
                (try simp only [i64_w])
                try rfl
              refine hK.out _ _ ⟨g9, v9, m9_, (by rw [ha.out]; exact putSel_upk 4 hb_ rfl rfl rfl), Q_B, Q_C, Q_R, fun h0_ _ => absurd ((hoff 9 (by kernel_rfl)).symm.trans h0_) (by decide), fun h0_ _ => absurd ((hoff 10 (by kernel_rfl)).symm.trans h0_) (by decide), fun h0_ => absurd ((hoff 13 (by kernel_rfl)).symm.trans h0_) (by decide), fun h0_ => absurd ((hoff 9 (by kernel_rfl)).symm.trans h0_) (by decide)⟩
            refine steps_cons ?_ ?_
            · rintro b a w' ⟨g9, v9, m9_, ha, Q_B, Q_C, Q_R, Q_D, Q_S1, Q_S2, Q_X9_⟩ hb_ hon hoff
              refine ⟨_, rfl, fun K hK => ?_⟩
              have e9 : a.tmps[9]? = some (.pointer (some ⟨gx, 0, none⟩)) := by rw [ha]; exact (putSel_off rfl).trans rfl
              replace ha := Aside0.mk ha
              have B := Aside0.mk (Q_B (hoff 10 (by kernel_rfl)))
              have C := Aside0.mk (Q_C (hoff 10 (by kernel_rfl)))
              have R := Aside0.mk (Q_R (hoff 10 (by kernel_rfl)))
              refine value_ (w1 := w') (v := .pointer (some ⟨gx, 1, none⟩)) (by rfl) rfl ?_ ?_
              · go_simp
                (try simp only [i64_w])
                try rfl
              refine hK.out _ _ ⟨g9, v9, m9_, (by rw [ha.out]; exact putSel_upk 5 hb_ rfl rfl rfl), Q_B, Q_C, Q_R, fun h0_ _ => absurd ((hoff 9 (by kernel_rfl)).symm.trans h0_) (by decide), fun h0_ _ => absurd ((hoff 10 (by kernel_rfl)).symm.trans h0_) (by decide), fun h0_ => absurd ((hoff 13 (by kernel_rfl)).symm.trans h0_) (by decide), fun h0_ => absurd ((hoff 9 (by kernel_rfl)).symm.trans h0_) (by decide)⟩
            refine steps_cons ?_ ?_
            · rintro b a w' ⟨g9, v9, m9_, ha, Q_B, Q_C, Q_R, Q_D, Q_S1, Q_S2, Q_X9_⟩ hb_ hon hoff
              refine ⟨_, rfl, fun K hK => ?_⟩
              have e40 : a.tmps[40]? = some (.pointer (some ⟨gx, 1, none⟩)) := by rw [ha]; exact putSel_on (e := (7, 40, .pointer (some ⟨gx, 1, none⟩))) 5 rfl rfl (hon 7 (by kernel_rfl)) rfl
              replace ha := Aside0.mk ha
              have B := Aside0.mk (Q_B (hoff 10 (by kernel_rfl)))
              have C := Aside0.mk (Q_C (hoff 10 (by kernel_rfl)))
              have R := Aside0.mk (Q_R (hoff 10 (by kernel_rfl)))
              have hs : w'.cell? ⟨gx, 1, none⟩ = some (.int .u8 a1) := (blk_cell (B.out.blk HXB.out HNX.out) 1).trans HY1.out
              refine value_ (w1 := w') (v := .int .u8 a1) (by rfl) rfl ?_ ?_
              · go_simp
                (try simp only [i64_w])
                try rfl
              refine hK.out _ _ ⟨g9, v9, m9_, (by rw [ha.out]; exact putSel_upk 6 hb_ rfl rfl rfl), Q_B, Q_C, Q_R, fun h0_ _ => absurd ((hoff 9 (by kernel_rfl)).symm.trans h0_) (by decide), fun h0_ _ => absurd ((hoff 10 (by kernel_rfl)).symm.trans h0_) (by decide), fun h0_ => absurd ((hoff 13 (by kernel_rfl)).symm.trans h0_) (by decide), fun h0_ => absurd ((hoff 9 (by kernel_rfl)).symm.trans h0_) (by decide)⟩
            refine steps_cons ?_ ?_
            · rintro b a w' ⟨g9, v9, m9_, ha, Q_B, Q_C, Q_R, Q_D, Q_S1, Q_S2, Q_X9_⟩ hb_ hon hoff
              refine ⟨_, rfl, fun K hK => ?_⟩
              have e39 : a.tmps[39]? = some (.int .u8 a0) := by rw [ha]; exact putSel_on (e := (6, 39, .int .u8 a0)) 4 rfl rfl (hon 6 (by kernel_rfl)) rfl
              have e41 : a.tmps[41]? = some (.int .u8 a1) := by rw [ha]; exact putSel_on (e := (8, 41, .int .u8 a1)) 6 rfl rfl (hon 8 (by kernel_rfl)) rfl
              replace ha := Aside0.mk ha
              have B := Aside0.mk (Q_B (hoff 10 (by kernel_rfl)))
              have C := Aside0.mk (Q_C (hoff 10 (by kernel_rfl)))
              have R := Aside0.mk (Q_R (hoff 10 (by kernel_rfl)))
              refine value_ (w1 := w'.alloc (.cells #[.int .u8 a0, .int .u8 a1] 5)) (v := .slice (some ⟨w'.heap.size, 0, none⟩) 2 2) (by rfl) rfl (by go_simp; try rfl) ?_
              refine hK.out _ _ ⟨w'.heap.size, v9, (.slice (some ⟨w'.heap.size, 0, none⟩) 2 2), (by rw [ha.out]; exact putSel_upk 7 hb_ rfl rfl rfl), fun _ => B.out.alloc _, fun _ => blk_alloc C.out _, fun _ => Kd.R_alloc R.out _, fun _ _ => (by have := blk_lt C.out; exact row_lit (Kd.int .u8) rfl w' 5 [.int .u8 a0, .int .u8 a1] [a0, a1] rfl (by simp) (fun j v p hv hp => by rcases j with _ | _ | j <;> simp at hv hp <;> (subst hv; subst hp; rfl))), fun h0_ _ => absurd ((hoff 10 (by kernel_rfl)).symm.trans h0_) (by decide), fun h0_ => absurd ((hoff 13 (by kernel_rfl)).symm.trans h0_) (by decide), fun _ => rfl⟩
            refine steps_cons ?_ ?_
            · rintro b a w' ⟨g9, v9, m9_, ha, Q_B, Q_C, Q_R, Q_D, Q_S1, Q_S2, Q_X9_⟩ hb_ hon hoff
              refine ⟨_, rfl, fun K hK => ?_⟩
              have e37 : a.tmps[37]? = some (.slice Au xs.length cu) := by rw [ha]; exact putSel_on (e := (4, 37, .slice Au xs.length cu)) 2 rfl rfl (hon 4 (by kernel_rfl)) rfl
              have e42 : a.tmps[42]? = some (m9_) := by rw [ha]; exact putSel_on (e := (9, 42, m9_)) 7 rfl rfl (hon 9 (by kernel_rfl)) rfl
              rw [Q_X9_ (hon 9 (by kernel_rfl))] at e42
              replace ha := Aside0.mk ha
              have B := Aside0.mk (Q_B hb_)
              have C := Aside0.mk (Q_C hb_)
              have R := Aside0.mk (Q_R hb_)
              have D := Aside0.mk (Q_D (hon 9 (by kernel_rfl)) hb_)
              refine Kd.R_append_rows_step (Kd.int .u8) (Rr := (Kd.int .u8).K w') (w0 := w') (W := w') (gw + 1) (by rfl) _ _ 22 5 _ 1 rfl Try.underlying22 info_u8 rfl (by decide) (by decide) (.slice Au xs.length cu) xs [a0, a1] (some ⟨g9, 0, none⟩) 2 2 okW (fun _ => False) (by simp [Act.eval, Array.getD_eq_getD_getElem?, e37]) (by simp [Act.eval, Array.getD_eq_getD_getElem?, e42]) R.out (D.out) (fun _ _ h => h) (fun _ h => h.elim) (fun k hk => HOK.out k (by have := B.out.size; omega)) (Below.refl _ _) (by have := blk_lt C.out; omega) (by have := HXL.out; simp; omega) ?_
              intro v1 w1 hR1 hB1 hG1 _
              refine hK.out _ _ ⟨g9, v1, m9_, (by rw [ha.out]; exact putSel_upk 8 hb_ rfl rfl rfl), fun h0_ => absurd ((up_self b 10).symm.trans h0_) (by decide), fun h0_ => absurd ((up_self b 10).symm.trans h0_) (by decide), fun h0_ => absurd ((up_self b 10).symm.trans h0_) (by decide), fun _ h1_ => absurd ((up_self b 10).symm.trans h1_) (by decide), fun _ _ => ⟨hR1, blk_grown C.out hG1 (fun e => HGO.out (R.out.1 _ e.symm)), B.out.grown hG1 (fun k _ e => Or.inr (R.out.1 k e))⟩, fun h0_ => absurd ((hoff 13 (by kernel_rfl)).symm.trans h0_) (by decide), Q_X9_⟩
            refine steps_cons ?_ ?_
            · rintro b a w' ⟨g9, v9, m9_, ha, Q_B, Q_C, Q_R, Q_D, Q_S1, Q_S2, Q_X9_⟩ hb_ hon hoff
              refine ⟨_, rfl, fun K hK => ?_⟩
              have e33 : a.tmps[33]? = some (.pointer (some ⟨gw, 0, none⟩)) := by rw [ha]; exact (putSel_off rfl).trans rfl
              replace ha := Aside0.mk ha
              have S1 := Aside0.mk (Q_S1 (hon 10 (by kernel_rfl)) (hoff 13 (by kernel_rfl)))
              refine value_ (w1 := w') (v := .pointer (some ⟨gw, 0, none⟩)) (by rfl) rfl ?_ ?_
              · go_simp
                (try simp only [i64_w])
                try rfl
              refine hK.out _ _ ⟨g9, v9, m9_, (by rw [ha.out]; exact putSel_upk 9 hb_ rfl rfl rfl), fun h0_ => absurd ((hon 10 (by kernel_rfl)).symm.trans h0_) (by decide), fun h0_ => absurd ((hon 10 (by kernel_rfl)).symm.trans h0_) (by decide), fun h0_ => absurd ((hon 10 (by kernel_rfl)).symm.trans h0_) (by decide), fun _ h1_ => absurd ((hon 10 (by kernel_rfl)).symm.trans h1_) (by decide), Q_S1, fun h0_ => absurd ((hoff 13 (by kernel_rfl)).symm.trans h0_) (by decide), Q_X9_⟩
            refine steps_cons ?_ ?_
            · rintro b a w' ⟨g9, v9, m9_, ha, Q_B, Q_C, Q_R, Q_D, Q_S1, Q_S2, Q_X9_⟩ hb_ hon hoff
              refine ⟨_, rfl, fun K hK => ?_⟩
              have e44 : a.tmps[44]? = some (.pointer (some ⟨gw, 0, none⟩)) := by rw [ha]; exact putSel_on (e := (11, 44, .pointer (some ⟨gw, 0, none⟩))) 9 rfl rfl (hon 11 (by kernel_rfl)) rfl
              replace ha := Aside0.mk ha
              have S1 := Aside0.mk (Q_S1 (hon 10 (by kernel_rfl)) (hoff 13 (by kernel_rfl)))
              refine value_ (w1 := w') (v := .pointer (some ⟨gw, 0, none⟩)) (by rfl) rfl ?_ ?_
              · go_simp
                (try simp only [i64_w])
                try rfl
              refine hK.out _ _ ⟨g9, v9, m9_, (by rw [ha.out]; exact putSel_upk 10 hb_ rfl rfl rfl), fun h0_ => absurd ((hon 10 (by kernel_rfl)).symm.trans h0_) (by decide), fun h0_ => absurd ((hon 10 (by kernel_rfl)).symm.trans h0_) (by decide), fun h0_ => absurd ((hon 10 (by kernel_rfl)).symm.trans h0_) (by decide), fun _ h1_ => absurd ((hon 10 (by kernel_rfl)).symm.trans h1_) (by decide), Q_S1, fun h0_ => absurd ((hoff 13 (by kernel_rfl)).symm.trans h0_) (by decide), Q_X9_⟩
            refine steps_cons ?_ ?_
            · rintro b a w' ⟨g9, v9, m9_, ha, Q_B, Q_C, Q_R, Q_D, Q_S1, Q_S2, Q_X9_⟩ hb_ hon hoff
              refine ⟨_, rfl, fun K hK => ?_⟩
              have e45 : a.tmps[45]? = some (.pointer (some ⟨gw, 0, none⟩)) := by rw [ha]; exact putSel_on (e := (12, 45, .pointer (some ⟨gw, 0, none⟩))) 10 rfl rfl (hon 12 (by kernel_rfl)) rfl
              have e43 : a.tmps[43]? = some (v9) := by rw [ha]; exact putSel_on (e := (10, 43, v9)) 8 rfl rfl (hon 10 (by kernel_rfl)) rfl
              replace ha := Aside0.mk ha
              have S1 := Aside0.mk (Q_S1 (hon 10 (by kernel_rfl)) hb_)
              obtain ⟨hR1, hC1, hF1⟩ := S1.out
              obtain ⟨A8, c8, hv9⟩ := Kd.R_slice hR1
              have hs := blk_cell hC1 0
              have hf := blk_frozen hC1 0
              refine skip_ (w1 := w'.setCell ⟨gw, 0, none⟩ v9) (by rfl) rfl (by generalize (xs ++ [a0, a1]).length = zl at hv9; rw [hv9] at e43 ⊢; go_simp; try rfl) ?_
              refine hK.out _ _ ⟨g9, v9, m9_, (by rw [ha.out]; exact putSel_none (v := undef) rfl), fun h0_ => absurd ((hon 10 (by kernel_rfl)).symm.trans h0_) (by decide), fun h0_ => absurd ((hon 10 (by kernel_rfl)).symm.trans h0_) (by decide), fun h0_ => absurd ((hon 10 (by kernel_rfl)).symm.trans h0_) (by decide), fun _ h1_ => absurd ((hon 10 (by kernel_rfl)).symm.trans h1_) (by decide), fun _ h1_ => absurd ((up_self b 13).symm.trans h1_) (by decide), fun _ => ⟨v9, blk_put hC1 0 v9 rfl, Kd.R_far hR1 (p := ⟨gw, 0, none⟩) (fun k hk (e : k = gw) => HGO.out (e ▸ hk)) v9, hF1.setCell (fun _ => Or.inl rfl) v9⟩, Q_X9_⟩
            exact steps_nil
          rintro b a w' hall ⟨g9, v9, m9_, ha, Q_B, Q_C, Q_R, Q_D, Q_S1, Q_S2, Q_X9_⟩
          clear B C R
          have hb2_ := hall 2 (by kernel_rfl)
          have hb3_ := hall 3 (by kernel_rfl)
          have hb4_ := hall 4 (by kernel_rfl)
          have hb5_ := hall 5 (by kernel_rfl)
          have hb6_ := hall 6 (by kernel_rfl)
          have hb7_ := hall 7 (by kernel_rfl)
          have hb8_ := hall 8 (by kernel_rfl)
          have hb9_ := hall 9 (by kernel_rfl)
          have hb10_ := hall 10 (by kernel_rfl)
          have hb11_ := hall 11 (by kernel_rfl)
          have hb12_ := hall 12 (by kernel_rfl)
          have hb13_ := hall 13 (by kernel_rfl)
          subst ha
          obtain rfl := Q_X9_ hb9_
          simp only [putSel, hb2_, hb3_, hb4_, hb5_, hb6_, hb7_, hb8_, hb9_, hb10_, hb11_, hb12_, hb13_, if_true, Act.put, List.setIfInBounds_toArray, List.set_cons_zero, List.set_cons_succ]
          clear Q_B
          clear Q_C
          clear Q_R
          clear Q_D
          clear Q_S1
          have S2 := Aside0.mk (Q_S2 hb13_)
          clear Q_S2
          clear hall hb2_ hb3_ hb4_ hb5_ hb6_ hb7_ hb8_ hb9_ hb10_ hb11_ hb12_ hb13_
          obtain ⟨u, hg, hR, hF⟩ := S2.out
          clear S2 HC HR HY0 HY1 HXB HNX
          have HS := Lib.hid (show WSo okW w' gw (xs ++ [a0, a1]) from ⟨u, hg, hR⟩)
          have HF := Lib.hid hF
          clear hg hR hF
          clear u
          obtain ⟨q, hq⟩ : ∃ q, IntKind.u16.wrap (4 + (n : Int)) = q := ⟨_, rfl⟩
          have HQ := Lib.hid (show IntKind.u16.wrap (wrap64 (4 + (n : Int))) = q by rw [show wrap64 (4 + (n : Int)) = 4 + (n : Int) by unfold wrap64; have := HVL.out; omega, hq])
          rw [hq] at HA2
          clear hq
          have HXL3 := Lib.hid (show (xs ++ [a0, a1]).length + 2 * [q].length ≤ 140737488355328 by have := HXL.out; simp only [List.length_append, List.length_cons, List.length_nil]; omega)
          go_wp2_with fail
          rw [HQ.out]
          refine (wtwo_lit_o w' gw okW (fun k hk => HOK.out k (Nat.le_trans HF.out.size hk)) HGO.out (xs ++ [a0, a1]) [q] [.int .u16 q] 1 rfl rfl HS.out HXL3.out).mono ?_
          rintro e w4 ⟨rfl, hS4, hO4⟩
          have HF4 := Lib.hid (HF.out.trans hO4 (fun k _ h => h))
          have hxl : (xs ++ [a0, a1] ++ twoL [q]).length ≤ 65540 := by have := HXL.out; simp [twoL_length]; omega
          have HXL4 := Lib.hid hxl
          generalize xs ++ [a0, a1] ++ twoL [q] = ys at *
          obtain ⟨u, hg, hR⟩ := hS4
          obtain ⟨Au4, cu4, rfl⟩ := Kd.R_slice hR
          have k0 : w4.cell? ⟨gw, 0, none⟩ = some (.slice Au4 ys.length cu4) := blk_cell hg 0
          have HG4 := Lib.hid hg
          have HR4 := Lib.hid hR
          have HVC4 := Lib.hid (HVC.out w4 HF4.out)
          clear hO4 hxl hg hR HS HF HQ HVC HXL HXL3
          go_wp2_with (at_builtin; go_must (refine Kd.R_append_row (Value.int .u8) (0 : Int) (w0 := w4) (W := w4) (gw + 1) rfl _ _ 22 5 _ 1 rfl Try.underlying22 info_u8 rfl (by decide) (.slice Au4 ys.length cu4) ys v Av n cv okW rfl rfl (fun k hk => HOK.out k (Nat.le_trans HF4.out.size hk)) HR4.out HVC4.out (Below.refl _ _) (by have := blk_lt HG4.out; omega) (by have := HXL4.out; have := HVL.out; have := HNV.out; omega) ?_); (intro v1 w1 hR1 hB1 hG1 _; have HR1 := Lib.hid hR1; have HB1 := Lib.hid hB1; have HGR := Lib.hid hG1; clear hR1 hB1 hG1; refine RowKit.Hid.out ?_))
          refine Lib.hid ?_
          obtain ⟨A7, c7, hv1⟩ := Kd.R_slice HR1.out
          subst hv1
          have hg1 := blk_grown HG4.out HGR.out (fun e => HGO.out (HR4.out.1 _ e.symm))
          have hs := blk_cell hg1 0
          have hf := blk_frozen hg1 0
          have HF5 := Lib.hid ((HF4.out.grown HGR.out (fun k _ e => Or.inr (HR4.out.1 k e))).setCell (p := ⟨gw, 0, none⟩) (fun _ => Or.inl rfl) (.slice A7 (ys ++ v).length c7))
          have HR5 := Lib.hid (Kd.R_far HR1.out (p := ⟨gw, 0, none⟩) (fun k hk (e : k = gw) => HGO.out (e ▸ hk)) (.slice A7 (ys ++ v).length c7))
          have HC5 := Lib.hid (blk_put hg1 0 (.slice A7 (ys ++ v).length c7) rfl)
          have HXL5 := Lib.hid (show (ys ++ v).length ≤ 131071 by have := HXL4.out; have := HVL.out; have := HNV.out; rw [List.length_append]; omega)
          clear hg1 HR1 HB1 HGR HG4 HR4 HVC4 HF4 HXL4 k0 HNV
          generalize hzl : (ys ++ v).length = zl at *
          go_upto_region 16 with (fail)
          generalize w1.setCell ⟨gw, 0, none⟩ (.slice A7 zl c7) = W5 at *
          subst hzl
          generalize ys ++ v = xs at *
          have HC := HC5
          have HR := HR5
          have HXL := HXL5
          have HM := HPL
          have HOK5 := Lib.hid (show ∀ k, W5.heap.size ≤ k → okW k from fun k hk => HOK.out k (Nat.le_trans HF5.out.size hk))
          clear HC5 HR5 HXL5 HPL hs hf HOK
          have B := True.intro
          have C := True.intro
          have R := True.intro
          refine start_ (n := 15) (S := fun w' => True) (ds := []) #[false, false, false, false, false, false, false, false, false, false, false, false, false, false, false] (by kernel_rfl) rfl rfl trivial (fun hHeld => ?_)
          refine with_tabW encBtab16 encBbits16 (fun HT_ HW_ => ?_)
          refine pure_ (i := 0) (N := some 62) (v := ?_) (a' := ?_) #[true, false, false, false, false, false, false, false, false, false, false, false, false, false, false] rfl rfl (any_of HT_.out (by kernel_rfl)) (fun _ _ _ h => h) (Or.inl ⟨by rfl, ?_⟩) ?_ ?_
          rotate_left
          · intro w'
            go_simp
            with_reducible rfl
          rotate_left
          · simp only [Act.put, List.setIfInBounds_toArray, List.set_cons_zero, List.set_cons_succ, i64_w, i32_w]
            rfl
          refine pure_ (i := 1) (N := some 63) (v := ?_) (a' := ?_) #[true, true, false, false, false, false, false, false, false, false, false, false, false, false, false] rfl rfl (any_of HT_.out (by kernel_rfl)) (fun _ _ _ h => h) (Or.inl ⟨by rfl, ?_⟩) ?_ ?_
          rotate_left
          · intro w'
            go_simp
            with_reducible rfl
          rotate_left
          · simp only [Act.put, List.setIfInBounds_toArray, List.set_cons_zero, List.set_cons_succ, i64_w, i32_w]
            rfl
          refine pure_ (i := 5) (N := some 67) (v := ?_) (a' := ?_) #[true, true, false, false, false, true, false, false, false, false, false, false, false, false, false] rfl rfl (any_of HT_.out (by kernel_rfl)) (fun _ _ _ h => h) (Or.inl ⟨by rfl, ?_⟩) ?_ ?_
          rotate_left
          · intro w'
            go_simp
            with_reducible rfl
          rotate_left
          · simp only [Act.put, List.setIfInBounds_toArray, List.set_cons_zero, List.set_cons_succ, i64_w, i32_w]
            rfl
          refine pure_ (i := 8) (N := some 70) (v := ?_) (a' := ?_) #[true, true, false, false, false, true, false, false, true, false, false, false, false, false, false] rfl rfl (any_of HT_.out (by kernel_rfl)) (fun _ _ _ h => h) (Or.inl ⟨by rfl, ?_⟩) ?_ ?_
          rotate_left
          · intro w'
            go_simp
            with_reducible rfl
          rotate_left
          · simp only [Act.put, List.setIfInBounds_toArray, List.set_cons_zero, List.set_cons_succ, i64_w, i32_w]
            rfl
          refine inv_at [2, 3, 4, 6, 7, 9, 10, 11, 12, 13, 14] (fun a0_ b a w' => ∃ (v9 : Value), a = putSel a0_ b [(2, 64, .pointer (some ⟨gw, 0, none⟩)), (3, 65, .pointer (some ⟨gw, 0, none⟩)), (4, 66, .slice A7 xs.length c7), (6, 68, .int .i64 (n : Int)), (7, 69, .int .i64 (pn : Int)), (9, 71, .int .i64 (n : Int)), (10, 72, .int .i64 (pad : Int)), (11, 73, v9), (12, 74, .pointer (some ⟨gw, 0, none⟩)), (13, 75, .pointer (some ⟨gw, 0, none⟩))] ∧ (b 11 = false → Only (fun k => k = gw ∨ okW k) W5 w') ∧ (b 11 = false → w'.heap[gw]? = some (.cells #[.slice A7 xs.length c7] 66 (0, 0))) ∧ (b 11 = false → (Kd.int .u8).R 5 w' (gw + 1) okW (.slice A7 xs.length c7) (xs)) ∧ (b 11 = true → b 14 = false → (Kd.int .u8).R 5 w' (gw + 1) okW (v9) (xs ++ List.replicate pad 0) ∧ w'.heap[gw]? = some (.cells #[.slice A7 xs.length c7] 66 (0, 0)) ∧ Only (fun k => k = gw ∨ okW k) W5 w') ∧ (b 14 = true → ∃ u, w'.heap[gw]? = some (.cells #[u] 66 (0, 0)) ∧ (Kd.int .u8).R 5 w' (gw + 1) okW (u) (xs ++ List.replicate pad 0) ∧ Only (fun k => k = gw ∨ okW k) W5 w')) HT_.out HW_.out (by kernel_rfl) (by kernel_rfl) ?_ ?_ ?_
          · exact ⟨.bool false, by simp only [putSel, Bool.false_eq_true, if_false], fun _ => (Only.refl _ _).drewN 1, fun _ => HC.out, fun _ => HR.out, fun h_ => absurd h_ (by decide), fun h_ => absurd h_ (by decide)⟩
          · skip
            clear B C R
            refine steps_cons ?_ ?_
            · rintro b a w' ⟨v9, ha, Q_B, Q_C, Q_R, Q_S1, Q_S2⟩ hb_ hon hoff
              refine ⟨_, rfl, fun K hK => ?_⟩
              have e63 : a.tmps[63]? = some (.pointer (some ⟨gw, 0, none⟩)) := by rw [ha]; exact (putSel_off rfl).trans rfl
              replace ha := Aside0.mk ha
              have B := Aside0.mk (Q_B (hoff 11 (by kernel_rfl)))
              have C := Aside0.mk (Q_C (hoff 11 (by kernel_rfl)))
              have R := Aside0.mk (Q_R (hoff 11 (by kernel_rfl)))
              refine value_ (w1 := w') (v := .pointer (some ⟨gw, 0, none⟩)) (by rfl) rfl ?_ ?_
              · go_simp
                (try simp only [i64_w])
                try rfl
              refine hK.out _ _ ⟨v9, (by rw [ha.out]; exact putSel_upk 0 hb_ rfl rfl rfl), Q_B, Q_C, Q_R, fun h0_ _ => absurd ((hoff 11 (by kernel_rfl)).symm.trans h0_) (by decide), fun h0_ => absurd ((hoff 14 (by kernel_rfl)).symm.trans h0_) (by decide)⟩
            refine steps_cons ?_ ?_
            · rintro b a w' ⟨v9, ha, Q_B, Q_C, Q_R, Q_S1, Q_S2⟩ hb_ hon hoff
              refine ⟨_, rfl, fun K hK => ?_⟩
              have e64 : a.tmps[64]? = some (.pointer (some ⟨gw, 0, none⟩)) := by rw [ha]; exact putSel_on (e := (2, 64, .pointer (some ⟨gw, 0, none⟩))) 0 rfl rfl (hon 2 (by kernel_rfl)) rfl
              replace ha := Aside0.mk ha
              have B := Aside0.mk (Q_B (hoff 11 (by kernel_rfl)))
              have C := Aside0.mk (Q_C (hoff 11 (by kernel_rfl)))
              have R := Aside0.mk (Q_R (hoff 11 (by kernel_rfl)))
              refine value_ (w1 := w') (v := .pointer (some ⟨gw, 0, none⟩)) (by rfl) rfl ?_ ?_
              · go_simp
                (try simp only [i64_w])
                try rfl
              refine hK.out _ _ ⟨v9, (by rw [ha.out]; exact putSel_upk 1 hb_ rfl rfl rfl), Q_B, Q_C, Q_R, fun h0_ _ => absurd ((hoff 11 (by kernel_rfl)).symm.trans h0_) (by decide), fun h0_ => absurd ((hoff 14 (by kernel_rfl)).symm.trans h0_) (by decide)⟩
            refine steps_cons ?_ ?_
            · rintro b a w' ⟨v9, ha, Q_B, Q_C, Q_R, Q_S1, Q_S2⟩ hb_ hon hoff
              refine ⟨_, rfl, fun K hK => ?_⟩
              have e65 : a.tmps[65]? = some (.pointer (some ⟨gw, 0, none⟩)) := by rw [ha]; exact putSel_on (e := (3, 65, .pointer (some ⟨gw, 0, none⟩))) 1 rfl rfl (hon 3 (by kernel_rfl)) rfl
              replace ha := Aside0.mk ha
              have B := Aside0.mk (Q_B (hoff 11 (by kernel_rfl)))
              have C := Aside0.mk (Q_C (hoff 11 (by kernel_rfl)))
              have R := Aside0.mk (Q_R (hoff 11 (by kernel_rfl)))
              have hs := blk_cell C.out 0
              refine value_ (w1 := w') (v := .slice A7 xs.length c7) (by rfl) rfl ?_ ?_
              · go_simp
                (try simp only [i64_w])
                try rfl
              refine hK.out _ _ ⟨v9, (by rw [ha.out]; exact putSel_upk 2 hb_ rfl rfl rfl), Q_B, Q_C, Q_R, fun h0_ _ => absurd ((hoff 11 (by kernel_rfl)).symm.trans h0_) (by decide), fun h0_ => absurd ((hoff 14 (by kernel_rfl)).symm.trans h0_) (by decide)⟩
            refine steps_cons ?_ ?_
            · rintro b a w' ⟨v9, ha, Q_B, Q_C, Q_R, Q_S1, Q_S2⟩ hb_ hon hoff
              refine ⟨_, rfl, fun K hK => ?_⟩
              have e67 : a.tmps[67]? = some (.slice Av n cv) := by rw [ha]; exact (putSel_off rfl).trans rfl
              replace ha := Aside0.mk ha
              have B := Aside0.mk (Q_B (hoff 11 (by kernel_rfl)))
              have C := Aside0.mk (Q_C (hoff 11 (by kernel_rfl)))
              have R := Aside0.mk (Q_R (hoff 11 (by kernel_rfl)))
              refine value_ (w1 := w') (v := .int .i64 (n : Int)) (by rfl) rfl ?_ ?_
              · go_simp
                (try simp only [i64_w])
                try rfl
              refine hK.out _ _ ⟨v9, (by rw [ha.out]; exact putSel_upk 3 hb_ rfl rfl rfl), Q_B, Q_C, Q_R, fun h0_ _ => absurd ((hoff 11 (by kernel_rfl)).symm.trans h0_) (by decide), fun h0_ => absurd ((hoff 14 (by kernel_rfl)).symm.trans h0_) (by decide)⟩
            refine steps_cons ?_ ?_
            · rintro b a w' ⟨v9, ha, Q_B, Q_C, Q_R, Q_S1, Q_S2⟩ hb_ hon hoff
              refine ⟨_, rfl, fun K hK => ?_⟩
              have e68 : a.tmps[68]? = some (.int .i64 (n : Int)) := by rw [ha]; exact putSel_on (e := (6, 68, .int .i64 (n : Int))) 3 rfl rfl (hon 6 (by kernel_rfl)) rfl
              replace ha := Aside0.mk ha
              have B := Aside0.mk (Q_B (hoff 11 (by kernel_rfl)))
              have C := Aside0.mk (Q_C (hoff 11 (by kernel_rfl)))
              have R := Aside0.mk (Q_R (hoff 11 (by kernel_rfl)))
              refine goes_ Try.func27 (by kernel_rfl) rfl #[.int .i64 (n : Int)] (by rfl) rfl rfl (by first | (simp only [List.map_toArray, List.map_cons, List.map_nil, Act.eval, Array.getD_eq_getD_getElem?, Option.getD_some, e68]; done) | (simp only [List.map_toArray, List.map_cons, List.map_nil, Act.eval, Array.getD_eq_getD_getElem?, Option.getD_some, e68]; rfl)) ?_
              refine (HPD.out w').mono ?_
              rintro e w1 ⟨rfl, hD1⟩
              refine ⟨_, rfl, ?_⟩
              refine hK.out _ _ ⟨v9, (by rw [ha.out]; exact putSel_upk 4 hb_ rfl rfl rfl), fun _ => B.out.trans (Only.of_below (S := fun _ => False) (drawn_below hD1)) (fun k _ h => h.elim), fun _ => blk_below C.out (drawn_below hD1), fun _ => R_only R.out (Only.of_below (S := fun _ => False) (drawn_below hD1)) (fun _ _ _ h => h), fun h0_ _ => absurd ((hoff 11 (by kernel_rfl)).symm.trans h0_) (by decide), fun h0_ => absurd ((hoff 14 (by kernel_rfl)).symm.trans h0_) (by decide)⟩
            refine steps_cons ?_ ?_
            · rintro b a w' ⟨v9, ha, Q_B, Q_C, Q_R, Q_S1, Q_S2⟩ hb_ hon hoff
              refine ⟨_, rfl, fun K hK => ?_⟩
              have e70 : a.tmps[70]? = some (.slice Av n cv) := by rw [ha]; exact (putSel_off rfl).trans rfl
              replace ha := Aside0.mk ha
              have B := Aside0.mk (Q_B (hoff 11 (by kernel_rfl)))
              have C := Aside0.mk (Q_C (hoff 11 (by kernel_rfl)))
              have R := Aside0.mk (Q_R (hoff 11 (by kernel_rfl)))
              refine value_ (w1 := w') (v := .int .i64 (n : Int)) (by rfl) rfl ?_ ?_
              · go_simp
                (try simp only [i64_w])
                try rfl
              refine hK.out _ _ ⟨v9, (by rw [ha.out]; exact putSel_upk 5 hb_ rfl rfl rfl), Q_B, Q_C, Q_R, fun h0_ _ => absurd ((hoff 11 (by kernel_rfl)).symm.trans h0_) (by decide), fun h0_ => absurd ((hoff 14 (by kernel_rfl)).symm.trans h0_) (by decide)⟩
            refine steps_cons ?_ ?_
            · rintro b a w' ⟨v9, ha, Q_B, Q_C, Q_R, Q_S1, Q_S2⟩ hb_ hon hoff
              refine ⟨_, rfl, fun K hK => ?_⟩
              have e69 : a.tmps[69]? = some (.int .i64 (pn : Int)) := by rw [ha]; exact putSel_on (e := (7, 69, .int .i64 (pn : Int))) 4 rfl rfl (hon 7 (by kernel_rfl)) rfl
              have e71 : a.tmps[71]? = some (.int .i64 (n : Int)) := by rw [ha]; exact putSel_on (e := (9, 71, .int .i64 (n : Int))) 5 rfl rfl (hon 9 (by kernel_rfl)) rfl
              replace ha := Aside0.mk ha
              have B := Aside0.mk (Q_B (hoff 11 (by kernel_rfl)))
              have C := Aside0.mk (Q_C (hoff 11 (by kernel_rfl)))
              have R := Aside0.mk (Q_R (hoff 11 (by kernel_rfl)))
              have hs := HSUB.out
              refine value_ (w1 := w') (v := .int .i64 (pad : Int)) (by rfl) rfl (by go_simp; simp only [i64_w]; exact hs) ?_
              refine hK.out _ _ ⟨v9, (by rw [ha.out]; exact putSel_upk 6 hb_ rfl rfl rfl), fun _ => B.out, fun _ => C.out, fun _ => R.out, fun h0_ _ => absurd ((hoff 11 (by kernel_rfl)).symm.trans h0_) (by decide), fun h0_ => absurd ((hoff 14 (by kernel_rfl)).symm.trans h0_) (by decide)⟩
            refine steps_cons ?_ ?_
            · rintro b a w' ⟨v9, ha, Q_B, Q_C, Q_R, Q_S1, Q_S2⟩ hb_ hon hoff
              refine ⟨_, rfl, fun K hK => ?_⟩
              have e66 : a.tmps[66]? = some (.slice A7 xs.length c7) := by rw [ha]; exact putSel_on (e := (4, 66, .slice A7 xs.length c7)) 2 rfl rfl (hon 4 (by kernel_rfl)) rfl
              have e72 : a.tmps[72]? = some (.int .i64 (pad : Int)) := by rw [ha]; exact putSel_on (e := (10, 72, .int .i64 (pad : Int))) 6 rfl rfl (hon 10 (by kernel_rfl)) rfl
              replace ha := Aside0.mk ha
              have B := Aside0.mk (Q_B hb_)
              have C := Aside0.mk (Q_C hb_)
              have R := Aside0.mk (Q_R hb_)
              refine Kd.R_append_zeros_step (kx := .i64) (Kd.int .u8) (w0 := w') (W := w') (gw + 1) (by rfl) _ _ 22 3 5 (.int .u8 0) 1 rfl Try.underlying22 Try.underlying3 info_u8 rfl (by decide) (by decide) (.slice A7 xs.length c7) xs 0 (pad : Int) okW (by simp [Act.eval, Array.getD_eq_getD_getElem?, e66]) (by simp [Act.eval, Array.getD_eq_getD_getElem?, e72]) rfl (fun k hk => HOK5.out k (by have := B.out.size; omega)) R.out (by omega) (Below.refl _ _) (by have := blk_lt C.out; omega) (by have := HXL.out; have := HM.out; omega) ?_
              intro v1 w1 hR1 hB1 hG1 _
              rw [Int.toNat_natCast] at hR1
              refine hK.out _ _ ⟨v1, (by rw [ha.out]; exact putSel_upk 7 hb_ rfl rfl rfl), fun h0_ => absurd ((up_self b 11).symm.trans h0_) (by decide), fun h0_ => absurd ((up_self b 11).symm.trans h0_) (by decide), fun h0_ => absurd ((up_self b 11).symm.trans h0_) (by decide), fun _ _ => ⟨hR1, blk_grown C.out hG1 (fun e => HGO.out (R.out.1 _ e.symm)), B.out.grown hG1 (fun k _ e => Or.inr (R.out.1 k e))⟩, fun h0_ => absurd ((hoff 14 (by kernel_rfl)).symm.trans h0_) (by decide)⟩
            refine steps_cons ?_ ?_
            · rintro b a w' ⟨v9, ha, Q_B, Q_C, Q_R, Q_S1, Q_S2⟩ hb_ hon hoff
              refine ⟨_, rfl, fun K hK => ?_⟩
              have e62 : a.tmps[62]? = some (.pointer (some ⟨gw, 0, none⟩)) := by rw [ha]; exact (putSel_off rfl).trans rfl
              replace ha := Aside0.mk ha
              have S1 := Aside0.mk (Q_S1 (hon 11 (by kernel_rfl)) (hoff 14 (by kernel_rfl)))
              refine value_ (w1 := w') (v := .pointer (some ⟨gw, 0, none⟩)) (by rfl) rfl ?_ ?_
              · go_simp
                (try simp only [i64_w])
                try rfl
              refine hK.out _ _ ⟨v9, (by rw [ha.out]; exact putSel_upk 8 hb_ rfl rfl rfl), fun h0_ => absurd ((hon 11 (by kernel_rfl)).symm.trans h0_) (by decide), fun h0_ => absurd ((hon 11 (by kernel_rfl)).symm.trans h0_) (by decide), fun h0_ => absurd ((hon 11 (by kernel_rfl)).symm.trans h0_) (by decide), Q_S1, fun h0_ => absurd ((hoff 14 (by kernel_rfl)).symm.trans h0_) (by decide)⟩
            refine steps_cons ?_ ?_
            · rintro b a w' ⟨v9, ha, Q_B, Q_C, Q_R, Q_S1, Q_S2⟩ hb_ hon hoff
              refine ⟨_, rfl, fun K hK => ?_⟩
              have e74 : a.tmps[74]? = some (.pointer (some ⟨gw, 0, none⟩)) := by rw [ha]; exact putSel_on (e := (12, 74, .pointer (some ⟨gw, 0, none⟩))) 8 rfl rfl (hon 12 (by kernel_rfl)) rfl
              replace ha := Aside0.mk ha
              have S1 := Aside0.mk (Q_S1 (hon 11 (by kernel_rfl)) (hoff 14 (by kernel_rfl)))
              refine value_ (w1 := w') (v := .pointer (some ⟨gw, 0, none⟩)) (by rfl) rfl ?_ ?_
              · go_simp
                (try simp only [i64_w])
                try rfl
              refine hK.out _ _ ⟨v9, (by rw [ha.out]; exact putSel_upk 9 hb_ rfl rfl rfl), fun h0_ => absurd ((hon 11 (by kernel_rfl)).symm.trans h0_) (by decide), fun h0_ => absurd ((hon 11 (by kernel_rfl)).symm.trans h0_) (by decide), fun h0_ => absurd ((hon 11 (by kernel_rfl)).symm.trans h0_) (by decide), Q_S1, fun h0_ => absurd ((hoff 14 (by kernel_rfl)).symm.trans h0_) (by decide)⟩
            refine steps_cons ?_ ?_
            · rintro b a w' ⟨v9, ha, Q_B, Q_C, Q_R, Q_S1, Q_S2⟩ hb_ hon hoff
              refine ⟨_, rfl, fun K hK => ?_⟩
              have e75 : a.tmps[75]? = some (.pointer (some ⟨gw, 0, none⟩)) := by rw [ha]; exact putSel_on (e := (13, 75, .pointer (some ⟨gw, 0, none⟩))) 9 rfl rfl (hon 13 (by kernel_rfl)) rfl
              have e73 : a.tmps[73]? = some (v9) := by rw [ha]; exact putSel_on (e := (11, 73, v9)) 7 rfl rfl (hon 11 (by kernel_rfl)) rfl
              replace ha := Aside0.mk ha
              have S1 := Aside0.mk (Q_S1 (hon 11 (by kernel_rfl)) hb_)
              obtain ⟨hR1, hC1, hF1⟩ := S1.out
              obtain ⟨A8, c8, hv9⟩ := Kd.R_slice hR1
              have hs := blk_cell hC1 0
              have hf := blk_frozen hC1 0
              refine skip_ (w1 := w'.setCell ⟨gw, 0, none⟩ v9) (by rfl) rfl (by generalize (xs ++ List.replicate pad 0).length = zl at hv9; rw [hv9] at e73 ⊢; go_simp; try rfl) ?_
              refine hK.out _ _ ⟨v9, (by rw [ha.out]; exact putSel_none (v := undef) rfl), fun h0_ => absurd ((hon 11 (by kernel_rfl)).symm.trans h0_) (by decide), fun h0_ => absurd ((hon 11 (by kernel_rfl)).symm.trans h0_) (by decide), fun h0_ => absurd ((hon 11 (by kernel_rfl)).symm.trans h0_) (by decide), fun _ h1_ => absurd ((up_self b 14).symm.trans h1_) (by decide), fun _ => ⟨v9, blk_put hC1 0 v9 rfl, Kd.R_far hR1 (p := ⟨gw, 0, none⟩) (fun k hk (e : k = gw) => HGO.out (e ▸ hk)) v9, hF1.setCell (fun _ => Or.inl rfl) v9⟩⟩
            exact steps_nil
          rintro b a w' hall ⟨v9, ha, Q_B, Q_C, Q_R, Q_S1, Q_S2⟩
          clear B C R
          have hb2_ := hall 2 (by kernel_rfl)
          have hb3_ := hall 3 (by kernel_rfl)
          have hb4_ := hall 4 (by kernel_rfl)
          have hb6_ := hall 6 (by kernel_rfl)
          have hb7_ := hall 7 (by kernel_rfl)
          have hb9_ := hall 9 (by kernel_rfl)
          have hb10_ := hall 10 (by kernel_rfl)
          have hb11_ := hall 11 (by kernel_rfl)
          have hb12_ := hall 12 (by kernel_rfl)
          have hb13_ := hall 13 (by kernel_rfl)
          have hb14_ := hall 14 (by kernel_rfl)
          subst ha
          simp only [putSel, hb2_, hb3_, hb4_, hb6_, hb7_, hb9_, hb10_, hb11_, hb12_, hb13_, hb14_, if_true, Act.put, List.setIfInBounds_toArray, List.set_cons_zero, List.set_cons_succ]
          clear Q_B
          clear Q_C
          clear Q_R
          clear Q_S1
          have S2 := Aside0.mk (Q_S2 hb14_)
          clear Q_S2
          clear hall hb2_ hb3_ hb4_ hb6_ hb7_ hb9_ hb10_ hb11_ hb12_ hb13_ hb14_
          obtain ⟨u, hg, hR, hF⟩ := S2.out
          clear S2 HC HR HSUB HPD
          obtain ⟨A9, c9, rfl⟩ := Kd.R_slice hR
          have HB9 := Lib.hid (HBW.out.trans ((HF5.out.trans hF (fun k _ h => h)).below HBW.out.size HBO.out))
          have HR9 := Lib.hid (Kd.R_mono (ok' := fun k => k ≠ gw) hR (fun k hk (e : k = gw) => HGO.out (e ▸ hk)))
          have HC9 := Lib.hid hg
          have k0 : w'.cell? ⟨gw, 0, none⟩ = some (.slice A9 (xs ++ List.replicate pad 0).length c9) := blk_cell hg 0
          have hxl : (xs ++ List.replicate pad (0 : Int)).length ≤ 131074 := by have := HXL.out; have := HM.out; simp; omega
          clear hg hR hF HF5 HOK5 HXL HM HGO HBO HBW
          generalize hacc : xs ++ List.replicate pad (0 : Int) = acc2 at *
          obtain ⟨nl, hnl⟩ : ∃ nl, acc2.length = nl := ⟨_, rfl⟩
          rw [hnl] at k0 hxl
          have HNL := Lib.hid hnl
          have hA3 := HA2.out
          rw [hnl] at hA3
          by_cases hb : 65536 < nl
          · rw [if_pos hb] at hA3
            subst hA3
            clear HA2 HR9 HC9 hnl HNL hacc
            go_wp2
            go_ret2
            exact ⟨_, rfl, Kd.R_nil _ _ _ _ _, HB9.out⟩
          · rw [if_neg hb] at hA3
            have HA3 := Lib.hid hA3
            clear HA2 hA3 hacc hnl
            go_wp2
            go_roundw
            case rel => exact ⟨i + 1, acc2, by omega, by go_num, HA3, (by have := HNL.out; show _ ≤ _; omega), ⟨_, HC9.out, HR9.out⟩, HB9⟩
            case measure => simp [intOf]; omega
        · obtain rfl : i = l.length := by omega
          have hA := HA.out
          rw [List.drop_length, runE] at hA
          subst hA
          obtain ⟨u, hg, hR⟩ := HW.out
          obtain ⟨Au, cu, rfl⟩ := Kd.R_slice hR
          have k0 : wr.cell? ⟨gw, 0, none⟩ = some (.slice Au acc.length cu) := blk_cell hg 0
          have HR := Lib.hid (Kd.R_mono (ok' := fun _ => True) (Kd.R_lower hR (base' := w.heap.size) (by have := HGW.out; omega)) (fun _ _ => trivial))
          clear HRE HW0 HBW HVAL HLC HA hg hR HW HAL
          generalize hnl : acc.length = nl at *
          go_wp2
          go_ret2
          exact ⟨_, rfl, HR.out, HB.out⟩
end Go.Proofs.Ytjmadnpicidbeaa.Ch
end
section
namespace Go.Proofs.Ytjmadnpicidbeaa.Ch
open Go.RowKit Go.Proofs.YtjmadnpicidbeaaW.PrintWords Go.Proofs.YtjmadnpicidbeaaW.PrintLast Go.Proofs.Ytjmadnpicidbeaa.Base Go.Proofs.Ytjmadnpicidbeaa.PCh Go.Proofs.Ytjmadnpicidbeaa.ParDec Go.Proofs.Ytjmadnpicidbeaa.ParEnc
set_option maxRecDepth 100000
set_option linter.unusedVariables false
set_option linter.unusedSimpArgs false
set_option maxHeartbeats 4000000 in
theorem check_data (w : World) (x : Chk) (L : Lay) (hx : CR w x L) (hv : ValOk x L) (hk : x.f0 = 0) :
    Calls Try.prog 16 #[.agg (CV x L)] w fun e w' => e = .returned (.int .i64 (checkD x)) ∧ Below w.heap.size w w' := by
  cases hq : decide (x = bareD x) with
  | false =>
    have hcd : checkD x = 63 := by unfold checkD; rw [if_pos hq]
    rw [hcd]
    clear hcd
    have HBR := Lib.hid (fun (w' : World) (h : Below (w.alloc (.cells (CV x L) 30)).heap.size (w.alloc (.cells (CV x L) 30)) w') => bare_0 w' x L (hx.below (below_then (below_alloc (Below.refl _ _) _) (below_alloc (Below.refl _ _) _).size h)) hk)
    have HSM := Lib.hid (fun (w' : World) (h : Below (w.alloc (.cells (CV x L) 30)).heap.size (w.alloc (.cells (CV x L) 30)) w') => same_calls w' x (bareD x) L (keepL (hasF x.f0) L) (hx.below (below_then (below_alloc (Below.refl _ _) _) (below_alloc (Below.refl _ _) _).size h)) (keep_CR (hx.below (below_then (below_alloc (Below.refl _ _) _) (below_alloc (Below.refl _ _) _).size h)) _ _))
    have HXS := Lib.hid (show (Try.prog.info? 30).map (·.size) = some (CV x L).size by kernel_rfl)
    have HB := Lib.hid (below_alloc (Below.refl w.heap.size w) (.cells (CV x L) 30))
    have hxb := (show (w.alloc (.cells (CV x L) 30)).heap[w.heap.size]? = some (.cells (CV x L) 30 (0, 0)) from blk_new _ _)
    have HXB := Lib.hid hxb
    have U0 := Lib.hid ((blk_cell hxb 0).trans (show (CV x L)[0]? = some (.int .u8 x.f0) from rfl))
    have U10 := Lib.hid ((blk_cell hxb 10).trans (show (CV x L)[10]? = some (.slice L.A10 x.f10.length L.c10) from rfl))
    have U11 := Lib.hid ((blk_cell hxb 11).trans (show (CV x L)[11]? = some (.slice L.A11 x.f11.length L.c11) from rfl))
    have U12 := Lib.hid ((blk_cell hxb 12).trans (show (CV x L)[12]? = some (.slice L.A12 x.f12.length L.c12) from rfl))
    have U13 := Lib.hid ((blk_cell hxb 13).trans (show (CV x L)[13]? = some (.slice L.A13 x.f13.length L.c13) from rfl))
    have U14 := Lib.hid ((blk_cell hxb 14).trans (show (CV x L)[14]? = some (.slice L.A14 x.f14.length L.c14) from rfl))
    have HEN := Lib.hid (fun (w' : World) (h : Below w.heap.size w w') => encP_calls w' L.A14 L.c14 x.f14 (Kd.C_below hx.h14 h) hx.l14)
    have HXC := Lib.hid (fun (w' : World) (h : Below w.heap.size w w') => hx.below h)
    clear hxb
    rw [hq] at HSM
    generalize hCY : CV (bareD x) (keepL (hasF x.f0) L) = CY at *
    generalize hCX : CV x L = CX at *
    clear hCY hCX
    go_enter Try.func16, Try.ntmps16
    go_upto_region 1 with (fail)
    generalize w.alloc (.cells CX 30) = W at *
    generalize hgb : w.heap.size = gb at *
    have B := True.intro
    refine start_ (n := 6) (S := fun w' => True) (ds := []) #[false, false, false, false, false, false] (by kernel_rfl) rfl rfl trivial (fun hHeld => ?_)
    refine with_tabW checktab1 checkbits1 (fun HT_ HW_ => ?_)
    refine inv_at [0, 1, 2, 3, 4, 5] (fun a0_ b a w' => a = putSel a0_ b [(0, 6, .agg CX), (1, 7, .agg CX), (2, 8, .agg CY), (3, 9, .bool false), (4, 10, .bool (!false)), (5, 5, .bool (!false))] ∧ (Below W.heap.size W w')) HT_.out HW_.out (by kernel_rfl) (by kernel_rfl) ?_ ?_ ?_
    · exact ⟨by simp only [putSel, Bool.false_eq_true, if_false], below_drew (Below.refl _ _)⟩
    · skip
      clear B
      refine steps_cons ?_ ?_
      · rintro b a w' ⟨ha, Q_B⟩ hb_ hon hoff
        refine ⟨_, rfl, fun K hK => ?_⟩
        have e1 : a.tmps[1]? = some (.pointer (some ⟨gb, 0, none⟩)) := by rw [ha]; exact (putSel_off rfl).trans rfl
        replace ha := Aside0.mk ha
        have B := Aside0.mk Q_B
        refine value_ (w1 := w') (v := .agg CX) (by rfl) rfl (exec_load_row 30 (.tmp 1) rfl (eval_of e1) (blk_below HXB.out B.out) Try.underlying30 rfl HXS.out) ?_
        refine hK.out _ _ ⟨(by rw [ha.out]; exact putSel_upk 0 hb_ rfl rfl rfl), B.out⟩
      refine steps_cons ?_ ?_
      · rintro b a w' ⟨ha, Q_B⟩ hb_ hon hoff
        refine ⟨_, rfl, fun K hK => ?_⟩
        have e1 : a.tmps[1]? = some (.pointer (some ⟨gb, 0, none⟩)) := by rw [ha]; exact (putSel_off rfl).trans rfl
        replace ha := Aside0.mk ha
        have B := Aside0.mk Q_B
        refine value_ (w1 := w') (v := .agg CX) (by rfl) rfl (exec_load_row 30 (.tmp 1) rfl (eval_of e1) (blk_below HXB.out B.out) Try.underlying30 rfl HXS.out) ?_
        refine hK.out _ _ ⟨(by rw [ha.out]; exact putSel_upk 1 hb_ rfl rfl rfl), B.out⟩
      refine steps_cons ?_ ?_
      · rintro b a w' ⟨ha, Q_B⟩ hb_ hon hoff
        refine ⟨_, rfl, fun K hK => ?_⟩
        have e7 : a.tmps[7]? = some (.agg CX) := by rw [ha]; exact putSel_on (e := (1, 7, .agg CX)) 1 rfl rfl (hon 1 (by kernel_rfl)) rfl
        replace ha := Aside0.mk ha
        have B := Aside0.mk Q_B
        refine goes_ Try.func38 (by kernel_rfl) rfl #[.agg CX] (by rfl) rfl rfl (by first | (simp only [List.map_toArray, List.map_cons, List.map_nil, Act.eval, Array.getD_eq_getD_getElem?, Option.getD_some, e7]; done) | (simp only [List.map_toArray, List.map_cons, List.map_nil, Act.eval, Array.getD_eq_getD_getElem?, Option.getD_some, e7]; rfl)) ?_
        refine (HBR.out w' B.out).mono ?_
        rintro e w1 ⟨rfl, hB1⟩
        refine ⟨_, rfl, ?_⟩
        refine hK.out _ _ ⟨(by rw [ha.out]; exact putSel_upk 2 hb_ rfl rfl rfl), B.out.trans (hB1.mono B.out.size)⟩
      refine steps_cons ?_ ?_
      · rintro b a w' ⟨ha, Q_B⟩ hb_ hon hoff
        refine ⟨_, rfl, fun K hK => ?_⟩
        have e6 : a.tmps[6]? = some (.agg CX) := by rw [ha]; exact putSel_on (e := (0, 6, .agg CX)) 0 rfl rfl (hon 0 (by kernel_rfl)) rfl
        have e8 : a.tmps[8]? = some (.agg CY) := by rw [ha]; exact putSel_on (e := (2, 8, .agg CY)) 2 rfl rfl (hon 2 (by kernel_rfl)) rfl
        replace ha := Aside0.mk ha
        have B := Aside0.mk Q_B
        refine goes_ Try.func14 (by kernel_rfl) rfl #[.agg CX, .agg CY] (by rfl) rfl rfl (by first | (simp only [List.map_toArray, List.map_cons, List.map_nil, Act.eval, Array.getD_eq_getD_getElem?, Option.getD_some, e6, e8]; done) | (simp only [List.map_toArray, List.map_cons, List.map_nil, Act.eval, Array.getD_eq_getD_getElem?, Option.getD_some, e6, e8]; rfl)) ?_
        refine (HSM.out w' B.out).mono ?_
        rintro e w1 ⟨rfl, hB1⟩
        refine ⟨_, rfl, ?_⟩
        refine hK.out _ _ ⟨(by rw [ha.out]; exact putSel_upk 3 hb_ rfl rfl rfl), B.out.trans (hB1.mono B.out.size)⟩
      refine steps_cons ?_ ?_
      · rintro b a w' ⟨ha, Q_B⟩ hb_ hon hoff
        refine ⟨_, rfl, fun K hK => ?_⟩
        have e9 : a.tmps[9]? = some (.bool false) := by rw [ha]; exact putSel_on (e := (3, 9, .bool false)) 3 rfl rfl (hon 3 (by kernel_rfl)) rfl
        replace ha := Aside0.mk ha
        have B := Aside0.mk Q_B
        refine value_ (w1 := w') (v := .bool (!false)) (by rfl) rfl ?_ ?_
        · go_simp
          (try simp only [i64_w])
          try rfl
        refine hK.out _ _ ⟨(by rw [ha.out]; exact putSel_upk 4 hb_ rfl rfl rfl), Q_B⟩
      refine steps_cons ?_ ?_
      · rintro b a w' ⟨ha, Q_B⟩ hb_ hon hoff
        refine ⟨_, rfl, fun K hK => ?_⟩
        have e10 : a.tmps[10]? = some (.bool (!false)) := by rw [ha]; exact putSel_on (e := (4, 10, .bool (!false))) 4 rfl rfl (hon 4 (by kernel_rfl)) rfl
        replace ha := Aside0.mk ha
        have B := Aside0.mk Q_B
        refine value_ (w1 := w') (v := .bool (!false)) (by rfl) rfl ?_ ?_
        · go_simp
          (try simp only [i64_w])
          try rfl
        refine hK.out _ _ ⟨(by rw [ha.out]; exact putSel_upk 5 hb_ rfl rfl rfl), Q_B⟩
      exact steps_nil
    rintro b a w' hall ⟨ha, Q_B⟩
    clear B
    have hb0_ := hall 0 (by kernel_rfl)
    have hb1_ := hall 1 (by kernel_rfl)
    have hb2_ := hall 2 (by kernel_rfl)
    have hb3_ := hall 3 (by kernel_rfl)
    have hb4_ := hall 4 (by kernel_rfl)
    have hb5_ := hall 5 (by kernel_rfl)
    subst ha
    simp only [putSel, hb0_, hb1_, hb2_, hb3_, hb4_, hb5_, if_true, Act.put, List.setIfInBounds_toArray, List.set_cons_zero, List.set_cons_succ]
    have B := Aside0.mk Q_B
    clear Q_B
    clear hall hb0_ hb1_ hb2_ hb3_ hb4_ hb5_
    have HB2 := Lib.hid (below_then HB.out (by have := blk_lt HXB.out; omega) B.out)
    have HXB2 := Lib.hid (blk_below HXB.out B.out)
    have V0 := Lib.hid (pw_cell_below B.out U0.out)
    have V10 := Lib.hid (pw_cell_below B.out U10.out)
    have V11 := Lib.hid (pw_cell_below B.out U11.out)
    have V12 := Lib.hid (pw_cell_below B.out U12.out)
    have V13 := Lib.hid (pw_cell_below B.out U13.out)
    have V14 := Lib.hid (pw_cell_below B.out U14.out)
    have k0 := V0.out
    have k10 := V10.out
    have k11 := V11.out
    have k12 := V12.out
    have k13 := V13.out
    have k14 := V14.out
    clear B V0 V10 V11 V12 V13 V14 U0 U10 U11 U12 U13 U14 HB HXB HBR HSM
    generalize w' = W at *
    go_wp2
    go_ret
    exact ⟨rfl, by rw [hgb]; exact HB2.out⟩
  | true =>
    have HXE := Lib.hid (show x = bareD x from of_decide_eq_true hq)
    by_cases h13 : x.f13.length = 0
    · have hcd : checkD x = 62 := by unfold checkD; rw [if_neg (by rw [hq]; decide), if_pos ⟨hk, h13⟩]
      rw [hcd]
      clear hcd
      have HBR := Lib.hid (fun (w' : World) (h : Below (w.alloc (.cells (CV x L) 30)).heap.size (w.alloc (.cells (CV x L) 30)) w') => bare_0 w' x L (hx.below (below_then (below_alloc (Below.refl _ _) _) (below_alloc (Below.refl _ _) _).size h)) hk)
      have HSM := Lib.hid (fun (w' : World) (h : Below (w.alloc (.cells (CV x L) 30)).heap.size (w.alloc (.cells (CV x L) 30)) w') => same_calls w' x (bareD x) L (keepL (hasF x.f0) L) (hx.below (below_then (below_alloc (Below.refl _ _) _) (below_alloc (Below.refl _ _) _).size h)) (keep_CR (hx.below (below_then (below_alloc (Below.refl _ _) _) (below_alloc (Below.refl _ _) _).size h)) _ _))
      have HXS := Lib.hid (show (Try.prog.info? 30).map (·.size) = some (CV x L).size by kernel_rfl)
      have HB := Lib.hid (below_alloc (Below.refl w.heap.size w) (.cells (CV x L) 30))
      have hxb := (show (w.alloc (.cells (CV x L) 30)).heap[w.heap.size]? = some (.cells (CV x L) 30 (0, 0)) from blk_new _ _)
      have HXB := Lib.hid hxb
      have U0 := Lib.hid ((blk_cell hxb 0).trans (show (CV x L)[0]? = some (.int .u8 x.f0) from rfl))
      have U10 := Lib.hid ((blk_cell hxb 10).trans (show (CV x L)[10]? = some (.slice L.A10 x.f10.length L.c10) from rfl))
      have U11 := Lib.hid ((blk_cell hxb 11).trans (show (CV x L)[11]? = some (.slice L.A11 x.f11.length L.c11) from rfl))
      have U12 := Lib.hid ((blk_cell hxb 12).trans (show (CV x L)[12]? = some (.slice L.A12 x.f12.length L.c12) from rfl))
      have U13 := Lib.hid ((blk_cell hxb 13).trans (show (CV x L)[13]? = some (.slice L.A13 x.f13.length L.c13) from rfl))
      have U14 := Lib.hid ((blk_cell hxb 14).trans (show (CV x L)[14]? = some (.slice L.A14 x.f14.length L.c14) from rfl))
      have HEN := Lib.hid (fun (w' : World) (h : Below w.heap.size w w') => encP_calls w' L.A14 L.c14 x.f14 (Kd.C_below hx.h14 h) hx.l14)
      have HXC := Lib.hid (fun (w' : World) (h : Below w.heap.size w w') => hx.below h)
      clear hxb
      rw [hq] at HSM
      rw [hk] at U0
      rw [h13] at U13
      generalize hCY : CV (bareD x) (keepL (hasF x.f0) L) = CY at *
      generalize hCX : CV x L = CX at *
      clear hCY hCX
      go_enter Try.func16, Try.ntmps16
      go_upto_region 1 with (fail)
      generalize w.alloc (.cells CX 30) = W at *
      generalize hgb : w.heap.size = gb at *
      have B := True.intro
      refine start_ (n := 6) (S := fun w' => True) (ds := []) #[false, false, false, false, false, false] (by kernel_rfl) rfl rfl trivial (fun hHeld => ?_)
      refine with_tabW checktab1 checkbits1 (fun HT_ HW_ => ?_)
      refine inv_at [0, 1, 2, 3, 4, 5] (fun a0_ b a w' => a = putSel a0_ b [(0, 6, .agg CX), (1, 7, .agg CX), (2, 8, .agg CY), (3, 9, .bool true), (4, 10, .bool (!true)), (5, 5, .bool (!true))] ∧ (Below W.heap.size W w')) HT_.out HW_.out (by kernel_rfl) (by kernel_rfl) ?_ ?_ ?_
      · exact ⟨by simp only [putSel, Bool.false_eq_true, if_false], below_drew (Below.refl _ _)⟩
      · skip
        clear B
        refine steps_cons ?_ ?_
        · rintro b a w' ⟨ha, Q_B⟩ hb_ hon hoff
          refine ⟨_, rfl, fun K hK => ?_⟩
          have e1 : a.tmps[1]? = some (.pointer (some ⟨gb, 0, none⟩)) := by rw [ha]; exact (putSel_off rfl).trans rfl
          replace ha := Aside0.mk ha
          have B := Aside0.mk Q_B
          refine value_ (w1 := w') (v := .agg CX) (by rfl) rfl (exec_load_row 30 (.tmp 1) rfl (eval_of e1) (blk_below HXB.out B.out) Try.underlying30 rfl HXS.out) ?_
          refine hK.out _ _ ⟨(by rw [ha.out]; exact putSel_upk 0 hb_ rfl rfl rfl), B.out⟩
        refine steps_cons ?_ ?_
        · rintro b a w' ⟨ha, Q_B⟩ hb_ hon hoff
          refine ⟨_, rfl, fun K hK => ?_⟩
          have e1 : a.tmps[1]? = some (.pointer (some ⟨gb, 0, none⟩)) := by rw [ha]; exact (putSel_off rfl).trans rfl
          replace ha := Aside0.mk ha
          have B := Aside0.mk Q_B
          refine value_ (w1 := w') (v := .agg CX) (by rfl) rfl (exec_load_row 30 (.tmp 1) rfl (eval_of e1) (blk_below HXB.out B.out) Try.underlying30 rfl HXS.out) ?_
          refine hK.out _ _ ⟨(by rw [ha.out]; exact putSel_upk 1 hb_ rfl rfl rfl), B.out⟩
        refine steps_cons ?_ ?_
        · rintro b a w' ⟨ha, Q_B⟩ hb_ hon hoff
          refine ⟨_, rfl, fun K hK => ?_⟩
          have e7 : a.tmps[7]? = some (.agg CX) := by rw [ha]; exact putSel_on (e := (1, 7, .agg CX)) 1 rfl rfl (hon 1 (by kernel_rfl)) rfl
          replace ha := Aside0.mk ha
          have B := Aside0.mk Q_B
          refine goes_ Try.func38 (by kernel_rfl) rfl #[.agg CX] (by rfl) rfl rfl (by first | (simp only [List.map_toArray, List.map_cons, List.map_nil, Act.eval, Array.getD_eq_getD_getElem?, Option.getD_some, e7]; done) | (simp only [List.map_toArray, List.map_cons, List.map_nil, Act.eval, Array.getD_eq_getD_getElem?, Option.getD_some, e7]; rfl)) ?_
          refine (HBR.out w' B.out).mono ?_
          rintro e w1 ⟨rfl, hB1⟩
          refine ⟨_, rfl, ?_⟩
          refine hK.out _ _ ⟨(by rw [ha.out]; exact putSel_upk 2 hb_ rfl rfl rfl), B.out.trans (hB1.mono B.out.size)⟩
        refine steps_cons ?_ ?_
        · rintro b a w' ⟨ha, Q_B⟩ hb_ hon hoff
          refine ⟨_, rfl, fun K hK => ?_⟩
          have e6 : a.tmps[6]? = some (.agg CX) := by rw [ha]; exact putSel_on (e := (0, 6, .agg CX)) 0 rfl rfl (hon 0 (by kernel_rfl)) rfl
          have e8 : a.tmps[8]? = some (.agg CY) := by rw [ha]; exact putSel_on (e := (2, 8, .agg CY)) 2 rfl rfl (hon 2 (by kernel_rfl)) rfl
          replace ha := Aside0.mk ha
          have B := Aside0.mk Q_B
          refine goes_ Try.func14 (by kernel_rfl) rfl #[.agg CX, .agg CY] (by rfl) rfl rfl (by first | (simp only [List.map_toArray, List.map_cons, List.map_nil, Act.eval, Array.getD_eq_getD_getElem?, Option.getD_some, e6, e8]; done) | (simp only [List.map_toArray, List.map_cons, List.map_nil, Act.eval, Array.getD_eq_getD_getElem?, Option.getD_some, e6, e8]; rfl)) ?_
          refine (HSM.out w' B.out).mono ?_
          rintro e w1 ⟨rfl, hB1⟩
          refine ⟨_, rfl, ?_⟩
          refine hK.out _ _ ⟨(by rw [ha.out]; exact putSel_upk 3 hb_ rfl rfl rfl), B.out.trans (hB1.mono B.out.size)⟩
        refine steps_cons ?_ ?_
        · rintro b a w' ⟨ha, Q_B⟩ hb_ hon hoff
          refine ⟨_, rfl, fun K hK => ?_⟩
          have e9 : a.tmps[9]? = some (.bool true) := by rw [ha]; exact putSel_on (e := (3, 9, .bool true)) 3 rfl rfl (hon 3 (by kernel_rfl)) rfl
          replace ha := Aside0.mk ha
          have B := Aside0.mk Q_B
          refine value_ (w1 := w') (v := .bool (!true)) (by rfl) rfl ?_ ?_
          · go_simp
            (try simp only [i64_w])
            try rfl
          refine hK.out _ _ ⟨(by rw [ha.out]; exact putSel_upk 4 hb_ rfl rfl rfl), Q_B⟩
        refine steps_cons ?_ ?_
        · rintro b a w' ⟨ha, Q_B⟩ hb_ hon hoff
          refine ⟨_, rfl, fun K hK => ?_⟩
          have e10 : a.tmps[10]? = some (.bool (!true)) := by rw [ha]; exact putSel_on (e := (4, 10, .bool (!true))) 4 rfl rfl (hon 4 (by kernel_rfl)) rfl
          replace ha := Aside0.mk ha
          have B := Aside0.mk Q_B
          refine value_ (w1 := w') (v := .bool (!true)) (by rfl) rfl ?_ ?_
          · go_simp
            (try simp only [i64_w])
            try rfl
          refine hK.out _ _ ⟨(by rw [ha.out]; exact putSel_upk 5 hb_ rfl rfl rfl), Q_B⟩
        exact steps_nil
      rintro b a w' hall ⟨ha, Q_B⟩
      clear B
      have hb0_ := hall 0 (by kernel_rfl)
      have hb1_ := hall 1 (by kernel_rfl)
      have hb2_ := hall 2 (by kernel_rfl)
      have hb3_ := hall 3 (by kernel_rfl)
      have hb4_ := hall 4 (by kernel_rfl)
      have hb5_ := hall 5 (by kernel_rfl)
      subst ha
      simp only [putSel, hb0_, hb1_, hb2_, hb3_, hb4_, hb5_, if_true, Act.put, List.setIfInBounds_toArray, List.set_cons_zero, List.set_cons_succ]
      have B := Aside0.mk Q_B
      clear Q_B
      clear hall hb0_ hb1_ hb2_ hb3_ hb4_ hb5_
      have HB2 := Lib.hid (below_then HB.out (by have := blk_lt HXB.out; omega) B.out)
      have HXB2 := Lib.hid (blk_below HXB.out B.out)
      have V0 := Lib.hid (pw_cell_below B.out U0.out)
      have V10 := Lib.hid (pw_cell_below B.out U10.out)
      have V11 := Lib.hid (pw_cell_below B.out U11.out)
      have V12 := Lib.hid (pw_cell_below B.out U12.out)
      have V13 := Lib.hid (pw_cell_below B.out U13.out)
      have V14 := Lib.hid (pw_cell_below B.out U14.out)
      have k0 := V0.out
      have k10 := V10.out
      have k11 := V11.out
      have k12 := V12.out
      have k13 := V13.out
      have k14 := V14.out
      clear B V0 V10 V11 V12 V13 V14 U0 U10 U11 U12 U13 U14 HB HXB HBR HSM
      generalize w' = W at *
      go_wp2
      go_ret
      exact ⟨rfl, by rw [hgb]; exact HB2.out⟩
    by_cases c10 : 4096 < x.f10.length
    · have hcd : checkD x = 3 := by unfold checkD; rw [if_neg (by rw [hq]; decide), if_neg (fun e => h13 e.2), if_neg (fun e => e.1.elim (fun h => absurd (hk.symm.trans h) (by decide)) (fun h => absurd (hk.symm.trans h) (by decide))), if_pos (by omega)]
      rw [hcd]
      clear hcd
      have HBR := Lib.hid (fun (w' : World) (h : Below (w.alloc (.cells (CV x L) 30)).heap.size (w.alloc (.cells (CV x L) 30)) w') => bare_0 w' x L (hx.below (below_then (below_alloc (Below.refl _ _) _) (below_alloc (Below.refl _ _) _).size h)) hk)
      have HSM := Lib.hid (fun (w' : World) (h : Below (w.alloc (.cells (CV x L) 30)).heap.size (w.alloc (.cells (CV x L) 30)) w') => same_calls w' x (bareD x) L (keepL (hasF x.f0) L) (hx.below (below_then (below_alloc (Below.refl _ _) _) (below_alloc (Below.refl _ _) _).size h)) (keep_CR (hx.below (below_then (below_alloc (Below.refl _ _) _) (below_alloc (Below.refl _ _) _).size h)) _ _))
      have HXS := Lib.hid (show (Try.prog.info? 30).map (·.size) = some (CV x L).size by kernel_rfl)
      have HB := Lib.hid (below_alloc (Below.refl w.heap.size w) (.cells (CV x L) 30))
      have hxb := (show (w.alloc (.cells (CV x L) 30)).heap[w.heap.size]? = some (.cells (CV x L) 30 (0, 0)) from blk_new _ _)
      have HXB := Lib.hid hxb
      have U0 := Lib.hid ((blk_cell hxb 0).trans (show (CV x L)[0]? = some (.int .u8 x.f0) from rfl))
      have U10 := Lib.hid ((blk_cell hxb 10).trans (show (CV x L)[10]? = some (.slice L.A10 x.f10.length L.c10) from rfl))
      have U11 := Lib.hid ((blk_cell hxb 11).trans (show (CV x L)[11]? = some (.slice L.A11 x.f11.length L.c11) from rfl))
      have U12 := Lib.hid ((blk_cell hxb 12).trans (show (CV x L)[12]? = some (.slice L.A12 x.f12.length L.c12) from rfl))
      have U13 := Lib.hid ((blk_cell hxb 13).trans (show (CV x L)[13]? = some (.slice L.A13 x.f13.length L.c13) from rfl))
      have U14 := Lib.hid ((blk_cell hxb 14).trans (show (CV x L)[14]? = some (.slice L.A14 x.f14.length L.c14) from rfl))
      have HEN := Lib.hid (fun (w' : World) (h : Below w.heap.size w w') => encP_calls w' L.A14 L.c14 x.f14 (Kd.C_below hx.h14 h) hx.l14)
      have HXC := Lib.hid (fun (w' : World) (h : Below w.heap.size w w') => hx.below h)
      clear hxb
      rw [hq] at HSM
      rw [hk] at U0
      have q13 : (((x.f13.length : Nat) : Int) == 0) = false := by rw [beq_eq_false_iff_ne]; omega
      have g10 : (4096 : Int) < ((x.f10.length : Nat) : Int) := by omega
      generalize hCY : CV (bareD x) (keepL (hasF x.f0) L) = CY at *
      generalize hCX : CV x L = CX at *
      clear hCY hCX
      go_enter Try.func16, Try.ntmps16
      go_upto_region 1 with (fail)
      generalize w.alloc (.cells CX 30) = W at *
      generalize hgb : w.heap.size = gb at *
      have B := True.intro
      refine start_ (n := 6) (S := fun w' => True) (ds := []) #[false, false, false, false, false, false] (by kernel_rfl) rfl rfl trivial (fun hHeld => ?_)
      refine with_tabW checktab1 checkbits1 (fun HT_ HW_ => ?_)
      refine inv_at [0, 1, 2, 3, 4, 5] (fun a0_ b a w' => a = putSel a0_ b [(0, 6, .agg CX), (1, 7, .agg CX), (2, 8, .agg CY), (3, 9, .bool true), (4, 10, .bool (!true)), (5, 5, .bool (!true))] ∧ (Below W.heap.size W w')) HT_.out HW_.out (by kernel_rfl) (by kernel_rfl) ?_ ?_ ?_
      · exact ⟨by simp only [putSel, Bool.false_eq_true, if_false], below_drew (Below.refl _ _)⟩
      · skip
        clear B
        refine steps_cons ?_ ?_
        · rintro b a w' ⟨ha, Q_B⟩ hb_ hon hoff
          refine ⟨_, rfl, fun K hK => ?_⟩
          have e1 : a.tmps[1]? = some (.pointer (some ⟨gb, 0, none⟩)) := by rw [ha]; exact (putSel_off rfl).trans rfl
          replace ha := Aside0.mk ha
          have B := Aside0.mk Q_B
          refine value_ (w1 := w') (v := .agg CX) (by rfl) rfl (exec_load_row 30 (.tmp 1) rfl (eval_of e1) (blk_below HXB.out B.out) Try.underlying30 rfl HXS.out) ?_
          refine hK.out _ _ ⟨(by rw [ha.out]; exact putSel_upk 0 hb_ rfl rfl rfl), B.out⟩
        refine steps_cons ?_ ?_
        · rintro b a w' ⟨ha, Q_B⟩ hb_ hon hoff
          refine ⟨_, rfl, fun K hK => ?_⟩
          have e1 : a.tmps[1]? = some (.pointer (some ⟨gb, 0, none⟩)) := by rw [ha]; exact (putSel_off rfl).trans rfl
          replace ha := Aside0.mk ha
          have B := Aside0.mk Q_B
          refine value_ (w1 := w') (v := .agg CX) (by rfl) rfl (exec_load_row 30 (.tmp 1) rfl (eval_of e1) (blk_below HXB.out B.out) Try.underlying30 rfl HXS.out) ?_
          refine hK.out _ _ ⟨(by rw [ha.out]; exact putSel_upk 1 hb_ rfl rfl rfl), B.out⟩
        refine steps_cons ?_ ?_
        · rintro b a w' ⟨ha, Q_B⟩ hb_ hon hoff
          refine ⟨_, rfl, fun K hK => ?_⟩
          have e7 : a.tmps[7]? = some (.agg CX) := by rw [ha]; exact putSel_on (e := (1, 7, .agg CX)) 1 rfl rfl (hon 1 (by kernel_rfl)) rfl
          replace ha := Aside0.mk ha
          have B := Aside0.mk Q_B
          refine goes_ Try.func38 (by kernel_rfl) rfl #[.agg CX] (by rfl) rfl rfl (by first | (simp only [List.map_toArray, List.map_cons, List.map_nil, Act.eval, Array.getD_eq_getD_getElem?, Option.getD_some, e7]; done) | (simp only [List.map_toArray, List.map_cons, List.map_nil, Act.eval, Array.getD_eq_getD_getElem?, Option.getD_some, e7]; rfl)) ?_
          refine (HBR.out w' B.out).mono ?_
          rintro e w1 ⟨rfl, hB1⟩
          refine ⟨_, rfl, ?_⟩
          refine hK.out _ _ ⟨(by rw [ha.out]; exact putSel_upk 2 hb_ rfl rfl rfl), B.out.trans (hB1.mono B.out.size)⟩
        refine steps_cons ?_ ?_
        · rintro b a w' ⟨ha, Q_B⟩ hb_ hon hoff
          refine ⟨_, rfl, fun K hK => ?_⟩
          have e6 : a.tmps[6]? = some (.agg CX) := by rw [ha]; exact putSel_on (e := (0, 6, .agg CX)) 0 rfl rfl (hon 0 (by kernel_rfl)) rfl
          have e8 : a.tmps[8]? = some (.agg CY) := by rw [ha]; exact putSel_on (e := (2, 8, .agg CY)) 2 rfl rfl (hon 2 (by kernel_rfl)) rfl
          replace ha := Aside0.mk ha
          have B := Aside0.mk Q_B
          refine goes_ Try.func14 (by kernel_rfl) rfl #[.agg CX, .agg CY] (by rfl) rfl rfl (by first | (simp only [List.map_toArray, List.map_cons, List.map_nil, Act.eval, Array.getD_eq_getD_getElem?, Option.getD_some, e6, e8]; done) | (simp only [List.map_toArray, List.map_cons, List.map_nil, Act.eval, Array.getD_eq_getD_getElem?, Option.getD_some, e6, e8]; rfl)) ?_
          refine (HSM.out w' B.out).mono ?_
          rintro e w1 ⟨rfl, hB1⟩
          refine ⟨_, rfl, ?_⟩
          refine hK.out _ _ ⟨(by rw [ha.out]; exact putSel_upk 3 hb_ rfl rfl rfl), B.out.trans (hB1.mono B.out.size)⟩
        refine steps_cons ?_ ?_
        · rintro b a w' ⟨ha, Q_B⟩ hb_ hon hoff
          refine ⟨_, rfl, fun K hK => ?_⟩
          have e9 : a.tmps[9]? = some (.bool true) := by rw [ha]; exact putSel_on (e := (3, 9, .bool true)) 3 rfl rfl (hon 3 (by kernel_rfl)) rfl
          replace ha := Aside0.mk ha
          have B := Aside0.mk Q_B
          refine value_ (w1 := w') (v := .bool (!true)) (by rfl) rfl ?_ ?_
          · go_simp
            (try simp only [i64_w])
            try rfl
          refine hK.out _ _ ⟨(by rw [ha.out]; exact putSel_upk 4 hb_ rfl rfl rfl), Q_B⟩
        refine steps_cons ?_ ?_
        · rintro b a w' ⟨ha, Q_B⟩ hb_ hon hoff
          refine ⟨_, rfl, fun K hK => ?_⟩
          have e10 : a.tmps[10]? = some (.bool (!true)) := by rw [ha]; exact putSel_on (e := (4, 10, .bool (!true))) 4 rfl rfl (hon 4 (by kernel_rfl)) rfl
          replace ha := Aside0.mk ha
          have B := Aside0.mk Q_B
          refine value_ (w1 := w') (v := .bool (!true)) (by rfl) rfl ?_ ?_
          · go_simp
            (try simp only [i64_w])
            try rfl
          refine hK.out _ _ ⟨(by rw [ha.out]; exact putSel_upk 5 hb_ rfl rfl rfl), Q_B⟩
        exact steps_nil
      rintro b a w' hall ⟨ha, Q_B⟩
      clear B
      have hb0_ := hall 0 (by kernel_rfl)
      have hb1_ := hall 1 (by kernel_rfl)
      have hb2_ := hall 2 (by kernel_rfl)
      have hb3_ := hall 3 (by kernel_rfl)
      have hb4_ := hall 4 (by kernel_rfl)
      have hb5_ := hall 5 (by kernel_rfl)
      subst ha
      simp only [putSel, hb0_, hb1_, hb2_, hb3_, hb4_, hb5_, if_true, Act.put, List.setIfInBounds_toArray, List.set_cons_zero, List.set_cons_succ]
      have B := Aside0.mk Q_B
      clear Q_B
      clear hall hb0_ hb1_ hb2_ hb3_ hb4_ hb5_
      have HB2 := Lib.hid (below_then HB.out (by have := blk_lt HXB.out; omega) B.out)
      have HXB2 := Lib.hid (blk_below HXB.out B.out)
      have V0 := Lib.hid (pw_cell_below B.out U0.out)
      have V10 := Lib.hid (pw_cell_below B.out U10.out)
      have V11 := Lib.hid (pw_cell_below B.out U11.out)
      have V12 := Lib.hid (pw_cell_below B.out U12.out)
      have V13 := Lib.hid (pw_cell_below B.out U13.out)
      have V14 := Lib.hid (pw_cell_below B.out U14.out)
      have k0 := V0.out
      have k10 := V10.out
      have k11 := V11.out
      have k12 := V12.out
      have k13 := V13.out
      have k14 := V14.out
      clear B V0 V10 V11 V12 V13 V14 U0 U10 U11 U12 U13 U14 HB HXB HBR HSM
      generalize w' = W at *
      go_wp2_with fail
      refine (isBeat_calls _ _).mono ?_
      rintro e w2 ⟨rfl, ⟨m2, rfl⟩⟩
      go_wp2
      go_ret
      exact ⟨rfl, by rw [hgb]; exact (pw_below_drewN HB2.out _)⟩
    by_cases c11 : 4096 < x.f11.length
    · have hcd : checkD x = 3 := by unfold checkD; rw [if_neg (by rw [hq]; decide), if_neg (fun e => h13 e.2), if_neg (fun e => e.1.elim (fun h => absurd (hk.symm.trans h) (by decide)) (fun h => absurd (hk.symm.trans h) (by decide))), if_pos (by omega)]
      rw [hcd]
      clear hcd
      have HBR := Lib.hid (fun (w' : World) (h : Below (w.alloc (.cells (CV x L) 30)).heap.size (w.alloc (.cells (CV x L) 30)) w') => bare_0 w' x L (hx.below (below_then (below_alloc (Below.refl _ _) _) (below_alloc (Below.refl _ _) _).size h)) hk)
      have HSM := Lib.hid (fun (w' : World) (h : Below (w.alloc (.cells (CV x L) 30)).heap.size (w.alloc (.cells (CV x L) 30)) w') => same_calls w' x (bareD x) L (keepL (hasF x.f0) L) (hx.below (below_then (below_alloc (Below.refl _ _) _) (below_alloc (Below.refl _ _) _).size h)) (keep_CR (hx.below (below_then (below_alloc (Below.refl _ _) _) (below_alloc (Below.refl _ _) _).size h)) _ _))
      have HXS := Lib.hid (show (Try.prog.info? 30).map (·.size) = some (CV x L).size by kernel_rfl)
      have HB := Lib.hid (below_alloc (Below.refl w.heap.size w) (.cells (CV x L) 30))
      have hxb := (show (w.alloc (.cells (CV x L) 30)).heap[w.heap.size]? = some (.cells (CV x L) 30 (0, 0)) from blk_new _ _)
      have HXB := Lib.hid hxb
      have U0 := Lib.hid ((blk_cell hxb 0).trans (show (CV x L)[0]? = some (.int .u8 x.f0) from rfl))
      have U10 := Lib.hid ((blk_cell hxb 10).trans (show (CV x L)[10]? = some (.slice L.A10 x.f10.length L.c10) from rfl))
      have U11 := Lib.hid ((blk_cell hxb 11).trans (show (CV x L)[11]? = some (.slice L.A11 x.f11.length L.c11) from rfl))
      have U12 := Lib.hid ((blk_cell hxb 12).trans (show (CV x L)[12]? = some (.slice L.A12 x.f12.length L.c12) from rfl))
      have U13 := Lib.hid ((blk_cell hxb 13).trans (show (CV x L)[13]? = some (.slice L.A13 x.f13.length L.c13) from rfl))
      have U14 := Lib.hid ((blk_cell hxb 14).trans (show (CV x L)[14]? = some (.slice L.A14 x.f14.length L.c14) from rfl))
      have HEN := Lib.hid (fun (w' : World) (h : Below w.heap.size w w') => encP_calls w' L.A14 L.c14 x.f14 (Kd.C_below hx.h14 h) hx.l14)
      have HXC := Lib.hid (fun (w' : World) (h : Below w.heap.size w w') => hx.below h)
      clear hxb
      rw [hq] at HSM
      rw [hk] at U0
      have q13 : (((x.f13.length : Nat) : Int) == 0) = false := by rw [beq_eq_false_iff_ne]; omega
      have g10 : ¬ (4096 : Int) < ((x.f10.length : Nat) : Int) := by omega
      have g11 : (4096 : Int) < ((x.f11.length : Nat) : Int) := by omega
      generalize hCY : CV (bareD x) (keepL (hasF x.f0) L) = CY at *
      generalize hCX : CV x L = CX at *
      clear hCY hCX
      go_enter Try.func16, Try.ntmps16
      go_upto_region 1 with (fail)
      generalize w.alloc (.cells CX 30) = W at *
      generalize hgb : w.heap.size = gb at *
      have B := True.intro
      refine start_ (n := 6) (S := fun w' => True) (ds := []) #[false, false, false, false, false, false] (by kernel_rfl) rfl rfl trivial (fun hHeld => ?_)
      refine with_tabW checktab1 checkbits1 (fun HT_ HW_ => ?_)
      refine inv_at [0, 1, 2, 3, 4, 5] (fun a0_ b a w' => a = putSel a0_ b [(0, 6, .agg CX), (1, 7, .agg CX), (2, 8, .agg CY), (3, 9, .bool true), (4, 10, .bool (!true)), (5, 5, .bool (!true))] ∧ (Below W.heap.size W w')) HT_.out HW_.out (by kernel_rfl) (by kernel_rfl) ?_ ?_ ?_
      · exact ⟨by simp only [putSel, Bool.false_eq_true, if_false], below_drew (Below.refl _ _)⟩
      · skip
        clear B
        refine steps_cons ?_ ?_
        · rintro b a w' ⟨ha, Q_B⟩ hb_ hon hoff
          refine ⟨_, rfl, fun K hK => ?_⟩
          have e1 : a.tmps[1]? = some (.pointer (some ⟨gb, 0, none⟩)) := by rw [ha]; exact (putSel_off rfl).trans rfl
          replace ha := Aside0.mk ha
          have B := Aside0.mk Q_B
          refine value_ (w1 := w') (v := .agg CX) (by rfl) rfl (exec_load_row 30 (.tmp 1) rfl (eval_of e1) (blk_below HXB.out B.out) Try.underlying30 rfl HXS.out) ?_
          refine hK.out _ _ ⟨(by rw [ha.out]; exact putSel_upk 0 hb_ rfl rfl rfl), B.out⟩
        refine steps_cons ?_ ?_
        · rintro b a w' ⟨ha, Q_B⟩ hb_ hon hoff
          refine ⟨_, rfl, fun K hK => ?_⟩
          have e1 : a.tmps[1]? = some (.pointer (some ⟨gb, 0, none⟩)) := by rw [ha]; exact (putSel_off rfl).trans rfl
          replace ha := Aside0.mk ha
          have B := Aside0.mk Q_B
          refine value_ (w1 := w') (v := .agg CX) (by rfl) rfl (exec_load_row 30 (.tmp 1) rfl (eval_of e1) (blk_below HXB.out B.out) Try.underlying30 rfl HXS.out) ?_
          refine hK.out _ _ ⟨(by rw [ha.out]; exact putSel_upk 1 hb_ rfl rfl rfl), B.out⟩
        refine steps_cons ?_ ?_
        · rintro b a w' ⟨ha, Q_B⟩ hb_ hon hoff
          refine ⟨_, rfl, fun K hK => ?_⟩
          have e7 : a.tmps[7]? = some (.agg CX) := by rw [ha]; exact putSel_on (e := (1, 7, .agg CX)) 1 rfl rfl (hon 1 (by kernel_rfl)) rfl
          replace ha := Aside0.mk ha
          have B := Aside0.mk Q_B
          refine goes_ Try.func38 (by kernel_rfl) rfl #[.agg CX] (by rfl) rfl rfl (by first | (simp only [List.map_toArray, List.map_cons, List.map_nil, Act.eval, Array.getD_eq_getD_getElem?, Option.getD_some, e7]; done) | (simp only [List.map_toArray, List.map_cons, List.map_nil, Act.eval, Array.getD_eq_getD_getElem?, Option.getD_some, e7]; rfl)) ?_
          refine (HBR.out w' B.out).mono ?_
          rintro e w1 ⟨rfl, hB1⟩
          refine ⟨_, rfl, ?_⟩
          refine hK.out _ _ ⟨(by rw [ha.out]; exact putSel_upk 2 hb_ rfl rfl rfl), B.out.trans (hB1.mono B.out.size)⟩
        refine steps_cons ?_ ?_
        · rintro b a w' ⟨ha, Q_B⟩ hb_ hon hoff
          refine ⟨_, rfl, fun K hK => ?_⟩
          have e6 : a.tmps[6]? = some (.agg CX) := by rw [ha]; exact putSel_on (e := (0, 6, .agg CX)) 0 rfl rfl (hon 0 (by kernel_rfl)) rfl
          have e8 : a.tmps[8]? = some (.agg CY) := by rw [ha]; exact putSel_on (e := (2, 8, .agg CY)) 2 rfl rfl (hon 2 (by kernel_rfl)) rfl
          replace ha := Aside0.mk ha
          have B := Aside0.mk Q_B
          refine goes_ Try.func14 (by kernel_rfl) rfl #[.agg CX, .agg CY] (by rfl) rfl rfl (by first | (simp only [List.map_toArray, List.map_cons, List.map_nil, Act.eval, Array.getD_eq_getD_getElem?, Option.getD_some, e6, e8]; done) | (simp only [List.map_toArray, List.map_cons, List.map_nil, Act.eval, Array.getD_eq_getD_getElem?, Option.getD_some, e6, e8]; rfl)) ?_
          refine (HSM.out w' B.out).mono ?_
          rintro e w1 ⟨rfl, hB1⟩
          refine ⟨_, rfl, ?_⟩
          refine hK.out _ _ ⟨(by rw [ha.out]; exact putSel_upk 3 hb_ rfl rfl rfl), B.out.trans (hB1.mono B.out.size)⟩
        refine steps_cons ?_ ?_
        · rintro b a w' ⟨ha, Q_B⟩ hb_ hon hoff
          refine ⟨_, rfl, fun K hK => ?_⟩
          have e9 : a.tmps[9]? = some (.bool true) := by rw [ha]; exact putSel_on (e := (3, 9, .bool true)) 3 rfl rfl (hon 3 (by kernel_rfl)) rfl
          replace ha := Aside0.mk ha
          have B := Aside0.mk Q_B
          refine value_ (w1 := w') (v := .bool (!true)) (by rfl) rfl ?_ ?_
          · go_simp
            (try simp only [i64_w])
            try rfl
          refine hK.out _ _ ⟨(by rw [ha.out]; exact putSel_upk 4 hb_ rfl rfl rfl), Q_B⟩
        refine steps_cons ?_ ?_
        · rintro b a w' ⟨ha, Q_B⟩ hb_ hon hoff
          refine ⟨_, rfl, fun K hK => ?_⟩
          have e10 : a.tmps[10]? = some (.bool (!true)) := by rw [ha]; exact putSel_on (e := (4, 10, .bool (!true))) 4 rfl rfl (hon 4 (by kernel_rfl)) rfl
          replace ha := Aside0.mk ha
          have B := Aside0.mk Q_B
          refine value_ (w1 := w') (v := .bool (!true)) (by rfl) rfl ?_ ?_
          · go_simp
            (try simp only [i64_w])
            try rfl
          refine hK.out _ _ ⟨(by rw [ha.out]; exact putSel_upk 5 hb_ rfl rfl rfl), Q_B⟩
        exact steps_nil
      rintro b a w' hall ⟨ha, Q_B⟩
      clear B
      have hb0_ := hall 0 (by kernel_rfl)
      have hb1_ := hall 1 (by kernel_rfl)
      have hb2_ := hall 2 (by kernel_rfl)
      have hb3_ := hall 3 (by kernel_rfl)
      have hb4_ := hall 4 (by kernel_rfl)
      have hb5_ := hall 5 (by kernel_rfl)
      subst ha
      simp only [putSel, hb0_, hb1_, hb2_, hb3_, hb4_, hb5_, if_true, Act.put, List.setIfInBounds_toArray, List.set_cons_zero, List.set_cons_succ]
      have B := Aside0.mk Q_B
      clear Q_B
      clear hall hb0_ hb1_ hb2_ hb3_ hb4_ hb5_
      have HB2 := Lib.hid (below_then HB.out (by have := blk_lt HXB.out; omega) B.out)
      have HXB2 := Lib.hid (blk_below HXB.out B.out)
      have V0 := Lib.hid (pw_cell_below B.out U0.out)
      have V10 := Lib.hid (pw_cell_below B.out U10.out)
      have V11 := Lib.hid (pw_cell_below B.out U11.out)
      have V12 := Lib.hid (pw_cell_below B.out U12.out)
      have V13 := Lib.hid (pw_cell_below B.out U13.out)
      have V14 := Lib.hid (pw_cell_below B.out U14.out)
      have k0 := V0.out
      have k10 := V10.out
      have k11 := V11.out
      have k12 := V12.out
      have k13 := V13.out
      have k14 := V14.out
      clear B V0 V10 V11 V12 V13 V14 U0 U10 U11 U12 U13 U14 HB HXB HBR HSM
      generalize w' = W at *
      go_wp2_with fail
      refine (isBeat_calls _ _).mono ?_
      rintro e w2 ⟨rfl, ⟨m2, rfl⟩⟩
      go_wp2
      go_ret
      exact ⟨rfl, by rw [hgb]; exact (pw_below_drewN HB2.out _)⟩
    by_cases c12 : 4096 < x.f12.length
    · have hcd : checkD x = 3 := by unfold checkD; rw [if_neg (by rw [hq]; decide), if_neg (fun e => h13 e.2), if_neg (fun e => e.1.elim (fun h => absurd (hk.symm.trans h) (by decide)) (fun h => absurd (hk.symm.trans h) (by decide))), if_pos (by omega)]
      rw [hcd]
      clear hcd
      have HBR := Lib.hid (fun (w' : World) (h : Below (w.alloc (.cells (CV x L) 30)).heap.size (w.alloc (.cells (CV x L) 30)) w') => bare_0 w' x L (hx.below (below_then (below_alloc (Below.refl _ _) _) (below_alloc (Below.refl _ _) _).size h)) hk)
      have HSM := Lib.hid (fun (w' : World) (h : Below (w.alloc (.cells (CV x L) 30)).heap.size (w.alloc (.cells (CV x L) 30)) w') => same_calls w' x (bareD x) L (keepL (hasF x.f0) L) (hx.below (below_then (below_alloc (Below.refl _ _) _) (below_alloc (Below.refl _ _) _).size h)) (keep_CR (hx.below (below_then (below_alloc (Below.refl _ _) _) (below_alloc (Below.refl _ _) _).size h)) _ _))
      have HXS := Lib.hid (show (Try.prog.info? 30).map (·.size) = some (CV x L).size by kernel_rfl)
      have HB := Lib.hid (below_alloc (Below.refl w.heap.size w) (.cells (CV x L) 30))
      have hxb := (show (w.alloc (.cells (CV x L) 30)).heap[w.heap.size]? = some (.cells (CV x L) 30 (0, 0)) from blk_new _ _)
      have HXB := Lib.hid hxb
      have U0 := Lib.hid ((blk_cell hxb 0).trans (show (CV x L)[0]? = some (.int .u8 x.f0) from rfl))
      have U10 := Lib.hid ((blk_cell hxb 10).trans (show (CV x L)[10]? = some (.slice L.A10 x.f10.length L.c10) from rfl))
      have U11 := Lib.hid ((blk_cell hxb 11).trans (show (CV x L)[11]? = some (.slice L.A11 x.f11.length L.c11) from rfl))
      have U12 := Lib.hid ((blk_cell hxb 12).trans (show (CV x L)[12]? = some (.slice L.A12 x.f12.length L.c12) from rfl))
      have U13 := Lib.hid ((blk_cell hxb 13).trans (show (CV x L)[13]? = some (.slice L.A13 x.f13.length L.c13) from rfl))
      have U14 := Lib.hid ((blk_cell hxb 14).trans (show (CV x L)[14]? = some (.slice L.A14 x.f14.length L.c14) from rfl))
      have HEN := Lib.hid (fun (w' : World) (h : Below w.heap.size w w') => encP_calls w' L.A14 L.c14 x.f14 (Kd.C_below hx.h14 h) hx.l14)
      have HXC := Lib.hid (fun (w' : World) (h : Below w.heap.size w w') => hx.below h)
      clear hxb
      rw [hq] at HSM
      rw [hk] at U0
      have q13 : (((x.f13.length : Nat) : Int) == 0) = false := by rw [beq_eq_false_iff_ne]; omega
      have g10 : ¬ (4096 : Int) < ((x.f10.length : Nat) : Int) := by omega
      have g11 : ¬ (4096 : Int) < ((x.f11.length : Nat) : Int) := by omega
      have g12 : (4096 : Int) < ((x.f12.length : Nat) : Int) := by omega
      generalize hCY : CV (bareD x) (keepL (hasF x.f0) L) = CY at *
      generalize hCX : CV x L = CX at *
      clear hCY hCX
      go_enter Try.func16, Try.ntmps16
      go_upto_region 1 with (fail)
      generalize w.alloc (.cells CX 30) = W at *
      generalize hgb : w.heap.size = gb at *
      have B := True.intro
      refine start_ (n := 6) (S := fun w' => True) (ds := []) #[false, false, false, false, false, false] (by kernel_rfl) rfl rfl trivial (fun hHeld => ?_)
      refine with_tabW checktab1 checkbits1 (fun HT_ HW_ => ?_)
      refine inv_at [0, 1, 2, 3, 4, 5] (fun a0_ b a w' => a = putSel a0_ b [(0, 6, .agg CX), (1, 7, .agg CX), (2, 8, .agg CY), (3, 9, .bool true), (4, 10, .bool (!true)), (5, 5, .bool (!true))] ∧ (Below W.heap.size W w')) HT_.out HW_.out (by kernel_rfl) (by kernel_rfl) ?_ ?_ ?_
      · exact ⟨by simp only [putSel, Bool.false_eq_true, if_false], below_drew (Below.refl _ _)⟩
      · skip
        clear B
        refine steps_cons ?_ ?_
        · rintro b a w' ⟨ha, Q_B⟩ hb_ hon hoff
          refine ⟨_, rfl, fun K hK => ?_⟩
          have e1 : a.tmps[1]? = some (.pointer (some ⟨gb, 0, none⟩)) := by rw [ha]; exact (putSel_off rfl).trans rfl
          replace ha := Aside0.mk ha
          have B := Aside0.mk Q_B
          refine value_ (w1 := w') (v := .agg CX) (by rfl) rfl (exec_load_row 30 (.tmp 1) rfl (eval_of e1) (blk_below HXB.out B.out) Try.underlying30 rfl HXS.out) ?_
          refine hK.out _ _ ⟨(by rw [ha.out]; exact putSel_upk 0 hb_ rfl rfl rfl), B.out⟩
        refine steps_cons ?_ ?_
        · rintro b a w' ⟨ha, Q_B⟩ hb_ hon hoff
          refine ⟨_, rfl, fun K hK => ?_⟩
          have e1 : a.tmps[1]? = some (.pointer (some ⟨gb, 0, none⟩)) := by rw [ha]; exact (putSel_off rfl).trans rfl
          replace ha := Aside0.mk ha
          have B := Aside0.mk Q_B
          refine value_ (w1 := w') (v := .agg CX) (by rfl) rfl (exec_load_row 30 (.tmp 1) rfl (eval_of e1) (blk_below HXB.out B.out) Try.underlying30 rfl HXS.out) ?_
          refine hK.out _ _ ⟨(by rw [ha.out]; exact putSel_upk 1 hb_ rfl rfl rfl), B.out⟩
        refine steps_cons ?_ ?_
        · rintro b a w' ⟨ha, Q_B⟩ hb_ hon hoff
          refine ⟨_, rfl, fun K hK => ?_⟩
          have e7 : a.tmps[7]? = some (.agg CX) := by rw [ha]; exact putSel_on (e := (1, 7, .agg CX)) 1 rfl rfl (hon 1 (by kernel_rfl)) rfl
          replace ha := Aside0.mk ha
          have B := Aside0.mk Q_B
          refine goes_ Try.func38 (by kernel_rfl) rfl #[.agg CX] (by rfl) rfl rfl (by first | (simp only [List.map_toArray, List.map_cons, List.map_nil, Act.eval, Array.getD_eq_getD_getElem?, Option.getD_some, e7]; done) | (simp only [List.map_toArray, List.map_cons, List.map_nil, Act.eval, Array.getD_eq_getD_getElem?, Option.getD_some, e7]; rfl)) ?_
          refine (HBR.out w' B.out).mono ?_
          rintro e w1 ⟨rfl, hB1⟩
          refine ⟨_, rfl, ?_⟩
          refine hK.out _ _ ⟨(by rw [ha.out]; exact putSel_upk 2 hb_ rfl rfl rfl), B.out.trans (hB1.mono B.out.size)⟩
        refine steps_cons ?_ ?_
        · rintro b a w' ⟨ha, Q_B⟩ hb_ hon hoff
          refine ⟨_, rfl, fun K hK => ?_⟩
          have e6 : a.tmps[6]? = some (.agg CX) := by rw [ha]; exact putSel_on (e := (0, 6, .agg CX)) 0 rfl rfl (hon 0 (by kernel_rfl)) rfl
          have e8 : a.tmps[8]? = some (.agg CY) := by rw [ha]; exact putSel_on (e := (2, 8, .agg CY)) 2 rfl rfl (hon 2 (by kernel_rfl)) rfl
          replace ha := Aside0.mk ha
          have B := Aside0.mk Q_B
          refine goes_ Try.func14 (by kernel_rfl) rfl #[.agg CX, .agg CY] (by rfl) rfl rfl (by first | (simp only [List.map_toArray, List.map_cons, List.map_nil, Act.eval, Array.getD_eq_getD_getElem?, Option.getD_some, e6, e8]; done) | (simp only [List.map_toArray, List.map_cons, List.map_nil, Act.eval, Array.getD_eq_getD_getElem?, Option.getD_some, e6, e8]; rfl)) ?_
          refine (HSM.out w' B.out).mono ?_
          rintro e w1 ⟨rfl, hB1⟩
          refine ⟨_, rfl, ?_⟩
          refine hK.out _ _ ⟨(by rw [ha.out]; exact putSel_upk 3 hb_ rfl rfl rfl), B.out.trans (hB1.mono B.out.size)⟩
        refine steps_cons ?_ ?_
        · rintro b a w' ⟨ha, Q_B⟩ hb_ hon hoff
          refine ⟨_, rfl, fun K hK => ?_⟩
          have e9 : a.tmps[9]? = some (.bool true) := by rw [ha]; exact putSel_on (e := (3, 9, .bool true)) 3 rfl rfl (hon 3 (by kernel_rfl)) rfl
          replace ha := Aside0.mk ha
          have B := Aside0.mk Q_B
          refine value_ (w1 := w') (v := .bool (!true)) (by rfl) rfl ?_ ?_
          · go_simp
            (try simp only [i64_w])
            try rfl
          refine hK.out _ _ ⟨(by rw [ha.out]; exact putSel_upk 4 hb_ rfl rfl rfl), Q_B⟩
        refine steps_cons ?_ ?_
        · rintro b a w' ⟨ha, Q_B⟩ hb_ hon hoff
          refine ⟨_, rfl, fun K hK => ?_⟩
          have e10 : a.tmps[10]? = some (.bool (!true)) := by rw [ha]; exact putSel_on (e := (4, 10, .bool (!true))) 4 rfl rfl (hon 4 (by kernel_rfl)) rfl
          replace ha := Aside0.mk ha
          have B := Aside0.mk Q_B
          refine value_ (w1 := w') (v := .bool (!true)) (by rfl) rfl ?_ ?_
          · go_simp
            (try simp only [i64_w])
            try rfl
          refine hK.out _ _ ⟨(by rw [ha.out]; exact putSel_upk 5 hb_ rfl rfl rfl), Q_B⟩
        exact steps_nil
      rintro b a w' hall ⟨ha, Q_B⟩
      clear B
      have hb0_ := hall 0 (by kernel_rfl)
      have hb1_ := hall 1 (by kernel_rfl)
      have hb2_ := hall 2 (by kernel_rfl)
      have hb3_ := hall 3 (by kernel_rfl)
      have hb4_ := hall 4 (by kernel_rfl)
      have hb5_ := hall 5 (by kernel_rfl)
      subst ha
      simp only [putSel, hb0_, hb1_, hb2_, hb3_, hb4_, hb5_, if_true, Act.put, List.setIfInBounds_toArray, List.set_cons_zero, List.set_cons_succ]
      have B := Aside0.mk Q_B
      clear Q_B
      clear hall hb0_ hb1_ hb2_ hb3_ hb4_ hb5_
      have HB2 := Lib.hid (below_then HB.out (by have := blk_lt HXB.out; omega) B.out)
      have HXB2 := Lib.hid (blk_below HXB.out B.out)
      have V0 := Lib.hid (pw_cell_below B.out U0.out)
      have V10 := Lib.hid (pw_cell_below B.out U10.out)
      have V11 := Lib.hid (pw_cell_below B.out U11.out)
      have V12 := Lib.hid (pw_cell_below B.out U12.out)
      have V13 := Lib.hid (pw_cell_below B.out U13.out)
      have V14 := Lib.hid (pw_cell_below B.out U14.out)
      have k0 := V0.out
      have k10 := V10.out
      have k11 := V11.out
      have k12 := V12.out
      have k13 := V13.out
      have k14 := V14.out
      clear B V0 V10 V11 V12 V13 V14 U0 U10 U11 U12 U13 U14 HB HXB HBR HSM
      generalize w' = W at *
      go_wp2_with fail
      refine (isBeat_calls _ _).mono ?_
      rintro e w2 ⟨rfl, ⟨m2, rfl⟩⟩
      go_wp2
      go_ret
      exact ⟨rfl, by rw [hgb]; exact (pw_below_drewN HB2.out _)⟩
    by_cases he : (encP x.f14).2 ≠ 0
    · have hcd : checkD x = (encP x.f14).2 := by unfold checkD; rw [if_neg (by rw [hq]; decide), if_neg (fun e => h13 e.2), if_neg (fun e => e.1.elim (fun h => absurd (hk.symm.trans h) (by decide)) (fun h => absurd (hk.symm.trans h) (by decide))), if_neg (by omega), if_pos he]
      rw [hcd]
      clear hcd
      have HBR := Lib.hid (fun (w' : World) (h : Below (w.alloc (.cells (CV x L) 30)).heap.size (w.alloc (.cells (CV x L) 30)) w') => bare_0 w' x L (hx.below (below_then (below_alloc (Below.refl _ _) _) (below_alloc (Below.refl _ _) _).size h)) hk)
      have HSM := Lib.hid (fun (w' : World) (h : Below (w.alloc (.cells (CV x L) 30)).heap.size (w.alloc (.cells (CV x L) 30)) w') => same_calls w' x (bareD x) L (keepL (hasF x.f0) L) (hx.below (below_then (below_alloc (Below.refl _ _) _) (below_alloc (Below.refl _ _) _).size h)) (keep_CR (hx.below (below_then (below_alloc (Below.refl _ _) _) (below_alloc (Below.refl _ _) _).size h)) _ _))
      have HXS := Lib.hid (show (Try.prog.info? 30).map (·.size) = some (CV x L).size by kernel_rfl)
      have HB := Lib.hid (below_alloc (Below.refl w.heap.size w) (.cells (CV x L) 30))
      have hxb := (show (w.alloc (.cells (CV x L) 30)).heap[w.heap.size]? = some (.cells (CV x L) 30 (0, 0)) from blk_new _ _)
      have HXB := Lib.hid hxb
      have U0 := Lib.hid ((blk_cell hxb 0).trans (show (CV x L)[0]? = some (.int .u8 x.f0) from rfl))
      have U10 := Lib.hid ((blk_cell hxb 10).trans (show (CV x L)[10]? = some (.slice L.A10 x.f10.length L.c10) from rfl))
      have U11 := Lib.hid ((blk_cell hxb 11).trans (show (CV x L)[11]? = some (.slice L.A11 x.f11.length L.c11) from rfl))
      have U12 := Lib.hid ((blk_cell hxb 12).trans (show (CV x L)[12]? = some (.slice L.A12 x.f12.length L.c12) from rfl))
      have U13 := Lib.hid ((blk_cell hxb 13).trans (show (CV x L)[13]? = some (.slice L.A13 x.f13.length L.c13) from rfl))
      have U14 := Lib.hid ((blk_cell hxb 14).trans (show (CV x L)[14]? = some (.slice L.A14 x.f14.length L.c14) from rfl))
      have HEN := Lib.hid (fun (w' : World) (h : Below w.heap.size w w') => encP_calls w' L.A14 L.c14 x.f14 (Kd.C_below hx.h14 h) hx.l14)
      have HXC := Lib.hid (fun (w' : World) (h : Below w.heap.size w w') => hx.below h)
      clear hxb
      rw [hq] at HSM
      rw [hk] at U0
      have q13 : (((x.f13.length : Nat) : Int) == 0) = false := by rw [beq_eq_false_iff_ne]; omega
      have g10 : ¬ (4096 : Int) < ((x.f10.length : Nat) : Int) := by omega
      have g11 : ¬ (4096 : Int) < ((x.f11.length : Nat) : Int) := by omega
      have g12 : ¬ (4096 : Int) < ((x.f12.length : Nat) : Int) := by omega
      have qe : ((encP x.f14).2 != 0) = true := by simpa using he
      generalize (encP x.f14).2 = ec at *
      generalize hCY : CV (bareD x) (keepL (hasF x.f0) L) = CY at *
      generalize hCX : CV x L = CX at *
      clear hCY hCX
      go_enter Try.func16, Try.ntmps16
      go_upto_region 1 with (fail)
      generalize w.alloc (.cells CX 30) = W at *
      generalize hgb : w.heap.size = gb at *
      have B := True.intro
      refine start_ (n := 6) (S := fun w' => True) (ds := []) #[false, false, false, false, false, false] (by kernel_rfl) rfl rfl trivial (fun hHeld => ?_)
      refine with_tabW checktab1 checkbits1 (fun HT_ HW_ => ?_)
      refine inv_at [0, 1, 2, 3, 4, 5] (fun a0_ b a w' => a = putSel a0_ b [(0, 6, .agg CX), (1, 7, .agg CX), (2, 8, .agg CY), (3, 9, .bool true), (4, 10, .bool (!true)), (5, 5, .bool (!true))] ∧ (Below W.heap.size W w')) HT_.out HW_.out (by kernel_rfl) (by kernel_rfl) ?_ ?_ ?_
      · exact ⟨by simp only [putSel, Bool.false_eq_true, if_false], below_drew (Below.refl _ _)⟩
      · skip
        clear B
        refine steps_cons ?_ ?_
        · rintro b a w' ⟨ha, Q_B⟩ hb_ hon hoff
          refine ⟨_, rfl, fun K hK => ?_⟩
          have e1 : a.tmps[1]? = some (.pointer (some ⟨gb, 0, none⟩)) := by rw [ha]; exact (putSel_off rfl).trans rfl
          replace ha := Aside0.mk ha
          have B := Aside0.mk Q_B
          refine value_ (w1 := w') (v := .agg CX) (by rfl) rfl (exec_load_row 30 (.tmp 1) rfl (eval_of e1) (blk_below HXB.out B.out) Try.underlying30 rfl HXS.out) ?_
          refine hK.out _ _ ⟨(by rw [ha.out]; exact putSel_upk 0 hb_ rfl rfl rfl), B.out⟩
        refine steps_cons ?_ ?_
        · rintro b a w' ⟨ha, Q_B⟩ hb_ hon hoff
          refine ⟨_, rfl, fun K hK => ?_⟩
          have e1 : a.tmps[1]? = some (.pointer (some ⟨gb, 0, none⟩)) := by rw [ha]; exact (putSel_off rfl).trans rfl
          replace ha := Aside0.mk ha
          have B := Aside0.mk Q_B
          refine value_ (w1 := w') (v := .agg CX) (by rfl) rfl (exec_load_row 30 (.tmp 1) rfl (eval_of e1) (blk_below HXB.out B.out) Try.underlying30 rfl HXS.out) ?_
          refine hK.out _ _ ⟨(by rw [ha.out]; exact putSel_upk 1 hb_ rfl rfl rfl), B.out⟩
        refine steps_cons ?_ ?_
        · rintro b a w' ⟨ha, Q_B⟩ hb_ hon hoff
          refine ⟨_, rfl, fun K hK => ?_⟩
          have e7 : a.tmps[7]? = some (.agg CX) := by rw [ha]; exact putSel_on (e := (1, 7, .agg CX)) 1 rfl rfl (hon 1 (by kernel_rfl)) rfl
          replace ha := Aside0.mk ha
          have B := Aside0.mk Q_B
          refine goes_ Try.func38 (by kernel_rfl) rfl #[.agg CX] (by rfl) rfl rfl (by first | (simp only [List.map_toArray, List.map_cons, List.map_nil, Act.eval, Array.getD_eq_getD_getElem?, Option.getD_some, e7]; done) | (simp only [List.map_toArray, List.map_cons, List.map_nil, Act.eval, Array.getD_eq_getD_getElem?, Option.getD_some, e7]; rfl)) ?_
          refine (HBR.out w' B.out).mono ?_
          rintro e w1 ⟨rfl, hB1⟩
          refine ⟨_, rfl, ?_⟩
          refine hK.out _ _ ⟨(by rw [ha.out]; exact putSel_upk 2 hb_ rfl rfl rfl), B.out.trans (hB1.mono B.out.size)⟩
        refine steps_cons ?_ ?_
        · rintro b a w' ⟨ha, Q_B⟩ hb_ hon hoff
          refine ⟨_, rfl, fun K hK => ?_⟩
          have e6 : a.tmps[6]? = some (.agg CX) := by rw [ha]; exact putSel_on (e := (0, 6, .agg CX)) 0 rfl rfl (hon 0 (by kernel_rfl)) rfl
          have e8 : a.tmps[8]? = some (.agg CY) := by rw [ha]; exact putSel_on (e := (2, 8, .agg CY)) 2 rfl rfl (hon 2 (by kernel_rfl)) rfl
          replace ha := Aside0.mk ha
          have B := Aside0.mk Q_B
          refine goes_ Try.func14 (by kernel_rfl) rfl #[.agg CX, .agg CY] (by rfl) rfl rfl (by first | (simp only [List.map_toArray, List.map_cons, List.map_nil, Act.eval, Array.getD_eq_getD_getElem?, Option.getD_some, e6, e8]; done) | (simp only [List.map_toArray, List.map_cons, List.map_nil, Act.eval, Array.getD_eq_getD_getElem?, Option.getD_some, e6, e8]; rfl)) ?_
          refine (HSM.out w' B.out).mono ?_
          rintro e w1 ⟨rfl, hB1⟩
          refine ⟨_, rfl, ?_⟩
          refine hK.out _ _ ⟨(by rw [ha.out]; exact putSel_upk 3 hb_ rfl rfl rfl), B.out.trans (hB1.mono B.out.size)⟩
        refine steps_cons ?_ ?_
        · rintro b a w' ⟨ha, Q_B⟩ hb_ hon hoff
          refine ⟨_, rfl, fun K hK => ?_⟩
          have e9 : a.tmps[9]? = some (.bool true) := by rw [ha]; exact putSel_on (e := (3, 9, .bool true)) 3 rfl rfl (hon 3 (by kernel_rfl)) rfl
          replace ha := Aside0.mk ha
          have B := Aside0.mk Q_B
          refine value_ (w1 := w') (v := .bool (!true)) (by rfl) rfl ?_ ?_
          · go_simp
            (try simp only [i64_w])
            try rfl
          refine hK.out _ _ ⟨(by rw [ha.out]; exact putSel_upk 4 hb_ rfl rfl rfl), Q_B⟩
        refine steps_cons ?_ ?_
        · rintro b a w' ⟨ha, Q_B⟩ hb_ hon hoff
          refine ⟨_, rfl, fun K hK => ?_⟩
          have e10 : a.tmps[10]? = some (.bool (!true)) := by rw [ha]; exact putSel_on (e := (4, 10, .bool (!true))) 4 rfl rfl (hon 4 (by kernel_rfl)) rfl
          replace ha := Aside0.mk ha
          have B := Aside0.mk Q_B
          refine value_ (w1 := w') (v := .bool (!true)) (by rfl) rfl ?_ ?_
          · go_simp
            (try simp only [i64_w])
            try rfl
          refine hK.out _ _ ⟨(by rw [ha.out]; exact putSel_upk 5 hb_ rfl rfl rfl), Q_B⟩
        exact steps_nil
      rintro b a w' hall ⟨ha, Q_B⟩
      clear B
      have hb0_ := hall 0 (by kernel_rfl)
      have hb1_ := hall 1 (by kernel_rfl)
      have hb2_ := hall 2 (by kernel_rfl)
      have hb3_ := hall 3 (by kernel_rfl)
      have hb4_ := hall 4 (by kernel_rfl)
      have hb5_ := hall 5 (by kernel_rfl)
      subst ha
      simp only [putSel, hb0_, hb1_, hb2_, hb3_, hb4_, hb5_, if_true, Act.put, List.setIfInBounds_toArray, List.set_cons_zero, List.set_cons_succ]
      have B := Aside0.mk Q_B
      clear Q_B
      clear hall hb0_ hb1_ hb2_ hb3_ hb4_ hb5_
      have HB2 := Lib.hid (below_then HB.out (by have := blk_lt HXB.out; omega) B.out)
      have HXB2 := Lib.hid (blk_below HXB.out B.out)
      have V0 := Lib.hid (pw_cell_below B.out U0.out)
      have V10 := Lib.hid (pw_cell_below B.out U10.out)
      have V11 := Lib.hid (pw_cell_below B.out U11.out)
      have V12 := Lib.hid (pw_cell_below B.out U12.out)
      have V13 := Lib.hid (pw_cell_below B.out U13.out)
      have V14 := Lib.hid (pw_cell_below B.out U14.out)
      have k0 := V0.out
      have k10 := V10.out
      have k11 := V11.out
      have k12 := V12.out
      have k13 := V13.out
      have k14 := V14.out
      clear B V0 V10 V11 V12 V13 V14 U0 U10 U11 U12 U13 U14 HB HXB HBR HSM
      generalize w' = W at *
      go_wp2_with fail
      refine (isBeat_calls _ _).mono ?_
      rintro e w2 ⟨rfl, ⟨m2, rfl⟩⟩
      go_wp2_with fail
      refine (HEN.out _ (pw_below_drewN HB2.out _)).mono ?_
      rintro e w3 ⟨v0, rfl, hR, hB3⟩
      obtain ⟨A0, c0, rfl⟩ := Kd.R_slice hR
      have HB4 := Lib.hid (below_then (pw_below_drewN HB2.out _) (by rw [← hgb]; exact (pw_below_drewN HB2.out _).size) hB3)
      have HXB3 := Lib.hid (blk_below (blk_drewN HXB2.out _) hB3)
      clear hR hB3
      go_wp2
      go_ret
      exact ⟨rfl, by rw [hgb]; exact HB4.out⟩
    have he0 : (encP x.f14).2 = 0 := Decidable.byContradiction he
    by_cases hbig : 65531 < (valueD x).length
    · have hcd : checkD x = 2 := by unfold checkD; rw [if_neg (by rw [hq]; decide), if_neg (fun e => h13 e.2), if_neg (fun e => e.1.elim (fun h => absurd (hk.symm.trans h) (by decide)) (fun h => absurd (hk.symm.trans h) (by decide))), if_neg (by omega), if_neg he, if_pos hbig]
      rw [hcd]
      clear hcd
      have HBR := Lib.hid (fun (w' : World) (h : Below (w.alloc (.cells (CV x L) 30)).heap.size (w.alloc (.cells (CV x L) 30)) w') => bare_0 w' x L (hx.below (below_then (below_alloc (Below.refl _ _) _) (below_alloc (Below.refl _ _) _).size h)) hk)
      have HSM := Lib.hid (fun (w' : World) (h : Below (w.alloc (.cells (CV x L) 30)).heap.size (w.alloc (.cells (CV x L) 30)) w') => same_calls w' x (bareD x) L (keepL (hasF x.f0) L) (hx.below (below_then (below_alloc (Below.refl _ _) _) (below_alloc (Below.refl _ _) _).size h)) (keep_CR (hx.below (below_then (below_alloc (Below.refl _ _) _) (below_alloc (Below.refl _ _) _).size h)) _ _))
      have HXS := Lib.hid (show (Try.prog.info? 30).map (·.size) = some (CV x L).size by kernel_rfl)
      have HB := Lib.hid (below_alloc (Below.refl w.heap.size w) (.cells (CV x L) 30))
      have hxb := (show (w.alloc (.cells (CV x L) 30)).heap[w.heap.size]? = some (.cells (CV x L) 30 (0, 0)) from blk_new _ _)
      have HXB := Lib.hid hxb
      have U0 := Lib.hid ((blk_cell hxb 0).trans (show (CV x L)[0]? = some (.int .u8 x.f0) from rfl))
      have U10 := Lib.hid ((blk_cell hxb 10).trans (show (CV x L)[10]? = some (.slice L.A10 x.f10.length L.c10) from rfl))
      have U11 := Lib.hid ((blk_cell hxb 11).trans (show (CV x L)[11]? = some (.slice L.A11 x.f11.length L.c11) from rfl))
      have U12 := Lib.hid ((blk_cell hxb 12).trans (show (CV x L)[12]? = some (.slice L.A12 x.f12.length L.c12) from rfl))
      have U13 := Lib.hid ((blk_cell hxb 13).trans (show (CV x L)[13]? = some (.slice L.A13 x.f13.length L.c13) from rfl))
      have U14 := Lib.hid ((blk_cell hxb 14).trans (show (CV x L)[14]? = some (.slice L.A14 x.f14.length L.c14) from rfl))
      have HEN := Lib.hid (fun (w' : World) (h : Below w.heap.size w w') => encP_calls w' L.A14 L.c14 x.f14 (Kd.C_below hx.h14 h) hx.l14)
      have HXC := Lib.hid (fun (w' : World) (h : Below w.heap.size w w') => hx.below h)
      clear hxb
      rw [hq] at HSM
      rw [hk] at U0
      have q13 : (((x.f13.length : Nat) : Int) == 0) = false := by rw [beq_eq_false_iff_ne]; omega
      have g10 : ¬ (4096 : Int) < ((x.f10.length : Nat) : Int) := by omega
      have g11 : ¬ (4096 : Int) < ((x.f11.length : Nat) : Int) := by omega
      have g12 : ¬ (4096 : Int) < ((x.f12.length : Nat) : Int) := by omega
      have HVL := Lib.hid (fun (w' : World) (h : CR w' x L) => hv w' h HXE.out (by omega) (by omega) (by omega) he0)
      unfold ValP at HVL
      rw [he0] at HEN
      have qv : (65531 : Int) < (((valueD x).length : Nat) : Int) := by omega
      generalize (valueD x).length = nv at *
      generalize hCY : CV (bareD x) (keepL (hasF x.f0) L) = CY at *
      generalize hCX : CV x L = CX at *
      clear hCY hCX
      go_enter Try.func16, Try.ntmps16
      go_upto_region 1 with (fail)
      generalize w.alloc (.cells CX 30) = W at *
      generalize hgb : w.heap.size = gb at *
      have B := True.intro
      refine start_ (n := 6) (S := fun w' => True) (ds := []) #[false, false, false, false, false, false] (by kernel_rfl) rfl rfl trivial (fun hHeld => ?_)
      refine with_tabW checktab1 checkbits1 (fun HT_ HW_ => ?_)
      refine inv_at [0, 1, 2, 3, 4, 5] (fun a0_ b a w' => a = putSel a0_ b [(0, 6, .agg CX), (1, 7, .agg CX), (2, 8, .agg CY), (3, 9, .bool true), (4, 10, .bool (!true)), (5, 5, .bool (!true))] ∧ (Below W.heap.size W w')) HT_.out HW_.out (by kernel_rfl) (by kernel_rfl) ?_ ?_ ?_
      · exact ⟨by simp only [putSel, Bool.false_eq_true, if_false], below_drew (Below.refl _ _)⟩
      · skip
        clear B
        refine steps_cons ?_ ?_
        · rintro b a w' ⟨ha, Q_B⟩ hb_ hon hoff
          refine ⟨_, rfl, fun K hK => ?_⟩
          have e1 : a.tmps[1]? = some (.pointer (some ⟨gb, 0, none⟩)) := by rw [ha]; exact (putSel_off rfl).trans rfl
          replace ha := Aside0.mk ha
          have B := Aside0.mk Q_B
          refine value_ (w1 := w') (v := .agg CX) (by rfl) rfl (exec_load_row 30 (.tmp 1) rfl (eval_of e1) (blk_below HXB.out B.out) Try.underlying30 rfl HXS.out) ?_
          refine hK.out _ _ ⟨(by rw [ha.out]; exact putSel_upk 0 hb_ rfl rfl rfl), B.out⟩
        refine steps_cons ?_ ?_
        · rintro b a w' ⟨ha, Q_B⟩ hb_ hon hoff
          refine ⟨_, rfl, fun K hK => ?_⟩
          have e1 : a.tmps[1]? = some (.pointer (some ⟨gb, 0, none⟩)) := by rw [ha]; exact (putSel_off rfl).trans rfl
          replace ha := Aside0.mk ha
          have B := Aside0.mk Q_B
          refine value_ (w1 := w') (v := .agg CX) (by rfl) rfl (exec_load_row 30 (.tmp 1) rfl (eval_of e1) (blk_below HXB.out B.out) Try.underlying30 rfl HXS.out) ?_
          refine hK.out _ _ ⟨(by rw [ha.out]; exact putSel_upk 1 hb_ rfl rfl rfl), B.out⟩
        refine steps_cons ?_ ?_
        · rintro b a w' ⟨ha, Q_B⟩ hb_ hon hoff
          refine ⟨_, rfl, fun K hK => ?_⟩
          have e7 : a.tmps[7]? = some (.agg CX) := by rw [ha]; exact putSel_on (e := (1, 7, .agg CX)) 1 rfl rfl (hon 1 (by kernel_rfl)) rfl
          replace ha := Aside0.mk ha
          have B := Aside0.mk Q_B
          refine goes_ Try.func38 (by kernel_rfl) rfl #[.agg CX] (by rfl) rfl rfl (by first | (simp only [List.map_toArray, List.map_cons, List.map_nil, Act.eval, Array.getD_eq_getD_getElem?, Option.getD_some, e7]; done) | (simp only [List.map_toArray, List.map_cons, List.map_nil, Act.eval, Array.getD_eq_getD_getElem?, Option.getD_some, e7]; rfl)) ?_
          refine (HBR.out w' B.out).mono ?_
          rintro e w1 ⟨rfl, hB1⟩
          refine ⟨_, rfl, ?_⟩
          refine hK.out _ _ ⟨(by rw [ha.out]; exact putSel_upk 2 hb_ rfl rfl rfl), B.out.trans (hB1.mono B.out.size)⟩
        refine steps_cons ?_ ?_
        · rintro b a w' ⟨ha, Q_B⟩ hb_ hon hoff
          refine ⟨_, rfl, fun K hK => ?_⟩
          have e6 : a.tmps[6]? = some (.agg CX) := by rw [ha]; exact putSel_on (e := (0, 6, .agg CX)) 0 rfl rfl (hon 0 (by kernel_rfl)) rfl
          have e8 : a.tmps[8]? = some (.agg CY) := by rw [ha]; exact putSel_on (e := (2, 8, .agg CY)) 2 rfl rfl (hon 2 (by kernel_rfl)) rfl
          replace ha := Aside0.mk ha
          have B := Aside0.mk Q_B
          refine goes_ Try.func14 (by kernel_rfl) rfl #[.agg CX, .agg CY] (by rfl) rfl rfl (by first | (simp only [List.map_toArray, List.map_cons, List.map_nil, Act.eval, Array.getD_eq_getD_getElem?, Option.getD_some, e6, e8]; done) | (simp only [List.map_toArray, List.map_cons, List.map_nil, Act.eval, Array.getD_eq_getD_getElem?, Option.getD_some, e6, e8]; rfl)) ?_
          refine (HSM.out w' B.out).mono ?_
          rintro e w1 ⟨rfl, hB1⟩
          refine ⟨_, rfl, ?_⟩
          refine hK.out _ _ ⟨(by rw [ha.out]; exact putSel_upk 3 hb_ rfl rfl rfl), B.out.trans (hB1.mono B.out.size)⟩
        refine steps_cons ?_ ?_
        · rintro b a w' ⟨ha, Q_B⟩ hb_ hon hoff
          refine ⟨_, rfl, fun K hK => ?_⟩
          have e9 : a.tmps[9]? = some (.bool true) := by rw [ha]; exact putSel_on (e := (3, 9, .bool true)) 3 rfl rfl (hon 3 (by kernel_rfl)) rfl
          replace ha := Aside0.mk ha
          have B := Aside0.mk Q_B
          refine value_ (w1 := w') (v := .bool (!true)) (by rfl) rfl ?_ ?_
          · go_simp
            (try simp only [i64_w])
            try rfl
          refine hK.out _ _ ⟨(by rw [ha.out]; exact putSel_upk 4 hb_ rfl rfl rfl), Q_B⟩
        refine steps_cons ?_ ?_
        · rintro b a w' ⟨ha, Q_B⟩ hb_ hon hoff
          refine ⟨_, rfl, fun K hK => ?_⟩
          have e10 : a.tmps[10]? = some (.bool (!true)) := by rw [ha]; exact putSel_on (e := (4, 10, .bool (!true))) 4 rfl rfl (hon 4 (by kernel_rfl)) rfl
          replace ha := Aside0.mk ha
          have B := Aside0.mk Q_B
          refine value_ (w1 := w') (v := .bool (!true)) (by rfl) rfl ?_ ?_
          · go_simp
            (try simp only [i64_w])
            try rfl
          refine hK.out _ _ ⟨(by rw [ha.out]; exact putSel_upk 5 hb_ rfl rfl rfl), Q_B⟩
        exact steps_nil
      rintro b a w' hall ⟨ha, Q_B⟩
      clear B
      have hb0_ := hall 0 (by kernel_rfl)
      have hb1_ := hall 1 (by kernel_rfl)
      have hb2_ := hall 2 (by kernel_rfl)
      have hb3_ := hall 3 (by kernel_rfl)
      have hb4_ := hall 4 (by kernel_rfl)
      have hb5_ := hall 5 (by kernel_rfl)
      subst ha
      simp only [putSel, hb0_, hb1_, hb2_, hb3_, hb4_, hb5_, if_true, Act.put, List.setIfInBounds_toArray, List.set_cons_zero, List.set_cons_succ]
      have B := Aside0.mk Q_B
      clear Q_B
      clear hall hb0_ hb1_ hb2_ hb3_ hb4_ hb5_
      have HB2 := Lib.hid (below_then HB.out (by have := blk_lt HXB.out; omega) B.out)
      have HXB2 := Lib.hid (blk_below HXB.out B.out)
      have V0 := Lib.hid (pw_cell_below B.out U0.out)
      have V10 := Lib.hid (pw_cell_below B.out U10.out)
      have V11 := Lib.hid (pw_cell_below B.out U11.out)
      have V12 := Lib.hid (pw_cell_below B.out U12.out)
      have V13 := Lib.hid (pw_cell_below B.out U13.out)
      have V14 := Lib.hid (pw_cell_below B.out U14.out)
      have k0 := V0.out
      have k10 := V10.out
      have k11 := V11.out
      have k12 := V12.out
      have k13 := V13.out
      have k14 := V14.out
      clear B V0 V10 V11 V12 V13 V14 U0 U10 U11 U12 U13 U14 HB HXB HBR HSM
      generalize w' = W at *
      go_wp2_with fail
      refine (isBeat_calls _ _).mono ?_
      rintro e w2 ⟨rfl, ⟨m2, rfl⟩⟩
      go_wp2_with fail
      refine (HEN.out _ (pw_below_drewN HB2.out _)).mono ?_
      rintro e w3 ⟨v0, rfl, hR, hB3⟩
      obtain ⟨A0, c0, rfl⟩ := Kd.R_slice hR
      have HB4 := Lib.hid (below_then (pw_below_drewN HB2.out _) (by rw [← hgb]; exact (pw_below_drewN HB2.out _).size) hB3)
      have HXB3 := Lib.hid (blk_below (blk_drewN HXB2.out _) hB3)
      clear hR hB3
      go_wp2_with (refine wpList_load_row rfl 30 _ rfl gb rfl 30 CX (0, 0) _ HXB3.out Try.underlying30 rfl HXS.out ?_)
      refine (HVL.out _ (HXC.out _ HB4.out)).mono ?_
      rintro e w5 ⟨A9, c9, rfl, hle9, hC9, hB5⟩
      have HB5 := Lib.hid (below_then HB4.out (by rw [← hgb]; exact HB4.out.size) hB5)
      clear hC9 hB5
      go_wp2
      go_ret
      exact ⟨rfl, by rw [hgb]; exact HB5.out⟩
    · have hcd : checkD x = 0 := by unfold checkD; rw [if_neg (by rw [hq]; decide), if_neg (fun e => h13 e.2), if_neg (fun e => e.1.elim (fun h => absurd (hk.symm.trans h) (by decide)) (fun h => absurd (hk.symm.trans h) (by decide))), if_neg (by omega), if_neg he, if_neg hbig]
      rw [hcd]
      clear hcd
      have HBR := Lib.hid (fun (w' : World) (h : Below (w.alloc (.cells (CV x L) 30)).heap.size (w.alloc (.cells (CV x L) 30)) w') => bare_0 w' x L (hx.below (below_then (below_alloc (Below.refl _ _) _) (below_alloc (Below.refl _ _) _).size h)) hk)
      have HSM := Lib.hid (fun (w' : World) (h : Below (w.alloc (.cells (CV x L) 30)).heap.size (w.alloc (.cells (CV x L) 30)) w') => same_calls w' x (bareD x) L (keepL (hasF x.f0) L) (hx.below (below_then (below_alloc (Below.refl _ _) _) (below_alloc (Below.refl _ _) _).size h)) (keep_CR (hx.below (below_then (below_alloc (Below.refl _ _) _) (below_alloc (Below.refl _ _) _).size h)) _ _))
      have HXS := Lib.hid (show (Try.prog.info? 30).map (·.size) = some (CV x L).size by kernel_rfl)
      have HB := Lib.hid (below_alloc (Below.refl w.heap.size w) (.cells (CV x L) 30))
      have hxb := (show (w.alloc (.cells (CV x L) 30)).heap[w.heap.size]? = some (.cells (CV x L) 30 (0, 0)) from blk_new _ _)
      have HXB := Lib.hid hxb
      have U0 := Lib.hid ((blk_cell hxb 0).trans (show (CV x L)[0]? = some (.int .u8 x.f0) from rfl))
      have U10 := Lib.hid ((blk_cell hxb 10).trans (show (CV x L)[10]? = some (.slice L.A10 x.f10.length L.c10) from rfl))
      have U11 := Lib.hid ((blk_cell hxb 11).trans (show (CV x L)[11]? = some (.slice L.A11 x.f11.length L.c11) from rfl))
      have U12 := Lib.hid ((blk_cell hxb 12).trans (show (CV x L)[12]? = some (.slice L.A12 x.f12.length L.c12) from rfl))
      have U13 := Lib.hid ((blk_cell hxb 13).trans (show (CV x L)[13]? = some (.slice L.A13 x.f13.length L.c13) from rfl))
      have U14 := Lib.hid ((blk_cell hxb 14).trans (show (CV x L)[14]? = some (.slice L.A14 x.f14.length L.c14) from rfl))
      have HEN := Lib.hid (fun (w' : World) (h : Below w.heap.size w w') => encP_calls w' L.A14 L.c14 x.f14 (Kd.C_below hx.h14 h) hx.l14)
      have HXC := Lib.hid (fun (w' : World) (h : Below w.heap.size w w') => hx.below h)
      clear hxb
      rw [hq] at HSM
      rw [hk] at U0
      have q13 : (((x.f13.length : Nat) : Int) == 0) = false := by rw [beq_eq_false_iff_ne]; omega
      have g10 : ¬ (4096 : Int) < ((x.f10.length : Nat) : Int) := by omega
      have g11 : ¬ (4096 : Int) < ((x.f11.length : Nat) : Int) := by omega
      have g12 : ¬ (4096 : Int) < ((x.f12.length : Nat) : Int) := by omega
      have HVL := Lib.hid (fun (w' : World) (h : CR w' x L) => hv w' h HXE.out (by omega) (by omega) (by omega) he0)
      unfold ValP at HVL
      rw [he0] at HEN
      have qv : ¬ (65531 : Int) < (((valueD x).length : Nat) : Int) := by omega
      generalize (valueD x).length = nv at *
      generalize hCY : CV (bareD x) (keepL (hasF x.f0) L) = CY at *
      generalize hCX : CV x L = CX at *
      clear hCY hCX
      go_enter Try.func16, Try.ntmps16
      go_upto_region 1 with (fail)
      generalize w.alloc (.cells CX 30) = W at *
      generalize hgb : w.heap.size = gb at *
      have B := True.intro
      refine start_ (n := 6) (S := fun w' => True) (ds := []) #[false, false, false, false, false, false] (by kernel_rfl) rfl rfl trivial (fun hHeld => ?_)
      refine with_tabW checktab1 checkbits1 (fun HT_ HW_ => ?_)
      refine inv_at [0, 1, 2, 3, 4, 5] (fun a0_ b a w' => a = putSel a0_ b [(0, 6, .agg CX), (1, 7, .agg CX), (2, 8, .agg CY), (3, 9, .bool true), (4, 10, .bool (!true)), (5, 5, .bool (!true))] ∧ (Below W.heap.size W w')) HT_.out HW_.out (by kernel_rfl) (by kernel_rfl) ?_ ?_ ?_
      · exact ⟨by simp only [putSel, Bool.false_eq_true, if_false], below_drew (Below.refl _ _)⟩
      · skip
        clear B
        refine steps_cons ?_ ?_
        · rintro b a w' ⟨ha, Q_B⟩ hb_ hon hoff
          refine ⟨_, rfl, fun K hK => ?_⟩
          have e1 : a.tmps[1]? = some (.pointer (some ⟨gb, 0, none⟩)) := by rw [ha]; exact (putSel_off rfl).trans rfl
          replace ha := Aside0.mk ha
          have B := Aside0.mk Q_B
          refine value_ (w1 := w') (v := .agg CX) (by rfl) rfl (exec_load_row 30 (.tmp 1) rfl (eval_of e1) (blk_below HXB.out B.out) Try.underlying30 rfl HXS.out) ?_
          refine hK.out _ _ ⟨(by rw [ha.out]; exact putSel_upk 0 hb_ rfl rfl rfl), B.out⟩
        refine steps_cons ?_ ?_
        · rintro b a w' ⟨ha, Q_B⟩ hb_ hon hoff
          refine ⟨_, rfl, fun K hK => ?_⟩
          have e1 : a.tmps[1]? = some (.pointer (some ⟨gb, 0, none⟩)) := by rw [ha]; exact (putSel_off rfl).trans rfl
          replace ha := Aside0.mk ha
          have B := Aside0.mk Q_B
          refine value_ (w1 := w') (v := .agg CX) (by rfl) rfl (exec_load_row 30 (.tmp 1) rfl (eval_of e1) (blk_below HXB.out B.out) Try.underlying30 rfl HXS.out) ?_
          refine hK.out _ _ ⟨(by rw [ha.out]; exact putSel_upk 1 hb_ rfl rfl rfl), B.out⟩
        refine steps_cons ?_ ?_
        · rintro b a w' ⟨ha, Q_B⟩ hb_ hon hoff
          refine ⟨_, rfl, fun K hK => ?_⟩
          have e7 : a.tmps[7]? = some (.agg CX) := by rw [ha]; exact putSel_on (e := (1, 7, .agg CX)) 1 rfl rfl (hon 1 (by kernel_rfl)) rfl
          replace ha := Aside0.mk ha
          have B := Aside0.mk Q_B
          refine goes_ Try.func38 (by kernel_rfl) rfl #[.agg CX] (by rfl) rfl rfl (by first | (simp only [List.map_toArray, List.map_cons, List.map_nil, Act.eval, Array.getD_eq_getD_getElem?, Option.getD_some, e7]; done) | (simp only [List.map_toArray, List.map_cons, List.map_nil, Act.eval, Array.getD_eq_getD_getElem?, Option.getD_some, e7]; rfl)) ?_
          refine (HBR.out w' B.out).mono ?_
          rintro e w1 ⟨rfl, hB1⟩
          refine ⟨_, rfl, ?_⟩
          refine hK.out _ _ ⟨(by rw [ha.out]; exact putSel_upk 2 hb_ rfl rfl rfl), B.out.trans (hB1.mono B.out.size)⟩
        refine steps_cons ?_ ?_
        · rintro b a w' ⟨ha, Q_B⟩ hb_ hon hoff
          refine ⟨_, rfl, fun K hK => ?_⟩
          have e6 : a.tmps[6]? = some (.agg CX) := by rw [ha]; exact putSel_on (e := (0, 6, .agg CX)) 0 rfl rfl (hon 0 (by kernel_rfl)) rfl
          have e8 : a.tmps[8]? = some (.agg CY) := by rw [ha]; exact putSel_on (e := (2, 8, .agg CY)) 2 rfl rfl (hon 2 (by kernel_rfl)) rfl
          replace ha := Aside0.mk ha
          have B := Aside0.mk Q_B
          refine goes_ Try.func14 (by kernel_rfl) rfl #[.agg CX, .agg CY] (by rfl) rfl rfl (by first | (simp only [List.map_toArray, List.map_cons, List.map_nil, Act.eval, Array.getD_eq_getD_getElem?, Option.getD_some, e6, e8]; done) | (simp only [List.map_toArray, List.map_cons, List.map_nil, Act.eval, Array.getD_eq_getD_getElem?, Option.getD_some, e6, e8]; rfl)) ?_
          refine (HSM.out w' B.out).mono ?_
          rintro e w1 ⟨rfl, hB1⟩
          refine ⟨_, rfl, ?_⟩
          refine hK.out _ _ ⟨(by rw [ha.out]; exact putSel_upk 3 hb_ rfl rfl rfl), B.out.trans (hB1.mono B.out.size)⟩
        refine steps_cons ?_ ?_
        · rintro b a w' ⟨ha, Q_B⟩ hb_ hon hoff
          refine ⟨_, rfl, fun K hK => ?_⟩
          have e9 : a.tmps[9]? = some (.bool true) := by rw [ha]; exact putSel_on (e := (3, 9, .bool true)) 3 rfl rfl (hon 3 (by kernel_rfl)) rfl
          replace ha := Aside0.mk ha
          have B := Aside0.mk Q_B
          refine value_ (w1 := w') (v := .bool (!true)) (by rfl) rfl ?_ ?_
          · go_simp
            (try simp only [i64_w])
            try rfl
          refine hK.out _ _ ⟨(by rw [ha.out]; exact putSel_upk 4 hb_ rfl rfl rfl), Q_B⟩
        refine steps_cons ?_ ?_
        · rintro b a w' ⟨ha, Q_B⟩ hb_ hon hoff
          refine ⟨_, rfl, fun K hK => ?_⟩
          have e10 : a.tmps[10]? = some (.bool (!true)) := by rw [ha]; exact putSel_on (e := (4, 10, .bool (!true))) 4 rfl rfl (hon 4 (by kernel_rfl)) rfl
          replace ha := Aside0.mk ha
          have B := Aside0.mk Q_B
          refine value_ (w1 := w') (v := .bool (!true)) (by rfl) rfl ?_ ?_
          · go_simp
            (try simp only [i64_w])
            try rfl
          refine hK.out _ _ ⟨(by rw [ha.out]; exact putSel_upk 5 hb_ rfl rfl rfl), Q_B⟩
        exact steps_nil
      rintro b a w' hall ⟨ha, Q_B⟩
      clear B
      have hb0_ := hall 0 (by kernel_rfl)
      have hb1_ := hall 1 (by kernel_rfl)
      have hb2_ := hall 2 (by kernel_rfl)
      have hb3_ := hall 3 (by kernel_rfl)
      have hb4_ := hall 4 (by kernel_rfl)
      have hb5_ := hall 5 (by kernel_rfl)
      subst ha
      simp only [putSel, hb0_, hb1_, hb2_, hb3_, hb4_, hb5_, if_true, Act.put, List.setIfInBounds_toArray, List.set_cons_zero, List.set_cons_succ]
      have B := Aside0.mk Q_B
      clear Q_B
      clear hall hb0_ hb1_ hb2_ hb3_ hb4_ hb5_
      have HB2 := Lib.hid (below_then HB.out (by have := blk_lt HXB.out; omega) B.out)
      have HXB2 := Lib.hid (blk_below HXB.out B.out)
      have V0 := Lib.hid (pw_cell_below B.out U0.out)
      have V10 := Lib.hid (pw_cell_below B.out U10.out)
      have V11 := Lib.hid (pw_cell_below B.out U11.out)
      have V12 := Lib.hid (pw_cell_below B.out U12.out)
      have V13 := Lib.hid (pw_cell_below B.out U13.out)
      have V14 := Lib.hid (pw_cell_below B.out U14.out)
      have k0 := V0.out
      have k10 := V10.out
      have k11 := V11.out
      have k12 := V12.out
      have k13 := V13.out
      have k14 := V14.out
      clear B V0 V10 V11 V12 V13 V14 U0 U10 U11 U12 U13 U14 HB HXB HBR HSM
      generalize w' = W at *
      go_wp2_with fail
      refine (isBeat_calls _ _).mono ?_
      rintro e w2 ⟨rfl, ⟨m2, rfl⟩⟩
      go_wp2_with fail
      refine (HEN.out _ (pw_below_drewN HB2.out _)).mono ?_
      rintro e w3 ⟨v0, rfl, hR, hB3⟩
      obtain ⟨A0, c0, rfl⟩ := Kd.R_slice hR
      have HB4 := Lib.hid (below_then (pw_below_drewN HB2.out _) (by rw [← hgb]; exact (pw_below_drewN HB2.out _).size) hB3)
      have HXB3 := Lib.hid (blk_below (blk_drewN HXB2.out _) hB3)
      clear hR hB3
      go_wp2_with (refine wpList_load_row rfl 30 _ rfl gb rfl 30 CX (0, 0) _ HXB3.out Try.underlying30 rfl HXS.out ?_)
      refine (HVL.out _ (HXC.out _ HB4.out)).mono ?_
      rintro e w5 ⟨A9, c9, rfl, hle9, hC9, hB5⟩
      have HB5 := Lib.hid (below_then HB4.out (by rw [← hgb]; exact HB4.out.size) hB5)
      clear hC9 hB5
      go_wp2
      go_ret
      exact ⟨rfl, by rw [hgb]; exact HB5.out⟩
end Go.Proofs.Ytjmadnpicidbeaa.Ch
end
section
namespace Go.Proofs.Ytjmadnpicidbeaa.Ch
open Go.RowKit Go.Proofs.YtjmadnpicidbeaaW.PrintWords Go.Proofs.YtjmadnpicidbeaaW.PrintLast Go.Proofs.Ytjmadnpicidbeaa.Base Go.Proofs.Ytjmadnpicidbeaa.PCh Go.Proofs.Ytjmadnpicidbeaa.ParDec Go.Proofs.Ytjmadnpicidbeaa.ParEnc
set_option maxRecDepth 100000
set_option linter.unusedVariables false
set_option linter.unusedSimpArgs false
def awX : Chk := ⟨0, 3, 1, 2, 3, 0, 0, 0, 0, 0, [], [], [], [104, 105], []⟩
def awL : List UInt8 := [0, 3, 0, 18, 0, 0, 0, 1, 0, 2, 0, 3, 0, 0, 0, 0, 104, 105, 0, 0]
theorem aw_bare : bareD awX = awX := by
  unfold bareD
  rw [show flD awX.f0 awX.f1 = 3 from by rfl]
  rfl
theorem aw_value : valueD awX = [0, 0, 0, 1, 0, 2, 0, 3, 0, 0, 0, 0, 104, 105] := by
  unfold valueD
  rw [if_pos (show awX.f0 = 0 from rfl)]
  rfl
theorem aw_check : checkD awX = 0 := by
  unfold checkD
  rw [aw_bare, if_neg (by simp), if_neg (by simp [awX]), if_neg (by simp [awX]), if_neg (by simp [awX]), if_neg (by simp [awX, encP, runB]), aw_value, if_neg (by simp)]
theorem aw_enc : encD [awX] = (ints awL, 0) := by
  unfold encD chkAll
  rw [if_pos aw_check, chkAll, if_pos rfl, runE]
  have h : [] ++ chunkL awX = ints awL := by
    unfold chunkL
    rw [aw_value]
    rfl
  rw [h, if_neg (by decide), runE]
theorem aw_dec : decC awL = (awX, 20, 0) := by rfl
theorem aw_ok : OkB awX := ⟨fun b hb => by
  simp only [awX, List.mem_cons, List.not_mem_nil, or_false] at hb
  rcases hb with rfl | rfl <;> (unfold inB; omega), fun p hp => by cases hp⟩
theorem byte_of_int {w : World} {A : Option Addr} {l : List UInt8} (h : (Kd.int .u8).C w A (ints l).length (ints l)) : byte.C w A l.length l := by
  obtain ⟨h1, h2, h3⟩ := h
  rw [ints_length] at h2 h3
  refine ⟨rfl, h2, fun hn => ?_⟩
  obtain ⟨ad, e, hc⟩ := h3 hn
  refine ⟨ad, e, fun j p hj => ?_⟩
  exact hc j (p.toNat : Int) (by unfold ints; rw [List.getElem?_map, hj]; rfl)
theorem chk_row1 {w : World} {g : Nat} {x : Chk} {L : Lay} (hb : w.heap[g]? = some (.cells (CV x L) 30 (0, 0))) (hx : CR w x L) : Kd.C k30 w (some ⟨g, 0, none⟩) 1 [x] := by
  refine ⟨rfl, by simp, fun _ => ⟨_, rfl, fun j p hj => ?_⟩⟩
  rcases j with _ | j
  · simp only [List.getElem?_cons_zero, Option.some.injEq] at hj
    subst hj
    refine ⟨(CV x L).toList, rfl, hx.K, fun i u hu => ?_⟩
    rw [Nat.zero_mul, Nat.zero_add]
    exact cells_of_blk hb i u hu
  · simp at hj
theorem CR.of_M {w : World} {base : Nat} {ok : Nat → Prop} {x : Chk} {cs : List Value} (h : k30.M w base ok x cs) : ∃ L, cs = (CV x L).toList ∧ CR w x L := by
  obtain ⟨v10, v11, v12, v13, v14, rfl, h10, h11, h12, h13, h14⟩ := k30_openM h
  obtain ⟨A10, c10, rfl, l10, g10⟩ := Kd.R_reads h10
  obtain ⟨A11, c11, rfl, l11, g11⟩ := Kd.R_reads h11
  obtain ⟨A12, c12, rfl, l12, g12⟩ := Kd.R_reads h12
  obtain ⟨A13, c13, rfl, l13, g13⟩ := Kd.R_reads h13
  obtain ⟨A14, c14, rfl, l14, g14⟩ := Kd.R_reads h14
  exact ⟨⟨A10, c10, A11, c11, A12, c12, A13, c13, A14, c14⟩, rfl, ⟨l10, g10, l11, g11, l12, g12, l13, g13, l14, g14⟩⟩
theorem aw_check_calls (w : World) (L : Lay) (hx : CR w awX L) : Calls Try.prog 16 #[.agg (CV awX L)] w fun e w' => e = .returned (.int .i64 (checkD awX)) ∧ Below w.heap.size w w' :=
  check_data w awX L hx (fun W hW _ _ _ _ _ => (value_data 0 W awX L hW rfl (by decide)).mono fun e w' h => by
    have := h.P
    unfold valueD
    rw [if_pos (show awX.f0 = 0 from rfl)]
    exact this) rfl
theorem aw_encode (w : World) (g : Nat) (L : Lay) (hb : w.heap[g]? = some (.cells (CV awX L) 30 (0, 0))) (hx : CR w awX L) :
    Calls Try.prog 15 #[.slice (some ⟨g, 0, none⟩) 1 1] w fun e w' => ∃ A c, e = .returned (.tuple #[.slice A 20 c, .int .i64 0]) ∧ 20 ≤ c ∧ byte.C w' A awL.length awL ∧ Below w.heap.size w w' := by
  refine (encode_chunks w (some ⟨g, 0, none⟩) 1 [awX] (chk_row1 hb hx) (fun x hxm W L' hW => ?_) (fun x hxm hc W L' hW => ?_)).mono fun e w' h => ?_
  · obtain rfl : x = awX := by simpa using hxm
    exact aw_check_calls W L' hW
  · obtain rfl : x = awX := by simpa using hxm
    refine (value_data w.heap.size W awX L' (hW W (Below.refl _ _)) rfl (by decide)).mono fun e w' h => ?_
    unfold valueD
    rw [if_pos (show awX.f0 = 0 from rfl)]
    exact h
  · obtain ⟨v, rfl, hR, hB⟩ := h
    rw [aw_enc] at hR ⊢
    obtain ⟨A, c, rfl, hle, hC⟩ := Kd.R_reads hR
    exact ⟨A, c, rfl, hle, byte_of_int hC, hB⟩
theorem aw_decode (w : World) (A : Option Addr) (c : Nat) (hC : byte.C w A awL.length awL) (hc : 20 ≤ c) :
    Calls Try.prog 10 #[.slice A 20 c] w fun e w' => ∃ L, e = .returned (.tuple #[.agg (CV awX L), .int .i64 20, .int .i64 0]) ∧ CR w' awX L ∧ Below w.heap.size w w' := by
  refine (decC_calls w A awL c hC hc (by decide)).mono fun e w' h => ?_
  obtain ⟨cs, rfl, hM, hB⟩ := h
  rw [aw_dec] at hM ⊢
  obtain ⟨L, hcs, hx⟩ := CR.of_M hM
  obtain rfl : cs = CV awX L := Array.toList_inj.1 hcs
  exact ⟨L, rfl, hx, hB⟩
set_option maxHeartbeats 2000000 in
theorem awake_calls (w : World) : Calls Try.prog 13 #[] w fun e w' => e = .returned (.bool true) ∧ Below w.heap.size w w' := by
  have kc := fun (w : World) (C : Array Value) (n c : Nat) => Lib.run_convert_bytes_const (P := Try.prog) w 22 5 C n c Try.underlying22 Try.underlying5
  have HI := Lib.hid (show (Try.prog.info? 30).map (·.size) = some (#[.int .u8 0, .int .u8 3, .int .u32 1, .int .u16 2, .int .u16 3, .int .u32 0, .int .u32 0, .int .u32 0, .int .u16 0, .int .u16 0, .slice none 0 0, .slice none 0 0, .slice none 0 0, .slice (some ⟨w.heap.size, 0, none⟩) 2 2, .slice none 0 0] : Array Value).size by kernel_rfl)
  have HW1 := Lib.hid (show (w.alloc (.cells #[.int .u8 104, .int .u8 105] 5 (2, 3))).heap.size = w.heap.size + 1 by simp)
  have HB1 := Lib.hid (below_alloc (Below.refl w.heap.size w) (.cells #[.int .u8 104, .int .u8 105] 5 (2, 3)))
  have HX1 := Lib.hid (show CR (w.alloc (.cells #[.int .u8 104, .int .u8 105] 5 (2, 3))) awX ⟨none, 0, none, 0, none, 0, some ⟨w.heap.size, 0, none⟩, 2, none, 0⟩ from ⟨Nat.le_refl _, Kd.C_nil _ _, Nat.le_refl _, Kd.C_nil _ _, Nat.le_refl _, Kd.C_nil _ _, Nat.le_refl _, row_lit (Kd.int .u8) rfl w _ [.int .u8 104, .int .u8 105] [104, 105] rfl (by simp) (fun j v p hv hp => by rcases j with _ | _ | j <;> simp at hv hp <;> (subst hv; subst hp; rfl)) (fr := (2, 3)), Nat.le_refl _, Kd.C_nil _ _⟩)
  go_enter Try.func13, Try.ntmps13
  go_wp2_with (first | (with_reducible refine gate_dst (N := 1) rfl ?_; go_must (refine wpList_box rfl rfl 1 rfl rfl (.tmp 9) rfl #[.int .u8 0, .int .u8 3, .int .u32 1, .int .u16 2, .int .u16 3, .int .u32 0, .int .u32 0, .int .u32 0, .int .u16 0, .int .u16 0, .slice none 0 0, .slice none 0 0, .slice none 0 0, .slice (some ⟨w.heap.size, 0, none⟩) 2 2, .slice none 0 0] rfl rfl (by simp) HI.out (by simp [Value.oneCell']) ?_); refine RowKit.Hid.out ?_))
  refine Lib.hid ?_
  have HW2 := Lib.hid (blk_new (w.alloc (.cells #[.int .u8 104, .int .u8 105] 5 (2, 3))) (.cells #[.int .u8 0, .int .u8 3, .int .u32 1, .int .u16 2, .int .u16 3, .int .u32 0, .int .u32 0, .int .u32 0, .int .u16 0, .int .u16 0, .slice none 0 0, .slice none 0 0, .slice none 0 0, .slice (some ⟨w.heap.size, 0, none⟩) 2 2, .slice none 0 0] 30))
  replace HX1 := Lib.hid (CR.below HX1.out (below_alloc (Below.refl _ _) (.cells #[.int .u8 0, .int .u8 3, .int .u32 1, .int .u16 2, .int .u16 3, .int .u32 0, .int .u32 0, .int .u32 0, .int .u16 0, .int .u16 0, .slice none 0 0, .slice none 0 0, .slice none 0 0, .slice (some ⟨w.heap.size, 0, none⟩) 2 2, .slice none 0 0] 30)))
  replace HB1 := Lib.hid (below_alloc HB1.out (.cells #[.int .u8 0, .int .u8 3, .int .u32 1, .int .u16 2, .int .u16 3, .int .u32 0, .int .u32 0, .int .u32 0, .int .u16 0, .int .u16 0, .slice none 0 0, .slice none 0 0, .slice none 0 0, .slice (some ⟨w.heap.size, 0, none⟩) 2 2, .slice none 0 0] 30))
  rw [HW1.out] at HW2
  have HW3 := Lib.hid (show ((w.alloc (.cells #[.int .u8 104, .int .u8 105] 5 (2, 3))).alloc (.cells #[.int .u8 0, .int .u8 3, .int .u32 1, .int .u16 2, .int .u16 3, .int .u32 0, .int .u32 0, .int .u32 0, .int .u16 0, .int .u16 0, .slice none 0 0, .slice none 0 0, .slice none 0 0, .slice (some ⟨w.heap.size, 0, none⟩) 2 2, .slice none 0 0] 30)).heap.size = w.heap.size + 2 by simp)
  clear HW1 kc
  generalize ((w.alloc (.cells #[.int .u8 104, .int .u8 105] 5 (2, 3))).alloc (.cells #[.int .u8 0, .int .u8 3, .int .u32 1, .int .u16 2, .int .u16 3, .int .u32 0, .int .u32 0, .int .u32 0, .int .u16 0, .int .u16 0, .slice none 0 0, .slice none 0 0, .slice none 0 0, .slice (some ⟨w.heap.size, 0, none⟩) 2 2, .slice none 0 0] 30)) = W at *
  go_wp2_with (first | (with_reducible refine gate_dst (N := 11) rfl ?_; go_must (refine wpList_load_cells rfl 30 (.tmp 1) rfl rfl #[.int .u8 0, .int .u8 3, .int .u32 1, .int .u16 2, .int .u16 3, .int .u32 0, .int .u32 0, .int .u32 0, .int .u16 0, .int .u16 0, .slice none 0 0, .slice none 0 0, .slice none 0 0, .slice (some ⟨w.heap.size, 0, none⟩) 2 2, .slice none 0 0] _ (cells_of_blk HW2.out) Try.underlying30 rfl HI.out ?_)))
  refine (aw_encode (W.alloc (.cells #[.int .u8 0, .int .u8 3, .int .u32 1, .int .u16 2, .int .u16 3, .int .u32 0, .int .u32 0, .int .u32 0, .int .u16 0, .int .u16 0, .slice none 0 0, .slice none 0 0, .slice none 0 0, .slice (some ⟨w.heap.size, 0, none⟩) 2 2, .slice none 0 0] 30)) W.heap.size ⟨none, 0, none, 0, none, 0, some ⟨w.heap.size, 0, none⟩, 2, none, 0⟩ (blk_new _ _) (CR.below HX1.out (below_alloc (Below.refl _ _) _))).mono ?_
  rintro e w1 ⟨A, c, rfl, hc, hC, hB⟩
  replace HW2 := Lib.hid (blk_below (blk_alloc HW2.out (.cells #[.int .u8 0, .int .u8 3, .int .u32 1, .int .u16 2, .int .u16 3, .int .u32 0, .int .u32 0, .int .u32 0, .int .u16 0, .int .u16 0, .slice none 0 0, .slice none 0 0, .slice none 0 0, .slice (some ⟨w.heap.size, 0, none⟩) 2 2, .slice none 0 0] 30)) hB)
  replace HX1 := Lib.hid ((HX1.out.below (below_alloc (Below.refl _ _) (.cells #[.int .u8 0, .int .u8 3, .int .u32 1, .int .u16 2, .int .u16 3, .int .u32 0, .int .u32 0, .int .u32 0, .int .u16 0, .int .u16 0, .slice none 0 0, .slice none 0 0, .slice none 0 0, .slice (some ⟨w.heap.size, 0, none⟩) 2 2, .slice none 0 0] 30))).below hB)
  replace HB1 := Lib.hid (below_then (below_alloc HB1.out (.cells #[.int .u8 0, .int .u8 3, .int .u32 1, .int .u16 2, .int .u16 3, .int .u32 0, .int .u32 0, .int .u32 0, .int .u16 0, .int .u16 0, .slice none 0 0, .slice none 0 0, .slice none 0 0, .slice (some ⟨w.heap.size, 0, none⟩) 2 2, .slice none 0 0] 30)) (below_alloc HB1.out (.cells #[.int .u8 0, .int .u8 3, .int .u32 1, .int .u16 2, .int .u16 3, .int .u32 0, .int .u32 0, .int .u32 0, .int .u16 0, .int .u16 0, .slice none 0 0, .slice none 0 0, .slice none 0 0, .slice (some ⟨w.heap.size, 0, none⟩) 2 2, .slice none 0 0] 30)).size hB)
  have HC := Lib.hid hC
  have HCL := Lib.hid hc
  clear hB hC hc HW3
  go_wp2_with fail
  refine (aw_decode w1 A c HC.out HCL.out).mono ?_
  rintro e w2 ⟨L, rfl, hx, hB⟩
  have HZ := Lib.hid (show (#[.int .u8 0, .int .u8 0, .int .u32 0, .int .u16 0, .int .u16 0, .int .u32 0, .int .u32 0, .int .u32 0, .int .u16 0, .int .u16 0, .slice none 0 0, .slice none 0 0, .slice none 0 0, .slice none 0 0, .slice none 0 0] : Array Value).size = (CV awX L).size from rfl)
  have HO := Lib.hid (CV_one awX L)
  have HI2 := Lib.hid (show (Try.prog.info? 30).map (·.size) = some (CV awX L).size by kernel_rfl)
  go_wp2_with (first | (with_reducible refine gate_dst (N := 4) rfl ?_; go_must (refine wpList_box rfl rfl 4 rfl rfl (.tmp 19) rfl (CV awX L) rfl rfl HZ.out HI2.out HO.out ?_); refine RowKit.Hid.out ?_))
  refine Lib.hid ?_
  have HW4 := Lib.hid (blk_new w2 (.cells (CV awX L) 30))
  replace HW2 := Lib.hid (blk_alloc (blk_below HW2.out hB) (.cells (CV awX L) 30))
  replace HX1 := Lib.hid ((HX1.out.below hB).below (below_alloc (Below.refl _ _) (.cells (CV awX L) 30)))
  have HX2 := Lib.hid (hx.below (below_alloc (Below.refl _ _) (.cells (CV awX L) 30)))
  replace HB1 := Lib.hid (below_alloc (below_then HB1.out HB1.out.size hB) (.cells (CV awX L) 30))
  replace HC := Lib.hid (Kd.C_below (Kd.C_below HC.out hB) (below_alloc (Below.refl _ _) (.cells (CV awX L) 30)))
  clear hB hx HZ HO HI2 HI
  generalize w2.alloc (.cells (CV awX L) 30) = w3 at *
  generalize w2.heap.size = g4 at *
  have u0 := (blk_cell (blk_alloc HW2.out (.cells #[.int .u8 0, .int .u8 3, .int .u8 0, .int .u8 18, .int .u8 0, .int .u8 0, .int .u8 0, .int .u8 1, .int .u8 0, .int .u8 2, .int .u8 0, .int .u8 3, .int .u8 0, .int .u8 0, .int .u8 0, .int .u8 0, .int .u8 104, .int .u8 105, .int .u8 0, .int .u8 0] 5)) 0).trans (show (#[.int .u8 0, .int .u8 3, .int .u32 1, .int .u16 2, .int .u16 3, .int .u32 0, .int .u32 0, .int .u32 0, .int .u16 0, .int .u16 0, .slice none 0 0, .slice none 0 0, .slice none 0 0, .slice (some ⟨w.heap.size, 0, none⟩) 2 2, .slice none 0 0] : Array Value)[0]? = some (.int .u8 0) from rfl)
  have u1 := (blk_cell (blk_alloc HW2.out (.cells #[.int .u8 0, .int .u8 3, .int .u8 0, .int .u8 18, .int .u8 0, .int .u8 0, .int .u8 0, .int .u8 1, .int .u8 0, .int .u8 2, .int .u8 0, .int .u8 3, .int .u8 0, .int .u8 0, .int .u8 0, .int .u8 0, .int .u8 104, .int .u8 105, .int .u8 0, .int .u8 0] 5)) 1).trans (show (#[.int .u8 0, .int .u8 3, .int .u32 1, .int .u16 2, .int .u16 3, .int .u32 0, .int .u32 0, .int .u32 0, .int .u16 0, .int .u16 0, .slice none 0 0, .slice none 0 0, .slice none 0 0, .slice (some ⟨w.heap.size, 0, none⟩) 2 2, .slice none 0 0] : Array Value)[1]? = some (.int .u8 3) from rfl)
  have u2 := (blk_cell (blk_alloc HW2.out (.cells #[.int .u8 0, .int .u8 3, .int .u8 0, .int .u8 18, .int .u8 0, .int .u8 0, .int .u8 0, .int .u8 1, .int .u8 0, .int .u8 2, .int .u8 0, .int .u8 3, .int .u8 0, .int .u8 0, .int .u8 0, .int .u8 0, .int .u8 104, .int .u8 105, .int .u8 0, .int .u8 0] 5)) 2).trans (show (#[.int .u8 0, .int .u8 3, .int .u32 1, .int .u16 2, .int .u16 3, .int .u32 0, .int .u32 0, .int .u32 0, .int .u16 0, .int .u16 0, .slice none 0 0, .slice none 0 0, .slice none 0 0, .slice (some ⟨w.heap.size, 0, none⟩) 2 2, .slice none 0 0] : Array Value)[2]? = some (.int .u32 1) from rfl)
  have u3 := (blk_cell (blk_alloc HW2.out (.cells #[.int .u8 0, .int .u8 3, .int .u8 0, .int .u8 18, .int .u8 0, .int .u8 0, .int .u8 0, .int .u8 1, .int .u8 0, .int .u8 2, .int .u8 0, .int .u8 3, .int .u8 0, .int .u8 0, .int .u8 0, .int .u8 0, .int .u8 104, .int .u8 105, .int .u8 0, .int .u8 0] 5)) 3).trans (show (#[.int .u8 0, .int .u8 3, .int .u32 1, .int .u16 2, .int .u16 3, .int .u32 0, .int .u32 0, .int .u32 0, .int .u16 0, .int .u16 0, .slice none 0 0, .slice none 0 0, .slice none 0 0, .slice (some ⟨w.heap.size, 0, none⟩) 2 2, .slice none 0 0] : Array Value)[3]? = some (.int .u16 2) from rfl)
  have u4 := (blk_cell (blk_alloc HW2.out (.cells #[.int .u8 0, .int .u8 3, .int .u8 0, .int .u8 18, .int .u8 0, .int .u8 0, .int .u8 0, .int .u8 1, .int .u8 0, .int .u8 2, .int .u8 0, .int .u8 3, .int .u8 0, .int .u8 0, .int .u8 0, .int .u8 0, .int .u8 104, .int .u8 105, .int .u8 0, .int .u8 0] 5)) 4).trans (show (#[.int .u8 0, .int .u8 3, .int .u32 1, .int .u16 2, .int .u16 3, .int .u32 0, .int .u32 0, .int .u32 0, .int .u16 0, .int .u16 0, .slice none 0 0, .slice none 0 0, .slice none 0 0, .slice (some ⟨w.heap.size, 0, none⟩) 2 2, .slice none 0 0] : Array Value)[4]? = some (.int .u16 3) from rfl)
  have u5 := (blk_cell (blk_alloc HW2.out (.cells #[.int .u8 0, .int .u8 3, .int .u8 0, .int .u8 18, .int .u8 0, .int .u8 0, .int .u8 0, .int .u8 1, .int .u8 0, .int .u8 2, .int .u8 0, .int .u8 3, .int .u8 0, .int .u8 0, .int .u8 0, .int .u8 0, .int .u8 104, .int .u8 105, .int .u8 0, .int .u8 0] 5)) 5).trans (show (#[.int .u8 0, .int .u8 3, .int .u32 1, .int .u16 2, .int .u16 3, .int .u32 0, .int .u32 0, .int .u32 0, .int .u16 0, .int .u16 0, .slice none 0 0, .slice none 0 0, .slice none 0 0, .slice (some ⟨w.heap.size, 0, none⟩) 2 2, .slice none 0 0] : Array Value)[5]? = some (.int .u32 0) from rfl)
  have u6 := (blk_cell (blk_alloc HW2.out (.cells #[.int .u8 0, .int .u8 3, .int .u8 0, .int .u8 18, .int .u8 0, .int .u8 0, .int .u8 0, .int .u8 1, .int .u8 0, .int .u8 2, .int .u8 0, .int .u8 3, .int .u8 0, .int .u8 0, .int .u8 0, .int .u8 0, .int .u8 104, .int .u8 105, .int .u8 0, .int .u8 0] 5)) 6).trans (show (#[.int .u8 0, .int .u8 3, .int .u32 1, .int .u16 2, .int .u16 3, .int .u32 0, .int .u32 0, .int .u32 0, .int .u16 0, .int .u16 0, .slice none 0 0, .slice none 0 0, .slice none 0 0, .slice (some ⟨w.heap.size, 0, none⟩) 2 2, .slice none 0 0] : Array Value)[6]? = some (.int .u32 0) from rfl)
  have u7 := (blk_cell (blk_alloc HW2.out (.cells #[.int .u8 0, .int .u8 3, .int .u8 0, .int .u8 18, .int .u8 0, .int .u8 0, .int .u8 0, .int .u8 1, .int .u8 0, .int .u8 2, .int .u8 0, .int .u8 3, .int .u8 0, .int .u8 0, .int .u8 0, .int .u8 0, .int .u8 104, .int .u8 105, .int .u8 0, .int .u8 0] 5)) 7).trans (show (#[.int .u8 0, .int .u8 3, .int .u32 1, .int .u16 2, .int .u16 3, .int .u32 0, .int .u32 0, .int .u32 0, .int .u16 0, .int .u16 0, .slice none 0 0, .slice none 0 0, .slice none 0 0, .slice (some ⟨w.heap.size, 0, none⟩) 2 2, .slice none 0 0] : Array Value)[7]? = some (.int .u32 0) from rfl)
  have u8 := (blk_cell (blk_alloc HW2.out (.cells #[.int .u8 0, .int .u8 3, .int .u8 0, .int .u8 18, .int .u8 0, .int .u8 0, .int .u8 0, .int .u8 1, .int .u8 0, .int .u8 2, .int .u8 0, .int .u8 3, .int .u8 0, .int .u8 0, .int .u8 0, .int .u8 0, .int .u8 104, .int .u8 105, .int .u8 0, .int .u8 0] 5)) 8).trans (show (#[.int .u8 0, .int .u8 3, .int .u32 1, .int .u16 2, .int .u16 3, .int .u32 0, .int .u32 0, .int .u32 0, .int .u16 0, .int .u16 0, .slice none 0 0, .slice none 0 0, .slice none 0 0, .slice (some ⟨w.heap.size, 0, none⟩) 2 2, .slice none 0 0] : Array Value)[8]? = some (.int .u16 0) from rfl)
  have u9 := (blk_cell (blk_alloc HW2.out (.cells #[.int .u8 0, .int .u8 3, .int .u8 0, .int .u8 18, .int .u8 0, .int .u8 0, .int .u8 0, .int .u8 1, .int .u8 0, .int .u8 2, .int .u8 0, .int .u8 3, .int .u8 0, .int .u8 0, .int .u8 0, .int .u8 0, .int .u8 104, .int .u8 105, .int .u8 0, .int .u8 0] 5)) 9).trans (show (#[.int .u8 0, .int .u8 3, .int .u32 1, .int .u16 2, .int .u16 3, .int .u32 0, .int .u32 0, .int .u32 0, .int .u16 0, .int .u16 0, .slice none 0 0, .slice none 0 0, .slice none 0 0, .slice (some ⟨w.heap.size, 0, none⟩) 2 2, .slice none 0 0] : Array Value)[9]? = some (.int .u16 0) from rfl)
  have u10 := (blk_cell (blk_alloc HW2.out (.cells #[.int .u8 0, .int .u8 3, .int .u8 0, .int .u8 18, .int .u8 0, .int .u8 0, .int .u8 0, .int .u8 1, .int .u8 0, .int .u8 2, .int .u8 0, .int .u8 3, .int .u8 0, .int .u8 0, .int .u8 0, .int .u8 0, .int .u8 104, .int .u8 105, .int .u8 0, .int .u8 0] 5)) 10).trans (show (#[.int .u8 0, .int .u8 3, .int .u32 1, .int .u16 2, .int .u16 3, .int .u32 0, .int .u32 0, .int .u32 0, .int .u16 0, .int .u16 0, .slice none 0 0, .slice none 0 0, .slice none 0 0, .slice (some ⟨w.heap.size, 0, none⟩) 2 2, .slice none 0 0] : Array Value)[10]? = some (.slice none 0 0) from rfl)
  have u11 := (blk_cell (blk_alloc HW2.out (.cells #[.int .u8 0, .int .u8 3, .int .u8 0, .int .u8 18, .int .u8 0, .int .u8 0, .int .u8 0, .int .u8 1, .int .u8 0, .int .u8 2, .int .u8 0, .int .u8 3, .int .u8 0, .int .u8 0, .int .u8 0, .int .u8 0, .int .u8 104, .int .u8 105, .int .u8 0, .int .u8 0] 5)) 11).trans (show (#[.int .u8 0, .int .u8 3, .int .u32 1, .int .u16 2, .int .u16 3, .int .u32 0, .int .u32 0, .int .u32 0, .int .u16 0, .int .u16 0, .slice none 0 0, .slice none 0 0, .slice none 0 0, .slice (some ⟨w.heap.size, 0, none⟩) 2 2, .slice none 0 0] : Array Value)[11]? = some (.slice none 0 0) from rfl)
  have u12 := (blk_cell (blk_alloc HW2.out (.cells #[.int .u8 0, .int .u8 3, .int .u8 0, .int .u8 18, .int .u8 0, .int .u8 0, .int .u8 0, .int .u8 1, .int .u8 0, .int .u8 2, .int .u8 0, .int .u8 3, .int .u8 0, .int .u8 0, .int .u8 0, .int .u8 0, .int .u8 104, .int .u8 105, .int .u8 0, .int .u8 0] 5)) 12).trans (show (#[.int .u8 0, .int .u8 3, .int .u32 1, .int .u16 2, .int .u16 3, .int .u32 0, .int .u32 0, .int .u32 0, .int .u16 0, .int .u16 0, .slice none 0 0, .slice none 0 0, .slice none 0 0, .slice (some ⟨w.heap.size, 0, none⟩) 2 2, .slice none 0 0] : Array Value)[12]? = some (.slice none 0 0) from rfl)
  have u13 := (blk_cell (blk_alloc HW2.out (.cells #[.int .u8 0, .int .u8 3, .int .u8 0, .int .u8 18, .int .u8 0, .int .u8 0, .int .u8 0, .int .u8 1, .int .u8 0, .int .u8 2, .int .u8 0, .int .u8 3, .int .u8 0, .int .u8 0, .int .u8 0, .int .u8 0, .int .u8 104, .int .u8 105, .int .u8 0, .int .u8 0] 5)) 13).trans (show (#[.int .u8 0, .int .u8 3, .int .u32 1, .int .u16 2, .int .u16 3, .int .u32 0, .int .u32 0, .int .u32 0, .int .u16 0, .int .u16 0, .slice none 0 0, .slice none 0 0, .slice none 0 0, .slice (some ⟨w.heap.size, 0, none⟩) 2 2, .slice none 0 0] : Array Value)[13]? = some (.slice (some ⟨w.heap.size, 0, none⟩) 2 2) from rfl)
  have u14 := (blk_cell (blk_alloc HW2.out (.cells #[.int .u8 0, .int .u8 3, .int .u8 0, .int .u8 18, .int .u8 0, .int .u8 0, .int .u8 0, .int .u8 1, .int .u8 0, .int .u8 2, .int .u8 0, .int .u8 3, .int .u8 0, .int .u8 0, .int .u8 0, .int .u8 0, .int .u8 104, .int .u8 105, .int .u8 0, .int .u8 0] 5)) 14).trans (show (#[.int .u8 0, .int .u8 3, .int .u32 1, .int .u16 2, .int .u16 3, .int .u32 0, .int .u32 0, .int .u32 0, .int .u16 0, .int .u16 0, .slice none 0 0, .slice none 0 0, .slice none 0 0, .slice (some ⟨w.heap.size, 0, none⟩) 2 2, .slice none 0 0] : Array Value)[14]? = some (.slice none 0 0) from rfl)
  have v0 := (blk_cell (blk_alloc HW4.out (.cells #[.int .u8 0, .int .u8 3, .int .u8 0, .int .u8 18, .int .u8 0, .int .u8 0, .int .u8 0, .int .u8 1, .int .u8 0, .int .u8 2, .int .u8 0, .int .u8 3, .int .u8 0, .int .u8 0, .int .u8 0, .int .u8 0, .int .u8 104, .int .u8 105, .int .u8 0, .int .u8 0] 5)) 0).trans (show (CV awX L)[0]? = some (.int .u8 0) from rfl)
  have v1 := (blk_cell (blk_alloc HW4.out (.cells #[.int .u8 0, .int .u8 3, .int .u8 0, .int .u8 18, .int .u8 0, .int .u8 0, .int .u8 0, .int .u8 1, .int .u8 0, .int .u8 2, .int .u8 0, .int .u8 3, .int .u8 0, .int .u8 0, .int .u8 0, .int .u8 0, .int .u8 104, .int .u8 105, .int .u8 0, .int .u8 0] 5)) 1).trans (show (CV awX L)[1]? = some (.int .u8 3) from rfl)
  have v2 := (blk_cell (blk_alloc HW4.out (.cells #[.int .u8 0, .int .u8 3, .int .u8 0, .int .u8 18, .int .u8 0, .int .u8 0, .int .u8 0, .int .u8 1, .int .u8 0, .int .u8 2, .int .u8 0, .int .u8 3, .int .u8 0, .int .u8 0, .int .u8 0, .int .u8 0, .int .u8 104, .int .u8 105, .int .u8 0, .int .u8 0] 5)) 2).trans (show (CV awX L)[2]? = some (.int .u32 1) from rfl)
  have v3 := (blk_cell (blk_alloc HW4.out (.cells #[.int .u8 0, .int .u8 3, .int .u8 0, .int .u8 18, .int .u8 0, .int .u8 0, .int .u8 0, .int .u8 1, .int .u8 0, .int .u8 2, .int .u8 0, .int .u8 3, .int .u8 0, .int .u8 0, .int .u8 0, .int .u8 0, .int .u8 104, .int .u8 105, .int .u8 0, .int .u8 0] 5)) 3).trans (show (CV awX L)[3]? = some (.int .u16 2) from rfl)
  have v4 := (blk_cell (blk_alloc HW4.out (.cells #[.int .u8 0, .int .u8 3, .int .u8 0, .int .u8 18, .int .u8 0, .int .u8 0, .int .u8 0, .int .u8 1, .int .u8 0, .int .u8 2, .int .u8 0, .int .u8 3, .int .u8 0, .int .u8 0, .int .u8 0, .int .u8 0, .int .u8 104, .int .u8 105, .int .u8 0, .int .u8 0] 5)) 4).trans (show (CV awX L)[4]? = some (.int .u16 3) from rfl)
  have v5 := (blk_cell (blk_alloc HW4.out (.cells #[.int .u8 0, .int .u8 3, .int .u8 0, .int .u8 18, .int .u8 0, .int .u8 0, .int .u8 0, .int .u8 1, .int .u8 0, .int .u8 2, .int .u8 0, .int .u8 3, .int .u8 0, .int .u8 0, .int .u8 0, .int .u8 0, .int .u8 104, .int .u8 105, .int .u8 0, .int .u8 0] 5)) 5).trans (show (CV awX L)[5]? = some (.int .u32 0) from rfl)
  have v6 := (blk_cell (blk_alloc HW4.out (.cells #[.int .u8 0, .int .u8 3, .int .u8 0, .int .u8 18, .int .u8 0, .int .u8 0, .int .u8 0, .int .u8 1, .int .u8 0, .int .u8 2, .int .u8 0, .int .u8 3, .int .u8 0, .int .u8 0, .int .u8 0, .int .u8 0, .int .u8 104, .int .u8 105, .int .u8 0, .int .u8 0] 5)) 6).trans (show (CV awX L)[6]? = some (.int .u32 0) from rfl)
  have v7 := (blk_cell (blk_alloc HW4.out (.cells #[.int .u8 0, .int .u8 3, .int .u8 0, .int .u8 18, .int .u8 0, .int .u8 0, .int .u8 0, .int .u8 1, .int .u8 0, .int .u8 2, .int .u8 0, .int .u8 3, .int .u8 0, .int .u8 0, .int .u8 0, .int .u8 0, .int .u8 104, .int .u8 105, .int .u8 0, .int .u8 0] 5)) 7).trans (show (CV awX L)[7]? = some (.int .u32 0) from rfl)
  have v8 := (blk_cell (blk_alloc HW4.out (.cells #[.int .u8 0, .int .u8 3, .int .u8 0, .int .u8 18, .int .u8 0, .int .u8 0, .int .u8 0, .int .u8 1, .int .u8 0, .int .u8 2, .int .u8 0, .int .u8 3, .int .u8 0, .int .u8 0, .int .u8 0, .int .u8 0, .int .u8 104, .int .u8 105, .int .u8 0, .int .u8 0] 5)) 8).trans (show (CV awX L)[8]? = some (.int .u16 0) from rfl)
  have v9 := (blk_cell (blk_alloc HW4.out (.cells #[.int .u8 0, .int .u8 3, .int .u8 0, .int .u8 18, .int .u8 0, .int .u8 0, .int .u8 0, .int .u8 1, .int .u8 0, .int .u8 2, .int .u8 0, .int .u8 3, .int .u8 0, .int .u8 0, .int .u8 0, .int .u8 0, .int .u8 104, .int .u8 105, .int .u8 0, .int .u8 0] 5)) 9).trans (show (CV awX L)[9]? = some (.int .u16 0) from rfl)
  have v10 := (blk_cell (blk_alloc HW4.out (.cells #[.int .u8 0, .int .u8 3, .int .u8 0, .int .u8 18, .int .u8 0, .int .u8 0, .int .u8 0, .int .u8 1, .int .u8 0, .int .u8 2, .int .u8 0, .int .u8 3, .int .u8 0, .int .u8 0, .int .u8 0, .int .u8 0, .int .u8 104, .int .u8 105, .int .u8 0, .int .u8 0] 5)) 10).trans (show (CV awX L)[10]? = some (.slice L.A10 0 L.c10) from rfl)
  have v11 := (blk_cell (blk_alloc HW4.out (.cells #[.int .u8 0, .int .u8 3, .int .u8 0, .int .u8 18, .int .u8 0, .int .u8 0, .int .u8 0, .int .u8 1, .int .u8 0, .int .u8 2, .int .u8 0, .int .u8 3, .int .u8 0, .int .u8 0, .int .u8 0, .int .u8 0, .int .u8 104, .int .u8 105, .int .u8 0, .int .u8 0] 5)) 11).trans (show (CV awX L)[11]? = some (.slice L.A11 0 L.c11) from rfl)
  have v12 := (blk_cell (blk_alloc HW4.out (.cells #[.int .u8 0, .int .u8 3, .int .u8 0, .int .u8 18, .int .u8 0, .int .u8 0, .int .u8 0, .int .u8 1, .int .u8 0, .int .u8 2, .int .u8 0, .int .u8 3, .int .u8 0, .int .u8 0, .int .u8 0, .int .u8 0, .int .u8 104, .int .u8 105, .int .u8 0, .int .u8 0] 5)) 12).trans (show (CV awX L)[12]? = some (.slice L.A12 0 L.c12) from rfl)
  have v13 := (blk_cell (blk_alloc HW4.out (.cells #[.int .u8 0, .int .u8 3, .int .u8 0, .int .u8 18, .int .u8 0, .int .u8 0, .int .u8 0, .int .u8 1, .int .u8 0, .int .u8 2, .int .u8 0, .int .u8 3, .int .u8 0, .int .u8 0, .int .u8 0, .int .u8 0, .int .u8 104, .int .u8 105, .int .u8 0, .int .u8 0] 5)) 13).trans (show (CV awX L)[13]? = some (.slice L.A13 2 L.c13) from rfl)
  have v14 := (blk_cell (blk_alloc HW4.out (.cells #[.int .u8 0, .int .u8 3, .int .u8 0, .int .u8 18, .int .u8 0, .int .u8 0, .int .u8 0, .int .u8 1, .int .u8 0, .int .u8 2, .int .u8 0, .int .u8 3, .int .u8 0, .int .u8 0, .int .u8 0, .int .u8 0, .int .u8 104, .int .u8 105, .int .u8 0, .int .u8 0] 5)) 14).trans (show (CV awX L)[14]? = some (.slice L.A14 0 L.c14) from rfl)
  have r1 : (convert 22 9 (.slice A 20 c)).run Try.prog w3 = .ok (.string (bstr awL)) w3 := run_bstr HC.out
  have r2 : (convert 22 9 (.slice (some ⟨w3.heap.size, 0, none⟩) 20 20)).run Try.prog (w3.alloc (.cells #[.int .u8 0, .int .u8 3, .int .u8 0, .int .u8 18, .int .u8 0, .int .u8 0, .int .u8 0, .int .u8 1, .int .u8 0, .int .u8 2, .int .u8 0, .int .u8 3, .int .u8 0, .int .u8 0, .int .u8 0, .int .u8 0, .int .u8 104, .int .u8 105, .int .u8 0, .int .u8 0] 5)) = .ok (.string (bstr awL)) (w3.alloc (.cells #[.int .u8 0, .int .u8 3, .int .u8 0, .int .u8 18, .int .u8 0, .int .u8 0, .int .u8 0, .int .u8 1, .int .u8 0, .int .u8 2, .int .u8 0, .int .u8 3, .int .u8 0, .int .u8 0, .int .u8 0, .int .u8 0, .int .u8 104, .int .u8 105, .int .u8 0, .int .u8 0] 5)) := run_bstr (n := 20) (row_lit byte rfl w3 5 (#[.int .u8 0, .int .u8 3, .int .u8 0, .int .u8 18, .int .u8 0, .int .u8 0, .int .u8 0, .int .u8 1, .int .u8 0, .int .u8 2, .int .u8 0, .int .u8 3, .int .u8 0, .int .u8 0, .int .u8 0, .int .u8 0, .int .u8 104, .int .u8 105, .int .u8 0, .int .u8 0]).toList awL rfl (by decide) (lit_byte w3 awL rfl))
  have HR := Lib.hid (fun (W : World) (h : Below w3.heap.size w3 W) => rsame_calls W awX awX ⟨none, 0, none, 0, none, 0, some ⟨w.heap.size, 0, none⟩, 2, none, 0⟩ L (HX1.out.below h) (HX2.out.below h) aw_ok aw_ok)
  generalize bstr awL = sb at *
  clear HW2 HW4 HX1 HX2 HC HCL
  have hbb := below_alloc (Below.refl w3.heap.size w3) (.cells #[.int .u8 0, .int .u8 3, .int .u8 0, .int .u8 18, .int .u8 0, .int .u8 0, .int .u8 0, .int .u8 1, .int .u8 0, .int .u8 2, .int .u8 0, .int .u8 3, .int .u8 0, .int .u8 0, .int .u8 0, .int .u8 0, .int .u8 104, .int .u8 105, .int .u8 0, .int .u8 0] 5)
  have HBB := Lib.hid hbb
  replace HB1 := Lib.hid (below_alloc HB1.out (.cells #[.int .u8 0, .int .u8 3, .int .u8 0, .int .u8 18, .int .u8 0, .int .u8 0, .int .u8 0, .int .u8 1, .int .u8 0, .int .u8 2, .int .u8 0, .int .u8 3, .int .u8 0, .int .u8 0, .int .u8 0, .int .u8 0, .int .u8 104, .int .u8 105, .int .u8 0, .int .u8 0] 5))
  clear hbb
  go_wp2_with fail
  refine (HR.out _ HBB.out).mono ?_
  rintro e w5 ⟨rfl, hB⟩
  rw [show decide True = true from rfl]
  replace HB1 := Lib.hid (below_then HB1.out HB1.out.size hB)
  clear HR r1 r2
  go_wp2
  go_ret
  exact ⟨rfl, HB1.out⟩
end Go.Proofs.Ytjmadnpicidbeaa.Ch
end
