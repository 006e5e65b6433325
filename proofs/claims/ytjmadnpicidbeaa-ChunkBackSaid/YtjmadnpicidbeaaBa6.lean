/- The statement ChunkBack of ropewalk/ropewalklaw06.ChunkBack. Proved from the walk Ch.back_row. -/
import Derived.Test.YtjmadnpicidbeaaBa5
section
namespace Go.Proofs.Ytjmadnpicidbeaa.Ch
open Go.RowKit Go.Proofs.YtjmadnpicidbeaaW.PrintWords Go.Proofs.YtjmadnpicidbeaaW.PrintLast Go.Proofs.Ytjmadnpicidbeaa.Base Go.Proofs.Ytjmadnpicidbeaa.PCh Go.Proofs.Ytjmadnpicidbeaa.ParDec Go.Proofs.Ytjmadnpicidbeaa.ParEnc
set_option maxRecDepth 100000
set_option linter.unusedVariables false
set_option linter.unusedSimpArgs false
theorem fourL_in (l : List Int) : ∀ b ∈ fourL l, inB b := by
  induction l with
  | nil => intro b h; cases h
  | cons n r ih =>
    intro b h
    unfold fourL at h
    rcases List.mem_append.1 h with h | h
    · simp only [List.mem_cons, List.not_mem_nil, or_false] at h
      unfold inB
      omega
    · exact ih b h
theorem twoL_in (l : List Int) : ∀ b ∈ twoL l, inB b := by
  induction l with
  | nil => intro b h; cases h
  | cons n r ih =>
    intro b h
    unfold twoL at h
    rcases List.mem_append.1 h with h | h
    · simp only [List.mem_cons, List.not_mem_nil, or_false] at h
      unfold inB
      omega
    · exact ih b h
theorem nil_in : ∀ b ∈ ([] : List Int), inB b := fun _ h => by cases h
theorem app_in {a b : List Int} (ha : ∀ x ∈ a, inB x) (hb : ∀ x ∈ b, inB x) : ∀ x ∈ a ++ b, inB x := fun x h => (List.mem_append.1 h).elim (ha x) (hb x)
theorem encP_in {ps : List PrmS} (h : ∀ p ∈ ps, okQ p) : ∀ b ∈ (encP ps).1, inB b := by
  unfold encP
  by_cases hl : ps.length > 256
  · rw [if_pos hl]; exact nil_in
  rw [if_neg hl]
  by_cases hs : allShort ps
  · rw [runB_short ps hs]
    exact fold_in ps [] nil_in (fun q hq => ⟨(h q hq).1.1, (h q hq).1.2, by have := hs q hq; omega, fun x hx => (h q hq).2 x hx⟩)
  · rw [runB_long ps hs]; exact nil_in
theorem value_in {x : Chk} (h : OkC x) : ∀ b ∈ valueD x, inB b := by
  unfold valueD
  split
  · unfold valData; exact app_in (app_in (app_in (fourL_in _) (twoL_in _)) (fourL_in _)) h.r13
  split
  · exact app_in (app_in (app_in (fourL_in _) (twoL_in _)) (fourL_in _)) (encP_in h.r14)
  split
  · exact app_in (app_in (app_in (fourL_in _) (twoL_in _)) (twoL_in _)) (fourL_in _)
  split
  · exact app_in (app_in (app_in (app_in (fourL_in _) (twoL_in _)) (twoL_in _)) (twoL_in _)) (fourL_in _)
  split
  · exact encP_in h.r14
  split
  · exact fourL_in _
  split
  · exact nil_in
  · exact h.r13
theorem chunk_in {x : Chk} (h : OkC x) : ∀ b ∈ chunkL x, inB b := by
  unfold chunkL
  refine app_in (app_in (app_in ?_ (twoL_in _)) (value_in h)) ?_
  · intro b hb
    simp only [List.mem_cons, List.not_mem_nil, or_false] at hb
    rcases hb with rfl | rfl
    · exact h.r0
    · exact h.r1
  · intro b hb
    unfold padL at hb
    rw [(List.mem_replicate.1 hb).2]
    unfold inB
    omega
theorem flat_in (l : List Chk) (h : ∀ x ∈ l, OkC x) : ∀ b ∈ flatL l, inB b := by
  induction l with
  | nil => exact nil_in
  | cons x r ih => exact app_in (chunk_in (h x (List.mem_cons_self ..))) (ih (fun y hy => h y (List.mem_cons_of_mem _ hy)))
theorem enc_in {l : List Chk} (h : ∀ x ∈ l, OkC x) : ∀ b ∈ (encD l).1, inB b := by
  by_cases e : (encD l).2 = 0
  · rw [(enc_good e).2.1]; exact flat_in l h
  · rw [enc_bad e]; exact nil_in
end Go.Proofs.Ytjmadnpicidbeaa.Ch
end
section
namespace Go.Proofs.Ytjmadnpicidbeaa.Ch
open Go.RowKit Go.Proofs.YtjmadnpicidbeaaW.PrintWords Go.Proofs.YtjmadnpicidbeaaW.PrintLast Go.Proofs.Ytjmadnpicidbeaa.Base Go.Proofs.Ytjmadnpicidbeaa.PCh Go.Proofs.Ytjmadnpicidbeaa.ParDec Go.Proofs.Ytjmadnpicidbeaa.ParEnc
set_option maxRecDepth 100000
set_option linter.unusedVariables false
set_option linter.unusedSimpArgs false
theorem CR.of_M3 {w : World} {base : Nat} {ok : Nat → Prop} {x : Chk} {cs : Array Value} (h : k30.M w base ok x cs.toList) : ∃ L, cs = CV x L ∧ CR w x L := by
  obtain ⟨L, hcs, hx⟩ := CR.of_M h
  exact ⟨L, Array.toList_inj.1 hcs, hx⟩
end Go.Proofs.Ytjmadnpicidbeaa.Ch
end
section
namespace Go.Proofs.Ytjmadnpicidbeaa.Ch
open Go.RowKit Go.Proofs.YtjmadnpicidbeaaW.PrintWords Go.Proofs.YtjmadnpicidbeaaW.PrintLast Go.Proofs.Ytjmadnpicidbeaa.Base Go.Proofs.Ytjmadnpicidbeaa.PCh Go.Proofs.Ytjmadnpicidbeaa.ParDec
set_option maxRecDepth 100000
set_option linter.unusedVariables false
set_option linter.unusedSimpArgs false
def allsT6 : Bool × List (List Nat × List Nat) := (true, [([], []), ([], []), ([0, 1], [0, 1]), ([2], [2]), ([], []), ([], []), ([4, 5], [4, 5]), ([6], [6]), ([3, 7], [3, 7]), ([8], [8])])
def allsB6 : List Nat := [0, 0, 3, 7, 0, 0, 48, 112, 255, 511]
theorem allstab6 : Go.Proofs.YtjmadnpicidbeaaW.PrintLast.rtab .any (Go.Proofs.YtjmadnpicidbeaaW.PrintLast.opsOf Try.f23 6) = allsT6 := by kernel_rfl
theorem allsbits6 : Go.Proofs.YtjmadnpicidbeaaW.PrintLast.waitsOk allsT6.2 allsB6 = true := by kernel_rfl
set_option maxHeartbeats 4000000 in
theorem allsame_calls (w : World) (A B' : Option Addr) (c d : Nat) (xs ys : List Chk) (hx : Kd.C k30 w A xs.length xs) (hy : Kd.C k30 w B' ys.length ys) (ox : ∀ x ∈ xs, OkB x) (oy : ∀ y ∈ ys, OkB y) :
    Calls Try.prog 23 #[.slice A xs.length c, .slice B' ys.length d] w fun e w' => e = .returned (.bool (decide (xs = ys))) ∧ Below w.heap.size w w' := by
  have hmx := hx.2.1
  have hmy := hy.2.1
  have HX := Lib.hid (fun (W : World) (h : Below w.heap.size w W) => Kd.C_below hx h)
  have HY := Lib.hid (fun (W : World) (h : Below w.heap.size w W) => Kd.C_below hy h)
  have HOX := Lib.hid ox
  have HOY := Lib.hid oy
  clear hx hy ox oy
  by_cases hl : xs.length = ys.length
  · have q : ((xs.length : Int) != (ys.length : Int)) = false := by simp [hl]
    have HL := Lib.hid hl
    clear hl
    go_enter Try.func23, Try.ntmps23
    go_wp2
    go_loopw [5] (fun v5 wr => ∃ i : Nat, i ≤ xs.length ∧ v5 = .int .i64 (i : Int) ∧ Hid (decide (xs = ys) = decide (xs.drop i = ys.drop i)) ∧ Hid (Below w.heap.size w wr)) (fun v5 _ => xs.length - (intOf v5).toNat)
    case atStart => exact ⟨0, Nat.zero_le _, rfl, rfl, Below.refl _ _⟩
    case round =>
      obtain ⟨i, hi, rfl, HS, HB⟩ := hrel
      by_cases hlt : i < xs.length
      · have hlt' : i < ys.length := by have := HL.out; omega
        obtain ⟨ax, x, L, rfl, hdx, hxm, hcx, hxr⟩ := chk_at (HX.out _ HB.out) i hlt
        obtain ⟨ay, y, M, rfl, hdy, hym, hcy, hyr⟩ := chk_at (HY.out _ HB.out) i hlt'
        have hd := HS.out
        rw [hdx, hdy] at hd
        have HSM := Lib.hid (fun (W : World) (h : Below wr.heap.size wr W) => rsame_calls W x y L M (hxr.below h) (hyr.below h) (HOX.out x hxm) (HOY.out y hym))
        have HXS := Lib.hid (show (Try.prog.info? 30).map (·.size) = some (CV x L).size by kernel_rfl)
        have HYS := Lib.hid (show (Try.prog.info? 30).map (·.size) = some (CV y M).size by kernel_rfl)
        have HLX := Lib.hid hcx
        have HLY := Lib.hid hcy
        have s2 : (x :: xs.drop (i + 1) = y :: ys.drop (i + 1)) = (x = y ∧ xs.drop (i + 1) = ys.drop (i + 1)) := by simp
        have HD := Lib.hid hd
        have HS2 := Lib.hid s2
        clear hd s2 hcx hcy hxr hyr hdx hdy hxm hym
        by_cases hxy : x = y
        · have HDD := Lib.hid (show decide (xs = ys) = decide (xs.drop (i + 1) = ys.drop (i + 1)) by rw [HD.out]; exact decide_eq_decide.2 (by rw [HS2.out]; simp [hxy]))
          rw [decide_eq_true hxy] at HSM
          clear HD HS2 hxy HS
          generalize CV x L = CX at *
          generalize CV y M = CY at *
          obtain ⟨q, hq⟩ : ∃ q, q = true := ⟨_, rfl⟩
          rw [← hq] at HSM
          have HQ := Lib.hid hq
          clear hq
          have HN2 := HB
          go_upto_region 6 with (fail)
          generalize wr = W at *
          have B := True.intro
          refine start_ (n := 10) (S := fun w' => True) (ds := []) #[false, false, false, false, false, false, false, false, false, false] (by kernel_rfl) rfl rfl trivial (fun hHeld => ?_)
          refine with_tabW allstab6 allsbits6 (fun HT_ HW_ => ?_)
          refine pure_ (i := 0) (N := some 17) (v := ?_) (a' := ?_) #[true, false, false, false, false, false, false, false, false, false] rfl rfl (any_of HT_.out (by kernel_rfl)) (fun _ _ _ h => h) (Or.inl ⟨by rfl, ?_⟩) ?_ ?_
          rotate_left
          · intro w'
            go_simp
            with_reducible rfl
          rotate_left
          · simp only [Act.put, List.setIfInBounds_toArray, List.set_cons_zero, List.set_cons_succ, i64_w, i32_w]
            rfl
          refine pure_ (i := 1) (N := some 18) (v := ?_) (a' := ?_) #[true, true, false, false, false, false, false, false, false, false] rfl rfl (any_of HT_.out (by kernel_rfl)) (fun _ _ _ h => h) (Or.inl ⟨by rfl, ?_⟩) ?_ ?_
          rotate_left
          · intro w'
            go_simp
            with_reducible rfl
          rotate_left
          · simp only [Act.put, List.setIfInBounds_toArray, List.set_cons_zero, List.set_cons_succ, i64_w, i32_w]
            rfl
          refine pure_ (i := 4) (N := some 21) (v := ?_) (a' := ?_) #[true, true, false, false, true, false, false, false, false, false] rfl rfl (any_of HT_.out (by kernel_rfl)) (fun _ _ _ h => h) (Or.inl ⟨by rfl, ?_⟩) ?_ ?_
          rotate_left
          · intro w'
            go_simp
            with_reducible rfl
          rotate_left
          · simp only [Act.put, List.setIfInBounds_toArray, List.set_cons_zero, List.set_cons_succ, i64_w, i32_w]
            rfl
          refine pure_ (i := 5) (N := some 22) (v := ?_) (a' := ?_) #[true, true, false, false, true, true, false, false, false, false] rfl rfl (any_of HT_.out (by kernel_rfl)) (fun _ _ _ h => h) (Or.inl ⟨by rfl, ?_⟩) ?_ ?_
          rotate_left
          · intro w'
            go_simp
            with_reducible rfl
          rotate_left
          · simp only [Act.put, List.setIfInBounds_toArray, List.set_cons_zero, List.set_cons_succ, i64_w, i32_w]
            rfl
          refine inv_at [2, 3, 6, 7, 8, 9] (fun a0_ b a w' => a = putSel a0_ b [(2, 19, .pointer (some (ax.add (i * 15)))), (3, 20, .agg CX), (6, 23, .pointer (some (ay.add (i * 15)))), (7, 24, .agg CY), (8, 25, .bool q), (9, 26, .bool (!q))] ∧ (Below W.heap.size W w')) HT_.out HW_.out (by kernel_rfl) (by kernel_rfl) ?_ ?_ ?_
          · exact ⟨by simp only [putSel, Bool.false_eq_true, if_false], below_drew (Below.refl _ _)⟩
          · skip
            clear B
            refine steps_cons ?_ ?_
            · rintro b a w' ⟨ha, Q_B⟩ hb_ hon hoff
              refine ⟨_, rfl, fun K hK => ?_⟩
              have e17 : a.tmps[17]? = some (.slice (some ax) xs.length c) := by rw [ha]; exact (putSel_off rfl).trans rfl
              have e18 : a.tmps[18]? = some (.int .i64 (i : Int)) := by rw [ha]; exact (putSel_off rfl).trans rfl
              replace ha := Aside0.mk ha
              have B := Aside0.mk Q_B
              refine value_ (w1 := w') (v := .pointer (some (ax.add (i * 15)))) (by rfl) rfl ?_ ?_
              · go_simp
                (try simp only [i64_w])
                try rfl
              refine hK.out _ _ ⟨(by rw [ha.out]; exact putSel_upk 0 hb_ rfl rfl rfl), Q_B⟩
            refine steps_cons ?_ ?_
            · rintro b a w' ⟨ha, Q_B⟩ hb_ hon hoff
              refine ⟨_, rfl, fun K hK => ?_⟩
              have e19 : a.tmps[19]? = some (.pointer (some (ax.add (i * 15)))) := by rw [ha]; exact putSel_on (e := (2, 19, .pointer (some (ax.add (i * 15))))) 0 rfl rfl (hon 2 (by kernel_rfl)) rfl
              replace ha := Aside0.mk ha
              have B := Aside0.mk Q_B
              refine value_ (w1 := w') (v := .agg CX) (by rfl) rfl (exec_load_cells 30 (.tmp 19) rfl (eval_of e19) CX _ (fun j v hv => pw_cell_below B.out (HLX.out j v hv)) Try.underlying30 rfl HXS.out) ?_
              refine hK.out _ _ ⟨(by rw [ha.out]; exact putSel_upk 1 hb_ rfl rfl rfl), B.out⟩
            refine steps_cons ?_ ?_
            · rintro b a w' ⟨ha, Q_B⟩ hb_ hon hoff
              refine ⟨_, rfl, fun K hK => ?_⟩
              have e21 : a.tmps[21]? = some (.slice (some ay) ys.length d) := by rw [ha]; exact (putSel_off rfl).trans rfl
              have e22 : a.tmps[22]? = some (.int .i64 (i : Int)) := by rw [ha]; exact (putSel_off rfl).trans rfl
              replace ha := Aside0.mk ha
              have B := Aside0.mk Q_B
              refine value_ (w1 := w') (v := .pointer (some (ay.add (i * 15)))) (by rfl) rfl ?_ ?_
              · go_simp
                (try simp only [i64_w])
                try rfl
              refine hK.out _ _ ⟨(by rw [ha.out]; exact putSel_upk 2 hb_ rfl rfl rfl), Q_B⟩
            refine steps_cons ?_ ?_
            · rintro b a w' ⟨ha, Q_B⟩ hb_ hon hoff
              refine ⟨_, rfl, fun K hK => ?_⟩
              have e23 : a.tmps[23]? = some (.pointer (some (ay.add (i * 15)))) := by rw [ha]; exact putSel_on (e := (6, 23, .pointer (some (ay.add (i * 15))))) 2 rfl rfl (hon 6 (by kernel_rfl)) rfl
              replace ha := Aside0.mk ha
              have B := Aside0.mk Q_B
              refine value_ (w1 := w') (v := .agg CY) (by rfl) rfl (exec_load_cells 30 (.tmp 23) rfl (eval_of e23) CY _ (fun j v hv => pw_cell_below B.out (HLY.out j v hv)) Try.underlying30 rfl HYS.out) ?_
              refine hK.out _ _ ⟨(by rw [ha.out]; exact putSel_upk 3 hb_ rfl rfl rfl), B.out⟩
            refine steps_cons ?_ ?_
            · rintro b a w' ⟨ha, Q_B⟩ hb_ hon hoff
              refine ⟨_, rfl, fun K hK => ?_⟩
              have e20 : a.tmps[20]? = some (.agg CX) := by rw [ha]; exact putSel_on (e := (3, 20, .agg CX)) 1 rfl rfl (hon 3 (by kernel_rfl)) rfl
              have e24 : a.tmps[24]? = some (.agg CY) := by rw [ha]; exact putSel_on (e := (7, 24, .agg CY)) 3 rfl rfl (hon 7 (by kernel_rfl)) rfl
              replace ha := Aside0.mk ha
              have B := Aside0.mk Q_B
              refine goes_ Try.func12 (by kernel_rfl) rfl #[.agg CX, .agg CY] (by rfl) rfl rfl (by first | (simp only [List.map_toArray, List.map_cons, List.map_nil, Act.eval, Array.getD_eq_getD_getElem?, Option.getD_some, e20, e24]; done) | (simp only [List.map_toArray, List.map_cons, List.map_nil, Act.eval, Array.getD_eq_getD_getElem?, Option.getD_some, e20, e24]; rfl)) ?_
              refine (HSM.out w' B.out).mono ?_
              rintro e w1 ⟨rfl, hB1⟩
              refine ⟨_, rfl, ?_⟩
              refine hK.out _ _ ⟨(by rw [ha.out]; exact putSel_upk 4 hb_ rfl rfl rfl), below_then B.out B.out.size hB1⟩
            refine steps_cons ?_ ?_
            · rintro b a w' ⟨ha, Q_B⟩ hb_ hon hoff
              refine ⟨_, rfl, fun K hK => ?_⟩
              have e25 : a.tmps[25]? = some (.bool q) := by rw [ha]; exact putSel_on (e := (8, 25, .bool q)) 4 rfl rfl (hon 8 (by kernel_rfl)) rfl
              replace ha := Aside0.mk ha
              have B := Aside0.mk Q_B
              refine value_ (w1 := w') (v := .bool (!q)) (by rfl) rfl ?_ ?_
              · go_simp
                (try simp only [i64_w])
                try rfl
              refine hK.out _ _ ⟨(by rw [ha.out]; exact putSel_upk 5 hb_ rfl rfl rfl), Q_B⟩
            exact steps_nil
          rintro b a w' hall ⟨ha, Q_B⟩
          clear B
          have hb2_ := hall 2 (by kernel_rfl)
          have hb3_ := hall 3 (by kernel_rfl)
          have hb6_ := hall 6 (by kernel_rfl)
          have hb7_ := hall 7 (by kernel_rfl)
          have hb8_ := hall 8 (by kernel_rfl)
          have hb9_ := hall 9 (by kernel_rfl)
          subst ha
          simp only [putSel, hb2_, hb3_, hb6_, hb7_, hb8_, hb9_, if_true, Act.put, List.setIfInBounds_toArray, List.set_cons_zero, List.set_cons_succ]
          have B := Aside0.mk Q_B
          clear Q_B
          clear hall hb2_ hb3_ hb6_ hb7_ hb8_ hb9_
          have HB2 := Lib.hid (below_then HB.out HB.out.size B.out)
          rw [HQ.out]
          clear B HSM HLX HLY HQ HN2
          go_wp2
          go_roundw
          case rel => exact ⟨i + 1, by omega, by go_num, HDD, HB2⟩
          case measure => simp [intOf]; omega
        · have HDD := Lib.hid (show decide (xs = ys) = false by rw [HD.out]; exact decide_eq_false (fun e => hxy (HS2.out.mp e).1))
          rw [decide_eq_false hxy] at HSM
          clear HD HS2 hxy HS
          generalize CV x L = CX at *
          generalize CV y M = CY at *
          obtain ⟨q, hq⟩ : ∃ q, q = false := ⟨_, rfl⟩
          rw [← hq] at HSM
          have HQ := Lib.hid hq
          clear hq
          go_upto_region 6 with (fail)
          generalize wr = W at *
          have B := True.intro
          refine start_ (n := 10) (S := fun w' => True) (ds := []) #[false, false, false, false, false, false, false, false, false, false] (by kernel_rfl) rfl rfl trivial (fun hHeld => ?_)
          refine with_tabW allstab6 allsbits6 (fun HT_ HW_ => ?_)
          refine pure_ (i := 0) (N := some 17) (v := ?_) (a' := ?_) #[true, false, false, false, false, false, false, false, false, false] rfl rfl (any_of HT_.out (by kernel_rfl)) (fun _ _ _ h => h) (Or.inl ⟨by rfl, ?_⟩) ?_ ?_
          rotate_left
          · intro w'
            go_simp
            with_reducible rfl
          rotate_left
          · simp only [Act.put, List.setIfInBounds_toArray, List.set_cons_zero, List.set_cons_succ, i64_w, i32_w]
            rfl
          refine pure_ (i := 1) (N := some 18) (v := ?_) (a' := ?_) #[true, true, false, false, false, false, false, false, false, false] rfl rfl (any_of HT_.out (by kernel_rfl)) (fun _ _ _ h => h) (Or.inl ⟨by rfl, ?_⟩) ?_ ?_
          rotate_left
          · intro w'
            go_simp
            with_reducible rfl
          rotate_left
          · simp only [Act.put, List.setIfInBounds_toArray, List.set_cons_zero, List.set_cons_succ, i64_w, i32_w]
            rfl
          refine pure_ (i := 4) (N := some 21) (v := ?_) (a' := ?_) #[true, true, false, false, true, false, false, false, false, false] rfl rfl (any_of HT_.out (by kernel_rfl)) (fun _ _ _ h => h) (Or.inl ⟨by rfl, ?_⟩) ?_ ?_
          rotate_left
          · intro w'
            go_simp
            with_reducible rfl
          rotate_left
          · simp only [Act.put, List.setIfInBounds_toArray, List.set_cons_zero, List.set_cons_succ, i64_w, i32_w]
            rfl
          refine pure_ (i := 5) (N := some 22) (v := ?_) (a' := ?_) #[true, true, false, false, true, true, false, false, false, false] rfl rfl (any_of HT_.out (by kernel_rfl)) (fun _ _ _ h => h) (Or.inl ⟨by rfl, ?_⟩) ?_ ?_
          rotate_left
          · intro w'
            go_simp
            with_reducible rfl
          rotate_left
          · simp only [Act.put, List.setIfInBounds_toArray, List.set_cons_zero, List.set_cons_succ, i64_w, i32_w]
            rfl
          refine inv_at [2, 3, 6, 7, 8, 9] (fun a0_ b a w' => a = putSel a0_ b [(2, 19, .pointer (some (ax.add (i * 15)))), (3, 20, .agg CX), (6, 23, .pointer (some (ay.add (i * 15)))), (7, 24, .agg CY), (8, 25, .bool q), (9, 26, .bool (!q))] ∧ (Below W.heap.size W w')) HT_.out HW_.out (by kernel_rfl) (by kernel_rfl) ?_ ?_ ?_
          · exact ⟨by simp only [putSel, Bool.false_eq_true, if_false], below_drew (Below.refl _ _)⟩
          · skip
            clear B
            refine steps_cons ?_ ?_
            · rintro b a w' ⟨ha, Q_B⟩ hb_ hon hoff
              refine ⟨_, rfl, fun K hK => ?_⟩
              have e17 : a.tmps[17]? = some (.slice (some ax) xs.length c) := by rw [ha]; exact (putSel_off rfl).trans rfl
              have e18 : a.tmps[18]? = some (.int .i64 (i : Int)) := by rw [ha]; exact (putSel_off rfl).trans rfl
              replace ha := Aside0.mk ha
              have B := Aside0.mk Q_B
              refine value_ (w1 := w') (v := .pointer (some (ax.add (i * 15)))) (by rfl) rfl ?_ ?_
              · go_simp
                (try simp only [i64_w])
                try rfl
              refine hK.out _ _ ⟨(by rw [ha.out]; exact putSel_upk 0 hb_ rfl rfl rfl), Q_B⟩
            refine steps_cons ?_ ?_
            · rintro b a w' ⟨ha, Q_B⟩ hb_ hon hoff
              refine ⟨_, rfl, fun K hK => ?_⟩
              have e19 : a.tmps[19]? = some (.pointer (some (ax.add (i * 15)))) := by rw [ha]; exact putSel_on (e := (2, 19, .pointer (some (ax.add (i * 15))))) 0 rfl rfl (hon 2 (by kernel_rfl)) rfl
              replace ha := Aside0.mk ha
              have B := Aside0.mk Q_B
              refine value_ (w1 := w') (v := .agg CX) (by rfl) rfl (exec_load_cells 30 (.tmp 19) rfl (eval_of e19) CX _ (fun j v hv => pw_cell_below B.out (HLX.out j v hv)) Try.underlying30 rfl HXS.out) ?_
              refine hK.out _ _ ⟨(by rw [ha.out]; exact putSel_upk 1 hb_ rfl rfl rfl), B.out⟩
            refine steps_cons ?_ ?_
            · rintro b a w' ⟨ha, Q_B⟩ hb_ hon hoff
              refine ⟨_, rfl, fun K hK => ?_⟩
              have e21 : a.tmps[21]? = some (.slice (some ay) ys.length d) := by rw [ha]; exact (putSel_off rfl).trans rfl
              have e22 : a.tmps[22]? = some (.int .i64 (i : Int)) := by rw [ha]; exact (putSel_off rfl).trans rfl
              replace ha := Aside0.mk ha
              have B := Aside0.mk Q_B
              refine value_ (w1 := w') (v := .pointer (some (ay.add (i * 15)))) (by rfl) rfl ?_ ?_
              · go_simp
                (try simp only [i64_w])
                try rfl
              refine hK.out _ _ ⟨(by rw [ha.out]; exact putSel_upk 2 hb_ rfl rfl rfl), Q_B⟩
            refine steps_cons ?_ ?_
            · rintro b a w' ⟨ha, Q_B⟩ hb_ hon hoff
              refine ⟨_, rfl, fun K hK => ?_⟩
              have e23 : a.tmps[23]? = some (.pointer (some (ay.add (i * 15)))) := by rw [ha]; exact putSel_on (e := (6, 23, .pointer (some (ay.add (i * 15))))) 2 rfl rfl (hon 6 (by kernel_rfl)) rfl
              replace ha := Aside0.mk ha
              have B := Aside0.mk Q_B
              refine value_ (w1 := w') (v := .agg CY) (by rfl) rfl (exec_load_cells 30 (.tmp 23) rfl (eval_of e23) CY _ (fun j v hv => pw_cell_below B.out (HLY.out j v hv)) Try.underlying30 rfl HYS.out) ?_
              refine hK.out _ _ ⟨(by rw [ha.out]; exact putSel_upk 3 hb_ rfl rfl rfl), B.out⟩
            refine steps_cons ?_ ?_
            · rintro b a w' ⟨ha, Q_B⟩ hb_ hon hoff
              refine ⟨_, rfl, fun K hK => ?_⟩
              have e20 : a.tmps[20]? = some (.agg CX) := by rw [ha]; exact putSel_on (e := (3, 20, .agg CX)) 1 rfl rfl (hon 3 (by kernel_rfl)) rfl
              have e24 : a.tmps[24]? = some (.agg CY) := by rw [ha]; exact putSel_on (e := (7, 24, .agg CY)) 3 rfl rfl (hon 7 (by kernel_rfl)) rfl
              replace ha := Aside0.mk ha
              have B := Aside0.mk Q_B
              refine goes_ Try.func12 (by kernel_rfl) rfl #[.agg CX, .agg CY] (by rfl) rfl rfl (by first | (simp only [List.map_toArray, List.map_cons, List.map_nil, Act.eval, Array.getD_eq_getD_getElem?, Option.getD_some, e20, e24]; done) | (simp only [List.map_toArray, List.map_cons, List.map_nil, Act.eval, Array.getD_eq_getD_getElem?, Option.getD_some, e20, e24]; rfl)) ?_
              refine (HSM.out w' B.out).mono ?_
              rintro e w1 ⟨rfl, hB1⟩
              refine ⟨_, rfl, ?_⟩
              refine hK.out _ _ ⟨(by rw [ha.out]; exact putSel_upk 4 hb_ rfl rfl rfl), below_then B.out B.out.size hB1⟩
            refine steps_cons ?_ ?_
            · rintro b a w' ⟨ha, Q_B⟩ hb_ hon hoff
              refine ⟨_, rfl, fun K hK => ?_⟩
              have e25 : a.tmps[25]? = some (.bool q) := by rw [ha]; exact putSel_on (e := (8, 25, .bool q)) 4 rfl rfl (hon 8 (by kernel_rfl)) rfl
              replace ha := Aside0.mk ha
              have B := Aside0.mk Q_B
              refine value_ (w1 := w') (v := .bool (!q)) (by rfl) rfl ?_ ?_
              · go_simp
                (try simp only [i64_w])
                try rfl
              refine hK.out _ _ ⟨(by rw [ha.out]; exact putSel_upk 5 hb_ rfl rfl rfl), Q_B⟩
            exact steps_nil
          rintro b a w' hall ⟨ha, Q_B⟩
          clear B
          have hb2_ := hall 2 (by kernel_rfl)
          have hb3_ := hall 3 (by kernel_rfl)
          have hb6_ := hall 6 (by kernel_rfl)
          have hb7_ := hall 7 (by kernel_rfl)
          have hb8_ := hall 8 (by kernel_rfl)
          have hb9_ := hall 9 (by kernel_rfl)
          subst ha
          simp only [putSel, hb2_, hb3_, hb6_, hb7_, hb8_, hb9_, if_true, Act.put, List.setIfInBounds_toArray, List.set_cons_zero, List.set_cons_succ]
          have B := Aside0.mk Q_B
          clear Q_B
          clear hall hb2_ hb3_ hb6_ hb7_ hb8_ hb9_
          have HB2 := Lib.hid (below_then HB.out HB.out.size B.out)
          rw [HQ.out]
          clear B HSM HLX HLY HQ
          go_wp2
          go_ret
          exact ⟨by rw [HDD.out]; try rfl, HB2.out⟩
      · obtain rfl : i = xs.length := by omega
        have HD := Lib.hid (show decide (xs = ys) = true by rw [HS.out, List.drop_length, HL.out, List.drop_length]; rfl)
        go_wp2
        go_ret
        exact ⟨by rw [HD.out]; try rfl, HB.out⟩
  · have HD := Lib.hid (show decide (xs = ys) = false from decide_eq_false (fun e => hl (congrArg List.length e)))
    have hl2 : ¬ (xs.length : Int) = (ys.length : Int) := by omega
    go_enter Try.func23, Try.ntmps23
    go_wp2
    go_ret
    exact ⟨by rw [HD.out]; try rfl, Below.refl _ _⟩
end Go.Proofs.Ytjmadnpicidbeaa.Ch
end
section
namespace Go.Proofs.Ytjmadnpicidbeaa.Ch
open Go.RowKit Go.Proofs.YtjmadnpicidbeaaW.PrintWords Go.Proofs.YtjmadnpicidbeaaW.PrintLast Go.Proofs.Ytjmadnpicidbeaa.Base Go.Proofs.Ytjmadnpicidbeaa.PCh Go.Proofs.Ytjmadnpicidbeaa.ParDec Go.Proofs.Ytjmadnpicidbeaa.ParEnc
set_option maxRecDepth 100000
set_option linter.unusedVariables false
set_option linter.unusedSimpArgs false
def lawbackT14 : Bool × List (List Nat × List Nat) := (true, [([], []), ([0], [0]), ([1], [1]), ([2], [2]), ([2], [2]), ([2], [2]), ([4, 5, 2], [2, 4, 5]), ([6, 2], [2, 6]), ([7, 2, 2], [2, 7]), ([3, 8, 2], [2, 3, 8]), ([2, 9], [2, 9]), ([10, 8], [10]), ([11], [11]), ([12, 11], [11, 12]), ([11, 13], [11, 13]), ([14, 11], [14]), ([15], [15]), ([15], [15]), ([15], [15]), ([17, 18, 15], [15, 17, 18]), ([19, 15], [15, 19]), ([16, 20, 15, 15], [15, 16, 20]), ([21, 15], [15, 21]), ([15, 22], [15, 22])])
def lawbackB14 : List Nat := [0, 1, 3, 7, 7, 7, 55, 119, 247, 511, 1023, 2047, 4095, 8191, 16383, 32767, 65535, 65535, 65535, 458751, 983039, 2097151, 4194303, 8388607]
theorem lawbacktab14 : Go.Proofs.YtjmadnpicidbeaaW.PrintLast.rtab .any (Go.Proofs.YtjmadnpicidbeaaW.PrintLast.opsOf Try.f9 14) = lawbackT14 := by kernel_rfl
theorem lawbackbits14 : Go.Proofs.YtjmadnpicidbeaaW.PrintLast.waitsOk lawbackT14.2 lawbackB14 = true := by kernel_rfl
theorem allL_back {l : List Chk} {b : List UInt8} (hok : ∀ x ∈ l, OkC x ∧ checkD x = 0) (hb : ints b = flatL l) : allL b = (l, 0, 0) := by
  have := all_back l (b.length + 1) 0 b [] hok (by rw [List.drop_zero]; exact hb) (Nat.zero_le _) (by omega)
  unfold allL
  rw [this, List.nil_append]
set_option maxHeartbeats 8000000 in
theorem back_row {w : World} (A : Option Addr) (c : Nat) (l : List Chk) (hb : Kd.C k30 w A l.length l) (hc : l.length ≤ c) (hp : l.length * 152 ≤ 140737488351232 ∧ ∀ x ∈ l, OkC x) :
    Calls Try.prog 9 #[.slice A l.length c] w fun e w' => e = .returned (.bool true) ∧ Below w.heap.size w w' := by
  have HE := Lib.hid (encode_any w A c l hb (fun x hx => Nat.le_trans (hp.2 x hx).l13 (by decide)))
  have HC := Lib.hid (fun (W : World) (h : Below w.heap.size w W) => Kd.C_below hb h)
  have HOK := Lib.hid hp.2
  have HLL := Lib.hid hp.1
  have HIN := Lib.hid (enc_in hp.2)
  have HBAD := Lib.hid (fun h : (encD l).2 ≠ 0 => enc_bad h)
  have HGOOD := Lib.hid (fun h : (encD l).2 = 0 => enc_good h)
  clear hb hp
  generalize encD l = E at *
  obtain ⟨eb, ec⟩ := E
  dsimp only at HE HIN HBAD HGOOD
  go_enter Try.func9, Try.ntmps9
  go_wp2_with fail
  refine HE.out.mono ?_
  rintro e w1 ⟨v1, rfl, hR1, hB1⟩
  obtain ⟨A1, c1, rfl, hle1, hC1⟩ := Kd.R_reads hR1
  have HB1 := Lib.hid hB1
  have HC1 := Lib.hid (fun (W : World) (h : Below w1.heap.size w1 W) => Kd.C_below hC1 h)
  have HLE1 := Lib.hid hle1
  clear hR1 hB1 hC1 hle1
  go_wp2_with fail
  refine (awake_calls w1).mono ?_
  rintro e w2 ⟨rfl, hB2⟩
  replace HB1 := Lib.hid (below_then HB1.out HB1.out.size hB2)
  replace HC1 := Lib.hid (HC1.out w2 hB2)
  clear hB2 HE
  by_cases hec : ec = 0
  · subst hec
    obtain ⟨hck, hfl, hln⟩ := HGOOD.out rfl
    obtain ⟨bs, hbs⟩ : ∃ bs, bs = bytesOf eb := ⟨_, rfl⟩
    have hbi : ints bs = eb := by rw [hbs]; exact ints_bytesOf _ HIN.out
    have hbl : eb.length = bs.length := by rw [← hbi, ints_length]
    have HC2 := Lib.hid (byte_of_int (by rw [hbi]; exact HC1.out) : byte.C w2 A1 bs.length bs)
    have HBI := Lib.hid (hbi.trans hfl)
    have HBL := Lib.hid (show bs.length ≤ 65536 by rw [← hbl, hfl]; exact hln)
    have HOC := Lib.hid (fun x hx => (⟨HOK.out x hx, hck x hx⟩ : OkC x ∧ checkD x = 0))
    rw [hbl] at HLE1 ⊢
    have HAL := Lib.hid (allL_back HOC.out HBI.out)
    have HA := Lib.hid (all_calls2 w2 A1 bs c1 HC2.out HLE1.out (by have := HBL.out; omega))
    rw [HAL.out] at HA
    have HCB := Lib.hid (fun (W : World) (h : Below w2.heap.size w2 W) => Kd.C_below HC2.out h)
    clear hck hfl hln hbs hbi hbl HBAD HGOOD HIN HC1 HAL HC2
    dsimp only at HA
    go_wp2_with fail
    refine HA.out.mono ?_
    rintro e w3 ⟨v3, rfl, hR3, hB3⟩
    obtain ⟨A3, c3, rfl, hle3, hC3⟩ := Kd.R_reads hR3
    replace HCB := Lib.hid (fun (W : World) (h : Below w3.heap.size w3 W) => HCB.out W (below_then hB3 hB3.size h))
    replace HB1 := Lib.hid (below_then HB1.out HB1.out.size hB3)
    have HSA := Lib.hid (allsame_calls w3 A A3 c c3 l l (HC.out w3 HB1.out) hC3 (fun x hx => (HOK.out x hx).okB) (fun x hx => (HOK.out x hx).okB))
    rw [decide_eq_true (rfl : l = l)] at HSA
    clear hR3 hB3 hC3 hle3 HA
    have hm := HLL.out
    go_wp2_with fail
    refine HSA.out.mono ?_
    rintro e w4 ⟨rfl, hB4⟩
    replace HCB := Lib.hid (fun (W : World) (h : Below w4.heap.size w4 W) => HCB.out W (below_then hB4 hB4.size h))
    replace HB1 := Lib.hid (below_then HB1.out HB1.out.size hB4)
    clear hB4 HSA
    go_wp2
    go_loopw [8, 9] (fun v8 v9 wr => ∃ (i at_ : Nat), i ≤ l.length ∧ at_ ≤ bs.length ∧ v9 = .int .i64 (i : Int) ∧ v8 = .int .i64 (at_ : Int) ∧ Hid (ints (bs.drop at_) = flatL (l.drop i)) ∧ Hid (Below w4.heap.size w4 wr)) (fun _ v9 _ => l.length - (intOf v9).toNat)
    case atStart => exact ⟨0, 0, Nat.zero_le _, Nat.zero_le _, rfl, rfl, by rw [List.drop_zero, List.drop_zero]; exact HBI.out, Below.refl _ _⟩
    case round =>
      obtain ⟨i, at_, hi, hat, rfl, rfl, HF, HB⟩ := hrel
      by_cases hlt : i < l.length
      · obtain ⟨ad, x, L, rfl, hd, hxm, hcell, hx⟩ := chk_at (HC.out wr (below_then HB1.out HB1.out.size HB.out)) i hlt
        obtain ⟨hox, hcx⟩ := HOC.out x hxm
        have hF := HF.out
        rw [hd, flatL] at hF
        have hdec := dec_back hox (check_ok.1 hcx) hF
        have hl0 := len_ints hF
        rw [List.length_drop, List.length_append] at hl0
        have hcl := chunkL_len x
        have hF2 : ints (bs.drop (at_ + (chunkL x).length)) = flatL (l.drop (i + 1)) := by
          rw [← List.drop_drop, ints_dr, hF]
          exact List.drop_left
        obtain ⟨A', hdr, hdC, hdl⟩ := drop_bytes (HCB.out _ HB.out) HLE1.out at_ (at_ : Int) rfl hat
        have HD := Lib.hid (decC_calls wr A' (bs.drop at_) (c1 - at_) hdC hdl (by rw [List.length_drop]; have := HBL.out; omega))
        unfold DecCP at HD
        rw [hdec] at HD
        dsimp only at HD
        have HF3 := Lib.hid hF2
        have HCLN := Lib.hid (show 4 ≤ (chunkL x).length ∧ at_ + (chunkL x).length ≤ bs.length by omega)
        have HSZ0 := Lib.hid (show sizeD x = (chunkL x).length by unfold sizeD; rw [if_pos hcx])
        have HX := Lib.hid hx
        have HOX := Lib.hid hox
        have HCL := Lib.hid hcell
        have HXS := Lib.hid (show (Try.prog.info? 30).map (·.size) = some (CV x L).size by kernel_rfl)
        have HWR := Lib.hid (fun (v : Value) (h : v = .slice A' (bs.drop at_).length (c1 - at_)) => h)
        clear hd hxm hcell hx hox hcx hF hdec hl0 hcl hF2 hdC hdl HF
        generalize (chunkL x).length = cl at *
        generalize (bs.drop at_).length = zl at *
        go_wp2_with fail
        refine HD.out.mono ?_
        rintro e w5 ⟨cs5, rfl, hM5, hB5⟩
        obtain ⟨L5, rfl, hx5⟩ := CR.of_M3 hM5
        have HDS := Lib.hid (show (Try.prog.info? 30).map (·.size) = some (CV x L5).size by kernel_rfl)
        have HDZ := Lib.hid (show (#[.int .u8 0, .int .u8 0, .int .u32 0, .int .u16 0, .int .u16 0, .int .u32 0, .int .u32 0, .int .u32 0, .int .u16 0, .int .u16 0, .slice none 0 0, .slice none 0 0, .slice none 0 0, .slice none 0 0, .slice none 0 0] : Array Value).size = (CV x L5).size from rfl)
        have HDO := Lib.hid (CV_one x L5)
        obtain ⟨CD, hCD⟩ : ∃ CD, CV x L5 = CD := ⟨_, rfl⟩
        rw [hCD] at HDS HDZ HDO ⊢
        have HED := Lib.hid hCD
        have HX5 := Lib.hid hx5
        have HB5 := Lib.hid hB5
        clear hM5 hx5 hB5 hCD HD HWR
        go_upto_region 14 with (with_reducible refine gate_dst (N := 10) rfl ?_; go_must (refine wpList_box rfl rfl 10 rfl rfl (.tmp 50) rfl CD rfl rfl HDZ.out HDS.out HDO.out ?_))
        refine wp_gen (fun W => W.heap[w5.heap.size]? = some (.cells CD 30 (0, 0)) ∧ Below w5.heap.size w5 W) ⟨blk_new _ _, below_alloc (Below.refl _ _) _⟩ ?_
        rintro W8 ⟨hk8, hb8⟩
        have HB8 := Lib.hid (below_then HB.out HB.out.size (below_then HB5.out HB5.out.size hb8))
        have HWB := Lib.hid (below_then HB5.out HB5.out.size hb8)
        have HKD := Lib.hid hk8
        have HX8 := Lib.hid (HX.out.below HWB.out)
        have HX9 := Lib.hid (HX5.out.below hb8)
        replace HCL := Lib.hid (fun j v hv => pw_cell_below HWB.out (HCL.out j v hv))
        have HSZ := Lib.hid (fun (W : World) (h : Below W8.heap.size W8 W) => size_calls W x L (HX8.out.below h) HOX.out.l13)
        rw [HSZ0.out] at HSZ
        have HSM := Lib.hid (fun (W : World) (h : Below W8.heap.size W8 W) => rsame_calls W x x L5 L (HX9.out.below h) (HX8.out.below h) HOX.out.okB HOX.out.okB)
        rw [HED.out, decide_eq_true (rfl : x = x)] at HSM
        have HQ4 := Lib.hid (show decide ((cl : Int) < 4) = false by have := HCLN.out; simp; omega)
        clear hk8 hb8 HB5 HX HX5 HWB HX8 HX9 HDZ HDO HED HSZ0 HB
        generalize CV x L = CX at *
        generalize w5.heap.size = gd at *
        have B := True.intro
        refine start_ (n := 24) (S := fun w' => True) (ds := []) #[false, false, false, false, false, false, false, false, false, false, false, false, false, false, false, false, false, false, false, false, false, false, false, false] (by kernel_rfl) rfl rfl trivial (fun hHeld => ?_)
        refine with_tabW lawbacktab14 lawbackbits14 (fun HT_ HW_ => ?_)
        refine pure_ (i := 0) (N := some 53) (v := ?_) (a' := ?_) #[true, false, false, false, false, false, false, false, false, false, false, false, false, false, false, false, false, false, false, false, false, false, false, false] rfl rfl (any_of HT_.out (by kernel_rfl)) (fun _ _ _ h => h) (Or.inl ⟨by rfl, ?_⟩) ?_ ?_
        rotate_left
        · intro w'
          go_simp
          with_reducible rfl
        rotate_left
        · simp only [Act.put, List.setIfInBounds_toArray, List.set_cons_zero, List.set_cons_succ, i64_w, i32_w]
          rfl
        refine inv_at [1, 2, 3, 4, 5, 6, 7, 8, 9, 10, 11, 12, 13, 14, 15, 16, 17, 18, 19, 20, 21, 22, 23] (fun a0_ b a w' => a = putSel a0_ b [(1, 54, .bool false), (2, 55, .bool false), (3, 56, .int .i64 (cl : Int)), (4, 57, .slice (some ad) l.length c), (5, 58, .int .i64 (i : Int)), (6, 59, .pointer (some (ad.add (i * 15)))), (7, 60, .agg CX), (8, 61, .int .i64 (cl : Int)), (9, 62, .bool false), (10, 63, .bool false), (11, 64, .bool false), (12, 65, .int .i64 (cl : Int)), (13, 66, .bool false), (14, 67, .bool false), (15, 68, .bool false), (16, 69, .agg CD), (17, 70, .slice (some ad) l.length c), (18, 71, .int .i64 (i : Int)), (19, 72, .pointer (some (ad.add (i * 15)))), (20, 73, .agg CX), (21, 74, .bool true), (22, 75, .bool false), (23, 76, .bool false)] ∧ (Below W8.heap.size W8 w')) HT_.out HW_.out (by kernel_rfl) (by kernel_rfl) ?_ ?_ ?_
        · exact ⟨by simp only [putSel, Bool.false_eq_true, if_false], below_drew (Below.refl _ _)⟩
        · skip
          clear B
          refine steps_cons ?_ ?_
          · rintro b a w' ⟨ha, Q_B⟩ hb_ hon hoff
            refine ⟨_, rfl, fun K hK => ?_⟩
            have e53 : a.tmps[53]? = some (.int .i64 0) := by rw [ha]; exact (putSel_off rfl).trans rfl
            replace ha := Aside0.mk ha
            have B := Aside0.mk Q_B
            refine value_ (w1 := w') (v := .bool false) (by rfl) rfl ?_ ?_
            · go_simp
              (try simp only [i64_w])
              try rfl
            refine hK.out _ _ ⟨(by rw [ha.out]; exact putSel_upk 0 hb_ rfl rfl rfl), Q_B⟩
          refine steps_cons ?_ ?_
          · rintro b a w' ⟨ha, Q_B⟩ hb_ hon hoff
            refine ⟨_, rfl, fun K hK => ?_⟩
            have e54 : a.tmps[54]? = some (.bool false) := by rw [ha]; exact putSel_on (e := (1, 54, .bool false)) 0 rfl rfl (hon 1 (by kernel_rfl)) rfl
            replace ha := Aside0.mk ha
            have B := Aside0.mk Q_B
            refine value_ (w1 := w') (v := .bool false) (by rfl) rfl ?_ ?_
            · go_simp
              (try simp only [i64_w])
              try rfl
            refine hK.out _ _ ⟨(by rw [ha.out]; exact putSel_upk 1 hb_ rfl rfl rfl), Q_B⟩
          refine steps_cons ?_ ?_
          · rintro b a w' ⟨ha, Q_B⟩ hb_ hon hoff
            refine ⟨_, rfl, fun K hK => ?_⟩
            have e11 : a.tmps[11]? = some (.int .i64 (cl : Int)) := by rw [ha]; exact (putSel_off rfl).trans rfl
            have e55 : a.tmps[55]? = some (.bool false) := by rw [ha]; exact putSel_on (e := (2, 55, .bool false)) 1 rfl rfl (hon 2 (by kernel_rfl)) rfl
            replace ha := Aside0.mk ha
            have B := Aside0.mk Q_B
            refine value_ (w1 := w') (v := .int .i64 (cl : Int)) (wanted_on rfl rfl rfl (e55.trans (by first | rfl | (simp [*]; done)))) rfl ?_ ?_
            · go_simp
              (try simp only [i64_w])
              try rfl
            refine hK.out _ _ ⟨(by rw [ha.out]; exact putSel_upk 2 hb_ rfl rfl rfl), Q_B⟩
          refine steps_cons ?_ ?_
          · rintro b a w' ⟨ha, Q_B⟩ hb_ hon hoff
            refine ⟨_, rfl, fun K hK => ?_⟩
            have e0 : a.tmps[0]? = some (.slice (some ad) l.length c) := by rw [ha]; exact (putSel_off rfl).trans rfl
            have e55 : a.tmps[55]? = some (.bool false) := by rw [ha]; exact putSel_on (e := (2, 55, .bool false)) 1 rfl rfl (hon 2 (by kernel_rfl)) rfl
            replace ha := Aside0.mk ha
            have B := Aside0.mk Q_B
            refine value_ (w1 := w') (v := .slice (some ad) l.length c) (wanted_on rfl rfl rfl (e55.trans (by first | rfl | (simp [*]; done)))) rfl ?_ ?_
            · go_simp
              (try simp only [i64_w])
              try rfl
            refine hK.out _ _ ⟨(by rw [ha.out]; exact putSel_upk 3 hb_ rfl rfl rfl), Q_B⟩
          refine steps_cons ?_ ?_
          · rintro b a w' ⟨ha, Q_B⟩ hb_ hon hoff
            refine ⟨_, rfl, fun K hK => ?_⟩
            have e9 : a.tmps[9]? = some (.int .i64 (i : Int)) := by rw [ha]; exact (putSel_off rfl).trans rfl
            have e55 : a.tmps[55]? = some (.bool false) := by rw [ha]; exact putSel_on (e := (2, 55, .bool false)) 1 rfl rfl (hon 2 (by kernel_rfl)) rfl
            replace ha := Aside0.mk ha
            have B := Aside0.mk Q_B
            refine value_ (w1 := w') (v := .int .i64 (i : Int)) (wanted_on rfl rfl rfl (e55.trans (by first | rfl | (simp [*]; done)))) rfl ?_ ?_
            · go_simp
              (try simp only [i64_w])
              try rfl
            refine hK.out _ _ ⟨(by rw [ha.out]; exact putSel_upk 4 hb_ rfl rfl rfl), Q_B⟩
          refine steps_cons ?_ ?_
          · rintro b a w' ⟨ha, Q_B⟩ hb_ hon hoff
            refine ⟨_, rfl, fun K hK => ?_⟩
            have e57 : a.tmps[57]? = some (.slice (some ad) l.length c) := by rw [ha]; exact putSel_on (e := (4, 57, .slice (some ad) l.length c)) 3 rfl rfl (hon 4 (by kernel_rfl)) rfl
            have e58 : a.tmps[58]? = some (.int .i64 (i : Int)) := by rw [ha]; exact putSel_on (e := (5, 58, .int .i64 (i : Int))) 4 rfl rfl (hon 5 (by kernel_rfl)) rfl
            have e55 : a.tmps[55]? = some (.bool false) := by rw [ha]; exact putSel_on (e := (2, 55, .bool false)) 1 rfl rfl (hon 2 (by kernel_rfl)) rfl
            replace ha := Aside0.mk ha
            have B := Aside0.mk Q_B
            refine value_ (w1 := w') (v := .pointer (some (ad.add (i * 15)))) (wanted_on rfl rfl rfl (e55.trans (by first | rfl | (simp [*]; done)))) rfl ?_ ?_
            · go_simp
              (try simp only [i64_w])
              try rfl
            refine hK.out _ _ ⟨(by rw [ha.out]; exact putSel_upk 5 hb_ rfl rfl rfl), Q_B⟩
          refine steps_cons ?_ ?_
          · rintro b a w' ⟨ha, Q_B⟩ hb_ hon hoff
            refine ⟨_, rfl, fun K hK => ?_⟩
            have e59 : a.tmps[59]? = some (.pointer (some (ad.add (i * 15)))) := by rw [ha]; exact putSel_on (e := (6, 59, .pointer (some (ad.add (i * 15))))) 5 rfl rfl (hon 6 (by kernel_rfl)) rfl
            have e55 : a.tmps[55]? = some (.bool false) := by rw [ha]; exact putSel_on (e := (2, 55, .bool false)) 1 rfl rfl (hon 2 (by kernel_rfl)) rfl
            replace ha := Aside0.mk ha
            have B := Aside0.mk Q_B
            refine value_ (w1 := w') (v := .agg CX) (wanted_on rfl rfl rfl (e55.trans (by first | rfl | (simp [*]; done)))) rfl (exec_load_cells 30 (.tmp 59) rfl (eval_of e59) CX _ (fun j v hv => pw_cell_below B.out (HCL.out j v hv)) Try.underlying30 rfl HXS.out) ?_
            refine hK.out _ _ ⟨(by rw [ha.out]; exact putSel_upk 6 hb_ rfl rfl rfl), B.out⟩
          refine steps_cons ?_ ?_
          · rintro b a w' ⟨ha, Q_B⟩ hb_ hon hoff
            refine ⟨_, rfl, fun K hK => ?_⟩
            have e60 : a.tmps[60]? = some (.agg CX) := by rw [ha]; exact putSel_on (e := (7, 60, .agg CX)) 6 rfl rfl (hon 7 (by kernel_rfl)) rfl
            have e55 : a.tmps[55]? = some (.bool false) := by rw [ha]; exact putSel_on (e := (2, 55, .bool false)) 1 rfl rfl (hon 2 (by kernel_rfl)) rfl
            replace ha := Aside0.mk ha
            have B := Aside0.mk Q_B
            refine goes_ Try.func20 (by kernel_rfl) rfl #[.agg CX] (wanted_on rfl rfl rfl (e55.trans (by first | rfl | (simp [*]; done)))) rfl rfl (by first | (simp only [List.map_toArray, List.map_cons, List.map_nil, Act.eval, Array.getD_eq_getD_getElem?, Option.getD_some, e60, e55]; done) | (simp only [List.map_toArray, List.map_cons, List.map_nil, Act.eval, Array.getD_eq_getD_getElem?, Option.getD_some, e60, e55]; rfl)) ?_
            refine (HSZ.out w' B.out).mono ?_
            rintro e w1 ⟨rfl, hB1⟩
            refine ⟨_, rfl, ?_⟩
            refine hK.out _ _ ⟨(by rw [ha.out]; exact putSel_upk 7 hb_ rfl rfl rfl), B.out.trans (hB1.mono B.out.size)⟩
          refine steps_cons ?_ ?_
          · rintro b a w' ⟨ha, Q_B⟩ hb_ hon hoff
            refine ⟨_, rfl, fun K hK => ?_⟩
            have e56 : a.tmps[56]? = some (.int .i64 (cl : Int)) := by rw [ha]; exact putSel_on (e := (3, 56, .int .i64 (cl : Int))) 2 rfl rfl (hon 3 (by kernel_rfl)) rfl
            have e61 : a.tmps[61]? = some (.int .i64 (cl : Int)) := by rw [ha]; exact putSel_on (e := (8, 61, .int .i64 (cl : Int))) 7 rfl rfl (hon 8 (by kernel_rfl)) rfl
            have e55 : a.tmps[55]? = some (.bool false) := by rw [ha]; exact putSel_on (e := (2, 55, .bool false)) 1 rfl rfl (hon 2 (by kernel_rfl)) rfl
            replace ha := Aside0.mk ha
            have B := Aside0.mk Q_B
            refine value_ (w1 := w') (v := .bool false) (wanted_on rfl rfl rfl (e55.trans (by first | rfl | (simp [*]; done)))) rfl ?_ ?_
            · go_simp
              (try simp only [i64_w])
              try rfl
            refine hK.out _ _ ⟨(by rw [ha.out]; exact putSel_upk 8 hb_ rfl rfl rfl), Q_B⟩
          refine steps_cons ?_ ?_
          · rintro b a w' ⟨ha, Q_B⟩ hb_ hon hoff
            refine ⟨_, rfl, fun K hK => ?_⟩
            have e55 : a.tmps[55]? = some (.bool false) := by rw [ha]; exact putSel_on (e := (2, 55, .bool false)) 1 rfl rfl (hon 2 (by kernel_rfl)) rfl
            have e62 : a.tmps[62]? = some (.bool false) := by rw [ha]; exact putSel_on (e := (9, 62, .bool false)) 8 rfl rfl (hon 9 (by kernel_rfl)) rfl
            replace ha := Aside0.mk ha
            have B := Aside0.mk Q_B
            refine value_ (w1 := w') (v := .bool false) (by rfl) rfl ?_ ?_
            · go_simp
              (try simp only [i64_w])
              try rfl
            refine hK.out _ _ ⟨(by rw [ha.out]; exact putSel_upk 9 hb_ rfl rfl rfl), Q_B⟩
          refine steps_cons ?_ ?_
          · rintro b a w' ⟨ha, Q_B⟩ hb_ hon hoff
            refine ⟨_, rfl, fun K hK => ?_⟩
            have e63 : a.tmps[63]? = some (.bool false) := by rw [ha]; exact putSel_on (e := (10, 63, .bool false)) 9 rfl rfl (hon 10 (by kernel_rfl)) rfl
            replace ha := Aside0.mk ha
            have B := Aside0.mk Q_B
            refine value_ (w1 := w') (v := .bool false) (by rfl) rfl ?_ ?_
            · go_simp
              (try simp only [i64_w])
              try rfl
            refine hK.out _ _ ⟨(by rw [ha.out]; exact putSel_upk 10 hb_ rfl rfl rfl), Q_B⟩
          refine steps_cons ?_ ?_
          · rintro b a w' ⟨ha, Q_B⟩ hb_ hon hoff
            refine ⟨_, rfl, fun K hK => ?_⟩
            have e11 : a.tmps[11]? = some (.int .i64 (cl : Int)) := by rw [ha]; exact (putSel_off rfl).trans rfl
            have e64 : a.tmps[64]? = some (.bool false) := by rw [ha]; exact putSel_on (e := (11, 64, .bool false)) 10 rfl rfl (hon 11 (by kernel_rfl)) rfl
            replace ha := Aside0.mk ha
            have B := Aside0.mk Q_B
            refine value_ (w1 := w') (v := .int .i64 (cl : Int)) (wanted_on rfl rfl rfl (e64.trans (by first | rfl | (simp [*]; done)))) rfl ?_ ?_
            · go_simp
              (try simp only [i64_w])
              try rfl
            refine hK.out _ _ ⟨(by rw [ha.out]; exact putSel_upk 11 hb_ rfl rfl rfl), Q_B⟩
          refine steps_cons ?_ ?_
          · rintro b a w' ⟨ha, Q_B⟩ hb_ hon hoff
            refine ⟨_, rfl, fun K hK => ?_⟩
            have e65 : a.tmps[65]? = some (.int .i64 (cl : Int)) := by rw [ha]; exact putSel_on (e := (12, 65, .int .i64 (cl : Int))) 11 rfl rfl (hon 12 (by kernel_rfl)) rfl
            have e64 : a.tmps[64]? = some (.bool false) := by rw [ha]; exact putSel_on (e := (11, 64, .bool false)) 10 rfl rfl (hon 11 (by kernel_rfl)) rfl
            replace ha := Aside0.mk ha
            have B := Aside0.mk Q_B
            refine value_ (w1 := w') (v := .bool false) (wanted_on rfl rfl rfl (e64.trans (by first | rfl | (simp [*]; done)))) rfl (by have hq := HQ4.out; go_simp; (try simp only [i64_w]); (try exact hq)) ?_
            refine hK.out _ _ ⟨(by rw [ha.out]; exact putSel_upk 12 hb_ rfl rfl rfl), B.out⟩
          refine steps_cons ?_ ?_
          · rintro b a w' ⟨ha, Q_B⟩ hb_ hon hoff
            refine ⟨_, rfl, fun K hK => ?_⟩
            have e64 : a.tmps[64]? = some (.bool false) := by rw [ha]; exact putSel_on (e := (11, 64, .bool false)) 10 rfl rfl (hon 11 (by kernel_rfl)) rfl
            have e66 : a.tmps[66]? = some (.bool false) := by rw [ha]; exact putSel_on (e := (13, 66, .bool false)) 12 rfl rfl (hon 13 (by kernel_rfl)) rfl
            replace ha := Aside0.mk ha
            have B := Aside0.mk Q_B
            refine value_ (w1 := w') (v := .bool false) (by rfl) rfl ?_ ?_
            · go_simp
              (try simp only [i64_w])
              try rfl
            refine hK.out _ _ ⟨(by rw [ha.out]; exact putSel_upk 13 hb_ rfl rfl rfl), Q_B⟩
          refine steps_cons ?_ ?_
          · rintro b a w' ⟨ha, Q_B⟩ hb_ hon hoff
            refine ⟨_, rfl, fun K hK => ?_⟩
            have e67 : a.tmps[67]? = some (.bool false) := by rw [ha]; exact putSel_on (e := (14, 67, .bool false)) 13 rfl rfl (hon 14 (by kernel_rfl)) rfl
            replace ha := Aside0.mk ha
            have B := Aside0.mk Q_B
            refine value_ (w1 := w') (v := .bool false) (by rfl) rfl ?_ ?_
            · go_simp
              (try simp only [i64_w])
              try rfl
            refine hK.out _ _ ⟨(by rw [ha.out]; exact putSel_upk 14 hb_ rfl rfl rfl), Q_B⟩
          refine steps_cons ?_ ?_
          · rintro b a w' ⟨ha, Q_B⟩ hb_ hon hoff
            refine ⟨_, rfl, fun K hK => ?_⟩
            have e10 : a.tmps[10]? = some (.pointer (some ⟨gd, 0, none⟩)) := by rw [ha]; exact (putSel_off rfl).trans rfl
            have e68 : a.tmps[68]? = some (.bool false) := by rw [ha]; exact putSel_on (e := (15, 68, .bool false)) 14 rfl rfl (hon 15 (by kernel_rfl)) rfl
            replace ha := Aside0.mk ha
            have B := Aside0.mk Q_B
            refine value_ (w1 := w') (v := .agg CD) (wanted_on rfl rfl rfl (e68.trans (by first | rfl | (simp [*]; done)))) rfl (exec_load_row 30 (.tmp 10) rfl (eval_of e10) (blk_below HKD.out B.out) Try.underlying30 rfl HDS.out) ?_
            refine hK.out _ _ ⟨(by rw [ha.out]; exact putSel_upk 15 hb_ rfl rfl rfl), B.out⟩
          refine steps_cons ?_ ?_
          · rintro b a w' ⟨ha, Q_B⟩ hb_ hon hoff
            refine ⟨_, rfl, fun K hK => ?_⟩
            have e0 : a.tmps[0]? = some (.slice (some ad) l.length c) := by rw [ha]; exact (putSel_off rfl).trans rfl
            have e68 : a.tmps[68]? = some (.bool false) := by rw [ha]; exact putSel_on (e := (15, 68, .bool false)) 14 rfl rfl (hon 15 (by kernel_rfl)) rfl
            replace ha := Aside0.mk ha
            have B := Aside0.mk Q_B
            refine value_ (w1 := w') (v := .slice (some ad) l.length c) (wanted_on rfl rfl rfl (e68.trans (by first | rfl | (simp [*]; done)))) rfl ?_ ?_
            · go_simp
              (try simp only [i64_w])
              try rfl
            refine hK.out _ _ ⟨(by rw [ha.out]; exact putSel_upk 16 hb_ rfl rfl rfl), Q_B⟩
          refine steps_cons ?_ ?_
          · rintro b a w' ⟨ha, Q_B⟩ hb_ hon hoff
            refine ⟨_, rfl, fun K hK => ?_⟩
            have e9 : a.tmps[9]? = some (.int .i64 (i : Int)) := by rw [ha]; exact (putSel_off rfl).trans rfl
            have e68 : a.tmps[68]? = some (.bool false) := by rw [ha]; exact putSel_on (e := (15, 68, .bool false)) 14 rfl rfl (hon 15 (by kernel_rfl)) rfl
            replace ha := Aside0.mk ha
            have B := Aside0.mk Q_B
            refine value_ (w1 := w') (v := .int .i64 (i : Int)) (wanted_on rfl rfl rfl (e68.trans (by first | rfl | (simp [*]; done)))) rfl ?_ ?_
            · go_simp
              (try simp only [i64_w])
              try rfl
            refine hK.out _ _ ⟨(by rw [ha.out]; exact putSel_upk 17 hb_ rfl rfl rfl), Q_B⟩
          refine steps_cons ?_ ?_
          · rintro b a w' ⟨ha, Q_B⟩ hb_ hon hoff
            refine ⟨_, rfl, fun K hK => ?_⟩
            have e70 : a.tmps[70]? = some (.slice (some ad) l.length c) := by rw [ha]; exact putSel_on (e := (17, 70, .slice (some ad) l.length c)) 16 rfl rfl (hon 17 (by kernel_rfl)) rfl
            have e71 : a.tmps[71]? = some (.int .i64 (i : Int)) := by rw [ha]; exact putSel_on (e := (18, 71, .int .i64 (i : Int))) 17 rfl rfl (hon 18 (by kernel_rfl)) rfl
            have e68 : a.tmps[68]? = some (.bool false) := by rw [ha]; exact putSel_on (e := (15, 68, .bool false)) 14 rfl rfl (hon 15 (by kernel_rfl)) rfl
            replace ha := Aside0.mk ha
            have B := Aside0.mk Q_B
            refine value_ (w1 := w') (v := .pointer (some (ad.add (i * 15)))) (wanted_on rfl rfl rfl (e68.trans (by first | rfl | (simp [*]; done)))) rfl ?_ ?_
            · go_simp
              (try simp only [i64_w])
              try rfl
            refine hK.out _ _ ⟨(by rw [ha.out]; exact putSel_upk 18 hb_ rfl rfl rfl), Q_B⟩
          refine steps_cons ?_ ?_
          · rintro b a w' ⟨ha, Q_B⟩ hb_ hon hoff
            refine ⟨_, rfl, fun K hK => ?_⟩
            have e72 : a.tmps[72]? = some (.pointer (some (ad.add (i * 15)))) := by rw [ha]; exact putSel_on (e := (19, 72, .pointer (some (ad.add (i * 15))))) 18 rfl rfl (hon 19 (by kernel_rfl)) rfl
            have e68 : a.tmps[68]? = some (.bool false) := by rw [ha]; exact putSel_on (e := (15, 68, .bool false)) 14 rfl rfl (hon 15 (by kernel_rfl)) rfl
            replace ha := Aside0.mk ha
            have B := Aside0.mk Q_B
            refine value_ (w1 := w') (v := .agg CX) (wanted_on rfl rfl rfl (e68.trans (by first | rfl | (simp [*]; done)))) rfl (exec_load_cells 30 (.tmp 72) rfl (eval_of e72) CX _ (fun j v hv => pw_cell_below B.out (HCL.out j v hv)) Try.underlying30 rfl HXS.out) ?_
            refine hK.out _ _ ⟨(by rw [ha.out]; exact putSel_upk 19 hb_ rfl rfl rfl), B.out⟩
          refine steps_cons ?_ ?_
          · rintro b a w' ⟨ha, Q_B⟩ hb_ hon hoff
            refine ⟨_, rfl, fun K hK => ?_⟩
            have e69 : a.tmps[69]? = some (.agg CD) := by rw [ha]; exact putSel_on (e := (16, 69, .agg CD)) 15 rfl rfl (hon 16 (by kernel_rfl)) rfl
            have e73 : a.tmps[73]? = some (.agg CX) := by rw [ha]; exact putSel_on (e := (20, 73, .agg CX)) 19 rfl rfl (hon 20 (by kernel_rfl)) rfl
            have e68 : a.tmps[68]? = some (.bool false) := by rw [ha]; exact putSel_on (e := (15, 68, .bool false)) 14 rfl rfl (hon 15 (by kernel_rfl)) rfl
            replace ha := Aside0.mk ha
            have B := Aside0.mk Q_B
            refine goes_ Try.func12 (by kernel_rfl) rfl #[.agg CD, .agg CX] (wanted_on rfl rfl rfl (e68.trans (by first | rfl | (simp [*]; done)))) rfl rfl (by first | (simp only [List.map_toArray, List.map_cons, List.map_nil, Act.eval, Array.getD_eq_getD_getElem?, Option.getD_some, e69, e73, e68]; done) | (simp only [List.map_toArray, List.map_cons, List.map_nil, Act.eval, Array.getD_eq_getD_getElem?, Option.getD_some, e69, e73, e68]; rfl)) ?_
            refine (HSM.out w' B.out).mono ?_
            rintro e w1 ⟨rfl, hB1⟩
            refine ⟨_, rfl, ?_⟩
            refine hK.out _ _ ⟨(by rw [ha.out]; exact putSel_upk 20 hb_ rfl rfl rfl), B.out.trans (hB1.mono B.out.size)⟩
          refine steps_cons ?_ ?_
          · rintro b a w' ⟨ha, Q_B⟩ hb_ hon hoff
            refine ⟨_, rfl, fun K hK => ?_⟩
            have e74 : a.tmps[74]? = some (.bool true) := by rw [ha]; exact putSel_on (e := (21, 74, .bool true)) 20 rfl rfl (hon 21 (by kernel_rfl)) rfl
            have e68 : a.tmps[68]? = some (.bool false) := by rw [ha]; exact putSel_on (e := (15, 68, .bool false)) 14 rfl rfl (hon 15 (by kernel_rfl)) rfl
            replace ha := Aside0.mk ha
            have B := Aside0.mk Q_B
            refine value_ (w1 := w') (v := .bool false) (wanted_on rfl rfl rfl (e68.trans (by first | rfl | (simp [*]; done)))) rfl ?_ ?_
            · go_simp
              (try simp only [i64_w])
              try rfl
            refine hK.out _ _ ⟨(by rw [ha.out]; exact putSel_upk 21 hb_ rfl rfl rfl), Q_B⟩
          refine steps_cons ?_ ?_
          · rintro b a w' ⟨ha, Q_B⟩ hb_ hon hoff
            refine ⟨_, rfl, fun K hK => ?_⟩
            have e68 : a.tmps[68]? = some (.bool false) := by rw [ha]; exact putSel_on (e := (15, 68, .bool false)) 14 rfl rfl (hon 15 (by kernel_rfl)) rfl
            have e75 : a.tmps[75]? = some (.bool false) := by rw [ha]; exact putSel_on (e := (22, 75, .bool false)) 21 rfl rfl (hon 22 (by kernel_rfl)) rfl
            replace ha := Aside0.mk ha
            have B := Aside0.mk Q_B
            refine value_ (w1 := w') (v := .bool false) (by rfl) rfl ?_ ?_
            · go_simp
              (try simp only [i64_w])
              try rfl
            refine hK.out _ _ ⟨(by rw [ha.out]; exact putSel_upk 22 hb_ rfl rfl rfl), Q_B⟩
          exact steps_nil
        rintro b a w' hall ⟨ha, Q_B⟩
        clear B
        have hb1_ := hall 1 (by kernel_rfl)
        have hb2_ := hall 2 (by kernel_rfl)
        have hb3_ := hall 3 (by kernel_rfl)
        have hb4_ := hall 4 (by kernel_rfl)
        have hb5_ := hall 5 (by kernel_rfl)
        have hb6_ := hall 6 (by kernel_rfl)
        have hb7_ := hall 7 (by kernel_rfl)
        have hb8_ := hall 8 (by kernel_rfl)
        have hb9_ := hall 9 (by kernel_rfl)
        have hb10_ := hall 10 (by kernel_rfl)
        have hb11_ := hall 11 (by kernel_rfl)
        have hb12_ := hall 12 (by kernel_rfl)
        have hb13_ := hall 13 (by kernel_rfl)
        have hb14_ := hall 14 (by kernel_rfl)
        have hb15_ := hall 15 (by kernel_rfl)
        have hb16_ := hall 16 (by kernel_rfl)
        have hb17_ := hall 17 (by kernel_rfl)
        have hb18_ := hall 18 (by kernel_rfl)
        have hb19_ := hall 19 (by kernel_rfl)
        have hb20_ := hall 20 (by kernel_rfl)
        have hb21_ := hall 21 (by kernel_rfl)
        have hb22_ := hall 22 (by kernel_rfl)
        have hb23_ := hall 23 (by kernel_rfl)
        subst ha
        simp only [putSel, hb1_, hb2_, hb3_, hb4_, hb5_, hb6_, hb7_, hb8_, hb9_, hb10_, hb11_, hb12_, hb13_, hb14_, hb15_, hb16_, hb17_, hb18_, hb19_, hb20_, hb21_, hb22_, hb23_, if_true, Act.put, List.setIfInBounds_toArray, List.set_cons_zero, List.set_cons_succ]
        have B := Aside0.mk Q_B
        clear Q_B
        clear hall hb1_ hb2_ hb3_ hb4_ hb5_ hb6_ hb7_ hb8_ hb9_ hb10_ hb11_ hb12_ hb13_ hb14_ hb15_ hb16_ hb17_ hb18_ hb19_ hb20_ hb21_ hb22_ hb23_
        have HBN := Lib.hid (below_then HB8.out HB8.out.size B.out)
        have hw : wrap64 ((at_ : Int) + (cl : Int)) = ((at_ + cl : Nat) : Int) := by have := HCLN.out; have := HBL.out; unfold wrap64; omega
        have hle := HCLN.out
        clear B HB8 HSZ HSM HCL HKD HXS HDS HQ4
        go_wp2
        go_roundw
        case rel => exact ⟨i + 1, at_ + cl, by omega, hle.2, by go_num, by rw [← hw], HF3, HBN⟩
        case measure => simp [intOf]; omega
      · obtain rfl : i = l.length := by omega
        have hF := HF.out
        rw [List.drop_length] at hF
        have h0 := len_ints hF
        rw [List.length_drop] at h0
        have h0 : bs.length - at_ = 0 := h0
        obtain rfl : at_ = bs.length := by omega
        clear hF h0 HF
        go_wp2
        go_ret
        exact ⟨rfl, below_then HB1.out HB1.out.size HB.out⟩
  · have hz := HBAD.out hec
    subst hz
    have q : (ec != 0) = true := by simp [hec]
    clear HBAD HGOOD HIN HC1
    go_wp2
    go_ret
    exact ⟨rfl, HB1.out⟩
end Go.Proofs.Ytjmadnpicidbeaa.Ch
end
section
namespace Go.Proofs.Ytjmadnpicidbeaa.chunkBack
open Go.ChangeShapes Go.WideShapes Go.ChangeAt Go.RowKit Go.Proofs.Ytjmadnpicidbeaa.Base
open Go.ChangeMaps (open_string shut_string)
set_option linter.unusedVariables false
set_option maxRecDepth 100000 in
theorem contract (H : Type) (enc : TypeId × Value → H) (W : World) (base : Nat) (args : Array Value) (ds gs : List (DataW H)) (before : List MemPlace)
    (hval : ∀ (j : Nat) t v, Try.f9.params[j]? = some t → args[j]? = some v → Value.okWide Try.prog W .any base t v)
    (hW : DataW.Whole enc Try.prog Try.f9.params.toList Rows.chunkBackSpec.vars false W args.toList ds gs before)
    (hsz0 : (DataW.weightsEach Try.prog (Try.f9.params.toList ++ (OpenSpec.ofChange Rows.chunkBackSpec).bare.plain.varTypes Try.prog) (ds ++ gs)).all (· ≤ reachBytes) = true)
    (hL : laidMetH Try.prog Rows.chunkBackRow.laid W) :
    Calls Try.prog 9 args W fun e W' => ∃ v, e = .returned v ∧ Rows.chunkBackSpec.post enc Try.prog Try.f9 false true false false W args v W' := by
  have hW' := hW
  obtain ⟨p, q, hA0, hV, rfl, hfz, hnd⟩ := hW
  have hA : DataW.TrodAll enc Try.prog W 0 (fun _ => true) true Try.f9.params.toList args.toList ds p := hA0
  rw [Try.params9] at hA hval
  obtain ⟨v0, vs0, d0, ds0, p0, q0, hargs, rfl, rfl, h0, r0⟩ := trodAll_cons hA
  obtain ⟨rfl, rfl, rfl⟩ := trodAll_nil r0
  obtain rfl : args = #[v0] := by cases args; simp_all
  obtain ⟨rfl, rfl⟩ := trodVars_none hV
  have hsz := hsz0
  rw [Try.params9] at hsz
  obtain ⟨a0, len0, cap0, rfl⟩ := okWide_slice Try.underlying41 (hval 0 41 v0 rfl rfl)
  have k0 := h0
  have lt0 : ∀ x ∈ p0, x.block < W.heap.size := by obtain ⟨m, hm⟩ := k0; exact DataW.trod_lt m _ _ _ hm
  obtain ⟨l0, rfl, hc0, hb0, hw0, hp0⟩ := OpensP.arg (Classical.choose_spec Ch.opens_chks) h0 (short_part hsz (j := 0) rfl rfl)
  clear hA0 hsz hsz0
  refine (Ch.back_row a0 cap0 l0 hb0 hc0 hp0).mono fun e W' ⟨he, bel⟩ => ?_
  subst he
  exact ⟨_, rfl, _, _, _, [], _, [], hW', trodAll_mk1 (shut_bool Try.underlying4 _), (trodAll_cons_mk (Below.trod laidOut (by kernel_rfl) (of_decide_eq_true (by kernel_rfl)) k0 bel lt0) trodAll_mk0), rfl, bel.frame _, fun h => by cases h⟩
noncomputable def laidWorld (os : Os) : World := World.holding Try.prog os ⟨#[], #[], []⟩
theorem laid_met (os : Os) : laidMet Try.prog Rows.chunkBackRow.laid ((laidWorld os).forCall (fun _ _ => 0) ⟨#[], #[.slice none 0 0], []⟩).memory :=
  laidMet_of_run' 8 (by kernel_rfl) (by kernel_rfl)
theorem reads (os : Os) {H : Type} (enc : TypeId × Value → H) : ∃ places, DataW.whole enc Try.prog ((laidWorld os).forCall (fun _ _ => 0) ⟨#[], #[.slice none 0 0], []⟩).memory Try.f9.params.toList Rows.chunkBackSpec.vars false (#[.slice none 0 0] : Array Value).toList 8 = some ([.nil], [], places) :=
  ⟨[], by kernel_rfl⟩
set_option maxRecDepth 100000 in
theorem lifted (os : Os) (started : os.Started) (H : Type) (enc : TypeId × Value → H) (F : Stop.Interp) :
    ReturnsInHanded {} Try.checked os 9 .any ((OpenSpec.ofChange Rows.chunkBackSpec).preRow enc Try.prog Try.f9 Rows.chunkBackRow.domain false Rows.chunkBackRow.laid) (((OpenSpec.ofChange Rows.chunkBackSpec).at F).post enc Try.prog Try.f9 false true false false) := by
  obtain ⟨places, hx⟩ := reads os enc
  refine returnsInHanded_of_row (C := Try.checked) (s := (OpenSpec.ofChange Rows.chunkBackSpec)) own started (by kernel_rfl) Try.func9
    (witness_row_at (enc := enc) (C := Try.checked) false (laidWorld os) #[.slice none 0 0] rfl (by kernel_rfl) (by kernel_rfl) (by kernel_rfl)
      (OpenSpec.preRow_of_cond 8 hx (by kernel_rfl) (fun k hk => by cases hk) (by kernel_rfl) (laid_met os))) ?_
  intro W base args ds gs before hval hW _ hcond hsz hL _ _
  exact contract H enc W base args ds gs before hval hW hsz hL
theorem said : Rows.ChunkBackSaid :=
  OpenClaim.holds_of_cond 9 Try.f9 rfl rfl rfl rfl rfl rfl rfl ⟨rfl, rfl, rfl, rfl, rfl⟩ rfl rfl rfl rfl rfl (by kernel_rfl) Try.func9 (by kernel_rfl)
    (of_decide_eq_true (by kernel_rfl)) (by unfold Func.isWrapper; first | (rw [if_pos (by decide +kernel)]; kernel_rfl) | (rw [if_neg (by decide +kernel)]; exact ⟨rfl, rfl⟩))
    (fun os started H enc _ F => by rw [OpenClaim.pre_eq_preRow]; exact lifted os started H enc F)
theorem chunkBack_holds : Rows.ChunkBackSaid := said
#print axioms chunkBack_holds
end Go.Proofs.Ytjmadnpicidbeaa.chunkBack
end
