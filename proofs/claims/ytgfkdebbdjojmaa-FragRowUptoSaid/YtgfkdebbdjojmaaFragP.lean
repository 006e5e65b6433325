/- The statement FragRow, walked. -/
import Derived.Test.YtgfkdebbdjojmaaFragO
import Derived.Test.YtgfkdebbdjojmaaOpensP
namespace Go.Proofs.Ytgfkdebbdjojmaa.Frag
open Go.RowKit Go.Proofs.YtgfkdebbdjojmaaW.PrintWords Go.Proofs.Ytgfkdebbdjojmaa.Base
set_option linter.unusedVariables false
set_option linter.unusedSimpArgs false
set_option maxHeartbeats 2000000 in
theorem fragRow_row {w : World} (A : Option Addr) (c : Nat) (ss : List ByteArray) (hb : Kd.string.C w A ss.length ss) (hc : ss.length ≤ c) (hm : ss.length ≤ 1048576) (hz : ∀ s ∈ ss, s.size ≤ 1048576) (n : Int) (hn : (Lit.int .i64 n).wf = true) :
    Calls Try.prog 7 #[.slice A ss.length c, .int .i64 n] w fun e w' => e = .returned (.bool true) ∧ Below w.heap.size w w' := by
  have HCU := Lib.hid (fun (W : World) (B : Option Addr) (s : ByteArray) (d : Nat) (h1 : byte.C W B s.data.toList.length s.data.toList) (h2 : s.data.toList.length ≤ d) (h3 : s.data.toList.length ≤ 140737488355328) => cut_any W B s.data.toList d n h1 h2 h3)
  unfold CutAny at HCU
  have HS := Lib.hid hb
  have HZ := Lib.hid hz
  clear hb hz hn
  go_enter Try.func7, Try.ntmps7
  go_wp2
  go_loopw [5, 6, 7] (fun v5 v6 v7 wr => ∃ (k : Nat) (zs : List ((Nat × Nat) × List UInt8)), k ≤ ss.length ∧ v7 = .int .i64 k ∧ Hid (Kd.R pcK 42 wr w.heap.size (fun _ => True) v5 (allP n (ss.take k))) ∧ Hid (rawK.R 22 wr w.heap.size (fun _ => True) v6 zs) ∧ Hid (∀ z ∈ zs, Cv wr z) ∧ Hid (zs.map (·.2) = wantP n (ss.take k)) ∧ Hid (Below w.heap.size w wr)) (fun _ _ v7 _ => ss.length - (intOf v7).toNat)
  case atStart => exact ⟨0, [], by omega, rfl, Kd.R_nil _ _ _ _ _, Kd.R_nil _ _ _ _ _, Lib.hid (by intro z hz; cases hz), rfl, Below.refl _ _⟩
  case round =>
    obtain ⟨k, zs, hk, rfl, HA, HW, HV, HE, HB⟩ := hrel
    obtain ⟨Aa, ca, rfl⟩ := Kd.R_slice HA.out
    obtain ⟨Aw, cw, rfl⟩ := Kd.R_slice HW.out
    by_cases hlt : k < ss.length
    · obtain ⟨ad, rfl, hs⟩ := at_str HS.out k hlt
      have HS0 := Lib.hid hs
      replace hs := pw_cell_below HB.out hs
      have hsz : (ss.getD k ByteArray.empty).size ≤ 1048576 := by
        rw [getD_lt _ _ _ hlt]
        exact HZ.out _ (List.getElem_mem _)
      have htl := allP_take n ss k hlt
      have hwk := wantP_ok n ss k hlt
      have hwb := wantP_bad n ss k hlt
      have hal := allP_len n (ss.take k)
      rw [List.length_take] at hal
      have hwl : zs.length ≤ k := by
        have h1 := congrArg List.length HE.out
        rw [List.length_map] at h1
        have h2 := wantP_len n (ss.take k)
        rw [List.length_take] at h2
        omega
      generalize ss.getD k ByteArray.empty = s at *
      have hl : s.data.toList.length = s.size := Array.length_toList
      have hcv := Lib.run_convert_string_bytes (P := Try.prog) wr 9 22 5 s Try.underlying9 Try.underlying22 Try.underlying5
      have hcap := grownCap_ge wr s.size 0 5
      have hW1 := bw_below wr 5 s
      have hV1 := Cv.new wr s _ (by omega) hcap
      have HCT := Lib.hid (HCU.out (Lib.bytesWorld wr 5 s) _ s _ hV1.reads hV1.le (by omega))
      rw [hl] at HCT
      have hcl := cutA_len s.data.toList n
      have HOA := Lib.hid (fun k' (e : (Value.slice Aa (allP n (ss.take k)).length ca).ownBlock = some k') => Kd.R_lt HA.out k' e)
      have HTL := Lib.hid htl
      have HWK := Lib.hid hwk
      have HWB := Lib.hid hwb
      have HB1 := Lib.hid (HB.out.trans (hW1.mono HB.out.size))
      have HW1 := Lib.hid hW1
      have hz1 : wr.heap.size ≤ (Lib.bytesWorld wr 5 s).heap.size := by rw [Lib.bytesWorld_size]; omega
      clear htl hwk hwb hcap hV1 hW1
      generalize grownCap wr s.size 0 5 = cap at *
      generalize Lib.bytesWorld wr 5 s = W1 at *
      go_wp2_with fail
      refine HCT.out.mono ?_
      rintro e w1 ⟨v1, rfl, hR1, hB1⟩
      obtain ⟨A1, c1, rfl, hrows⟩ := cut_rows (base := w.heap.size) (va := .slice Aa (allP n (ss.take k)).length ca) hR1 (Nat.le_trans HB.out.size hz1) (fun k' e => Nat.lt_of_lt_of_le (HOA.out k' e) hz1)
      have HRW := Lib.hid hrows
      have hB01 := HW1.out.trans (hB1.mono hz1)
      have HA1 := Lib.hid (Kd.R_below HA.out hB01)
      have HWR1 := Lib.hid (Kd.R_below HW.out hB01)
      have HV1 := Lib.hid (fun z hz => (HV.out z hz).below hB01)
      have HB2 := Lib.hid (below_then HB1.out HB1.out.size hB1)
      clear hR1 hB1 hrows hB01 HA HW HV HB HCT hcv hs
      by_cases hcode : (cutA s.data.toList n).2 = 0
      · rw [hcode]
        have hwk := HWK.out hcode
        have HWK := Lib.hid hwk
        clear hwk HWB hcode HCU
        generalize (cutA s.data.toList n).1 = ps at *
        go_wp2_with (first
          | (at_builtin; refine Kd.R_append_rows pcK (w0 := w) (W := w1) w.heap.size rfl _ _ 23 42 _ 32 rfl Try.underlying23 info_pc rfl (by decide) (by decide) (.slice Aa (allP n (ss.take k)).length ca) (allP n (ss.take k)) ps A1 ps.length c1 (fun _ => True) (fun k' => True ∧ some k' ≠ (Value.slice Aa (allP n (ss.take k)).length ca).ownBlock) rfl rfl HA1.out HRW.out (fun x cs h => h) (fun k hk => hk) (fun _ _ => trivial) HB2.out HB2.out.size (by omega) ?_; intro v2 w2 hR2 hB2 hG2 hat2
             have HW2 := Lib.hid (R_apart HWR1.out HA1.out (by decide) hG2)
             have HV2 := Lib.hid (fun z hz => Cv.grown (HV1.out z hz) HA1.out (by decide) hG2)
             have hcv := Lib.run_convert_string_bytes (P := Try.prog) w2 9 22 5 s Try.underlying9 Try.underlying22 Try.underlying5
             have hcap := grownCap_ge w2 s.size 0 5
             have hW3 := bw_below w2 5 s
             have HV3 := Lib.hid (Cv.new w2 s _ (by omega) hcap)
             have HA3 := Lib.hid (Kd.R_below hR2 hW3)
             have HW3 := Lib.hid (Kd.R_below HW2.out hW3)
             have HVV3 := Lib.hid (fun z hz => (HV2.out z hz).below hW3)
             have HB3 := Lib.hid (hB2.trans (hW3.mono hB2.size))
             have hs3 := pw_cell_below hB2 HS0.out
             obtain ⟨Ab, cb, rfl⟩ := Kd.R_slice hR2
             generalize hsz2 : w2.heap.size = g2 at *
             generalize grownCap w2 s.size 0 5 = cap2 at *
             generalize Lib.bytesWorld w2 5 s = W3 at *
             clear hR2 hB2 hG2 hat2 HW2 HV2 hcap hW3)
          | (at_builtin; go_must (refine Kd.R_append rawK (w0 := w) (W := W3) w.heap.size rfl _ _ 45 22 _ 24 rfl Try.underlying45 info_bs rfl (by decide) (by decide) (.slice Aw zs.length cw) zs ((g2, cap2), s.data.toList) [.slice (some ⟨g2, 0, none⟩) s.size cap2] (fun _ => True) (fun _ => False) rfl rfl (by show _ = [Value.slice (some ⟨g2, 0, none⟩) s.data.toList.length cap2]; rw [hl]) (fun _ h => h.elim) (fun _ _ => trivial) HW3.out HB3.out HB3.out.size (by omega) ?_); intro v4 w4 hR4 hB4 hG4 hat4))
        go_roundw
        case rel =>
          refine ⟨k + 1, zs ++ [((g2, cap2), s.data.toList)], by omega, by go_num, ?_, Lib.hid hR4, Lib.hid ?_, Lib.hid ?_, Lib.hid hB4⟩
          · rw [HTL.out]
            have hA4 := R_apart HA3.out HW3.out (by decide) hG4
            rw [List.length_append] at hA4
            exact Lib.hid hA4
          · intro z hz
            rcases List.mem_append.1 hz with hz | hz
            · exact Cv.grown (HVV3.out z hz) HW3.out (by decide) hG4
            · obtain rfl := List.mem_singleton.1 hz
              exact Cv.grown HV3.out HW3.out (by decide) hG4
          · rw [List.map_append, HE.out, HWK.out]
            rfl
        case measure => simp [intOf]; omega
      · have hne : ((cutA s.data.toList n).2 != 0) = true := by simp [hcode]
        have hnil := cutA_bad hcode
        have HTL2 := Lib.hid (show allP n (ss.take (k + 1)) = allP n (ss.take k) by rw [HTL.out, hnil, List.append_nil])
        have HWB2 := Lib.hid (HWB.out hcode)
        clear HCU hnil HTL HWK HWB hcode
        generalize (cutA s.data.toList n).2 = code at *
        generalize (cutA s.data.toList n).1 = ps at *
        go_wp2
        go_roundw
        case rel => exact ⟨k + 1, zs, by omega, by go_num, by rw [HTL2.out]; exact HA1, HWR1, HV1, by rw [HWB2.out]; exact HE, HB2⟩
        case measure => simp [intOf]; omega
    · obtain rfl : k = ss.length := by omega
      have hA := HA.out
      have hE := HE.out
      rw [List.take_length] at hA hE
      obtain ⟨Aa', ca', hva⟩ := Kd.R_slice hA
      injection hva with hva1 hva2 hva3
      subst hva1 hva3
      have hwl := wantP_len n ss
      have hal := allP_len n ss
      have hrun := runs_all n ss []
      rw [List.nil_append] at hrun
      have HR := Lib.hid (runs_calls wr Aa ca (allP n ss) (wantP n ss) (Kd.R_reads' hA).2.2 (by omega) hrun)
      have hzl : zs.length = (wantP n ss).length := by rw [← hE, List.length_map]
      have hW := (Kd.R_reads' HW.out).2.2
      have hWB := raw_bytes hW HV.out
      rw [hE] at hWB
      have HWB := Lib.hid hWB
      rw [List.take_length]
      clear hA hE hW hWB hrun HA HW HV HE HS HZ HCU hlt
      rw [hzl] at *
      generalize wantP n ss = wants at *
      generalize allP n ss = all at *
      go_wp2_with fail
      refine HR.out.mono ?_
      rintro e w1 ⟨v1, rfl, hR1, hB1⟩
      obtain ⟨A1, c1, rfl, _, hC1⟩ := Kd.R_reads hR1
      have HT := Lib.hid (texts_calls w1 A1 c1 Aw cw wants hC1 (Kd.C_below HWB.out hB1))
      have HB1 := Lib.hid (below_then HB.out HB.out.size hB1)
      clear hR1 hB1 hC1 HWB HB HR
      go_wp2_with fail
      refine HT.out.mono ?_
      rintro e w8 ⟨rfl, ⟨m8, rfl⟩⟩
      go_wp2_with fail
      refine (alive_calls _).mono ?_
      rintro e w9 ⟨rfl, hB9⟩
      go_wp2
      go_ret
      exact ⟨rfl, (pw_below_drewN HB1.out m8).trans (hB9.mono HB1.out.size)⟩
theorem Opens.string {t : TypeId} (ht : Try.prog.underlying t = some .string) : Opens t Kd.string (fun s => s.size + 1) := by
  intro H enc W fuel cs D p h
  obtain ⟨s, rfl, hx, hw⟩ := DataW.trod_string ht h
  refine ⟨s, rfl, ?_⟩
  cases hx
  show s.size + 1 ≤ s.data.toList.length + 1
  rw [Array.length_toList]
  exact Nat.le_refl _
theorem open_strsP : OpensP 44 (Kd.slice 9 Kd.string) (fun xs => (xs.map fun s => s.size + 1).sum + 1) (fun xs => xs.length * 16 ≤ 140737488351232 ∧ ∀ x ∈ xs, True) := OpensP.slice (OpensP.of (Opens.string Try.underlying9)) Try.underlying44 (by kernel_rfl) 16 (by kernel_rfl)
theorem le_sum_of_mem (ss : List ByteArray) : ss.length ≤ (ss.map fun s => s.size + 1).sum ∧ ∀ s ∈ ss, s.size ≤ (ss.map fun s => s.size + 1).sum := by
  induction ss with
  | nil => exact ⟨Nat.le_refl _, fun s h => by cases h⟩
  | cons x r ih =>
    simp only [List.map_cons, List.sum_cons, List.length_cons]
    refine ⟨by omega, fun s h => ?_⟩
    rcases List.mem_cons.1 h with rfl | h
    · omega
    · have := ih.2 s h; omega
theorem fragRow_upto {w : World} (A : Option Addr) (c : Nat) (ss : List ByteArray) (hb : Kd.string.C w A ss.length ss) (hc : ss.length ≤ c) (hp : ss.length * 16 ≤ 140737488351232 ∧ ∀ x ∈ ss, True) (hw : (ss.map fun s => s.size + 1).sum + 1 ≤ 1048576) (n : Int) (hn : (Lit.int .i64 n).wf = true) :
    Calls Try.prog 7 #[.slice A ss.length c, .int .i64 n] w fun e w' => e = .returned (.bool true) ∧ Below w.heap.size w w' := by
  obtain ⟨h1, h2⟩ := le_sum_of_mem ss
  exact fragRow_row A c ss hb hc (by omega) (fun s hs => by have := h2 s hs; omega) n hn
end Go.Proofs.Ytgfkdebbdjojmaa.Frag
