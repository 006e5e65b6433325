/- The reference's Texts, walked; the plain law of FragRow; what a conversion's row keeps. -/
import Derived.Test.YtgfkdebbdjojmaaFragN
import Derived.Test.YtgfkdebbdjojmaaFragK
import Derived.Lib.ConvBytes
namespace Go.Proofs.Ytgfkdebbdjojmaa.Frag
open Go.RowKit Go.Proofs.YtgfkdebbdjojmaaW.PrintWords Go.Proofs.Ytgfkdebbdjojmaa.Base
set_option linter.unusedVariables false
set_option linter.unusedSimpArgs false
theorem texts_calls (w : World) (A0 : Option Addr) (c0 : Nat) (A1 : Option Addr) (c1 : Nat) (l : List (List UInt8)) (h0 : bytesK.C w A0 l.length l) (h1 : bytesK.C w A1 l.length l) :
    Calls Try.prog 17 #[.slice A0 l.length c0, .slice A1 l.length c1] w fun e w' => e = .returned (.bool true) ∧ Drawn0 w w' := by
  have m0 := h0.2.1
  have H0 := Lib.hid h0
  have H1 := Lib.hid h1
  clear h0 h1
  have hne : (((l.length : Nat) : Int) != ((l.length : Nat) : Int)) = false := by simp
  go_enter Try.func17, Try.ntmps17
  go_wp2
  go_loopw [5] (fun v5 w' => ∃ i : Nat, i ≤ l.length ∧ v5 = .int .i64 i ∧ Drawn0 w w') (fun v5 _ => l.length - (intOf v5).toNat)
  case atStart => exact ⟨0, by omega, rfl, Drawn0.refl _⟩
  case round =>
    obtain ⟨i, hi, rfl, ⟨m, rfl⟩⟩ := hrel
    by_cases hlt : i < l.length
    · obtain ⟨ad0, B0, d0, rfl, x0, l0, b0⟩ := bytes_at H0.out i hlt
      obtain ⟨ad1, B1, d1, rfl, x1, l1, b1⟩ := bytes_at H1.out i hlt
      have r0 := fun n => run_bstr (c := d0) (Kd.C_drewN b0 n)
      have r1 := fun n => run_bstr (c := d1) (Kd.C_drewN b1 n)
      have hs : ((bstr (l.getD i [])).toList != (bstr (l.getD i [])).toList) = false := by simp
      clear b0 b1 l0 l1
      generalize l.getD i [] = p3 at *
      go_wp2
      go_quiet (fail)
      go_wp2
      go_roundw
      case rel => exact ⟨i + 1, by omega, by go_num, drawn2 (by first | exact ⟨_, rfl⟩ | exact ⟨_, World.drewN_drewN ..⟩)⟩
      case measure => simp [intOf]; omega
    · obtain rfl : i = l.length := by omega
      go_wp2
      go_ret
      exact ⟨rfl, drawn2 ⟨_, rfl⟩⟩
theorem runs_cut1 (l : List UInt8) (n : Nat) (hn : 1 ≤ n) (hl : l.length ≤ 65536) (outs : List (List UInt8)) (r : List Pc) (d k : Nat) (hd : manyP l.length n - k = d) (hk : k < manyP l.length n) : runsR (decide (0 < k)) (l.take (k * n)) outs ((cutL l n).drop k ++ r) = runsR false [] (outs ++ [l]) r := by
  induction d generalizing k with
  | zero => omega
  | succ d ih =>
    rw [drop_pc _ k (by rw [cutL_length]; exact hk), cutL_getD l n k hk, List.cons_append, runsR_step]
    have hkn := (many_mul (len := l.length) hn).1 hk
    have h1 : ¬ (((l.drop (k * n)).take n).length = 0 ∨ decide (k = 0) = decide (0 < k)) := by
      rintro (h | h)
      · rw [List.length_take, List.length_drop] at h
        omega
      · by_cases h0 : k = 0
        · subst h0; simp at h
        · rw [decide_eq_false h0, decide_eq_true (by omega)] at h
          cases h
    rw [if_neg h1, take_more, if_neg (by rw [List.length_take]; omega)]
    by_cases he : k + 1 = manyP l.length n
    · have hmn : l.length ≤ (k + 1) * n := by
        have := mt (many_mul (len := l.length) (k := k + 1) hn).2 (by omega)
        omega
      rw [if_pos (decide_eq_true he), List.take_of_length_le hmn, List.drop_of_length_le (by rw [cutL_length]; omega), List.nil_append]
    · rw [if_neg (by rw [decide_eq_false he]; exact Bool.false_ne_true)]
      have := ih (k + 1) (by omega) (by omega)
      rw [decide_eq_true (Nat.succ_pos k)] at this
      exact this
/-- What is cut, and the messages that are. -/
def allP (n : Int) (ss : List ByteArray) : List Pc := (ss.map fun s => (cutA s.data.toList n).1).flatten
def wantP (n : Int) (ss : List ByteArray) : List (List UInt8) := (ss.filter fun s => decide ((cutA s.data.toList n).2 = 0)).map (·.data.toList)
theorem cutA_ok {l : List UInt8} {n : Int} (h : (cutA l n).2 = 0) : (countS l.length n).2 = 0 := by
  unfold cutA at h
  by_cases h0 : (countS l.length n).2 = 0
  · exact h0
  · rw [if_neg h0] at h; exact h
theorem runs_all (n : Int) (ss : List ByteArray) : ∀ outs, runsR false [] outs (allP n ss) = some (outs ++ wantP n ss) := by
  induction ss with
  | nil => intro outs; simp [allP, wantP, runsR]
  | cons s r ih =>
    intro outs
    have e1 : allP n (s :: r) = (cutA s.data.toList n).1 ++ allP n r := rfl
    rw [e1]
    by_cases h : (cutA s.data.toList n).2 = 0
    · have h0 := cutA_ok h
      obtain ⟨h1, h2, h3, h4⟩ := countS_ok h0
      have e2 : wantP n (s :: r) = s.data.toList :: wantP n r := by
        unfold wantP
        rw [List.filter_cons_of_pos (by rw [decide_eq_true h]), List.map_cons]
      have e3 : (cutA s.data.toList n).1 = cutL s.data.toList n.toNat := by unfold cutA; rw [if_pos h0]
      have hm1 : 0 < manyP s.data.toList.length n.toNat := (many_mul (by omega)).2 (by omega)
      have := runs_cut1 s.data.toList n.toNat (by omega) (by omega) outs (allP n r) _ 0 rfl hm1
      rw [Nat.zero_mul, List.take_zero, List.drop_zero] at this
      rw [e3, e2]
      refine Eq.trans this ?_
      rw [ih, List.append_assoc]
      rfl
    · have e2 : wantP n (s :: r) = wantP n r := by
        unfold wantP
        rw [List.filter_cons_of_neg (by rw [decide_eq_false h]; exact Bool.false_ne_true)]
      have e3 : (cutA s.data.toList n).1 = [] := by
        unfold cutA at h ⊢
        by_cases h0 : (countS s.data.toList.length n).2 = 0
        · rw [if_pos h0] at h; exact absurd rfl h
        · rw [if_neg h0]
      rw [e3, e2, List.nil_append, ih]
theorem cutA_len (l : List UInt8) (n : Int) : (cutA l n).1.length ≤ 65536 := by
  unfold cutA
  by_cases h0 : (countS l.length n).2 = 0
  · obtain ⟨h1, h2, h3, h4⟩ := countS_ok h0
    rw [if_pos h0]
    show (cutL l n.toNat).length ≤ 65536
    rw [cutL_length]
    have := many_le (len := l.length) (n := n.toNat) (by omega)
    omega
  · rw [if_neg h0]
    simp
theorem take_snoc {α : Type} (l : List α) (d : α) (k : Nat) (h : k < l.length) : l.take (k + 1) = l.take k ++ [l.getD k d] := by
  rw [List.take_succ_eq_append_getElem h]
  simp [List.getD_eq_getElem?_getD, h]
theorem allP_take (n : Int) (ss : List ByteArray) (k : Nat) (h : k < ss.length) : allP n (ss.take (k + 1)) = allP n (ss.take k) ++ (cutA (ss.getD k ByteArray.empty).data.toList n).1 := by
  rw [take_snoc ss ByteArray.empty k h]
  simp [allP]
theorem wantP_ok (n : Int) (ss : List ByteArray) (k : Nat) (h : k < ss.length) (h0 : (cutA (ss.getD k ByteArray.empty).data.toList n).2 = 0) : wantP n (ss.take (k + 1)) = wantP n (ss.take k) ++ [(ss.getD k ByteArray.empty).data.toList] := by
  rw [take_snoc ss ByteArray.empty k h]
  unfold wantP
  rw [List.filter_append, List.map_append, List.filter_cons_of_pos (by rw [decide_eq_true h0])]
  rfl
theorem wantP_bad (n : Int) (ss : List ByteArray) (k : Nat) (h : k < ss.length) (h0 : (cutA (ss.getD k ByteArray.empty).data.toList n).2 ≠ 0) : wantP n (ss.take (k + 1)) = wantP n (ss.take k) := by
  rw [take_snoc ss ByteArray.empty k h]
  unfold wantP
  rw [List.filter_append, List.filter_cons_of_neg (by rw [decide_eq_false h0]; exact Bool.false_ne_true)]
  simp
theorem cutA_bad {l : List UInt8} {n : Int} (h : (cutA l n).2 ≠ 0) : (cutA l n).1 = [] := by
  unfold cutA at h ⊢
  by_cases h0 : (countS l.length n).2 = 0
  · rw [if_pos h0] at h; exact absurd rfl h
  · rw [if_neg h0]
theorem allP_len (n : Int) (ss : List ByteArray) : (allP n ss).length ≤ ss.length * 65536 := by
  induction ss with
  | nil => simp [allP]
  | cons s r ih =>
    have e1 : allP n (s :: r) = (cutA s.data.toList n).1 ++ allP n r := rfl
    rw [e1, List.length_append, List.length_cons]
    have := cutA_len s.data.toList n
    omega
theorem wantP_len (n : Int) (ss : List ByteArray) : (wantP n ss).length ≤ ss.length := by
  unfold wantP
  rw [List.length_map]
  exact List.length_filter_le _ _
/-! rows of slices whose bytes lie elsewhere -/
theorem byte_only {S : Nat → Prop} {w w' : World} {A : Option Addr} {n : Nat} {l : List UInt8} (h : byte.C w A n l) (ho : Only S w w') (hn : ∀ ad, A = some ad → ¬ S ad.block) : byte.C w' A n l := by
  obtain ⟨h1, h2, h3⟩ := h
  refine ⟨h1, h2, fun h0 => ?_⟩
  obtain ⟨ad, e, hc⟩ := h3 h0
  refine ⟨ad, e, fun j q hj => ?_⟩
  obtain ⟨c, hl, hk, hcell⟩ := hc j q hj
  exact ⟨c, hl, hk, fun i v hv => ho.cell (hcell i v hv) (by rw [add_block]; exact hn ad e)⟩
def rawK : Kd ((Nat × Nat) × List UInt8) := Kd.scalar (fun z => .slice (some ⟨z.1.1, 0, none⟩) z.2.length z.1.2) (fun _ => rfl)
/-- A conversion's row. -/
structure Cv (W : World) (z : (Nat × Nat) × List UInt8) : Prop where
  blk : ∃ cells fr, W.heap[z.1.1]? = some (.cells cells 5 fr)
  le : z.2.length ≤ z.1.2
  reads : byte.C W (some ⟨z.1.1, 0, none⟩) z.2.length z.2
theorem Cv.only {S : Nat → Prop} {W W' : World} {z : (Nat × Nat) × List UInt8} (h : Cv W z) (ho : Only S W W') (hn : ¬ S z.1.1) : Cv W' z := by
  obtain ⟨⟨cells, fr, hb⟩, h2, h3⟩ := h
  exact ⟨⟨cells, fr, ho.blk hb hn⟩, h2, byte_only h3 ho (fun ad e => by cases e; exact hn)⟩
theorem Cv.below {W W' : World} {z : (Nat × Nat) × List UInt8} (h : Cv W z) (hb : Below W.heap.size W W') : Cv W' z := h.only (S := fun _ => False) (Only.of_below hb) (fun h => h)
theorem Cv.grown {α : Type} {d : Kd α} {e base : Nat} {ok : Nat → Prop} {v : Value} {xs : List α} {W W' : World} {z : (Nat × Nat) × List UInt8} (h : Cv W z) (hr : d.R e W base ok v xs) (he : e ≠ 5) (hg : W.grownBy W' v.ownBlock) : Cv W' z := by
  refine h.only (S := fun k => some k = v.ownBlock) ((Only.refl _ W).grown hg (fun k _ e => e.symm)) (fun e2 => ?_)
  obtain ⟨cells, fr, hb⟩ := h.blk
  obtain ⟨inner, ho⟩ := Kd.R_own hr
  obtain ⟨cells', hc⟩ := own_typed ho _ e2.symm
  rw [hb] at hc
  injection hc with hc
  injection hc with _ hc
  exact he hc.symm
theorem Cv.new (w : World) (s : ByteArray) (cap : Nat) (hs : s.size ≤ 9223372036854775807) (hc : s.size ≤ cap) : Cv (Lib.bytesWorld w 5 s) ((w.heap.size, cap), s.data.toList) := by
  have hl : s.data.toList.length = s.size := Array.length_toList
  refine ⟨⟨_, _, Lib.bytesWorld_at_new w _ s⟩, by show s.data.toList.length ≤ cap; omega, Kd.C_of_reads (d := (0 : UInt8)) ⟨rfl, by show s.data.toList.length ≤ _; omega, fun _ => ⟨_, rfl, fun j hj => ?_⟩⟩⟩
  have hj' : j < s.size := by rw [← hl]; exact hj
  rw [add_plain, Lib.bytesWorld_cell w _ s j hj']
theorem bw_below (w : World) (e : TypeId) (s : ByteArray) : Below w.heap.size w (Lib.bytesWorld w e s) :=
  ⟨rfl, rfl, rfl, by rw [Lib.bytesWorld_size]; omega, fun k hk => Lib.bytesWorld_at_old w e s k hk⟩
theorem R_apart {α β : Type} {d : Kd α} {d' : Kd β} {e e' base base' : Nat} {ok ok' : Nat → Prop} {v v' : Value} {xs : List α} {ys : List β} {w w1 : World} (h : d.R e w base ok v xs) (h' : d'.R e' w base' ok' v' ys) (ht : ∀ q, q ∈ e :: d.E → q ≠ e') (hg : w.grownBy w1 v'.ownBlock) : d.R e w1 base ok v xs := by
  refine Kd.R_mono (Kd.R_grown (Kd.R_bound h) hg (fun k hk e2 => ?_)) (fun k hk => hk.1)
  obtain ⟨_, _, _, q, hq, cells, hc⟩ := hk
  obtain ⟨inner, ho⟩ := Kd.R_own h'
  obtain ⟨cells', hc'⟩ := own_typed ho k e2.symm
  rw [hc] at hc'
  injection hc' with hc'
  injection hc' with _ hc'
  exact ht q hq hc'
theorem raw_bytes {w : World} {A : Option Addr} {n : Nat} {zs : List ((Nat × Nat) × List UInt8)} (h : rawK.C w A n zs) (hz : ∀ z ∈ zs, Cv w z) : bytesK.C w A n (zs.map (·.2)) := by
  obtain ⟨h1, h2, h3⟩ := h
  refine ⟨by rw [List.length_map]; exact h1, h2, fun h0 => ?_⟩
  obtain ⟨ad, e, hc⟩ := h3 h0
  refine ⟨ad, e, fun j p hj => ?_⟩
  rw [List.getElem?_map] at hj
  obtain ⟨z, hzj, rfl⟩ := Option.map_eq_some_iff.1 hj
  obtain ⟨c, hl, hk, hcell⟩ := hc j z hzj
  have hv := hz z (List.mem_of_getElem? hzj)
  exact ⟨c, hl, ⟨_, z.1.2, hk, hv.le, hv.reads⟩, hcell⟩
theorem cut_rows {w1 : World} {B base : Nat} {v1 va : Value} {ps : List Pc} (h : Kd.R pcK 42 w1 B (fun _ => True) v1 ps) (hb : base ≤ B) (ho : ∀ k, va.ownBlock = some k → k < B) : ∃ A c, v1 = .slice A ps.length c ∧ ReadsRow (fun x cs => pcK.M w1 base (fun k => True ∧ some k ≠ va.ownBlock) x cs) 3 w1 A ps.length ps := by
  obtain ⟨A, c, he, hl, hr⟩ := OwnRow.reads (Kd.R_bound h).2
  exact ⟨A, c, he, hr.imp_ (Below.refl _ _) (fun x cs hp => pcK.M_lower hb (pcK.M_mono (fun k hk => ⟨trivial, fun e => by have := ho k e.symm; have := hk.1.2.1; omega⟩) hp))⟩
theorem at_str {w : World} {A : Option Addr} {n : Nat} {xs : List ByteArray} (h : Kd.string.C w A n xs) (i : Nat) (hi : i < n) : ∃ ad, A = some ad ∧ w.cell? (ad.add i) = some (.string (xs.getD i ByteArray.empty)) := by
  obtain ⟨ad, c, e, _, hK, hc0⟩ := Kd.C_get h ByteArray.empty (i : Int) (by omega) (by omega)
  obtain rfl : c = [_] := hK
  have := hc0 0 _ rfl
  exact ⟨ad, e, by simpa [Kd.string, Kd.scalar] using this⟩
end Go.Proofs.Ytgfkdebbdjojmaa.Frag
