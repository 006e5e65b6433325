/- What is written is read as the same list: the plain law. -/
import Derived.Test.YtjlgddmcjccbeaaParEnc
import Derived.Test.YtjlgddmcjccbeaaParRef
namespace Go.Proofs.Ytjlgddmcjccbeaa.ParDec
open Go.RowKit Go.Proofs.YtjlgddmcjccbeaaW.PrintWords Go.Proofs.Ytjlgddmcjccbeaa.PParamCauses Go.Proofs.Ytjlgddmcjccbeaa.ParEnc
set_option linter.unusedVariables false
set_option linter.unusedSimpArgs false
/-- A parameter whose numbers are those of its kinds, and whose value is not too long. -/
def okP (q : S36) : Prop := 0 ≤ q.f0 ∧ q.f0 < 65536 ∧ q.f1.length ≤ 65531 ∧ ∀ x ∈ q.f1, 0 ≤ x ∧ x < 256
def item (p : S36) : List Int := twoI p.f0 ++ twoI (IntKind.u16.wrap (wrap64 (4 + (p.f1.length : Int)))) ++ p.f1
def encL : List S36 → List Int
  | [] => []
  | [p] => item p
  | p :: q :: r => padL (item p) ++ encL (q :: r)
theorem stepB_item (b : List Int) (p : S36) : stepB b p = padL b ++ item p := by unfold stepB item; simp only [List.append_assoc]
theorem padL_mod (x : List Int) : (padL x).length % 4 = 0 := by unfold padL; rw [List.length_append, List.length_replicate]; omega
theorem padL_app (b x : List Int) (h : b.length % 4 = 0) : padL (b ++ x) = b ++ padL x := by
  unfold padL
  rw [List.append_assoc, List.length_append, show (4 - (b.length + x.length) % 4) % 4 = (4 - x.length % 4) % 4 by omega]
theorem foldB_enc (r : List S36) (p : S36) (b : List Int) : foldB b (p :: r) = padL b ++ encL (p :: r) := by
  induction r generalizing p b with
  | nil => exact stepB_item b p
  | cons q r ih =>
    show foldB (stepB b p) (q :: r) = _
    rw [ih q, stepB_item, padL_app _ _ (padL_mod b), List.append_assoc]
    rfl
theorem foldB_nil (ps : List S36) : foldB [] ps = encL ps := by
  cases ps with
  | nil => rfl
  | cons p r => exact foldB_enc r p []
theorem foldB_app (b : List Int) (ps : List S36) (q : S36) : foldB b (ps ++ [q]) = stepB (foldB b ps) q := by
  induction ps generalizing b with
  | nil => rfl
  | cons p r ih => exact ih (stepB b p)
theorem len16 (p : S36) (h : p.f1.length ≤ 65531) : IntKind.u16.wrap (wrap64 (4 + (p.f1.length : Int))) = ((4 + p.f1.length : Nat) : Int) := by
  rw [u16n, w64 _ (by omega) (by omega)]
  omega
theorem item_len (p : S36) : (item p).length = 4 + p.f1.length := by
  unfold item twoI
  simp only [List.length_append, List.length_cons, List.length_nil]
/-- What stands behind an item. -/
def tailL (p : S36) : List S36 → List Int
  | [] => []
  | q :: r => List.replicate ((4 - (item p).length % 4) % 4) 0 ++ encL (q :: r)
theorem enc_tail (p : S36) (r : List S36) : encL (p :: r) = item p ++ tailL p r := by
  cases r with
  | nil => exact (List.append_nil _).symm
  | cons q r =>
    show padL (item p) ++ encL (q :: r) = _
    unfold padL tailL
    rw [List.append_assoc]
theorem geti (l : List UInt8) (p i : Nat) : ((l.getD (p + i) 0).toNat : Int) = (ints (l.drop p)).getD i 0 := by
  unfold ints
  rw [List.getD_eq_getElem?_getD, List.getD_eq_getElem?_getD, List.getElem?_map, List.getElem?_drop]
  cases l[p + i]? <;> rfl
theorem ints_drop (l : List UInt8) (p m : Nat) : ints (l.drop (p + m)) = (ints (l.drop p)).drop m := by
  unfold ints
  rw [← List.map_drop, List.drop_drop]
theorem getD_four (a b c d : Int) (t : List Int) : (a :: b :: c :: d :: t).getD 0 0 = a ∧ (a :: b :: c :: d :: t).getD 1 0 = b ∧ (a :: b :: c :: d :: t).getD 2 0 = c ∧ (a :: b :: c :: d :: t).getD 3 0 = d := ⟨rfl, rfl, rfl, rfl⟩
theorem run_enc (l : List UInt8) (ps : List S36) : ∀ (n p : Nat) (acc : List S36), ints (l.drop p) = encL ps → p ≤ l.length → l.length < n + p → acc.length + ps.length ≤ 256 → (∀ q ∈ ps, okP q) → runD l n p acc = .ok (acc ++ ps) := by
  induction ps with
  | nil =>
    intro n p acc h hp hn hl hok
    have h1 : (ints (l.drop p)).length = 0 := by rw [h]; rfl
    rw [ints_length, List.length_drop] at h1
    obtain ⟨m, rfl⟩ : ∃ m, n = m + 1 := ⟨n - 1, by omega⟩
    unfold runD
    rw [if_neg (by omega), List.append_nil]
  | cons q r ih =>
    intro n p acc h hp hn hl hok
    obtain ⟨hq0, hq1, hq2, hq3⟩ := hok q (List.mem_cons_self ..)
    rw [enc_tail] at h
    have h1 : (ints (l.drop p)).length = 4 + q.f1.length + (tailL q r).length := by rw [h, List.length_append, item_len]
    rw [ints_length, List.length_drop] at h1
    obtain ⟨m, rfl⟩ : ∃ m, n = m + 1 := ⟨n - 1, by omega⟩
    have hf : ints (l.drop p) = (q.f0 / 256) % 256 :: q.f0 % 256 :: (((4 + q.f1.length : Nat) : Int) / 256) % 256 :: ((4 + q.f1.length : Nat) : Int) % 256 :: (q.f1 ++ tailL q r) := by
      rw [h]
      unfold item
      rw [len16 q hq2]
      rfl
    have g0 := geti l p 0
    have g1 := geti l p 1
    have g2 := geti l p 2
    have g3 := geti l p 3
    rw [hf] at g0 g1 g2 g3
    obtain ⟨e0, e1, e2, e3⟩ := getD_four ((q.f0 / 256) % 256) (q.f0 % 256) ((((4 + q.f1.length : Nat) : Int) / 256) % 256) (((4 + q.f1.length : Nat) : Int) % 256) (q.f1 ++ tailL q r)
    rw [e0] at g0
    rw [e1] at g1
    rw [e2] at g2
    rw [e3] at g3
    have n0 : ((nI l p : Nat) : Int) = q.f0 := by
      unfold nI
      rw [Nat.add_zero] at g0
      omega
    have n2 : nI l (p + 2) = 4 + q.f1.length := by
      unfold nI
      rw [show p + 2 + 1 = p + 3 from rfl]
      omega
    have hst : stepD l p acc.length = .ok (q, p + min ((4 + q.f1.length + 3) / 4 * 4) (l.length - p)) := by
      unfold stepD
      rw [List.length_cons] at hl
      rw [n2, if_neg (by omega), if_neg (by omega), if_neg (by omega), n0]
      congr 2
      have hb : ((l.drop (p + 4)).take (4 + q.f1.length - 4)).map (fun b => (b.toNat : Int)) = q.f1 := by
        have := ints_drop l p 4
        rw [hf] at this
        rw [List.map_take, show (l.drop (p + 4)).map (fun b => (b.toNat : Int)) = ints (l.drop (p + 4)) from rfl, this]
        show ((q.f1 ++ tailL q r).take _) = _
        rw [show 4 + q.f1.length - 4 = q.f1.length by omega, List.take_left]
      rw [hb]
    unfold runD
    rw [if_pos (by omega), hst]
    show runD l m (p + min ((4 + q.f1.length + 3) / 4 * 4) (l.length - p)) (acc ++ [q]) = _
    rw [List.length_cons] at hl
    have hgo : ints (l.drop (p + min ((4 + q.f1.length + 3) / 4 * 4) (l.length - p))) = encL r := by
      rw [ints_drop, h, h1]
      cases r with
      | nil =>
        rw [show tailL q [] = [] from rfl, List.append_nil]
        refine List.drop_eq_nil_of_le ?_
        rw [item_len, List.length_nil]
        omega
      | cons q2 r2 =>
        have ht : (tailL q (q2 :: r2)).length = (4 - (4 + q.f1.length) % 4) % 4 + (encL (q2 :: r2)).length := by
          unfold tailL
          rw [List.length_append, List.length_replicate, item_len]
        have hm : min ((4 + q.f1.length + 3) / 4 * 4) (4 + q.f1.length + (tailL q (q2 :: r2)).length) = (item q).length + (4 - (4 + q.f1.length) % 4) % 4 := by rw [ht, item_len]; omega
        rw [hm, ← List.drop_drop, List.drop_left]
        unfold tailL
        rw [item_len, List.drop_left' (by rw [List.length_replicate])]
    have := ih m (p + min ((4 + q.f1.length + 3) / 4 * 4) (l.length - p)) (acc ++ [q]) hgo (by omega) (by omega) (by rw [List.length_append, List.length_singleton]; omega) (fun x hx => hok x (List.mem_cons_of_mem _ hx))
    rw [this, List.append_assoc]
    rfl
def inB (x : Int) : Prop := 0 ≤ x ∧ x < 256
theorem two_in (a : Int) : ∀ x ∈ twoI a, inB x := by
  intro x hx
  unfold twoI at hx
  rcases List.mem_cons.1 hx with rfl | hx
  · unfold inB; omega
  · rw [List.mem_singleton.1 hx]
    unfold inB; omega
theorem step_in {b : List Int} {q : S36} (hb : ∀ x ∈ b, inB x) (hq : okP q) : ∀ x ∈ stepB b q, inB x := by
  intro x hx
  unfold stepB padL at hx
  simp only [List.mem_append] at hx
  rcases hx with (((hx | hx) | hx) | hx) | hx
  · exact hb x hx
  · rw [(List.mem_replicate.1 hx).2]
    unfold inB; omega
  · exact two_in _ x hx
  · exact two_in _ x hx
  · exact hq.2.2.2 x hx
theorem fold_in (ps : List S36) : ∀ (b : List Int), (∀ x ∈ b, inB x) → (∀ q ∈ ps, okP q) → ∀ x ∈ foldB b ps, inB x := by
  induction ps with
  | nil => intro b hb _; exact hb
  | cons q r ih => intro b hb hq; exact ih (stepB b q) (step_in hb (hq q (List.mem_cons_self ..))) (fun x hx => hq x (List.mem_cons_of_mem _ hx))
theorem fold_len (ps : List S36) : ∀ (b : List Int), (∀ q ∈ ps, okP q) → (foldB b ps).length ≤ b.length + 65538 * ps.length := by
  induction ps with
  | nil => intro b _; show b.length ≤ _; omega
  | cons q r ih =>
    intro b hq
    have h1 := ih (stepB b q) (fun x hx => hq x (List.mem_cons_of_mem _ hx))
    have h2 := stepB_le b q (by have := (hq q (List.mem_cons_self ..)).2.2.1; omega)
    show (foldB (stepB b q) r).length ≤ _
    rw [List.length_cons]
    omega
def bytesOf (l : List Int) : List UInt8 := l.map fun x => UInt8.ofNat x.toNat
theorem ints_bytesOf (l : List Int) (h : ∀ x ∈ l, inB x) : ints (bytesOf l) = l := by
  unfold ints bytesOf
  rw [List.map_map]
  conv => rhs; rw [← List.map_id l]
  refine List.map_congr_left fun x hx => ?_
  have := h x hx
  unfold inB at this
  show ((UInt8.ofNat x.toNat).toNat : Int) = x
  rw [UInt8.toNat_ofNat']
  omega
theorem bytesOf_length (l : List Int) : (bytesOf l).length = l.length := List.length_map ..
theorem back_dec (ps : List S36) (hl : ps.length ≤ 256) (hok : ∀ q ∈ ps, okP q) : decD (bytesOf (foldB [] ps)) = (ps, 0, 0) := by
  refine decD_ok ?_
  have h1 := ints_bytesOf (foldB [] ps) (fold_in ps [] (fun x hx => by cases hx) hok)
  have := run_enc (bytesOf (foldB [] ps)) ps ((bytesOf (foldB [] ps)).length + 1) 0 [] (by rw [List.drop_zero, h1, foldB_nil]) (Nat.zero_le _) (by omega) (by simpa using hl) hok
  rw [this, List.nil_append]
theorem okP_short {ps : List S36} (h : ∀ q ∈ ps, okP q) : allShort ps := fun p hp => by have := (h p hp).2.2.1; omega
/-- Encode of what may be. -/
theorem enc_back (ps : List S36) (hl : ps.length ≤ 256) (hok : ∀ q ∈ ps, okP q) : ∃ k, param_Encode.f k ps = some (foldB [] ps, 0) := by
  obtain ⟨k, hk⟩ := encode_run ps
  rw [if_neg (by omega), runB_short ps (okP_short hok)] at hk
  exact ⟨k, hk⟩
theorem step_ok {l : List UInt8} {p m : Nat} {q : S36} {p' : Nat} (h : stepD l p m = .ok (q, p')) (hp : p < l.length) : okP q ∧ 4 + q.f1.length ≤ l.length - p ∧ p' = p + min ((4 + q.f1.length + 3) / 4 * 4) (l.length - p) := by
  unfold stepD at h
  by_cases h1 : m = 256
  · rw [if_pos h1] at h; cases h
  rw [if_neg h1] at h
  by_cases h2 : l.length - p < 4
  · rw [if_pos h2] at h; cases h
  rw [if_neg h2] at h
  by_cases h3 : nI l (p + 2) < 4 ∨ l.length - p < nI l (p + 2)
  · rw [if_pos h3] at h; cases h
  rw [if_neg h3] at h
  injection h with h
  have hp' : p' = p + min ((nI l (p + 2) + 3) / 4 * 4) (l.length - p) := (congrArg Prod.snd h).symm
  have hq : q = ⟨(nI l p : Int), ((l.drop (p + 4)).take (nI l (p + 2) - 4)).map fun b => (b.toNat : Int)⟩ := (congrArg Prod.fst h).symm
  have b0 : ∀ x : UInt8, x.toNat < 256 := fun x => UInt8.toNat_lt x
  have h65 : ∀ i, nI l i ≤ 65535 := fun i => by unfold nI; have := b0 (l.getD i 0); have := b0 (l.getD (i + 1) 0); omega
  have hlen : q.f1.length = nI l (p + 2) - 4 := by
    rw [hq]
    rw [List.length_map, List.length_take, List.length_drop]
    omega
  have := h65 (p + 2)
  refine ⟨⟨?_, ?_, by omega, ?_⟩, by omega, by rw [hlen, show 4 + (nI l (p + 2) - 4) + 3 = nI l (p + 2) + 3 by omega]; exact hp'⟩
  · rw [hq]; show 0 ≤ (nI l p : Int); omega
  · rw [hq]; show (nI l p : Int) < 65536; have := h65 p; omega
  · rw [hq]
    intro x hx
    obtain ⟨b, _, rfl⟩ := List.mem_map.1 hx
    have := b0 b
    show (0 : Int) ≤ (b.toNat : Int) ∧ (b.toNat : Int) < 256
    omega
theorem padL_len (x : List Int) : (padL x).length = x.length + (4 - x.length % 4) % 4 := by unfold padL; rw [List.length_append, List.length_replicate]
theorem stepB_len (b : List Int) (q : S36) : (stepB b q).length = b.length + (4 - b.length % 4) % 4 + 4 + q.f1.length := by
  rw [stepB_item, List.length_append, padL_len, item_len]
  omega
theorem run_len (l : List UInt8) (ps : List S36) : ∀ (n p : Nat) (acc : List S36), p ≤ l.length → l.length < n + p → acc.length ≤ 256 → (∀ q ∈ acc, okP q) → (foldB [] acc).length ≤ p → p < (foldB [] acc).length + 4 → (p < l.length → p = (foldB [] acc).length + (4 - (foldB [] acc).length % 4) % 4) → runD l n p acc = .ok ps →
    ps.length ≤ 256 ∧ (∀ q ∈ ps, okP q) ∧ (foldB [] ps).length ≤ l.length ∧ l.length < (foldB [] ps).length + 4 := by
  intro n
  induction n with
  | zero => intro p acc h1 h2; omega
  | succ n ih =>
    intro p acc h1 h2 h3 h4 h5 h6 h7 hr
    unfold runD at hr
    by_cases hlt : p < l.length
    · rw [if_pos hlt] at hr
      cases hst : stepD l p acc.length with
      | error c => rw [hst] at hr; cases hr
      | ok qp =>
        obtain ⟨q, p'⟩ := qp
        rw [hst] at hr
        obtain ⟨hq, hle, hp'⟩ := step_ok hst hlt
        obtain ⟨hn1, hn2, hn3⟩ := stepD_next hst hlt
        have hpl := h7 hlt
        have hs := stepB_len (foldB [] acc) q
        refine ih p' (acc ++ [q]) hn2 (by omega) (by rw [List.length_append, List.length_singleton]; omega) (fun x hx => ?_) ?_ ?_ ?_ hr
        · rcases List.mem_append.1 hx with hx | hx
          · exact h4 x hx
          · rw [List.mem_singleton.1 hx]; exact hq
        · rw [foldB_app, hs]; omega
        · rw [foldB_app, hs]; omega
        · rw [foldB_app, hs]
          intro hlt2
          omega
    · rw [if_neg hlt] at hr
      injection hr with hr
      subst hr
      exact ⟨h3, h4, by omega, by omega⟩
/-- What is read without a fault. -/
theorem dec_ok (l : List UInt8) (h : (decD l).2.2 = 0) : (decD l).1.length ≤ 256 ∧ (∀ q ∈ (decD l).1, okP q) ∧ (foldB [] (decD l).1).length ≤ l.length ∧ l.length < (foldB [] (decD l).1).length + 4 := by
  cases hr : runD l (l.length + 1) 0 [] with
  | ok ps =>
    rw [decD_ok hr]
    exact run_len l ps (l.length + 1) 0 [] (Nat.zero_le _) (by omega) (by simp) (fun q hq => by cases hq) (Nat.le_refl _) (by show 0 < 0 + 4; omega) (fun _ => rfl) hr
  | error pc =>
    obtain ⟨p, c⟩ := pc
    rw [decD_err hr] at h
    exfalso
    have hc : ∀ (n p : Nat) (acc : List S36) (p' : Nat) (c : Int), runD l n p acc = .error (p', c) → c ≠ 0 := by
      intro n
      induction n with
      | zero => intro p acc p' c h; cases h
      | succ n ih =>
        intro p acc p' c h
        unfold runD at h
        by_cases hlt : p < l.length
        · rw [if_pos hlt] at h
          cases hst : stepD l p acc.length with
          | error c2 =>
            rw [hst] at h
            injection h with h
            have h2 : c2 = c := congrArg Prod.snd h
            subst h2
            unfold stepD at hst
            by_cases h1 : acc.length = 256
            · rw [if_pos h1] at hst; injection hst with hst; omega
            rw [if_neg h1] at hst
            by_cases h2 : l.length - p < 4
            · rw [if_pos h2] at hst; injection hst with hst; omega
            rw [if_neg h2] at hst
            by_cases h3 : nI l (p + 2) < 4 ∨ l.length - p < nI l (p + 2)
            · rw [if_pos h3] at hst; injection hst with hst; omega
            rw [if_neg h3] at hst; cases hst
          | ok qp =>
            obtain ⟨q, p2⟩ := qp
            rw [hst] at h
            exact ih _ _ _ _ h
        · rw [if_neg hlt] at h; cases h
    exact hc _ _ _ _ _ hr h
theorem dec_bad (l : List UInt8) (h : (decD l).2.2 ≠ 0) : (decD l).1 = [] := by
  cases hr : runD l (l.length + 1) 0 [] with
  | ok ps => rw [decD_ok hr] at h; exact absurd rfl h
  | error pc => obtain ⟨p, c⟩ := pc; rw [decD_err hr]
end Go.Proofs.Ytjlgddmcjccbeaa.ParDec
