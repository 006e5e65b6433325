/- The statement PacketDecodes of ropewalk/ropewalklaw07.PacketDecodes. Proved from the walk Pk.decodes_row. Condition: the listed package variables read as the program's text lays them (tied by the card). -/
import Derived.Test.YtdlamomabonkjaaDoorUd5
import Derived.Lib.LaidTab
import Derived.Test.YtdlamomabonkjaaDoorCards
import Derived.Test.YtdlamomabonkjaaDoorTie
set_option maxRecDepth 100000
set_option linter.unusedVariables false
set_option linter.unusedSimpArgs false
section
namespace Go.Proofs.YtdlamomabonkjaaDoor.Pk
open Go.RowKit YtdlamomabonkjaaDoorW.PrintWords YtdlamomabonkjaaDoorW.PrintLast Base PCh ParDec Ch Crc CrcMath
theorem sub4 (x0 x1 x2 x3 x4 : Value) : ∀ j v, (#[x1, x2, x3, x4] : Array Value).toList[j]? = some v → (#[x0, x1, x2, x3, x4] : Array Value)[1 + j]? = some v := by
 intro j u hu
 match j, hu with
 | 0, hu => exact hu
 | 1, hu => exact hu
 | 2, hu => exact hu
 | 3, hu => exact hu
 | _ + 4, hu => simp at hu
theorem boxes4 (w : World) (cs : Array Value) :
  ((((w.alloc (.cells #[.int .u16 0, .int .u16 0, .int .u32 0, .slice none 0 0] 26)).alloc (.cells #[.int .i64 0] 3)).alloc (.cells #[.int .i64 0] 28)).alloc (.cells cs 99)).heap[w.heap.size + 1 + 1 + 1]? = some (.cells cs 99 (0, 0)) ∧
  ((((w.alloc (.cells #[.int .u16 0, .int .u16 0, .int .u32 0, .slice none 0 0] 26)).alloc (.cells #[.int .i64 0] 3)).alloc (.cells #[.int .i64 0] 28)).alloc (.cells cs 99)).heap[w.heap.size]? = some (.cells #[.int .u16 0, .int .u16 0, .int .u32 0, .slice none 0 0] 26 (0, 0)) ∧
  ((((w.alloc (.cells #[.int .u16 0, .int .u16 0, .int .u32 0, .slice none 0 0] 26)).alloc (.cells #[.int .i64 0] 3)).alloc (.cells #[.int .i64 0] 28)).alloc (.cells cs 99)).heap[w.heap.size + 1]? = some (.cells #[.int .i64 0] 3 (0, 0)) ∧
  ((((w.alloc (.cells #[.int .u16 0, .int .u16 0, .int .u32 0, .slice none 0 0] 26)).alloc (.cells #[.int .i64 0] 3)).alloc (.cells #[.int .i64 0] 28)).alloc (.cells cs 99)).heap[w.heap.size + 1 + 1]? = some (.cells #[.int .i64 0] 28 (0, 0)) ∧
  Below w.heap.size w ((((w.alloc (.cells #[.int .u16 0, .int .u16 0, .int .u32 0, .slice none 0 0] 26)).alloc (.cells #[.int .i64 0] 3)).alloc (.cells #[.int .i64 0] 28)).alloc (.cells cs 99)) := by
 have s1 : (w.alloc (.cells #[.int .u16 0, .int .u16 0, .int .u32 0, .slice none 0 0] 26)).heap.size = w.heap.size + 1 := by simp
 have s2 : ((w.alloc (.cells #[.int .u16 0, .int .u16 0, .int .u32 0, .slice none 0 0] 26)).alloc (.cells #[.int .i64 0] 3)).heap.size = w.heap.size + 1 + 1 := by simp
 have s3 : (((w.alloc (.cells #[.int .u16 0, .int .u16 0, .int .u32 0, .slice none 0 0] 26)).alloc (.cells #[.int .i64 0] 3)).alloc (.cells #[.int .i64 0] 28)).heap.size = w.heap.size + 1 + 1 + 1 := by simp
 have h0 := blk_new w (.cells #[.int .u16 0, .int .u16 0, .int .u32 0, .slice none 0 0] 26)
 have h1 := blk_new (w.alloc (.cells #[.int .u16 0, .int .u16 0, .int .u32 0, .slice none 0 0] 26)) (.cells #[.int .i64 0] 3)
 have h2 := blk_new ((w.alloc (.cells #[.int .u16 0, .int .u16 0, .int .u32 0, .slice none 0 0] 26)).alloc (.cells #[.int .i64 0] 3)) (.cells #[.int .i64 0] 28)
 have h3 := blk_new (((w.alloc (.cells #[.int .u16 0, .int .u16 0, .int .u32 0, .slice none 0 0] 26)).alloc (.cells #[.int .i64 0] 3)).alloc (.cells #[.int .i64 0] 28)) (.cells cs 99)
 rw [s1] at h1
 rw [s2] at h2
 rw [s3] at h3
 exact ⟨h3, blk_alloc (blk_alloc (blk_alloc h0 _) _) _, blk_alloc (blk_alloc h1 _) _, blk_alloc h2 _, below_alloc (below_alloc (below_alloc (below_alloc (Below.refl _ _) _) _) _) _⟩
structure PD where
 f : Int
 t : Int
 q : Int
 l : List Chk
 a : Int
 e : Int
def pzero (a e : Int) : PD := ⟨0, 0, 0, [], a, e⟩
noncomputable def preadD (b : List UInt8) (wh : Bool) : PD :=
 if headE b = 0 then
  (if wh = false then ⟨(hdF b : Nat), (hdT b : Nat), (hdQ b : Nat), [], 0, 0⟩
  else if (b.drop 12).length = 0 then pzero 0 73
  else if (allL (b.drop 12)).2.2 = 0 then (if apartB (allL (b.drop 12)).1 = true then pzero 0 74 else ⟨(hdF b : Nat), (hdT b : Nat), (hdQ b : Nat), (allL (b.drop 12)).1, 0, 0⟩)
  else pzero (12 + (allL (b.drop 12)).2.1) (allL (b.drop 12)).2.2)
 else pzero 0 (headE b)
def ReadPP (w : World) (D : PD) (e : Ending) (w' : World) : Prop :=
 ∃ v, e = .returned (.tuple #[.agg #[.int .u16 D.f, .int .u16 D.t, .int .u32 D.q, v], .int .i64 D.a, .int .i64 D.e]) ∧ Kd.R k41 41 w' w.heap.size (fun _ => True) v D.l ∧ Below w.heap.size w w'
theorem pread_results (tmps : Array Value) (w : World) (a b c : Nat) (cs : Array Value) (v1 v2 : Value) (t0 : tmps.getD 4 undef = .pointer (some ⟨a, 0, none⟩)) (t1 : tmps.getD 5 undef = .pointer (some ⟨b, 0, none⟩)) (t2 : tmps.getD 6 undef = .pointer (some ⟨c, 0, none⟩))
  (h0 : w.heap[a]? = some (.cells cs 26 (0, 0))) (h1 : w.heap[b]? = some (.cells #[v1] 3 (0, 0))) (h2 : w.heap[c]? = some (.cells #[v2] 28 (0, 0))) (hcs : cs.size = 4 := by first | rfl | assumption) :
  (results Tryd.f31 tmps).run Tryd.prog w = .ok (.tuple #[.agg cs, v1, v2]) w := by
 have k1 := blk_cell h1 0
 have k2 := blk_cell h2 0
 have hi : (Tryd.prog.info? 26).map (·.size) = some cs.size := by rw [hcs]; kernel_rfl
 have hl := run_loadVar_row w a 26 26 cs (0, 0) _ h0 Tryd.underlying26 rfl hi
 rw [Array.getD_eq_getD_getElem?] at t0 t1 t2
 have l1 : (loadVar 3 ⟨b, 0, none⟩).run Tryd.prog w = .ok v1 w := by simp [go_sem, k1]
 have l2 : (loadVar 28 ⟨c, 0, none⟩).run Tryd.prog w = .ok v2 w := by simp [go_sem, k2]
 simp [results, Tryd.results31, asAddr, t0, t1, t2, hl, l1, l2]
theorem all_at (b : List UInt8) : ∀ (n at_ : Nat) (acc : List Chk), at_ ≤ b.length → 0 ≤ (allD n b at_ acc).2.1 ∧ (allD n b at_ acc).2.1 ≤ b.length := by
 intro n
 induction n with
 | zero => intro at_ acc _; unfold allD; exact ⟨Int.le_refl _, by simp⟩
 | succ n ih =>
  intro at_ acc ha
  unfold allD
  by_cases h : at_ < b.length
  ·rw [if_pos h]
   by_cases h2 : (decC (b.drop at_)).2.2 ≠ 0
   ·rw [if_pos h2]; dsimp only; omega
   ·rw [if_neg h2]
    obtain ⟨k, h3, h4, h5⟩ := decC_len (Classical.not_not.1 h2)
    rw [List.length_drop] at h5
    exact ih _ _ (by rw [h3]; simp; omega)
  ·rw [if_neg h]; exact ⟨Int.le_refl _, by simp⟩
theorem head_len {b : List UInt8} (h : headE b = 0) : 12 ≤ b.length ∧ b.length ≤ 65536 ∧ checkL b = 0 := by
 unfold headE at h
 by_cases h6 : 65536 < b.length
 ·rw [if_pos h6] at h; cases h
 rw [if_neg h6] at h
 by_cases hc : checkL b = 0
 ·refine ⟨?_, by omega, hc⟩
  unfold checkL at hc
  split at hc
  ·cases hc
  ·omega
 ·rw [if_neg hc] at h; exact absurd h hc
def AllOk (b : List UInt8) : Prop := ∀ (W : World) (A : Option Addr) (c : Nat), byte.C W A b.length b → b.length ≤ c → b.length ≤ 1048576 →
 Calls Tryd.prog 60 #[.slice A b.length c] W fun e w' => ∃ v, e = .returned (.tuple #[v, .int .i64 (allL b).2.1, .int .i64 (allL b).2.2]) ∧ Kd.R k41 41 w' W.heap.size (fun _ => True) v (allL b).1 ∧ Below W.heap.size W w'
theorem all_ok (b : List UInt8) : AllOk b := fun W A c hb hc hv => all_calls2 W A b c hb hc hv
set_option maxHeartbeats 4000000 in
theorem pread_with (w : World) (A : Option Addr) (b : List UInt8) (c : Nat) (wh : Bool) (hT : Table w) (hb : byte.C w A b.length b) (hc : b.length ≤ c) (hv : b.length ≤ 140737488355328) (HAC : wh = true → AllOk (b.drop 12)) :
  Calls Tryd.prog 31 #[.slice A b.length c, .bool wh] w (ReadPP w (preadD b wh)) := by
 have hmf : ∀ (fn : Fn) (first cap : Array Value) (w : World), (Instr.makeFunc fn first cap).run Tryd.prog w = .ok (.func fn first cap) w := fun _ _ _ _ => rfl
 have HAX := Lh HAC
 clear HAC
 unfold AllOk at HAX
 obtain ⟨D, hD⟩ : ∃ D, preadD b wh = D := ⟨_, rfl⟩
 rw [hD]
 have HD := Lh (show D = preadD b wh from hD.symm)
 have HT := Lh (fun (W : World) (h : Below w.heap.size w W) => hT.below h)
 have HBC := Lh hb
 have HM := Lh (fun (W : World) (a c : Int) => must_bad W a c)
 have HMO := Lh (fun (W : World) (a c : Int) => must_ok W a c)
 clear hb hD hT
 obtain ⟨n0, hn0⟩ : ∃ n, b.length = n := ⟨_, rfl⟩
 have HN0 := Lh hn0
 rw [hn0] at hc hv ⊢
 clear hn0
 go_enter_defers Tryd.func31, Tryd.ntmps31
 go_upto_region 3 with (fail)
 refine wp_gen (fun W => W.heap[w.heap.size + 1 + 1 + 1]? = some (.cells #[.slice A n0 c, .int .u16 0, .int .u16 0, .int .u32 0, .slice none 0 0] 99 (0, 0)) ∧ W.heap[w.heap.size]? = some (.cells #[.int .u16 0, .int .u16 0, .int .u32 0, .slice none 0 0] 26 (0, 0)) ∧ W.heap[w.heap.size + 1]? = some (.cells #[.int .i64 0] 3 (0, 0)) ∧ W.heap[w.heap.size + 1 + 1]? = some (.cells #[.int .i64 0] 28 (0, 0)) ∧ Below w.heap.size w W) (boxes4 w _) ?_
 rintro W0 ⟨hg, hp, ha, he, hB⟩
 generalize hge : w.heap.size + 1 + 1 + 1 = g at *
 generalize hgn : w.heap.size + 1 + 1 = ge at *
 generalize hgm : w.heap.size + 1 = ga at *
 obtain ⟨gp, hgp⟩ : ∃ gp, w.heap.size = gp := ⟨_, rfl⟩
 have HG := Lh (show w.heap.size = gp ∧ ga = gp + 1 ∧ ge = gp + 2 ∧ g = gp + 3 ∧ g < W0.heap.size from ⟨hgp, by omega, by omega, by omega, blk_lt hg⟩)
 have hps : PS w W0 g b 0 0 0 (.slice none 0 0) := ⟨A, c, by rw [HN0.out]; exact hg, by rw [HN0.out]; exact hc, HBC.out⟩
 have HHD := Lh (head_calls w W0 g b (HT.out W0 hB) hps hB (by omega) (by rw [HN0.out]; exact hv))
 have HK := Lh (fun (W : World) (h : Only (· = g) W0 W) => (⟨h.blk (by rw [← hgp]; exact hp) (by show gp ≠ g; omega), h.blk ha (by show ga ≠ g; omega), h.blk he (by show ge ≠ g; omega), hB.trans (h.below hB.size (fun k hk => by subst hk; omega))⟩ : W.heap[gp]? = some (.cells #[.int .u16 0, .int .u16 0, .int .u32 0, .slice none 0 0] 26 (0, 0)) ∧ W.heap[ga]? = some (.cells #[.int .i64 0] 3 (0, 0)) ∧ W.heap[ge]? = some (.cells #[.int .i64 0] 28 (0, 0)) ∧ Below w.heap.size w W))
 rw [hgp]
 clear hg hp ha he hB hge hgn hgm hgp hps hc hv
 go_wp2_with fail
 refine HHD.out.mono ?_
 intro e W3 hP
 unfold HeadP at hP
 obtain ⟨hO, hbad, hok⟩ := hP
 by_cases hh : headE b = 0
 ·obtain ⟨rfl, hP3⟩ := hok hh
  obtain ⟨hl12, hl6, hck⟩ := head_len hh
  have HSUB := Lh (fun (W : World) (h : Below W3.heap.size W3 W) => (hP3.below h).sub)
  obtain ⟨A3, c3, hb3, hc3, hC3⟩ := hP3
  have HO := Lh hO
  have HDH := Lh (show preadD b wh = if wh = false then ⟨(hdF b : Nat), (hdT b : Nat), (hdQ b : Nat), [], 0, 0⟩
  else if (b.drop 12).length = 0 then pzero 0 73
  else if (allL (b.drop 12)).2.2 = 0 then (if apartB (allL (b.drop 12)).1 = true then pzero 0 74 else ⟨(hdF b : Nat), (hdT b : Nat), (hdQ b : Nat), (allL (b.drop 12)).1, 0, 0⟩)
  else pzero (12 + (allL (b.drop 12)).2.1) (allL (b.drop 12)).2.2 from by unfold preadD; rw [if_pos hh])
  have k0 : W3.cell? ⟨g, 0, none⟩ = some (.slice A3 (b.drop 12).length c3) := blk_cell hb3 0
  have HAL := Lh (fun (hw : wh = true) (W : World) (h : Below w.heap.size w W) => HAX.out hw W A3 c3 (Kd.C_below hC3 h) hc3 (by rw [List.length_drop]; omega))
  have HAT := Lh (show 0 ≤ (allL (b.drop 12)).2.1 ∧ (allL (b.drop 12)).2.1 ≤ 65536 from by
   have := all_at (b.drop 12) ((b.drop 12).length + 1) 0 [] (Nat.zero_le _)
   have h2 : (b.drop 12).length ≤ 65536 := by rw [List.length_drop]; omega
   exact ⟨this.1, Int.le_trans this.2 (by omega)⟩)
  have HB3 := Lh hb3
  rw [HDH.out] at HD
  clear HAX hbad hok hh HHD hC3 hc3 hl12 hl6 hck hO hb3 HDH HBC HT HN0
  generalize ((hdF b : Nat) : Int) = nf at *
  generalize ((hdT b : Nat) : Int) = nt at *
  generalize ((hdQ b : Nat) : Int) = nq at *
  generalize allL (b.drop 12) = AL at *
  obtain ⟨xs, at_, er⟩ := AL
  dsimp only at HD HAL HAT
  generalize (b.drop 12).length = n at *
  cases wh with
  | false =>
   have HDE := Lh (show D = ⟨nf, nt, nq, [], 0, 0⟩ from by rw [HD.out, if_pos rfl])
   have HOX := Lh (show Only (· = g) W0 W3 from HO.out)
   have HSB := Lh (HSUB.out W3 (Below.refl _ _))
   have HR := Lh (fun (W : World) (h : Only (fun k => k = gp ∨ k = ga ∨ k = ge) W3 W) => (Kd.R_nil _ _ _ _ _ : Kd.R k41 41 W w.heap.size (fun _ => True) (.slice none 0 0) []))
   obtain ⟨CS, hCS⟩ : ∃ CS : Array Value, #[.int .u16 nf, .int .u16 nt, .int .u32 nq, (.slice none 0 0)] = CS := ⟨_, rfl⟩
   have HCZ := Lh (show (#[.int .u16 0, .int .u16 0, .int .u32 0, .slice none 0 0] : Array Value).size = CS.size by rw [← hCS]; rfl)
   have HCI := Lh (show (Tryd.prog.info? 26).map (·.size) = some CS.size by rw [← hCS]; kernel_rfl)
   have HC1 := Lh (show CS.all (·.oneCell') = true by rw [← hCS]; simp [Value.oneCell'])
   rw [hCS] at HSB
   have HCS := Lh hCS
   clear hCS
   obtain ⟨q0, q1, q2, qb⟩ := HK.out _ HOX.out
   have hb1 : (W3.setRow gp CS).heap[ga]? = some (.cells #[.int .i64 0] 3 (0, 0)) := (setRow_other _ _ _ _ (by have := HG.out; omega)).trans q1
   have hb2 : (W3.setRow gp CS).heap[ge]? = some (.cells #[.int .i64 0] 28 (0, 0)) := (setRow_other _ _ _ _ (by have := HG.out; omega)).trans q2
   have kb : (W3.setRow gp CS).cell? ⟨ga, 0, none⟩ = some (.int .i64 0) := blk_cell hb1 0
   have fb := blk_frozen hb1 0
   have hb3 := blk_far (p := ⟨ga, 0, none⟩) hb2 (show ge ≠ ga by have := HG.out; omega) (.int .i64 0)
   have kc : ((W3.setRow gp CS).setCell ⟨ga, 0, none⟩ (.int .i64 0)).cell? ⟨ge, 0, none⟩ = some (.int .i64 0) := blk_cell hb3 0
   have fc := blk_frozen hb3 0
   have HQ0 := Lh q0
   have HX0 := Lh (blk_far (p := ⟨ge, 0, none⟩) (blk_far (p := ⟨ga, 0, none⟩) (setRow_heap _ _ _ CS _ _ q0) (show gp ≠ ga by have := HG.out; omega) (.int .i64 0)) (show gp ≠ ge by have := HG.out; omega) (.int .i64 0))
   have HX1 := Lh (blk_far (p := ⟨ge, 0, none⟩) (blk_put hb1 0 (.int .i64 0) rfl) (show ga ≠ ge by have := HG.out; omega) (.int .i64 0))
   have HX2 := Lh (blk_put hb3 0 (.int .i64 0) rfl)
   have HXO := Lh ((((Only.refl (fun k => k = gp ∨ k = ga ∨ k = ge) W3).setRow (g := gp) (fun _ => Or.inl rfl) CS).setCell (p := ⟨ga, 0, none⟩) (fun _ => Or.inr (Or.inl rfl)) (.int .i64 0)).setCell (p := ⟨ge, 0, none⟩) (fun _ => Or.inr (Or.inr rfl)) (.int .i64 0))
   have HQB := Lh qb
   clear q0 q1 q2 qb hb1 hb2 hb3
   go_wp2_with (first | (with_reducible refine gate_dst (N := 23) rfl ?_; go_must (refine wpList_load_cells rfl 26 (.tmp 22) rfl rfl CS _ (fun j v hv => HSB.out j v hv) Tryd.underlying26 rfl HCI.out ?_)) | (refine wpList_store_row rfl 26 _ _ rfl gp CS rfl rfl 26 #[.int .u16 0, .int .u16 0, .int .u32 0, .slice none 0 0] HQ0.out HCI.out HCZ.out HC1.out ?_))
   refine leaves_cons (f := 57) (args := #[.pointer (some ⟨gp, 0, none⟩), .pointer (some ⟨ga, 0, none⟩), .pointer (some ⟨ge, 0, none⟩)]) (by simp) (by simp [go_sem]) ?_
   refine (pcatch_idle _ _ _ _).mono ?_
   rintro e u' w'' ⟨rfl, rfl, rfl⟩
   exact ⟨_, pread_results _ _ _ _ _ _ _ _ rfl rfl rfl HX0.out HX1.out HX2.out HCZ.out.symm, (.slice none 0 0), by rw [HDE.out, ← HCS.out], by rw [HDE.out]; exact HR.out _ HXO.out, HQB.out.trans (HXO.out.below HQB.out.size (fun k hk => by have := HG.out; omega))⟩
  | true =>
   rw [if_neg (by decide)] at HD
   by_cases hn : n = 0
   ·rw [if_pos hn] at HD
    have hz : decide (0 < n) = false := decide_eq_false (by omega)
    have HD0 := Lh HD.out
    clear HD hn HAL
    unfold errP at HM
    go_wp2_with fail
    refine (HM.out _ _ _).mono ?_
    rintro e W3 ⟨rfl, rfl⟩
    clear hz k0 HM HMO
    have HDE := Lh (show D = pzero (0) (73) from HD0.out)
    have HOX := Lh (HO.out)
    go_wp2
    refine leaves_cons (f := 57) (args := #[.pointer (some ⟨gp, 0, none⟩), .pointer (some ⟨ga, 0, none⟩), .pointer (some ⟨ge, 0, none⟩)]) (by simp) (by simp [go_sem]) ?_
    refine (pcatch_err gp ga ge (0) (73) [] _ _ _ _ _ _ (HK.out _ HOX.out).1 rfl (HK.out _ HOX.out).2.1 (HK.out _ HOX.out).2.2.1 (by have := HG.out; omega) (by have := HG.out; omega) (by have := HG.out; omega)).mono ?_
    rintro e u' w'' ⟨rfl, rfl, s0, s1, s2, hO2⟩
    exact ⟨_, pread_results _ _ _ _ _ _ _ _ rfl rfl rfl s0 s1 s2, .slice none 0 0, by rw [HDE.out]; rfl, by rw [HDE.out]; exact Kd.R_nil _ _ _ _ _, (HK.out _ HOX.out).2.2.2.trans (hO2.below (HK.out _ HOX.out).2.2.2.size (fun k hk => by have := HG.out; omega))⟩
   ·rw [if_neg hn] at HD
    have hz : decide (0 < n) = true := decide_eq_true (by omega)
    clear hn
    go_wp2_with fail
    refine (HMO.out _ _ _).mono ?_
    rintro e W3 ⟨rfl, rfl⟩
    clear hz
    go_wp2_with fail
    refine (HAL.out (by first | trivial | rfl) _ (HK.out _ HO.out).2.2.2).mono ?_
    rintro e W5 ⟨v5, rfl, hR5, hB5⟩
    obtain ⟨A5, c5, rfl, hle5, hC5⟩ := Kd.R_reads hR5
    have HR5 := Lh hR5
    have HB5 := Lh hB5
    have HLE5 := Lh hle5
    have HC5 := Lh hC5
    clear hR5 hle5 hC5 hB5 HAL k0
    by_cases her : er = 0
    ·subst her
     rw [if_pos rfl] at HD
     go_wp2_with fail
     refine (HMO.out _ _ _).mono ?_
     rintro e W5 ⟨rfl, rfl⟩
     have HAP := Lh (apart_calls W5 A5 c5 xs HC5.out)
     generalize apartB xs = ab at *
     go_wp2_with fail
     refine HAP.out.mono ?_
     rintro e W7 ⟨rfl, hB7⟩
     have HB7 := Lh (below_then HB5.out HB5.out.size hB7)
     have HR7 := Lh (Kd.R_below HR5.out hB7)
     clear hB7 HAP HC5
     cases ab with
     | true =>
      rw [if_pos rfl] at HD
      have HD0 := Lh HD.out
      clear HD HR7 HR5
      unfold errP at HM
      go_wp2_with fail
      refine (HM.out _ _ _).mono ?_
      rintro e W7 ⟨rfl, rfl⟩
      clear HM HMO
      have HDE := Lh (show D = pzero (0) (74) from HD0.out)
      have HOX := Lh (HO.out.thn HB7.out)
      go_wp2
      refine leaves_cons (f := 57) (args := #[.pointer (some ⟨gp, 0, none⟩), .pointer (some ⟨ga, 0, none⟩), .pointer (some ⟨ge, 0, none⟩)]) (by simp) (by simp [go_sem]) ?_
      refine (pcatch_err gp ga ge (0) (74) [] _ _ _ _ _ _ (HK.out _ HOX.out).1 rfl (HK.out _ HOX.out).2.1 (HK.out _ HOX.out).2.2.1 (by have := HG.out; omega) (by have := HG.out; omega) (by have := HG.out; omega)).mono ?_
      rintro e u' w'' ⟨rfl, rfl, s0, s1, s2, hO2⟩
      exact ⟨_, pread_results _ _ _ _ _ _ _ _ rfl rfl rfl s0 s1 s2, .slice none 0 0, by rw [HDE.out]; rfl, by rw [HDE.out]; exact Kd.R_nil _ _ _ _ _, (HK.out _ HOX.out).2.2.2.trans (hO2.below (HK.out _ HOX.out).2.2.2.size (fun k hk => by have := HG.out; omega))⟩
     | false =>
      rw [if_neg (by decide)] at HD
      go_wp2_with fail
      refine (HMO.out _ _ _).mono ?_
      rintro e W7 ⟨rfl, rfl⟩
      have hbg := blk_below HB3.out HB7.out
      have fg := blk_frozen hbg 4
      have kg : W7.cell? ⟨g, 4, none⟩ = some (.slice none 0 0) := blk_cell hbg 4
      have HBG := Lh hbg
      clear hbg
      go_upto_region 11 with (fail)
      have HOY := Lh ((HO.out.thn HB7.out).setCell (p := ⟨g, 4, none⟩) (fun _ => rfl) (.slice A5 xs.length c5))
      have HBY := Lh (blk_put HBG.out 4 (.slice A5 xs.length c5) rfl)
      have HRY := Lh (R_only HR7.out ((Only.refl (· = g) W7).setCell (p := ⟨g, 4, none⟩) (fun _ => rfl) (.slice A5 xs.length c5)) (fun k hk _ h => by have h1 := HG.out; have h2 := HO.out.size; have h3 : k = g := h; omega))
      have HSZ := Lh (show g < W3.heap.size from by have h1 := HG.out; have h2 := HO.out.size; omega)
      clear HR5 HR7 kg fg HBG
      refine wp_gen (fun W => W = W7.setCell ⟨g, 4, none⟩ (.slice A5 xs.length c5)) rfl ?_
      intro W9 hW9
      rw [← hW9] at HOY HBY HRY
      clear hW9
      have HDE := Lh (show D = ⟨nf, nt, nq, xs, 0, 0⟩ from HD.out)
      have HOX := Lh (show Only (· = g) W0 W9 from HOY.out)
      have HSB := Lh (blk_sub HBY.out 1 #[.int .u16 nf, .int .u16 nt, .int .u32 nq, .slice A5 xs.length c5] (sub4 _ _ _ _ _))
      have HR := Lh (fun (W : World) (h : Only (fun k => k = gp ∨ k = ga ∨ k = ge) W9 W) => (Kd.R_lower (R_only HRY.out h (fun k hk _ h2 => by have h1 := HG.out; have h3 := HSZ.out; omega)) (by have h1 := HG.out; have h3 := HSZ.out; omega) : Kd.R k41 41 W w.heap.size (fun _ => True) (.slice A5 xs.length c5) xs))
      obtain ⟨CS, hCS⟩ : ∃ CS : Array Value, #[.int .u16 nf, .int .u16 nt, .int .u32 nq, (.slice A5 xs.length c5)] = CS := ⟨_, rfl⟩
      have HCZ := Lh (show (#[.int .u16 0, .int .u16 0, .int .u32 0, .slice none 0 0] : Array Value).size = CS.size by rw [← hCS]; rfl)
      have HCI := Lh (show (Tryd.prog.info? 26).map (·.size) = some CS.size by rw [← hCS]; kernel_rfl)
      have HC1 := Lh (show CS.all (·.oneCell') = true by rw [← hCS]; simp [Value.oneCell'])
      rw [hCS] at HSB
      have HCS := Lh hCS
      clear hCS
      obtain ⟨q0, q1, q2, qb⟩ := HK.out _ HOX.out
      have hb1 : (W9.setRow gp CS).heap[ga]? = some (.cells #[.int .i64 0] 3 (0, 0)) := (setRow_other _ _ _ _ (by have := HG.out; omega)).trans q1
      have hb2 : (W9.setRow gp CS).heap[ge]? = some (.cells #[.int .i64 0] 28 (0, 0)) := (setRow_other _ _ _ _ (by have := HG.out; omega)).trans q2
      have kb : (W9.setRow gp CS).cell? ⟨ga, 0, none⟩ = some (.int .i64 0) := blk_cell hb1 0
      have fb := blk_frozen hb1 0
      have hb3 := blk_far (p := ⟨ga, 0, none⟩) hb2 (show ge ≠ ga by have := HG.out; omega) (.int .i64 0)
      have kc : ((W9.setRow gp CS).setCell ⟨ga, 0, none⟩ (.int .i64 0)).cell? ⟨ge, 0, none⟩ = some (.int .i64 0) := blk_cell hb3 0
      have fc := blk_frozen hb3 0
      have HQ0 := Lh q0
      have HX0 := Lh (blk_far (p := ⟨ge, 0, none⟩) (blk_far (p := ⟨ga, 0, none⟩) (setRow_heap _ _ _ CS _ _ q0) (show gp ≠ ga by have := HG.out; omega) (.int .i64 0)) (show gp ≠ ge by have := HG.out; omega) (.int .i64 0))
      have HX1 := Lh (blk_far (p := ⟨ge, 0, none⟩) (blk_put hb1 0 (.int .i64 0) rfl) (show ga ≠ ge by have := HG.out; omega) (.int .i64 0))
      have HX2 := Lh (blk_put hb3 0 (.int .i64 0) rfl)
      have HXO := Lh ((((Only.refl (fun k => k = gp ∨ k = ga ∨ k = ge) W9).setRow (g := gp) (fun _ => Or.inl rfl) CS).setCell (p := ⟨ga, 0, none⟩) (fun _ => Or.inr (Or.inl rfl)) (.int .i64 0)).setCell (p := ⟨ge, 0, none⟩) (fun _ => Or.inr (Or.inr rfl)) (.int .i64 0))
      have HQB := Lh qb
      clear q0 q1 q2 qb hb1 hb2 hb3
      go_wp2_with (first | (with_reducible refine gate_dst (N := 60) rfl ?_; go_must (refine wpList_load_cells rfl 26 (.tmp 59) rfl rfl CS _ (fun j v hv => HSB.out j v hv) Tryd.underlying26 rfl HCI.out ?_)) | (refine wpList_store_row rfl 26 _ _ rfl gp CS rfl rfl 26 #[.int .u16 0, .int .u16 0, .int .u32 0, .slice none 0 0] HQ0.out HCI.out HCZ.out HC1.out ?_))
      refine leaves_cons (f := 57) (args := #[.pointer (some ⟨gp, 0, none⟩), .pointer (some ⟨ga, 0, none⟩), .pointer (some ⟨ge, 0, none⟩)]) (by simp) (by simp [go_sem]) ?_
      refine (pcatch_idle _ _ _ _).mono ?_
      rintro e u' w'' ⟨rfl, rfl, rfl⟩
      exact ⟨_, pread_results _ _ _ _ _ _ _ _ rfl rfl rfl HX0.out HX1.out HX2.out HCZ.out.symm, (.slice A5 xs.length c5), by rw [HDE.out, ← HCS.out], by rw [HDE.out]; exact HR.out _ HXO.out, HQB.out.trans (HXO.out.below HQB.out.size (fun k hk => by have := HG.out; omega))⟩
    ·rw [if_neg her] at HD
     have hz : (er == 0) = false := by simp [her]
     have hwr : wrap64 (12 + at_) = 12 + at_ := by have := HAT.out; unfold wrap64; omega
     have HD0 := Lh HD.out
     clear HD HR5 HC5 her
     unfold errP at HM
     go_wp2_with fail
     refine (HM.out _ _ _).mono ?_
     rintro e W5 ⟨rfl, rfl⟩
     clear hz hwr HM HMO
     have HDE := Lh (show D = pzero (12 + at_) (er) from HD0.out)
     have HOX := Lh (HO.out.thn HB5.out)
     go_wp2
     refine leaves_cons (f := 57) (args := #[.pointer (some ⟨gp, 0, none⟩), .pointer (some ⟨ga, 0, none⟩), .pointer (some ⟨ge, 0, none⟩)]) (by simp) (by simp [go_sem]) ?_
     refine (pcatch_err gp ga ge (12 + at_) (er) [] _ _ _ _ _ _ (HK.out _ HOX.out).1 rfl (HK.out _ HOX.out).2.1 (HK.out _ HOX.out).2.2.1 (by have := HG.out; omega) (by have := HG.out; omega) (by have := HG.out; omega)).mono ?_
     rintro e u' w'' ⟨rfl, rfl, s0, s1, s2, hO2⟩
     exact ⟨_, pread_results _ _ _ _ _ _ _ _ rfl rfl rfl s0 s1 s2, .slice none 0 0, by rw [HDE.out]; rfl, by rw [HDE.out]; exact Kd.R_nil _ _ _ _ _, (HK.out _ HOX.out).2.2.2.trans (hO2.below (HK.out _ HOX.out).2.2.2.size (fun k hk => by have := HG.out; omega))⟩
 ·obtain ⟨rfl, _⟩ := hbad hh
  have hde : preadD b wh = pzero 0 (headE b) := by unfold preadD; rw [if_neg hh]
  rw [hde] at HD
  have HD0 := Lh HD.out
  have HO := Lh hO
  clear hok hbad hh hde HD hO HHD HM HMO
  generalize headE b = hE at *
  unfold errP
  have HDE := Lh (show D = pzero (0) (hE) from HD0.out)
  have HOX := Lh (HO.out)
  go_wp2
  refine leaves_cons (f := 57) (args := #[.pointer (some ⟨gp, 0, none⟩), .pointer (some ⟨ga, 0, none⟩), .pointer (some ⟨ge, 0, none⟩)]) (by simp) (by simp [go_sem]) ?_
  refine (pcatch_err gp ga ge (0) (hE) [] _ _ _ _ _ _ (HK.out _ HOX.out).1 rfl (HK.out _ HOX.out).2.1 (HK.out _ HOX.out).2.2.1 (by have := HG.out; omega) (by have := HG.out; omega) (by have := HG.out; omega)).mono ?_
  rintro e u' w'' ⟨rfl, rfl, s0, s1, s2, hO2⟩
  exact ⟨_, pread_results _ _ _ _ _ _ _ _ rfl rfl rfl s0 s1 s2, .slice none 0 0, by rw [HDE.out]; rfl, by rw [HDE.out]; exact Kd.R_nil _ _ _ _ _, (HK.out _ HOX.out).2.2.2.trans (hO2.below (HK.out _ HOX.out).2.2.2.size (fun k hk => by have := HG.out; omega))⟩
theorem pdec_results (tmps : Array Value) (w : World) (g : Nat) (cs : Array Value) (v1 v2 : Value) (t0 : tmps.getD 2 undef = .pointer (some ⟨g, 0, none⟩)) (t1 : tmps.getD 3 undef = v1) (t2 : tmps.getD 4 undef = v2)
  (h0 : w.heap[g]? = some (.cells cs 26 (0, 0))) (hcs : cs.size = 4) :
  (results Tryd.f12 tmps).run Tryd.prog w = .ok (.tuple #[.agg cs, v1, v2]) w := by
 have hi : (Tryd.prog.info? 26).map (·.size) = some cs.size := by rw [hcs]; kernel_rfl
 have hl := run_loadVar_row w g 26 26 cs (0, 0) _ h0 Tryd.underlying26 rfl hi
 rw [Array.getD_eq_getD_getElem?] at t0 t1 t2
 simp [results, Tryd.results12, asAddr, t0, t1, t2, hl]
theorem phead_results (tmps : Array Value) (w : World) (g : Nat) (cs : Array Value) (v1 : Value) (t0 : tmps.getD 2 undef = .pointer (some ⟨g, 0, none⟩)) (t1 : tmps.getD 3 undef = v1)
  (h0 : w.heap[g]? = some (.cells cs 26 (0, 0))) (hcs : cs.size = 4) :
  (results Tryd.f21 tmps).run Tryd.prog w = .ok (.tuple #[.agg cs, v1]) w := by
 have hi : (Tryd.prog.info? 26).map (·.size) = some cs.size := by rw [hcs]; kernel_rfl
 have hl := run_loadVar_row w g 26 26 cs (0, 0) _ h0 Tryd.underlying26 rfl hi
 rw [Array.getD_eq_getD_getElem?] at t0 t1
 simp [results, Tryd.results21, asAddr, t0, t1, hl]
set_option maxHeartbeats 1000000 in
theorem pdecode_with (w : World) (A : Option Addr) (b : List UInt8) (c : Nat) (hT : Table w) (hb : byte.C w A b.length b) (hc : b.length ≤ c) (hv : b.length ≤ 140737488355328) (HAC : AllOk (b.drop 12)) :
  Calls Tryd.prog 12 #[.slice A b.length c] w (ReadPP w (preadD b true)) := by
 have HR := Lh (fun (W : World) (h : Below w.heap.size w W) => pread_with W A b c true (hT.below h) (Kd.C_below hb h) hc hv (fun _ => HAC))
 clear HAC
 generalize preadD b true = D at *
 clear hb hc hT hv
 unfold ReadPP at HR ⊢
 generalize b.length = n at *
 obtain ⟨g, hg⟩ : ∃ g, w.heap.size = g := ⟨_, rfl⟩
 have HG := Lh hg
 clear hg
 go_enter Tryd.func12, Tryd.ntmps12
 go_upto_region 1 with (fail)
 refine wp_gen (fun W => W.heap[w.heap.size]? = some (.cells #[.int .u16 0, .int .u16 0, .int .u32 0, .slice none 0 0] 26 (0, 0)) ∧ Below w.heap.size w W) ⟨blk_new _ _, below_alloc (Below.refl _ _) _⟩ ?_
 rintro W0 ⟨h0, hB⟩
 rw [HG.out] at h0 ⊢
 go_wp2_with fail
 refine (HR.out W0 hB).mono ?_
 rintro e W1 ⟨v, rfl, hR, hB1⟩
 obtain ⟨A1, c1, rfl, hle1, hC1⟩ := Kd.R_reads hR
 have HR1 := Lh hR
 have HB1 := Lh (below_then hB hB.size hB1)
 have H1 := Lh (blk_below h0 hB1)
 have HGW := Lh (show g < W0.heap.size from blk_lt h0)
 clear h0 hB hR hB1 HR hle1 hC1
 obtain ⟨CS, hCS⟩ : ∃ CS : Array Value, #[.int .u16 D.f, .int .u16 D.t, .int .u32 D.q, .slice A1 D.l.length c1] = CS := ⟨_, rfl⟩
 have HCZ := Lh (show (#[.int .u16 0, .int .u16 0, .int .u32 0, .slice none 0 0] : Array Value).size = CS.size by rw [← hCS]; rfl)
 have HCI := Lh (show (Tryd.prog.info? 26).map (·.size) = some CS.size by rw [← hCS]; kernel_rfl)
 have HC1 := Lh (show CS.all (·.oneCell') = true by rw [← hCS]; simp [Value.oneCell'])
 have HCS := Lh hCS
 rw [hCS]
 clear hCS
 go_wp2_with (refine wpList_store_row rfl 26 _ _ rfl g CS rfl rfl 26 #[.int .u16 0, .int .u16 0, .int .u32 0, .slice none 0 0] H1.out HCI.out HCZ.out HC1.out ?_)
 refine bodyPost_ret (pdec_results _ _ g CS _ _ rfl rfl rfl (setRow_heap _ _ _ _ _ _ H1.out) HCZ.out.symm) rfl ⟨_, by rw [← HCS.out]; first | done | rfl, Kd.R_lower (R_only HR1.out ((Only.refl (· = g) W1).setRow (fun _ => rfl) CS) (fun k hk _ h => by have h1 := HGW.out; have h3 : k = g := h; omega)) (by have h1 := HGW.out; have h2 := HG.out; omega), HB1.out.trans (((Only.refl (· = g) W1).setRow (fun _ => rfl) CS).below HB1.out.size (fun k hk => by have h2 := HG.out; have h3 : k = g := hk; omega))⟩
theorem pdecode_calls (w : World) (A : Option Addr) (b : List UInt8) (c : Nat) (hT : Table w) (hb : byte.C w A b.length b) (hc : b.length ≤ c) (hv : b.length ≤ 140737488355328) :
  Calls Tryd.prog 12 #[.slice A b.length c] w (ReadPP w (preadD b true)) := pdecode_with w A b c hT hb hc hv (all_ok _)
set_option maxHeartbeats 1000000 in
theorem phead_calls (w : World) (A : Option Addr) (b : List UInt8) (c : Nat) (hT : Table w) (hb : byte.C w A b.length b) (hc : b.length ≤ c) (hv : b.length ≤ 140737488355328) :
  Calls Tryd.prog 21 #[.slice A b.length c] w fun e w' => ∃ v, e = .returned (.tuple #[.agg #[.int .u16 (preadD b false).f, .int .u16 (preadD b false).t, .int .u32 (preadD b false).q, v], .int .i64 (preadD b false).e]) ∧ Kd.R k41 41 w' w.heap.size (fun _ => True) v (preadD b false).l ∧ Below w.heap.size w w' := by
 have HR := Lh (fun (W : World) (h : Below w.heap.size w W) => pread_with W A b c false (hT.below h) (Kd.C_below hb h) hc hv (fun h => by cases h))
 generalize preadD b false = D at *
 clear hb hc hT hv
 unfold ReadPP at HR
 generalize b.length = n at *
 obtain ⟨g, hg⟩ : ∃ g, w.heap.size = g := ⟨_, rfl⟩
 have HG := Lh hg
 clear hg
 go_enter Tryd.func21, Tryd.ntmps21
 go_upto_region 1 with (fail)
 refine wp_gen (fun W => W.heap[w.heap.size]? = some (.cells #[.int .u16 0, .int .u16 0, .int .u32 0, .slice none 0 0] 26 (0, 0)) ∧ Below w.heap.size w W) ⟨blk_new _ _, below_alloc (Below.refl _ _) _⟩ ?_
 rintro W0 ⟨h0, hB⟩
 rw [HG.out] at h0 ⊢
 go_wp2_with fail
 refine (HR.out W0 hB).mono ?_
 rintro e W1 ⟨v, rfl, hR, hB1⟩
 obtain ⟨A1, c1, rfl, hle1, hC1⟩ := Kd.R_reads hR
 have HR1 := Lh hR
 have HB1 := Lh (below_then hB hB.size hB1)
 have H1 := Lh (blk_below h0 hB1)
 have HGW := Lh (show g < W0.heap.size ∧ W0.heap.size ≤ W1.heap.size from ⟨blk_lt h0, hB1.size⟩)
 clear h0 hB hR hB1 HR hle1 hC1
 obtain ⟨g2, hg2⟩ : ∃ g2, W1.heap.size = g2 := ⟨_, rfl⟩
 have HG2 := Lh hg2
 clear hg2
 go_upto_region 2 with (fail)
 refine wp_gen (fun W => W.heap[W1.heap.size]? = some (.cells #[.int .u16 D.f, .int .u16 D.t, .int .u32 D.q, .slice A1 D.l.length c1] 26 (0, 0)) ∧ Below W1.heap.size W1 W) ⟨by first | exact blk_new _ _ | exact blk_put (blk_new _ _) 0 _ rfl, below_alloc (Below.refl _ _) _⟩ ?_
 rintro W2 ⟨h2, hB2⟩
 rw [HG2.out] at h2 ⊢
 have H2 := Lh h2
 replace H1 := Lh (blk_below H1.out hB2)
 replace HR1 := Lh (Kd.R_below HR1.out hB2)
 replace HB1 := Lh (below_then HB1.out HB1.out.size hB2)
 have HSZ := Lh (show g < W2.heap.size by have := HGW.out; have := hB2.size; omega)
 clear h2 hB2
 obtain ⟨CS, hCS⟩ : ∃ CS : Array Value, #[.int .u16 D.f, .int .u16 D.t, .int .u32 D.q, .slice A1 D.l.length c1] = CS := ⟨_, rfl⟩
 have HCZ := Lh (show (#[.int .u16 0, .int .u16 0, .int .u32 0, .slice none 0 0] : Array Value).size = CS.size by rw [← hCS]; rfl)
 have HCI := Lh (show (Tryd.prog.info? 26).map (·.size) = some CS.size by rw [← hCS]; kernel_rfl)
 have HC1 := Lh (show CS.all (·.oneCell') = true by rw [← hCS]; simp [Value.oneCell'])
 have HCS := Lh hCS
 rw [hCS] at H2 ⊢
 clear hCS
 have HSB := Lh (blk_sub H2.out 0 CS (fun j v hv => by rw [Nat.zero_add]; simpa using hv))
 go_wp2_with (first | (with_reducible refine gate_dst (N := 13) rfl ?_; go_must (refine wpList_load_cells rfl 26 (.tmp 4) rfl rfl CS _ (fun j v hv => HSB.out j v hv) Tryd.underlying26 rfl HCI.out ?_)) | (refine wpList_store_row rfl 26 _ _ rfl g CS rfl rfl 26 #[.int .u16 0, .int .u16 0, .int .u32 0, .slice none 0 0] H1.out HCI.out HCZ.out HC1.out ?_))
 refine bodyPost_ret (phead_results _ _ g CS _ rfl rfl (setRow_heap _ _ _ _ _ _ H1.out) HCZ.out.symm) rfl ⟨_, by rw [← HCS.out]; first | done | rfl, Kd.R_lower (R_only HR1.out ((Only.refl (· = g) W2).setRow (fun _ => rfl) CS) (fun k hk _ h => by have h1 := HGW.out; have h3 : k = g := h; omega)) (by have h1 := HGW.out; have h2 := HG.out; omega), HB1.out.trans (((Only.refl (· = g) W2).setRow (fun _ => rfl) CS).below HB1.out.size (fun k hk => by have h2 := HG.out; have h3 : k = g := hk; omega))⟩
end Go.Proofs.YtdlamomabonkjaaDoor.Pk
end
section
namespace Go.Proofs.YtdlamomabonkjaaDoor.Ch
open Go.RowKit YtdlamomabonkjaaDoorW.PrintWords YtdlamomabonkjaaDoorW.PrintLast Base PCh ParDec ParEnc
structure RX (w1 : World) (ys : List Int) (v : Value) (W : World) : Prop where
 bl : Below w1.heap.size w1 W
 r : (Kd.int .u8).R 5 W w1.heap.size (fun _ => True) v ys
theorem RX.drewN {w1 W : World} {ys : List Int} {v : Value} (h : RX w1 ys v W) (n : Nat) : RX w1 ys v (W.drewN n) := ⟨pw_below_drewN h.bl n, Kd.R_drewN h.r n⟩
theorem u32_mod (n : Int) : IntKind.u32.wrap n = n % 4294967296 := by simp [IntKind.wrap, IntKind.bits, IntKind.signed]
theorem two32 (n : Int) : twoL [IntKind.u32.wrap n] = twoL [n] := by
 rw [u32_mod]
 simp only [twoL, List.append_nil, List.cons.injEq, and_true]
 omega
theorem sh_nonneg (n : Int) : 0 ≤ IntKind.u64.wrap n := by simp [IntKind.wrap, IntKind.bits, IntKind.signed]; omega
theorem put_two (l : List Int) (n : Int) (hl : l.length ≤ 140737488355000) : ropewalkref06_put.f 3 l n 2 = some (l ++ twoL [n]) := by
 have e1 : shr .u32 n (IntKind.u64.wrap (wrap64 (8 * 1))) % 256 = n / 256 % 256 := by simp [shr, wrap64, IntKind.wrap, IntKind.bits, IntKind.signed]
 have e0 : shr .u32 n (IntKind.u64.wrap (wrap64 (8 * 0))) % 256 = n % 256 := by simp [shr, wrap64, IntKind.wrap, IntKind.bits, IntKind.signed]
 unfold ropewalkref06_put.f
 rw [show wrap64 (2 - 1) = 1 by unfold wrap64; omega, ropewalkref06_put.l0, if_pos (by decide), if_pos (sh_nonneg _), if_pos (by omega), e1, show wrap64 (1 - 1) = 0 by unfold wrap64; omega, ropewalkref06_put.l0, if_pos (by decide), if_pos (sh_nonneg _), if_pos (by rw [List.length_append]; simp; omega), e0, show wrap64 (0 - 1) = -1 by unfold wrap64; omega, ropewalkref06_put.l0, if_neg (by decide)]
 simp [twoL]
theorem put_four (l : List Int) (n : Int) (hl : l.length ≤ 140737488355000) : ropewalkref06_put.f 5 l n 4 = some (l ++ fourL [n]) := by
 have e3 : shr .u32 n (IntKind.u64.wrap (wrap64 (8 * 3))) % 256 = n / 16777216 % 256 := by simp [shr, wrap64, IntKind.wrap, IntKind.bits, IntKind.signed]
 have e2 : shr .u32 n (IntKind.u64.wrap (wrap64 (8 * 2))) % 256 = n / 65536 % 256 := by simp [shr, wrap64, IntKind.wrap, IntKind.bits, IntKind.signed]
 have e1 : shr .u32 n (IntKind.u64.wrap (wrap64 (8 * 1))) % 256 = n / 256 % 256 := by simp [shr, wrap64, IntKind.wrap, IntKind.bits, IntKind.signed]
 have e0 : shr .u32 n (IntKind.u64.wrap (wrap64 (8 * 0))) % 256 = n % 256 := by simp [shr, wrap64, IntKind.wrap, IntKind.bits, IntKind.signed]
 unfold ropewalkref06_put.f
 rw [show wrap64 (4 - 1) = 3 by unfold wrap64; omega, ropewalkref06_put.l0, if_pos (by decide), if_pos (sh_nonneg _), if_pos (by omega), e3, show wrap64 (3 - 1) = 2 by unfold wrap64; omega, ropewalkref06_put.l0, if_pos (by decide), if_pos (sh_nonneg _), if_pos (by rw [List.length_append]; simp; omega), e2, show wrap64 (2 - 1) = 1 by unfold wrap64; omega, ropewalkref06_put.l0, if_pos (by decide), if_pos (sh_nonneg _), if_pos (by simp only [List.length_append, List.length_cons, List.length_nil]; omega), e1, show wrap64 (1 - 1) = 0 by unfold wrap64; omega, ropewalkref06_put.l0, if_pos (by decide), if_pos (sh_nonneg _), if_pos (by simp only [List.length_append, List.length_cons, List.length_nil]; omega), e0, show wrap64 (0 - 1) = -1 by unfold wrap64; omega, ropewalkref06_put.l0, if_neg (by decide)]
 simp [fourL]
theorem RX.put {w1 W : World} {ys zs : List Int} {v : Value} (h : RX w1 ys v W) (k : Nat) (n m : Int) (hf : ropewalkref06_put.f k ys n m = some zs) :
  Calls Tryd.prog 63 #[v, .int .u32 n, .int .i64 m] W fun e w' => ∃ v', e = .returned v' ∧ RX w1 zs v' w' :=
 (ropewalkref06_put.calls k (fun _ => True) v ys n m zs w1 W h.bl h.r hf).mono fun e w' ⟨v', h1, h2, h3, _⟩ => ⟨v', h1, h3, Kd.R_mono h2 (fun _ _ => trivial)⟩
theorem RX.two {w1 W : World} {ys : List Int} {v : Value} (h : RX w1 ys v W) (n : Int) (t : List Int) (ht : twoL [n] = t) (hl : ys.length ≤ 140737488355000) :
  Calls Tryd.prog 63 #[v, .int .u32 n, .int .i64 2] W fun e w' => ∃ v', e = .returned v' ∧ RX w1 (ys ++ t) v' w' := by
 subst ht
 exact h.put 3 n 2 (put_two ys n hl)
theorem RX.four {w1 W : World} {ys : List Int} {v : Value} (h : RX w1 ys v W) (n : Int) (hl : ys.length ≤ 140737488355000) :
  Calls Tryd.prog 63 #[v, .int .u32 n, .int .i64 4] W fun e w' => ∃ v', e = .returned v' ∧ RX w1 (ys ++ fourL [n]) v' w' := h.put 5 n 4 (put_four ys n hl)
end Go.Proofs.YtdlamomabonkjaaDoor.Ch
end
section
namespace Go.Proofs.YtdlamomabonkjaaDoor.Pk
open Go.RowKit YtdlamomabonkjaaDoorW.PrintWords YtdlamomabonkjaaDoorW.PrintLast Base PCh ParDec ParEnc Ch Crc CrcMath
theorem put_take (l : List UInt8) (h : 12 ≤ l.length) : (putL l).take 8 = l.take 8 ∧ (putL l).drop 12 = l.drop 12 := by
 rw [putL_eq, puts_four _ _ h]
 have h8 : (l.take 8).length = 8 := by rw [List.length_take]; omega
 constructor
 ·rw [List.append_assoc, List.take_append_of_le_length (by omega), List.take_of_length_le (by omega)]
 ·rw [List.drop_append]
  simp [h8]
theorem allL_back {l : List Chk} {b : List UInt8} (hok : ∀ x ∈ l, OkC x ∧ checkD x = 0) (hb : ints b = flatL l) : allL b = (l, 0, 0) := by
 have := all_back l (b.length + 1) 0 b [] hok (by rw [List.drop_zero]; exact hb) (Nat.zero_le _) (by omega)
 unfold allL
 rw [this, List.nil_append]
theorem flat_pos (x : Chk) (l : List Chk) : 4 ≤ (flatL (x :: l)).length := by
 rw [flatL, List.length_append, chunkL_len]
 omega
structure PkOk (f t q : Int) (l : List Chk) : Prop where
 f0 : 0 < f
 f1 : f < 65536
 t0 : 0 < t
 t1 : t < 65536
 q : in32 q
 ok : ∀ x ∈ l, OkC x
theorem penc_good {f t q : Int} {l : List Chk} (h : (pencD f t q l).2 = 0) : 0 < f ∧ 0 < t ∧ l.length ≠ 0 ∧ apartB l = false ∧ (encD l).2 = 0 ∧ 12 + (encD l).1.length ≤ 65536 ∧ (pencD f t q l).1 = putL (bytesOf (headL f t q ++ (encD l).1)) := by
 unfold pencD at h ⊢
 by_cases h1 : (decide (0 < f) && decide (0 < t)) = false
 ·rw [if_pos h1] at h; cases h
 rw [if_neg h1] at h ⊢
 have h1' : 0 < f ∧ 0 < t := by simpa using h1
 by_cases h2 : l.length = 0
 ·rw [if_pos h2] at h; cases h
 rw [if_neg h2] at h ⊢
 by_cases h3 : apartB l = true
 ·rw [if_pos h3] at h; cases h
 rw [if_neg h3] at h ⊢
 by_cases h4 : (encD l).2 = 0
 ·rw [if_pos h4] at h ⊢
  by_cases h5 : 65536 < 12 + (encD l).1.length
  ·rw [if_pos h5] at h; cases h
  rw [if_neg h5]
  exact ⟨h1'.1, h1'.2, h2, Bool.eq_false_iff.2 h3, h4, by omega, rfl⟩
 ·rw [if_neg h4] at h; exact absurd h h4
theorem penc_ok {f t q : Int} {l : List Chk} (h1 : 0 < f) (h2 : 0 < t) (h3 : l.length ≠ 0) (h4 : apartB l = false) (h5 : (encD l).2 = 0) (h6 : 12 + (encD l).1.length ≤ 65536) : pencD f t q l = (putL (bytesOf (headL f t q ++ (encD l).1)), 0) := by
 unfold pencD
 rw [if_neg (by simp [h1, h2]), if_neg h3, if_neg (by rw [h4]; exact Bool.false_ne_true), if_pos h5, if_neg (by omega)]
theorem in16_of {f : Int} (h0 : 0 < f) (h1 : f < 65536) : in16 f := ⟨by omega, h1⟩
theorem pback {f t q : Int} {l : List Chk} (hk : PkOk f t q l) (h : (pencD f t q l).2 = 0) : preadD (pencD f t q l).1 true = ⟨f, t, q, l, 0, 0⟩ ∧ 12 < (pencD f t q l).1.length ∧ (pencD f t q l).1.length ≤ 65536 := by
 obtain ⟨_, _, hl, hap, he, hlen, hb⟩ := penc_good h
 obtain ⟨hck, hfl, _⟩ := enc_good he
 rw [hb]
 have hin : ∀ b ∈ headL f t q ++ (encD l).1, inB b := app_in (head_in f t q) (enc_in hk.ok)
 obtain ⟨hs, hhs⟩ : ∃ hs, bytesOf (headL f t q ++ (encD l).1) = hs := ⟨_, rfl⟩
 have hi : ints hs = headL f t q ++ (encD l).1 := by rw [← hhs]; exact ints_bytesOf _ hin
 rw [hhs]
 have hln : hs.length = 12 + (encD l).1.length := by rw [← ints_length, hi, List.length_append, headL_length]
 obtain ⟨p8, p12⟩ := put_take hs (by omega)
 have hpl := putL_length hs
 have hi0 : ints hs = twoL [f] ++ (twoL [t] ++ (fourL [q] ++ (fourL [0] ++ (encD l).1))) := by rw [hi]; unfold headL; simp only [List.append_assoc]
 obtain ⟨b1, r1⟩ := be2 hi0 (in16_of hk.f0 hk.f1)
 obtain ⟨b2, r2⟩ := be2 r1 (in16_of hk.t0 hk.t1)
 obtain ⟨b3, r3⟩ := be4 r2 hk.q
 obtain ⟨b4, r4⟩ := be4 r3 z32
 rw [List.drop_drop, List.drop_drop, List.drop_drop] at r4
 have hF : ((hdF (putL hs) : Nat) : Int) = f := by
  unfold hdF
  rw [← b1, show (putL hs).take 2 = ((putL hs).take 8).take 2 by rw [List.take_take]; rfl, p8, List.take_take]
  rfl
 have hT : ((hdT (putL hs) : Nat) : Int) = t := by
  unfold hdT
  rw [← b2, show ((putL hs).drop 2).take 2 = (((putL hs).take 8).drop 2).take 2 by rw [List.drop_take, List.take_take]; rfl, p8, List.drop_take, List.take_take]
  rfl
 have hQ : ((hdQ (putL hs) : Nat) : Int) = q := by
  unfold hdQ
  rw [← b3, List.drop_drop, List.drop_drop, show ((putL hs).drop (2 + 2)).take 4 = (((putL hs).take 8).drop (2 + 2)).take 4 by rw [List.drop_take, List.take_take]; rfl, p8, List.drop_take, List.take_take]
  rfl
 have hH : headE (putL hs) = 0 := by
  unfold headE
  rw [if_neg (by omega), if_pos (check_put hs (by omega)), if_pos]
  rw [hF, hT]
  have := hk.f0
  have := hk.t0
  simp [*]
 have hA : allL ((putL hs).drop 12) = (l, 0, 0) := by
  rw [p12]
  refine allL_back (fun x hx => ⟨hk.ok x hx, hck x hx⟩) ?_
  rw [← hfl]
  exact r4
 have hpos : 4 ≤ (encD l).1.length := by
  rw [hfl]
  cases l with
  | nil => exact absurd rfl hl
  | cons x r => exact flat_pos x r
 refine ⟨?_, by omega, by omega⟩
 unfold preadD
 rw [if_pos hH, if_neg (by decide), if_neg (by rw [List.length_drop]; omega), hA, if_pos rfl, if_neg (by rw [hap]; exact Bool.false_ne_true), hF, hT, hQ]
end Go.Proofs.YtdlamomabonkjaaDoor.Pk
end
section
namespace Go.Proofs.YtdlamomabonkjaaDoor.Pk
open Go.RowKit YtdlamomabonkjaaDoorW.PrintWords YtdlamomabonkjaaDoorW.PrintLast Base PCh ParDec ParEnc Ch Crc CrcMath
theorem chk_drop (l : List Chk) (i : Nat) (h : i < l.length) : l.drop i = rd_T41 l (i : Int) :: l.drop (i + 1) := by
 rw [List.drop_eq_getElem_cons h]
 congr 1
 show l[i] = l.getD (i : Int).toNat _
 rw [Int.toNat_natCast]
 exact (getD_lt _ _ _ h).symm
theorem mixed_run (l : List Chk) (hm : l.length ≤ 9223372036854775807) (m i : Nat) (hi : i + m = l.length) : ∃ k, ropewalkref07_mixed.l0 k l (i : Int) = some (anyAlone (l.drop i) && decide (1 < l.length)) := by
 induction m generalizing i with
 | zero =>
  refine ⟨1, ?_⟩
  have : i = l.length := by omega
  subst this
  rw [ropewalkref07_mixed.l0, if_neg (by omega), List.drop_length]
  rfl
 | succ m ih =>
  obtain ⟨k, hk⟩ := ih (i + 1) (by omega)
  refine ⟨k + 1, ?_⟩
  have ha : ropewalkref07_Alone.f (rd_T41 l (i : Int)).f0 = some (aloneK (rd_T41 l (i : Int)).f0) := by
   unfold ropewalkref07_Alone.f aloneK
   by_cases h1 : (rd_T41 l (i : Int)).f0 = 1
   ·rw [h1]; rfl
   by_cases h2 : (rd_T41 l (i : Int)).f0 = 2
   ·rw [h2]; rfl
   simp [h1, h2]
  have hw : wrap64 ((i : Int) + 1) = ((i + 1 : Nat) : Int) := by unfold wrap64; omega
  rw [ropewalkref07_mixed.l0, if_pos (by omega), if_pos (by omega), ha, chk_drop l i (by omega)]
  unfold anyAlone at hk ⊢
  rw [List.any_cons]
  rw [hw, hk]
  cases aloneK (rd_T41 l (i : Int)).f0 with
  | true =>
   by_cases h1 : 1 < l.length
   ·have h2 : (l.length : Int) > 1 := by omega
    simp [h1, h2]
   ·have h2 : ¬ (l.length : Int) > 1 := by omega
    simp [h1, h2]
  | false => simp
theorem mixed_calls (w : World) (A : Option Addr) (c : Nat) (l : List Chk) (hl : Kd.C k41 w A l.length l) (hc : l.length ≤ c) :
  Calls Tryd.prog 39 #[.slice A l.length c] w fun e w' => e = .returned (.bool (apartB l)) ∧ Drawn0 w w' := by
 obtain ⟨k, hk⟩ := mixed_run l hl.2.1 l.length 0 (by omega)
 refine ropewalkref07_mixed.calls k A c l (apartB l) w hl hc ?_
 unfold ropewalkref07_mixed.f apartB
 rw [List.drop_zero] at hk
 rw [show (0 : Int) = ((0 : Nat) : Int) from rfl, hk, Bool.and_comm]
end Go.Proofs.YtdlamomabonkjaaDoor.Pk
end
section
namespace Go.Proofs.YtdlamomabonkjaaDoor.Ch
open Go.RowKit YtdlamomabonkjaaDoorW.PrintWords YtdlamomabonkjaaDoorW.PrintLast Base PCh ParDec
set_option maxHeartbeats 4000000 in
theorem rall_calls (w : World) (A : Option Addr) (b : List UInt8) (c : Nat) (hb : byte.C w A b.length b) (hc : b.length ≤ c) (hv : b.length ≤ 1048576) :
  Calls Tryd.prog 44 #[.slice A b.length c] w fun e w' => ∃ v, e = .returned (.tuple #[v, .int .i64 (allL b).2.1, .int .i64 (allL b).2.2]) ∧ Kd.R k41 41 w' w.heap.size (fun _ => True) v (allL b).1 ∧ Below w.heap.size w w' := by
 have HBC := Lh (fun (W : World) (h : Below w.heap.size w W) => Kd.C_below hb h)
 obtain ⟨E, hE⟩ : ∃ E, allL b = E := ⟨_, rfl⟩
 rw [hE]
 have HE := Lh (show allD (b.length + 1) b 0 [] = E from hE)
 clear hE hb
 go_enter Tryd.func44, Tryd.ntmps44
 go_wp2
 go_loopw [5, 6] (fun v5 v6 wr => ∃ (at_ n : Nat) (xs : List Chk), at_ ≤ b.length ∧ v6 = .int .i64 (at_ : Int) ∧ Hid (b.length < n + at_ ∧ xs.length ≤ at_) ∧ Hid (allD n b at_ xs = E) ∧ Hid (Kd.R k41 41 wr w.heap.size (fun _ => True) v5 xs) ∧ Hid (Below w.heap.size w wr)) (fun _ v6 _ => b.length - (intOf v6).toNat)
 case atStart => exact ⟨0, b.length + 1, [], Nat.zero_le _, rfl, ⟨by omega, Nat.le_refl _⟩, HE.out, Kd.R_nil _ _ _ _ _, Below.refl _ _⟩
 case round =>
  obtain ⟨at_, n, xs, hat, rfl, HN, HA, HR, HB⟩ := hrel
  by_cases hlt : at_ < b.length
  ·obtain ⟨n, rfl⟩ : ∃ m, n = m + 1 := ⟨n - 1, by have := HN.out.1; omega⟩
   have hA := HA.out
   rw [allD, if_pos hlt] at hA
   obtain ⟨A', hdr, hdC, hdl⟩ := drop_bytes (HBC.out _ HB.out) hc at_ (at_ : Int) rfl (Nat.le_of_lt hlt)
   have hzl : (b.drop at_).length ≤ 140737488355232 := by rw [List.length_drop]; omega
   have HD := Lh (rdec_calls wr A' (b.drop at_) (c - at_) hdC hdl (by omega))
   have hdn : (decC (b.drop at_)).2.2 = 0 → ∃ k : Nat, (decC (b.drop at_)).2.1 = (k : Int) ∧ 4 ≤ k ∧ k ≤ b.length - at_ := fun h => by
    obtain ⟨k, h1, h2, h3⟩ := decC_len h
    exact ⟨k, h1, h2, by rw [List.length_drop] at h3; exact h3⟩
   unfold DecCP at HD
   have HDN := Lh hdn
   have HA2 := Lh hA
   clear hA hdC hdl hzl hdn HA
   generalize decC (b.drop at_) = D at *
   obtain ⟨d, k, er⟩ := D
   dsimp only at HD HDN HA2
   generalize (b.drop at_).length = zl at *
   go_wp2_with fail
   refine HD.out.mono ?_
   rintro e w1 ⟨cs, rfl, hM, hB⟩
   obtain ⟨cl, rfl⟩ : ∃ cl : List Value, cs = cl.toArray := ⟨cs.toList, by simp⟩
   rw [List.toList_toArray] at hM
   obtain ⟨v10, v11, v12, v13, v14, hcs, h10, h11, h12, h13, h14⟩ := k41_openM hM
   obtain ⟨A10, c10, rfl⟩ := Kd.R_slice h10
   obtain ⟨A11, c11, rfl⟩ := Kd.R_slice h11
   obtain ⟨A12, c12, rfl⟩ := Kd.R_slice h12
   obtain ⟨A13, c13, rfl⟩ := Kd.R_slice h13
   obtain ⟨A14, c14, rfl⟩ := Kd.R_slice h14
   have HB2 := Lh (below_then HB.out HB.out.size hB)
   have HR2 := Lh (R_only HR.out (Only.of_below (S := fun _ => False) hB) (fun _ _ _ h => h))
   have HS := Lh hB.size
   subst hcs
   have HM := Lh hM
   clear h10 h11 h12 h13 h14 hM hB HD
   have HBO := Lh (fun k h => Kd.R_lt HR.out k h)
   by_cases her : er = 0
   ·subst her
    obtain ⟨k', hk', hk4, hkl⟩ := HDN.out rfl
    subst hk'
    have hA := HA2.out
    rw [if_neg (by simp), Int.toNat_natCast] at hA
    have HA3 := Lh hA
    clear hA HA2 HDN
    have hwr : wrap64 ((at_ : Int) + (k' : Int)) = ((at_ + k' : Nat) : Int) := by unfold wrap64; omega
    go_upto_region 7 with (fail)
    refine wp_gen (fun W' => W'.heap[w1.heap.size]? = some (.cells ([.int .u8 d.f0, .int .u8 d.f1, .int .u32 d.f2, .int .u16 d.f3, .int .u16 d.f4, .int .u32 d.f5, .int .u32 d.f6, .int .u32 d.f7, .int .u16 d.f8, .int .u16 d.f9, .slice A10 d.f10.length c10, .slice A11 d.f11.length c11, .slice A12 d.f12.length c12, .slice A13 d.f13.length c13, .slice A14 d.f14.length c14] : List Value).toArray 41 (0, 0)) ∧ Kd.R k41 41 W' w.heap.size (fun _ => True) u5 xs ∧ k41.M W' w.heap.size (fun k => wr.heap.size ≤ k) d ([.int .u8 d.f0, .int .u8 d.f1, .int .u32 d.f2, .int .u16 d.f3, .int .u16 d.f4, .int .u32 d.f5, .int .u32 d.f6, .int .u32 d.f7, .int .u16 d.f8, .int .u16 d.f9, .slice A10 d.f10.length c10, .slice A11 d.f11.length c11, .slice A12 d.f12.length c12, .slice A13 d.f13.length c13, .slice A14 d.f14.length c14]) ∧ Below w.heap.size w W') ⟨blk_new _ _, Kd.R_alloc HR2.out _, k41.M_mono (fun k hk => hk.2.1) (k41.M_bound (M_only HM.out (Only.of_below (S := fun _ => False) (below_alloc (Below.refl _ _) _)) (fun _ _ _ h => h))) |> k41.M_lower HB.out.size, below_alloc HB2.out _⟩ ?_
    clear HR2 HM HB2 HB HR
    rintro W2 ⟨hblk, hR2, hM2, hB2⟩
    have HM2 := Lh hM2
    have HR3 := Lh hR2
    have HB3 := Lh hB2
    have HBL := Lh hblk
    clear hR2 hM2 hB2 hblk
    go_wp2_with (first | (with_reducible refine gate_dst (N := 27) rfl ?_; go_must (refine wpList_load_row rfl 41 (.tmp 7) rfl _ rfl 41 _ (0, 0) _ HBL.out Tryd.underlying41 rfl (by kernel_rfl) ?_)) | (at_builtin; go_must (refine Kd.R_append k41 (w0 := w) (W := W2) w.heap.size rfl _ _ 24 41 (.agg zerV) 152 rfl Tryd.underlying24 info_chk rfl (by decide) (by decide) u5 xs d ([.int .u8 d.f0, .int .u8 d.f1, .int .u32 d.f2, .int .u16 d.f3, .int .u16 d.f4, .int .u32 d.f5, .int .u32 d.f6, .int .u32 d.f7, .int .u16 d.f8, .int .u16 d.f9, .slice A10 d.f10.length c10, .slice A11 d.f11.length c11, .slice A12 d.f12.length c12, .slice A13 d.f13.length c13, .slice A14 d.f14.length c14]) (fun _ => True) (fun k => wr.heap.size ≤ k) rfl rfl HM2.out (fun k hk => ⟨trivial, fun he => by have := HBO.out k he.symm; omega⟩) (fun _ _ => trivial) HR3.out HB3.out HB3.out.size (by have := HN.out.2; omega) ?_); (intro v1 w2 hR1 hB1 hG1 _; have HR1 := Lh hR1; have HB1 := Lh hB1; clear hR1 hB1 hG1)))
    go_roundw
    case rel => exact ⟨at_ + k', n, xs ++ [d], by omega, by rw [← hwr]; first | rfl | go_num, ⟨by have := HN.out.1; show _ < _; omega, by have := HN.out.2; show _ ≤ _; rw [List.length_append]; simp; omega⟩, HA3, HR1, HB1⟩
    case measure => simp [intOf]; omega
   ·have hA := HA2.out
    rw [if_pos her] at hA
    subst hA
    have q : (er != 0) = true := by simp [her]
    clear HA2 HDN her
    go_wp2
    go_ret3
    exact ⟨_, rfl, Kd.R_nil _ _ _ _ _, below_alloc HB2.out _⟩
  ·obtain rfl : at_ = b.length := by omega
   have hA := HA.out
   have hn : ∃ m, n = m + 1 := ⟨n - 1, by have := HN.out.1; omega⟩
   obtain ⟨n, rfl⟩ := hn
   rw [allD, if_neg (Nat.lt_irrefl _)] at hA
   subst hA
   clear HA HE
   go_wp2
   go_ret3
   exact ⟨_, rfl, HR.out, HB.out⟩
theorem inB_ints (l : List UInt8) : ∀ b ∈ intsL l, inB b := fun b hb => by
 unfold intsL at hb
 obtain ⟨x, _, rfl⟩ := List.mem_map.1 hb
 have := x.toNat_lt
 unfold inB
 omega
theorem prmsD_ok {v : List UInt8} {ps : List PrmS} (h : prmsD v = .ok ps) : ∀ p ∈ ps, ∀ b ∈ p.f1, inB b := by
 unfold prmsD at h
 by_cases e : (decD v).2.2 = 0
 ·rw [if_pos e] at h
  injection h with h
  subst h
  exact fun p hp b hb => ((dec_ok v e).2.1 p hp).2.2.2 b hb
 ·rw [if_neg e] at h
  cases h
theorem readD_okB {kd fl : Int} {v : List UInt8} {d : Chk} (h : readD kd fl v = .ok d) : OkB d := by
 have nb : ∀ b ∈ ([] : List Int), inB b := fun _ h => by cases h
 have np : ∀ p ∈ ([] : List PrmS), ∀ b ∈ p.f1, inB b := fun _ h => by cases h
 unfold readD readData readInit readLists readPrms readShut readNone readBody at h
 repeat' split at h
 all_goals first | (cases h; done) | (injection h with h; subst h; first | exact ⟨nb, np⟩ | exact ⟨inB_ints _, np⟩ | (rename_i e; exact ⟨nb, prmsD_ok e⟩) | (rename_i e _; exact ⟨nb, prmsD_ok e⟩))
theorem dec_okB (b : List UInt8) : OkB (decC b).1 := by
 have n0 : OkB (chk0 0 0) := ⟨fun _ h => (by cases h), fun _ h => (by cases h)⟩
 unfold decC
 split
 ·exact n0
 ·split
  ·exact n0
  ·split
   ·exact n0
   ·rename_i e
    exact readD_okB e
theorem all_okB (b : List UInt8) : ∀ (n at_ : Nat) (acc : List Chk), (∀ x ∈ acc, OkB x) → ∀ x ∈ (allD n b at_ acc).1, OkB x := by
 intro n
 induction n with
 | zero => intro at_ acc h; exact h
 | succ n ih =>
  intro at_ acc h
  unfold allD
  split
  ·split
   ·intro x hx; cases hx
   ·refine ih _ _ ?_
    intro x hx
    rcases List.mem_append.1 hx with hx | hx
    ·exact h x hx
    ·rw [List.mem_singleton.1 hx]
     exact dec_okB _
  ·exact h
end Go.Proofs.YtdlamomabonkjaaDoor.Ch
end
section
namespace Go.Proofs.YtdlamomabonkjaaDoor.Ch
open Go.RowKit YtdlamomabonkjaaDoorW.PrintWords YtdlamomabonkjaaDoorW.PrintLast Base PCh ParDec
def schT6 : Bool × List (List Nat × List Nat) := (true, [([], []), ([], []), ([0, 1], [0, 1]), ([2], [2]), ([], []), ([], []), ([4, 5], [4, 5]), ([6], [6]), ([3, 7], [3, 7]), ([8], [8])])
def schB6 : List Nat := [0, 0, 3, 7, 0, 0, 48, 112, 255, 511]
theorem schtab6 : Go.Proofs.YtdlamomabonkjaaDoorW.PrintLast.rtab .any (Go.Proofs.YtdlamomabonkjaaDoorW.PrintLast.opsOf Tryd.f25 6) = schT6 := by kernel_rfl
theorem schbits6 : Go.Proofs.YtdlamomabonkjaaDoorW.PrintLast.waitsOk schT6.2 schB6 = true := by kernel_rfl
set_option maxHeartbeats 4000000 in
theorem schunks_calls (w : World) (A B' : Option Addr) (c d : Nat) (xs ys : List Chk) (hx : Kd.C k41 w A xs.length xs) (hy : Kd.C k41 w B' ys.length ys) (ox : ∀ x ∈ xs, OkB x) (oy : ∀ y ∈ ys, OkB y) :
  Calls Tryd.prog 25 #[.slice A xs.length c, .slice B' ys.length d] w fun e w' => e = .returned (.bool (decide (xs = ys))) ∧ Below w.heap.size w w' := by
 have hmx := hx.2.1
 have hmy := hy.2.1
 have HX := Lh (fun (W : World) (h : Below w.heap.size w W) => Kd.C_below hx h)
 have HY := Lh (fun (W : World) (h : Below w.heap.size w W) => Kd.C_below hy h)
 have HOX := Lh ox
 have HOY := Lh oy
 clear hx hy ox oy
 by_cases hl : xs.length = ys.length
 ·have q : ((xs.length : Int) != (ys.length : Int)) = false := by simp [hl]
  have HL := Lh hl
  clear hl
  go_enter Tryd.func25, Tryd.ntmps25
  go_wp2
  go_loopw [5] (fun v5 wr => ∃ i : Nat, i ≤ xs.length ∧ v5 = .int .i64 (i : Int) ∧ Hid (decide (xs = ys) = decide (xs.drop i = ys.drop i)) ∧ Hid (Below w.heap.size w wr)) (fun v5 _ => xs.length - (intOf v5).toNat)
  case atStart => exact ⟨0, Nat.zero_le _, rfl, rfl, Below.refl _ _⟩
  case round =>
   obtain ⟨i, hi, rfl, HS, HB⟩ := hrel
   by_cases hlt : i < xs.length
   ·have hlt' : i < ys.length := by have := HL.out; omega
    obtain ⟨ax, x, L, rfl, hdx, hxm, hcx, hxr⟩ := chk_at (HX.out _ HB.out) i hlt
    obtain ⟨ay, y, M, rfl, hdy, hym, hcy, hyr⟩ := chk_at (HY.out _ HB.out) i hlt'
    have hd := HS.out
    rw [hdx, hdy] at hd
    have HSM := Lh (fun (W : World) (h : Below wr.heap.size wr W) => rsame_calls W x y L M (hxr.below h) (hyr.below h) (HOX.out x hxm) (HOY.out y hym))
    have HXS := Lh (show (Tryd.prog.info? 41).map (·.size) = some (CV x L).size by kernel_rfl)
    have HYS := Lh (show (Tryd.prog.info? 41).map (·.size) = some (CV y M).size by kernel_rfl)
    have HLX := Lh hcx
    have HLY := Lh hcy
    have s2 : (x :: xs.drop (i + 1) = y :: ys.drop (i + 1)) = (x = y ∧ xs.drop (i + 1) = ys.drop (i + 1)) := by simp
    have HD := Lh hd
    have HS2 := Lh s2
    clear hd s2 hcx hcy hxr hyr hdx hdy hxm hym
    by_cases hxy : x = y
    ·have HDD := Lh (show decide (xs = ys) = decide (xs.drop (i + 1) = ys.drop (i + 1)) by rw [HD.out]; exact decide_eq_decide.2 (by rw [HS2.out]; simp [hxy]))
     rw [decide_eq_true hxy] at HSM
     clear HD HS2 hxy HS
     generalize CV x L = CX at *
     generalize CV y M = CY at *
     obtain ⟨q, hq⟩ : ∃ q, q = true := ⟨_, rfl⟩
     rw [← hq] at HSM
     have HQ := Lh hq
     clear hq
     have HN2 := HB
     go_upto_region 6 with (fail)
     generalize wr = W at *
     have B := True.intro
     refine start_ (n := 10) (S := fun w' => True) (ds := []) #[false, false, false, false, false, false, false, false, false, false] (by kernel_rfl) rfl rfl trivial (fun hHeld => ?_)
     refine with_tabW schtab6 schbits6 (fun HT_ HW_ => ?_)
     refine pu 0 17 ?_ rfl rfl (any_of HT_.out (by kernel_rfl)) (fun _ _ _ h => h) (by rfl) ?_ ?_ ?_ ?_
     rotate_left
     ·intro w'
      go_simp
      with_reducible rfl
     rotate_left
     ·simp only [sL]
      rfl
     refine pu 1 18 ?_ rfl rfl (any_of HT_.out (by kernel_rfl)) (fun _ _ _ h => h) (by rfl) ?_ ?_ ?_ ?_
     rotate_left
     ·intro w'
      go_simp
      with_reducible rfl
     rotate_left
     ·simp only [sL]
      rfl
     refine pu 4 21 ?_ rfl rfl (any_of HT_.out (by kernel_rfl)) (fun _ _ _ h => h) (by rfl) ?_ ?_ ?_ ?_
     rotate_left
     ·intro w'
      go_simp
      with_reducible rfl
     rotate_left
     ·simp only [sL]
      rfl
     refine pu 5 22 ?_ rfl rfl (any_of HT_.out (by kernel_rfl)) (fun _ _ _ h => h) (by rfl) ?_ ?_ ?_ ?_
     rotate_left
     ·intro w'
      go_simp
      with_reducible rfl
     rotate_left
     ·simp only [sL]
      rfl
     refine inv_at [2, 3, 6, 7, 8, 9] (fun a0_ b a w' => a = putSel a0_ b [(2, 19, .pointer (some (ax.add (i * 15)))), (3, 20, .agg CX), (6, 23, .pointer (some (ay.add (i * 15)))), (7, 24, .agg CY), (8, 25, .bool q), (9, 26, .bool (!q))] ∧ (Below W.heap.size W w')) HT_.out HW_.out (by kernel_rfl) (by kernel_rfl) ?_ ?_ ?_
     ·exact ⟨by simp only [putSel, Bool.false_eq_true, if_false], below_drew (Below.refl _ _)⟩
     ·skip
      clear B
      refine sc rfl ?_ ?_
      ·rintro b a w' ⟨ha, Q_B⟩ hb_ hon hoff K hK
       have e17 : a.tmps[17]? = some (.slice (some ax) xs.length c) := by rw [ha]; exact (putSel_off rfl).trans rfl
       have e18 : a.tmps[18]? = some (.int .i64 (i : Int)) := by rw [ha]; exact (putSel_off rfl).trans rfl
       replace ha := Am ha
       refine value_ (w1 := w') (v := .pointer (some (ax.add (i * 15)))) (by rfl) rfl ?_ ?_
       ·go_simp
        (try simp only [i64_w])
        try rfl
       refine hK.out _ _ ⟨(puk ha 0 hb_ rfl rfl rfl), Q_B⟩
      refine sc rfl ?_ ?_
      ·rintro b a w' ⟨ha, Q_B⟩ hb_ hon hoff K hK
       have e19 := psn ha 0 rfl rfl (hon 2 (by kernel_rfl)) rfl
       replace ha := Am ha
       have B := Am Q_B
       refine value_ (w1 := w') (v := .agg CX) (by rfl) rfl (exec_load_cells 41 (.tmp 19) rfl (eval_of e19) CX _ (fun j v hv => pw_cell_below B.out (HLX.out j v hv)) Tryd.underlying41 rfl HXS.out) ?_
       refine hK.out _ _ ⟨(puk ha 1 hb_ rfl rfl rfl), B.out⟩
      refine sc rfl ?_ ?_
      ·rintro b a w' ⟨ha, Q_B⟩ hb_ hon hoff K hK
       have e21 : a.tmps[21]? = some (.slice (some ay) ys.length d) := by rw [ha]; exact (putSel_off rfl).trans rfl
       have e22 : a.tmps[22]? = some (.int .i64 (i : Int)) := by rw [ha]; exact (putSel_off rfl).trans rfl
       replace ha := Am ha
       refine value_ (w1 := w') (v := .pointer (some (ay.add (i * 15)))) (by rfl) rfl ?_ ?_
       ·go_simp
        (try simp only [i64_w])
        try rfl
       refine hK.out _ _ ⟨(puk ha 2 hb_ rfl rfl rfl), Q_B⟩
      refine sc rfl ?_ ?_
      ·rintro b a w' ⟨ha, Q_B⟩ hb_ hon hoff K hK
       have e23 := psn ha 2 rfl rfl (hon 6 (by kernel_rfl)) rfl
       replace ha := Am ha
       have B := Am Q_B
       refine value_ (w1 := w') (v := .agg CY) (by rfl) rfl (exec_load_cells 41 (.tmp 23) rfl (eval_of e23) CY _ (fun j v hv => pw_cell_below B.out (HLY.out j v hv)) Tryd.underlying41 rfl HYS.out) ?_
       refine hK.out _ _ ⟨(puk ha 3 hb_ rfl rfl rfl), B.out⟩
      refine sc rfl ?_ ?_
      ·rintro b a w' ⟨ha, Q_B⟩ hb_ hon hoff K hK
       have e20 := psn ha 1 rfl rfl (hon 3 (by kernel_rfl)) rfl
       have e24 := psn ha 3 rfl rfl (hon 7 (by kernel_rfl)) rfl
       replace ha := Am ha
       have B := Am Q_B
       refine goes_ Tryd.func32 (by kernel_rfl) rfl #[.agg CX, .agg CY] (by rfl) rfl rfl (by first | (simp only [List.map_toArray, List.map_cons, List.map_nil, Act.eval, Array.getD_eq_getD_getElem?, Option.getD_some, e20, e24]; done) | (simp only [List.map_toArray, List.map_cons, List.map_nil, Act.eval, Array.getD_eq_getD_getElem?, Option.getD_some, e20, e24]; rfl)) ?_
       refine (HSM.out w' B.out).mono ?_
       rintro e w1 ⟨rfl, hB1⟩
       refine ⟨_, rfl, ?_⟩
       refine hK.out _ _ ⟨(puk ha 4 hb_ rfl rfl rfl), below_then B.out B.out.size hB1⟩
      refine sc rfl ?_ ?_
      ·rintro b a w' ⟨ha, Q_B⟩ hb_ hon hoff K hK
       have e25 := psn ha 4 rfl rfl (hon 8 (by kernel_rfl)) rfl
       replace ha := Am ha
       refine value_ (w1 := w') (v := .bool (!q)) (by rfl) rfl ?_ ?_
       ·go_simp
        (try simp only [i64_w])
        try rfl
       refine hK.out _ _ ⟨(puk ha 5 hb_ rfl rfl rfl), Q_B⟩
      exact steps_nil
     rintro b a w' hall ⟨ha, Q_B⟩
     clear B
     have hb2_ := hall 2 (by kernel_rfl)
     have hb3_ := hall 3 (by kernel_rfl)
     have hb6_ := hall 6 (by kernel_rfl)
     have hb7_ := hall 7 (by kernel_rfl)
     have hb8_ := hall 8 (by kernel_rfl)
     have hb9_ := hall 9 (by kernel_rfl)
     subst ha
     simp only [putSel, hb2_, hb3_, hb6_, hb7_, hb8_, hb9_, if_true, Act.put, List.setIfInBounds_toArray, List.set_cons_zero, List.set_cons_succ]
     have B := Am Q_B
     clear Q_B
     clear hall hb2_ hb3_ hb6_ hb7_ hb8_ hb9_
     have HB2 := Lh (below_then HB.out HB.out.size B.out)
     rw [HQ.out]
     clear B HSM HLX HLY HQ HN2
     go_wp2
     go_roundw
     case rel => exact ⟨i + 1, by omega, by go_num, HDD, HB2⟩
     case measure => simp [intOf]; omega
    ·have HDD := Lh (show decide (xs = ys) = false by rw [HD.out]; exact decide_eq_false (fun e => hxy (HS2.out.mp e).1))
     rw [decide_eq_false hxy] at HSM
     clear HD HS2 hxy HS
     generalize CV x L = CX at *
     generalize CV y M = CY at *
     obtain ⟨q, hq⟩ : ∃ q, q = false := ⟨_, rfl⟩
     rw [← hq] at HSM
     have HQ := Lh hq
     clear hq
     go_upto_region 6 with (fail)
     generalize wr = W at *
     have B := True.intro
     refine start_ (n := 10) (S := fun w' => True) (ds := []) #[false, false, false, false, false, false, false, false, false, false] (by kernel_rfl) rfl rfl trivial (fun hHeld => ?_)
     refine with_tabW schtab6 schbits6 (fun HT_ HW_ => ?_)
     refine pu 0 17 ?_ rfl rfl (any_of HT_.out (by kernel_rfl)) (fun _ _ _ h => h) (by rfl) ?_ ?_ ?_ ?_
     rotate_left
     ·intro w'
      go_simp
      with_reducible rfl
     rotate_left
     ·simp only [sL]
      rfl
     refine pu 1 18 ?_ rfl rfl (any_of HT_.out (by kernel_rfl)) (fun _ _ _ h => h) (by rfl) ?_ ?_ ?_ ?_
     rotate_left
     ·intro w'
      go_simp
      with_reducible rfl
     rotate_left
     ·simp only [sL]
      rfl
     refine pu 4 21 ?_ rfl rfl (any_of HT_.out (by kernel_rfl)) (fun _ _ _ h => h) (by rfl) ?_ ?_ ?_ ?_
     rotate_left
     ·intro w'
      go_simp
      with_reducible rfl
     rotate_left
     ·simp only [sL]
      rfl
     refine pu 5 22 ?_ rfl rfl (any_of HT_.out (by kernel_rfl)) (fun _ _ _ h => h) (by rfl) ?_ ?_ ?_ ?_
     rotate_left
     ·intro w'
      go_simp
      with_reducible rfl
     rotate_left
     ·simp only [sL]
      rfl
     refine inv_at [2, 3, 6, 7, 8, 9] (fun a0_ b a w' => a = putSel a0_ b [(2, 19, .pointer (some (ax.add (i * 15)))), (3, 20, .agg CX), (6, 23, .pointer (some (ay.add (i * 15)))), (7, 24, .agg CY), (8, 25, .bool q), (9, 26, .bool (!q))] ∧ (Below W.heap.size W w')) HT_.out HW_.out (by kernel_rfl) (by kernel_rfl) ?_ ?_ ?_
     ·exact ⟨by simp only [putSel, Bool.false_eq_true, if_false], below_drew (Below.refl _ _)⟩
     ·skip
      clear B
      refine sc rfl ?_ ?_
      ·rintro b a w' ⟨ha, Q_B⟩ hb_ hon hoff K hK
       have e17 : a.tmps[17]? = some (.slice (some ax) xs.length c) := by rw [ha]; exact (putSel_off rfl).trans rfl
       have e18 : a.tmps[18]? = some (.int .i64 (i : Int)) := by rw [ha]; exact (putSel_off rfl).trans rfl
       replace ha := Am ha
       refine value_ (w1 := w') (v := .pointer (some (ax.add (i * 15)))) (by rfl) rfl ?_ ?_
       ·go_simp
        (try simp only [i64_w])
        try rfl
       refine hK.out _ _ ⟨(puk ha 0 hb_ rfl rfl rfl), Q_B⟩
      refine sc rfl ?_ ?_
      ·rintro b a w' ⟨ha, Q_B⟩ hb_ hon hoff K hK
       have e19 := psn ha 0 rfl rfl (hon 2 (by kernel_rfl)) rfl
       replace ha := Am ha
       have B := Am Q_B
       refine value_ (w1 := w') (v := .agg CX) (by rfl) rfl (exec_load_cells 41 (.tmp 19) rfl (eval_of e19) CX _ (fun j v hv => pw_cell_below B.out (HLX.out j v hv)) Tryd.underlying41 rfl HXS.out) ?_
       refine hK.out _ _ ⟨(puk ha 1 hb_ rfl rfl rfl), B.out⟩
      refine sc rfl ?_ ?_
      ·rintro b a w' ⟨ha, Q_B⟩ hb_ hon hoff K hK
       have e21 : a.tmps[21]? = some (.slice (some ay) ys.length d) := by rw [ha]; exact (putSel_off rfl).trans rfl
       have e22 : a.tmps[22]? = some (.int .i64 (i : Int)) := by rw [ha]; exact (putSel_off rfl).trans rfl
       replace ha := Am ha
       refine value_ (w1 := w') (v := .pointer (some (ay.add (i * 15)))) (by rfl) rfl ?_ ?_
       ·go_simp
        (try simp only [i64_w])
        try rfl
       refine hK.out _ _ ⟨(puk ha 2 hb_ rfl rfl rfl), Q_B⟩
      refine sc rfl ?_ ?_
      ·rintro b a w' ⟨ha, Q_B⟩ hb_ hon hoff K hK
       have e23 := psn ha 2 rfl rfl (hon 6 (by kernel_rfl)) rfl
       replace ha := Am ha
       have B := Am Q_B
       refine value_ (w1 := w') (v := .agg CY) (by rfl) rfl (exec_load_cells 41 (.tmp 23) rfl (eval_of e23) CY _ (fun j v hv => pw_cell_below B.out (HLY.out j v hv)) Tryd.underlying41 rfl HYS.out) ?_
       refine hK.out _ _ ⟨(puk ha 3 hb_ rfl rfl rfl), B.out⟩
      refine sc rfl ?_ ?_
      ·rintro b a w' ⟨ha, Q_B⟩ hb_ hon hoff K hK
       have e20 := psn ha 1 rfl rfl (hon 3 (by kernel_rfl)) rfl
       have e24 := psn ha 3 rfl rfl (hon 7 (by kernel_rfl)) rfl
       replace ha := Am ha
       have B := Am Q_B
       refine goes_ Tryd.func32 (by kernel_rfl) rfl #[.agg CX, .agg CY] (by rfl) rfl rfl (by first | (simp only [List.map_toArray, List.map_cons, List.map_nil, Act.eval, Array.getD_eq_getD_getElem?, Option.getD_some, e20, e24]; done) | (simp only [List.map_toArray, List.map_cons, List.map_nil, Act.eval, Array.getD_eq_getD_getElem?, Option.getD_some, e20, e24]; rfl)) ?_
       refine (HSM.out w' B.out).mono ?_
       rintro e w1 ⟨rfl, hB1⟩
       refine ⟨_, rfl, ?_⟩
       refine hK.out _ _ ⟨(puk ha 4 hb_ rfl rfl rfl), below_then B.out B.out.size hB1⟩
      refine sc rfl ?_ ?_
      ·rintro b a w' ⟨ha, Q_B⟩ hb_ hon hoff K hK
       have e25 := psn ha 4 rfl rfl (hon 8 (by kernel_rfl)) rfl
       replace ha := Am ha
       refine value_ (w1 := w') (v := .bool (!q)) (by rfl) rfl ?_ ?_
       ·go_simp
        (try simp only [i64_w])
        try rfl
       refine hK.out _ _ ⟨(puk ha 5 hb_ rfl rfl rfl), Q_B⟩
      exact steps_nil
     rintro b a w' hall ⟨ha, Q_B⟩
     clear B
     have hb2_ := hall 2 (by kernel_rfl)
     have hb3_ := hall 3 (by kernel_rfl)
     have hb6_ := hall 6 (by kernel_rfl)
     have hb7_ := hall 7 (by kernel_rfl)
     have hb8_ := hall 8 (by kernel_rfl)
     have hb9_ := hall 9 (by kernel_rfl)
     subst ha
     simp only [putSel, hb2_, hb3_, hb6_, hb7_, hb8_, hb9_, if_true, Act.put, List.setIfInBounds_toArray, List.set_cons_zero, List.set_cons_succ]
     have B := Am Q_B
     clear Q_B
     clear hall hb2_ hb3_ hb6_ hb7_ hb8_ hb9_
     have HB2 := Lh (below_then HB.out HB.out.size B.out)
     rw [HQ.out]
     clear B HSM HLX HLY HQ
     go_wp2
     go_ret
     exact ⟨by rw [HDD.out]; try rfl, HB2.out⟩
   ·obtain rfl : i = xs.length := by omega
    have HD := Lh (show decide (xs = ys) = true by rw [HS.out, List.drop_length, HL.out, List.drop_length]; rfl)
    go_wp2
    go_ret
    exact ⟨by rw [HD.out]; try rfl, HB.out⟩
 ·have HD := Lh (show decide (xs = ys) = false from decide_eq_false (fun e => hl (congrArg List.length e)))
  have hl2 : ¬ (xs.length : Int) = (ys.length : Int) := by omega
  go_enter Tryd.func25, Tryd.ntmps25
  go_wp2
  go_ret
  exact ⟨by rw [HD.out]; try rfl, Below.refl _ _⟩
end Go.Proofs.YtdlamomabonkjaaDoor.Ch
end
section
namespace Go.Proofs.YtdlamomabonkjaaDoor.Pk
open Go.RowKit YtdlamomabonkjaaDoorW.PrintWords YtdlamomabonkjaaDoorW.PrintLast Base PCh ParDec ParEnc Ch Crc CrcMath
set_option maxHeartbeats 2000000 in
theorem rpsame_calls (w : World) (f t q f2 t2 q2 : Int) (A B : Option Addr) (c d : Nat) (l l2 : List Chk) (hl : Kd.C k41 w A l.length l) (hl2 : Kd.C k41 w B l2.length l2) (ho : ∀ x ∈ l, OkB x) (ho2 : ∀ x ∈ l2, OkB x) :
  Calls Tryd.prog 14 #[.agg #[.int .u16 f, .int .u16 t, .int .u32 q, .slice A l.length c], .agg #[.int .u16 f2, .int .u16 t2, .int .u32 q2, .slice B l2.length d]] w fun e w' => e = .returned (.bool ((f == f2 && t == t2 && q == q2) && decide (l = l2))) ∧ Below w.heap.size w w' := by
 have HE := Lh (fun (W : World) (hW : Below w.heap.size w W) => schunks_calls W A B c d l l2 (Kd.C_below hl hW) (Kd.C_below hl2 hW) ho ho2)
 clear hl hl2 ho ho2
 generalize decide (l = l2) = dl at *
 obtain ⟨R, hR⟩ : ∃ R, (f == f2 && t == t2 && q == q2 && dl) = R := ⟨_, rfl⟩
 rw [hR]
 have HR := Lh hR
 clear hR
 generalize l.length = n at *
 generalize l2.length = n2 at *
 obtain ⟨g, hg⟩ : ∃ g, w.heap.size = g := ⟨_, rfl⟩
 have HG := Lh hg
 clear hg
 go_enter Tryd.func14, Tryd.ntmps14
 go_upto_region 1 with (fail)
 refine wp_gen (fun W => W.heap[w.heap.size]? = some (.cells #[.int .u16 f, .int .u16 t, .int .u32 q, .slice A n c] 26 (0, 0)) ∧ W.heap[w.heap.size + 1]? = some (.cells #[.int .u16 f2, .int .u16 t2, .int .u32 q2, .slice B n2 d] 26 (0, 0)) ∧ Below w.heap.size w W) ⟨blk_alloc (blk_new _ _) _, by have h := blk_new (w.alloc (.cells #[.int .u16 f, .int .u16 t, .int .u32 q, .slice A n c] 26)) (.cells #[.int .u16 f2, .int .u16 t2, .int .u32 q2, .slice B n2 d] 26); rw [show (w.alloc (.cells #[.int .u16 f, .int .u16 t, .int .u32 q, .slice A n c] 26)).heap.size = w.heap.size + 1 by simp] at h; exact h, below_alloc (below_alloc (Below.refl _ _) _) _⟩ ?_
 rintro W1 ⟨hk1, hk2, hb1⟩
 rw [HG.out] at hk1 hk2 ⊢
 have x0 : W1.cell? ⟨g, 0, none⟩ = some (.int .u16 f) := blk_cell hk1 0
 have x1 : W1.cell? ⟨g, 1, none⟩ = some (.int .u16 t) := blk_cell hk1 1
 have x2 : W1.cell? ⟨g, 2, none⟩ = some (.int .u32 q) := blk_cell hk1 2
 have x3 : W1.cell? ⟨g, 3, none⟩ = some (.slice A n c) := blk_cell hk1 3
 have y0 : W1.cell? ⟨g + 1, 0, none⟩ = some (.int .u16 f2) := blk_cell hk2 0
 have y1 : W1.cell? ⟨g + 1, 1, none⟩ = some (.int .u16 t2) := blk_cell hk2 1
 have y2 : W1.cell? ⟨g + 1, 2, none⟩ = some (.int .u32 q2) := blk_cell hk2 2
 have y3 : W1.cell? ⟨g + 1, 3, none⟩ = some (.slice B n2 d) := blk_cell hk2 3
 have HB1 := Lh hb1
 clear hk1 hk2 hb1
 by_cases h1 : f = f2
 ·have e1 : (f == f2) = true := by simp [h1]
  clear h1
  by_cases h2 : t = t2
  ·have e2 : (t == t2) = true := by simp [h2]
   clear h2
   by_cases h3 : q = q2
   ·have e3 : (q == q2) = true := by simp [h3]
    clear h3
    have HZ := Lh (show dl = R by rw [← HR.out, e1, e2, e3]; simp)
    go_wp2_with fail
    refine (HE.out W1 HB1.out).mono ?_
    rintro e W2 ⟨rfl, hB2⟩
    have HB2 := Lh (below_then HB1.out HB1.out.size hB2)
    clear hB2 HE
    go_wp2
    go_ret
    exact ⟨by rw [← HZ.out]; rfl, HB2.out⟩
   ·have e3 : (q == q2) = false := by simp [h3]
    clear h3
    have HZ := Lh (show false = R by rw [← HR.out, e1, e2, e3]; simp)
    go_wp2
    go_ret
    exact ⟨by rw [← HZ.out]; rfl, HB1.out⟩
  ·have e2 : (t == t2) = false := by simp [h2]
   clear h2
   have HZ := Lh (show false = R by rw [← HR.out, e1, e2]; simp)
   go_wp2
   go_ret
   exact ⟨by rw [← HZ.out]; rfl, HB1.out⟩
 ·have e1 : (f == f2) = false := by simp [h1]
  clear h1
  have HZ := Lh (show false = R by rw [← HR.out, e1]; simp)
  go_wp2
  go_ret
  exact ⟨by rw [← HZ.out]; rfl, HB1.out⟩
end Go.Proofs.YtdlamomabonkjaaDoor.Pk
end
section
namespace Go.Proofs.YtdlamomabonkjaaDoor.Pk
open Go.RowKit YtdlamomabonkjaaDoorW.PrintWords YtdlamomabonkjaaDoorW.PrintLast Base PCh ParDec ParEnc Ch Crc CrcMath
set_option maxHeartbeats 4000000 in
theorem pencode_with (w : World) (f t q : Int) (A : Option Addr) (c : Nat) (l : List Chk) (hT : Table w) (hl : Kd.C k41 w A l.length l) (hc : l.length ≤ c) (hce : ∀ W, Below w.heap.size w W → Calls Tryd.prog 28 #[.slice A l.length c] W fun e w' => ∃ v, e = .returned (.tuple #[v, .int .i64 (encD l).2]) ∧ (Kd.int .u8).R 5 w' W.heap.size (fun _ => True) v (encD l).1 ∧ Below W.heap.size W w') (hin : ∀ b ∈ (encD l).1, inB b) (hen : (encD l).2 = 0 → (encD l).1.length ≤ 65536) :
  Calls Tryd.prog 10 #[.agg #[.int .u16 f, .int .u16 t, .int .u32 q, .slice A l.length c]] w fun e w' => ∃ v, e = .returned (.tuple #[v, .int .i64 (pencD f t q l).2]) ∧ byte.R 5 w' w.heap.size (fun _ => True) v (pencD f t q l).1 ∧ Below w.heap.size w w' := by
 have HP := Lh (fun (W : World) (hW : Below w.heap.size w W) => packet_ports.calls f t q A c l _ W (Kd.C_below hl hW) hc (ports_ok f t q l))
 have HA := Lh (fun (W : World) (hW : Below w.heap.size w W) => apart_calls W A c l (Kd.C_below hl hW))
 have HE := Lh hce
 have HT := Lh (fun (W : World) (hW : Below w.heap.size w W) => hT.below hW)
 obtain ⟨D, hD⟩ : ∃ D, pencD f t q l = D := ⟨_, rfl⟩
 rw [hD]
 unfold pencD at hD
 obtain ⟨g, hg⟩ : ∃ g, w.heap.size = g := ⟨_, rfl⟩
 have HG := Lh hg
 generalize (decide (0 < f) && decide (0 < t)) = pb at *
 generalize apartB l = ab at *
 have HIN := Lh hin
 have HEN := Lh hen
 clear hin hen
 generalize (encD l).2 = ec at *
 generalize (encD l).1 = eb at *
 have hln : ((l.length : Int) = 0) = (l.length = 0) := by simp
 have HLN := Lh hln
 clear hl hc hce hT hln hg
 have HD := Lh hD
 clear hD
 go_enter Tryd.func10, Tryd.ntmps10
 go_upto_region 1 with (fail)
 refine wp_gen (fun W => Below w.heap.size w W ∧ W.heap[w.heap.size]? = some (.cells #[.int .u16 f, .int .u16 t, .int .u32 q, .slice A l.length c] 26 (0, 0))) ⟨below_alloc (Below.refl _ _) _, blk_new w _⟩ ?_
 rintro W0 ⟨hB0, hb0⟩
 have HB0 := Lh hB0
 have k0 : W0.cell? ⟨w.heap.size, 0, none⟩ = some (.int .u16 f) := blk_cell hb0 0
 have k1 : W0.cell? ⟨w.heap.size, 1, none⟩ = some (.int .u16 t) := blk_cell hb0 1
 have k2 : W0.cell? ⟨w.heap.size, 2, none⟩ = some (.int .u32 q) := blk_cell hb0 2
 have k3 : W0.cell? ⟨w.heap.size, 3, none⟩ = some (.slice A l.length c) := blk_cell hb0 3
 have HBK := Lh (fun (W : World) (h : Below W0.heap.size W0 W) => blk_below hb0 h)
 clear hb0 hB0
 go_wp2_with fail
 refine (HP.out W0 HB0.out).mono ?_
 rintro e W1 ⟨rfl, hB1⟩
 have H1 := Lh hB1
 clear hB1 HP k0 k1 k2 k3
 cases pb with
 | false =>
  have hd := HD.out
  rw [if_pos rfl] at hd
  have HD1 := Lh hd
  clear hd HD HA HE HEN HIN HT
  go_wp2
  go_ret2
  rw [← HD1.out]
  exact ⟨_, rfl, Kd.R_nil _ _ _ _ _, below_then HB0.out HB0.out.size H1.out⟩
 | true =>
  have hd := HD.out
  rw [if_neg (by decide)] at hd
  clear HD
  have k3 : W1.cell? ⟨w.heap.size, 3, none⟩ = some (.slice A l.length c) := blk_cell (HBK.out _ H1.out) 3
  by_cases hl0 : l.length = 0
  ·rw [if_pos hl0] at hd
   have hz : (((l.length : Nat) : Int) == 0) = true := by simp [hl0]
   have HD1 := Lh hd
   clear hd HA HE HEN HIN HT hl0
   go_wp2
   go_ret2
   rw [← HD1.out]
   exact ⟨_, rfl, Kd.R_nil _ _ _ _ _, below_then HB0.out HB0.out.size H1.out⟩
  have hz : (((l.length : Nat) : Int) == 0) = false := by simp [hl0]
  rw [if_neg hl0] at hd
  have HD := Lh hd
  clear hd hl0
  go_wp2_with fail
  refine (HA.out W1 (below_then HB0.out HB0.out.size H1.out)).mono ?_
  rintro e W2 ⟨rfl, hB2⟩
  have H2 := Lh (below_then H1.out H1.out.size hB2)
  clear hB2 HA k3 H1
  have k3 : W2.cell? ⟨w.heap.size, 3, none⟩ = some (.slice A l.length c) := blk_cell (HBK.out _ H2.out) 3
  cases ab with
  | true =>
   have hd := HD.out
   rw [if_pos rfl] at hd
   have HD1 := Lh hd
   clear hd HD HE HEN HIN HT
   go_wp2
   go_ret2
   rw [← HD1.out]
   exact ⟨_, rfl, Kd.R_nil _ _ _ _ _, below_then HB0.out HB0.out.size H2.out⟩
  | false =>
   have hd := HD.out
   rw [if_neg (by decide)] at hd
   clear HD
   have HD := Lh hd
   clear hd
   go_wp2_with fail
   refine (HE.out W2 (below_then HB0.out HB0.out.size H2.out)).mono ?_
   rintro e w2 ⟨v, rfl, hR, hB2⟩
   obtain ⟨A1, c1, rfl, hle, hC1⟩ := Kd.R_reads hR
   have H3 := Lh (below_then H2.out H2.out.size hB2)
   have HBW := Lh (below_then HB0.out HB0.out.size H3.out)
   have HC1 := Lh hC1
   have HLE := Lh hle
   clear hB2 HE k3 H2 hR hC1 hle
   by_cases hec : ec = 0
   ·subst hec
    have hd := HD.out
    rw [if_pos rfl] at hd
    clear HD
    have HN1 := Lh (HEN.out rfl)
    have hw : wrap64 (12 + ((eb.length : Nat) : Int)) = ((12 + eb.length : Nat) : Int) := by have := HN1.out; unfold wrap64; omega
    by_cases hl6 : 65536 < 12 + eb.length
    ·rw [if_pos hl6] at hd
     have hz2 : decide ((65536 : Int) < ((12 + eb.length : Nat) : Int)) = true := decide_eq_true (by omega)
     have HD1 := Lh hd
     clear hd HEN HIN HT hl6
     generalize ((12 + eb.length : Nat) : Int) = n12 at *
     generalize eb.length = ebl at *
     go_wp2
     go_ret2
     rw [← HD1.out]
     exact ⟨_, rfl, Kd.R_nil _ _ _ _ _, HBW.out⟩
    ·rw [if_neg hl6] at hd
     have hz2 : decide ((65536 : Int) < ((12 + eb.length : Nat) : Int)) = false := decide_eq_false (by omega)
     have HD1 := Lh hd
     clear hd
     generalize ((12 + eb.length : Nat) : Int) = n12 at *
     go_upto_region 12 with (fail)
     clear hw hz2 n12
     have HBG := Lh (HBK.out _ H3.out)
     rw [HG.out] at HBG ⊢
     clear HBK
     refine grow_region (B := pkeB12) [0, 1, 2, 3, 4, 5, 6, 7, 8, 9, 10, 11] [3, 7, 10, 11] (fun s v W => match s with | 0 => Below w2.heap.size w2 W | 1 => PX w2 ([] ++ twoL [f]) v W | 2 => PX w2 ([] ++ twoL [f] ++ twoL [t]) v W | _ => PX w2 ([] ++ twoL [f] ++ twoL [t] ++ fourL [q]) v W) (.slice none 0 0) (fun vs => [(0, 33, .pointer (some ⟨g, 0, none⟩)), (1, 34, .int .u16 f), (2, 35, .int .u32 (IntKind.u32.wrap f)), (3, 36, vs 1), (4, 37, .pointer (some ⟨g, 1, none⟩)), (5, 38, .int .u16 t), (6, 39, .int .u32 (IntKind.u32.wrap t)), (7, 40, vs 2), (8, 41, .pointer (some ⟨g, 2, none⟩)), (9, 42, .int .u32 q), (10, 43, vs 3), (11, 6, vs 4)]) (by kernel_rfl) rfl (l := #[false, false, false, false, false, false, false, false, false, false, false, false]) rfl pketab12 pkebits12 (by kernel_rfl) (by kernel_rfl) (fun _ => rfl) rfl ?_ ?_ ?_
     ·exact pw_below_drewN (Below.refl _ _) 1
     ·exact steps_cons (gr_op (p := 1) (fun w => Below w2.heap.size w2 w) 0 0 rfl rfl rfl (fun _ => rfl) (fun _ => rfl) rfl (u := .pointer (some ⟨g, 0, none⟩)) (rd_off (p := 1) (fun _ => rfl) rfl) (fun s x w h => by match s, h with | 0, h => exact h | 1, h => exact h.bl | 2, h => exact h.bl | _ + 3, h => exact h.bl) (fun a w hJ e => by go_simp)) (steps_cons (gr_op (p := 33) (fun w => Below w2.heap.size w2 w) 1 1 rfl rfl rfl (fun _ => rfl) (fun _ => rfl) rfl (u := .pointer (some ⟨g, 0, none⟩)) (rd_on (p := 33) 0 0 (fun _ => rfl) (fun _ => rfl) (by kernel_rfl) rfl) (fun s x w h => by match s, h with | 0, h => exact h | 1, h => exact h.bl | 2, h => exact h.bl | _ + 3, h => exact h.bl) (fun a w hJ e => by have hs : w.cell? ⟨g, 0, none⟩ = some (.int .u16 f) := blk_cell (blk_below HBG.out hJ) 0; go_simp)) (steps_cons (gr_op (p := 34) (fun w => Below w2.heap.size w2 w) 2 2 rfl rfl rfl (fun _ => rfl) (fun _ => rfl) rfl (u := .int .u16 f) (rd_on (p := 34) 1 1 (fun _ => rfl) (fun _ => rfl) (by kernel_rfl) rfl) (fun s x w h => by match s, h with | 0, h => exact h | 1, h => exact h.bl | 2, h => exact h.bl | _ + 3, h => exact h.bl) (fun a w hJ e => by go_simp)) (steps_cons (gr_callc (vals := [.slice none 0 0, .int .u32 (IntKind.u32.wrap f), .int .i64 2]) 3 3 0 rfl rfl rfl rfl (fun _ => rfl) (fun _ _ => rfl) (fun _ => rfl) rfl (by kernel_rfl) Tryd.func29 (by kernel_rfl) rfl rfl (ar_c (.slice none 0 0) (ar_t (rd_on (p := 35) 2 2 (fun _ => rfl) (fun _ => rfl) (by kernel_rfl) rfl) (ar_c (.int .i64 2) (ar_n)))) (fun u w h => by have h := (PX.nil h).two (IntKind.u32.wrap f) _ (two32 f) (by simp); exact h)) (steps_cons (gr_op (p := 1) (fun w => Below w2.heap.size w2 w) 4 4 rfl rfl rfl (fun _ => rfl) (fun _ => rfl) rfl (u := .pointer (some ⟨g, 0, none⟩)) (rd_off (p := 1) (fun _ => rfl) rfl) (fun s x w h => by match s, h with | 0, h => exact h | 1, h => exact h.bl | 2, h => exact h.bl | _ + 3, h => exact h.bl) (fun a w hJ e => by go_simp)) (steps_cons (gr_op (p := 37) (fun w => Below w2.heap.size w2 w) 5 5 rfl rfl rfl (fun _ => rfl) (fun _ => rfl) rfl (u := .pointer (some ⟨g, 1, none⟩)) (rd_on (p := 37) 4 4 (fun _ => rfl) (fun _ => rfl) (by kernel_rfl) rfl) (fun s x w h => by match s, h with | 0, h => exact h | 1, h => exact h.bl | 2, h => exact h.bl | _ + 3, h => exact h.bl) (fun a w hJ e => by have hs : w.cell? ⟨g, 1, none⟩ = some (.int .u16 t) := blk_cell (blk_below HBG.out hJ) 1; go_simp)) (steps_cons (gr_op (p := 38) (fun w => Below w2.heap.size w2 w) 6 6 rfl rfl rfl (fun _ => rfl) (fun _ => rfl) rfl (u := .int .u16 t) (rd_on (p := 38) 5 5 (fun _ => rfl) (fun _ => rfl) (by kernel_rfl) rfl) (fun s x w h => by match s, h with | 0, h => exact h | 1, h => exact h.bl | 2, h => exact h.bl | _ + 3, h => exact h.bl) (fun a w hJ e => by go_simp)) (steps_cons (gr_call (vals := [.int .u32 (IntKind.u32.wrap t), .int .i64 2]) 7 7 1 rfl rfl rfl rfl (fun _ => rfl) (fun _ _ => rfl) (fun _ => rfl) rfl (by kernel_rfl) Tryd.func29 (by kernel_rfl) rfl rfl rfl (fv := fun vs => vs 1) (rd_on (p := 36) 3 3 (fun _ => rfl) (fun _ => rfl) (by kernel_rfl) rfl) (fun _ _ => rfl) (ar_t (rd_on (p := 39) 6 6 (fun _ => rfl) (fun _ => rfl) (by kernel_rfl) rfl) (ar_c (.int .i64 2) (ar_n))) (fun u w h => h.two (IntKind.u32.wrap t) _ (two32 t) (by simp [twoL_length]))) (steps_cons (gr_op (p := 1) (fun w => Below w2.heap.size w2 w) 8 8 rfl rfl rfl (fun _ => rfl) (fun _ => rfl) rfl (u := .pointer (some ⟨g, 0, none⟩)) (rd_off (p := 1) (fun _ => rfl) rfl) (fun s x w h => by match s, h with | 0, h => exact h | 1, h => exact h.bl | 2, h => exact h.bl | _ + 3, h => exact h.bl) (fun a w hJ e => by go_simp)) (steps_cons (gr_op (p := 41) (fun w => Below w2.heap.size w2 w) 9 9 rfl rfl rfl (fun _ => rfl) (fun _ => rfl) rfl (u := .pointer (some ⟨g, 2, none⟩)) (rd_on (p := 41) 8 8 (fun _ => rfl) (fun _ => rfl) (by kernel_rfl) rfl) (fun s x w h => by match s, h with | 0, h => exact h | 1, h => exact h.bl | 2, h => exact h.bl | _ + 3, h => exact h.bl) (fun a w hJ e => by have hs : w.cell? ⟨g, 2, none⟩ = some (.int .u32 q) := blk_cell (blk_below HBG.out hJ) 2; go_simp)) (steps_cons (gr_call (vals := [.int .u32 q, .int .i64 4]) 10 10 2 rfl rfl rfl rfl (fun _ => rfl) (fun _ _ => rfl) (fun _ => rfl) rfl (by kernel_rfl) Tryd.func29 (by kernel_rfl) rfl rfl rfl (fv := fun vs => vs 2) (rd_on (p := 40) 7 7 (fun _ => rfl) (fun _ => rfl) (by kernel_rfl) rfl) (fun _ _ => rfl) (ar_t (rd_on (p := 42) 9 9 (fun _ => rfl) (fun _ => rfl) (by kernel_rfl) rfl) (ar_c (.int .i64 4) (ar_n))) (fun u w h => h.four q (by simp [twoL_length]))) (steps_cons (gr_last 11 11 3 rfl rfl rfl rfl (fun _ => rfl) (fun _ _ => rfl) (fun _ => rfl) rfl (by kernel_rfl) (fv := fun vs => vs 3) (rd_on (p := 43) 10 10 (fun _ => rfl) (fun _ => rfl) (by kernel_rfl) rfl) (fun _ _ => rfl) (fun a w u e => by go_simp) (fun _ _ h => h)) steps_nil)))))))))))
     intro vs1 W4 hX9
     have HX := Lh hX9
     clear hX9
     simp only [putSel, if_true, Act.put, List.setIfInBounds_toArray, List.set_cons_zero, List.set_cons_succ]
     obtain ⟨u1_, hu⟩ : ∃ u, vs1 4 = u := ⟨_, rfl⟩
     replace HX := Lh (show PX w2 ([] ++ twoL [f] ++ twoL [t] ++ fourL [q]) (vs1 4) W4 from HX.out)
     rw [hu] at HX ⊢
     clear hu
     go_wp2_with fail
     have HF := HX.out.four 0 (by simp [twoL_length, fourL_length])
     rw [show ([] ++ twoL [f] ++ twoL [t] ++ fourL [q] ++ fourL [0] : List Int) = headL f t q from rfl] at HF
     have HYL := Lh (headL_length f t q)
     have HYI := Lh (head_in f t q)
     generalize headL f t q = ys at *
     refine HF.mono ?_
     clear HF HX
     rintro e W4 ⟨v4, rfl, hX9⟩
     obtain ⟨Au, cu, hu⟩ := Kd.R_slice hX9.r
     subst hu
     have HX4 := Lh hX9
     clear hX9
     go_wp2_with (at_builtin; go_must (refine Kd.R_append_row (Value.int .u8) (0 : Int) (w0 := w2) (W := W4) w2.heap.size rfl _ _ 27 5 _ 1 rfl Tryd.underlying27 info_u8 rfl (by decide) (.slice Au ys.length cu) ys eb A1 _ c1 (fun _ => True) rfl rfl (fun _ _ => trivial) HX4.out.r (Kd.C_below HC1.out HX4.out.bl) HX4.out.bl HX4.out.bl.size (by have := HYL.out; have := HN1.out; omega) ?_); (intro v1 w1 hR1 hB1 hG1 _; have HR1 := Lh hR1; have HB1 := Lh hB1; clear hR1 hB1 hG1; refine RowKit.Hid.out ?_))
     refine Lh ?_
     obtain ⟨A5, c5, hv5, hle5, hC5⟩ := Kd.R_reads HR1.out
     subst hv5
     have hin5 : ∀ b ∈ ys ++ eb, inB b := fun b hb => by
      rcases List.mem_append.1 hb with h | h
      ·exact HYI.out b h
      ·exact HIN.out b h
     have hlen : (ys ++ eb).length = 12 + eb.length := by rw [List.length_append, HYL.out]
     obtain ⟨bs, hbs⟩ : ∃ bs, bytesOf (ys ++ eb) = bs := ⟨_, rfl⟩
     have hbi : ints bs = ys ++ eb := by rw [← hbs]; exact ints_bytesOf _ hin5
     have hbl : (ys ++ eb).length = bs.length := by rw [← hbi, ints_length]
     rw [hbs] at HD1
     have HC5 := byte_of_int (by rw [hbi]; exact hC5 : (Kd.int .u8).C w1 A5 (ints bs).length (ints bs))
     have HPUT := Lh (Crc.put_calls A5 c5 bs w1 (HT.out w1 (below_then HBW.out HBW.out.size HB1.out)) HC5 (by rw [← hbl]; exact hle5) (by have := HN1.out; omega) (by omega))
     unfold PutDone at HPUT
     rw [← putL_eq] at HPUT
     have HB5 := Lh (below_then HBW.out HBW.out.size HB1.out)
     rw [hbl]
     clear hbl hbi hin5 hlen HC5 hC5 hle5 hbs HR1 HB1 HX4 HIN HEN HT HC1
     generalize bs.length = bl at *
     generalize putL bs = pl at *
     go_wp2_with fail
     refine HPUT.out.mono ?_
     rintro e W6 ⟨v6, rfl, hR6, hB6⟩
     have HR6 := Lh hR6
     have HB6 := Lh hB6
     clear hR6 hB6 HPUT
     go_wp2
     go_ret2
     rw [← HD1.out]
     exact ⟨_, rfl, Kd.R_lower HR6.out HB5.out.size, below_then HB5.out HB5.out.size HB6.out⟩
   ·have hd := HD.out
    rw [if_neg hec] at hd
    have hz : (ec == 0) = false := by simp [hec]
    have HD1 := Lh hd
    clear hd HD HEN HIN HT
    go_wp2
    go_ret2
    rw [← HD1.out]
    exact ⟨_, rfl, Kd.R_nil _ _ _ _ _, HBW.out⟩
end Go.Proofs.YtdlamomabonkjaaDoor.Pk
end
section
namespace Go.Proofs.YtdlamomabonkjaaDoor.Ch
open Go.RowKit YtdlamomabonkjaaDoorW.PrintWords YtdlamomabonkjaaDoorW.PrintLast Base PCh
theorem eqn_u32 (w : World) (A B : Option Addr) (c d : Nat) : Calls Tryd.prog 66 #[.slice A 0 c, .slice B 0 d] w fun e w' => e = .returned (.bool true) ∧ Below w.heap.size w w' := by
 go_enter Tryd.func66, Tryd.ntmps66
 go_wp2
 go_loopw [13] (fun v13 w' => v13 = .int .i64 0 ∧ w' = w) (fun v13 _ => 0)
 case atStart => exact ⟨rfl, rfl⟩
 case round =>
  obtain ⟨rfl, rfl⟩ := hrel
  go_wp2
  go_ret
  exact ⟨rfl, Below.refl _ _⟩
theorem eqn_byte (w : World) (A B : Option Addr) (c d : Nat) : Calls Tryd.prog 67 #[.slice A 0 c, .slice B 0 d] w fun e w' => e = .returned (.bool true) ∧ Below w.heap.size w w' := by
 go_enter Tryd.func67, Tryd.ntmps67
 go_wp2
 go_loopw [13] (fun v13 w' => v13 = .int .i64 0 ∧ w' = w) (fun v13 _ => 0)
 case atStart => exact ⟨rfl, rfl⟩
 case round =>
  obtain ⟨rfl, rfl⟩ := hrel
  go_wp2
  go_ret
  exact ⟨rfl, Below.refl _ _⟩
theorem eqn_gap0 (w : World) (A B : Option Addr) (c d : Nat) : Calls Tryd.prog 82 #[.slice A 0 c, .slice B 0 d] w fun e w' => e = .returned (.bool true) ∧ Below w.heap.size w w' := by
 go_enter Tryd.func82, Tryd.ntmps82
 go_wp2
 go_loopw [13] (fun v13 w' => v13 = .int .i64 0 ∧ w' = w) (fun v13 _ => 0)
 case atStart => exact ⟨rfl, rfl⟩
 case round =>
  obtain ⟨rfl, rfl⟩ := hrel
  go_wp2
  go_ret
  exact ⟨rfl, Below.refl _ _⟩
theorem eqn_gap (w : World) (A B : Option Addr) (c d : Nat) : Calls Tryd.prog 65 #[.slice A 0 c, .slice B 0 d] w fun e w' => e = .returned (.bool true) ∧ Below w.heap.size w w' := by
 have HE := Lh (eqn_gap0 w A B c d)
 go_enter Tryd.func65, Tryd.ntmps65
 go_wp2_with fail
 refine HE.out.mono ?_
 rintro e w1 ⟨rfl, hB1⟩
 go_wp2
 go_ret
 exact ⟨rfl, hB1⟩
theorem eqn_prm0 (w : World) (A B : Option Addr) (c d : Nat) : Calls Tryd.prog 83 #[.slice A 0 c, .slice B 0 d, .func (.func 84) #[] #[]] w fun e w' => e = .returned (.bool true) ∧ Below w.heap.size w w' := by
 go_enter Tryd.func83, Tryd.ntmps83
 go_wp2
 go_loopw [17] (fun v17 w' => v17 = .int .i64 0 ∧ w' = w) (fun v17 _ => 0)
 case atStart => exact ⟨rfl, rfl⟩
 case round =>
  obtain ⟨rfl, rfl⟩ := hrel
  go_wp2
  go_ret
  exact ⟨rfl, Below.refl _ _⟩
theorem eqn_prm (w : World) (A B : Option Addr) (c d : Nat) : Calls Tryd.prog 68 #[.slice A 0 c, .slice B 0 d] w fun e w' => e = .returned (.bool true) ∧ Below w.heap.size w w' := by
 have HE := Lh (eqn_prm0 w A B c d)
 go_enter Tryd.func68, Tryd.ntmps68
 go_wp2_with fail
 refine HE.out.mono ?_
 rintro e w1 ⟨rfl, hB1⟩
 go_wp2
 go_ret
 exact ⟨rfl, hB1⟩
theorem enc_none (w : World) (A : Option Addr) (c : Nat) : Calls Tryd.prog 74 #[.slice A 0 c] w fun e w' => e = .returned (.tuple #[.slice none 0 0, .int .i64 0]) ∧ Below w.heap.size w w' := by
 go_enter Tryd.func74, Tryd.ntmps74
 go_wp2
 go_loopw [12, 4] (fun v12 v4 w' => v12 = .int .i64 0 ∧ v4 = .slice none 0 0 ∧ w' = w) (fun v12 _ _ => 0)
 case atStart => exact ⟨rfl, rfl, rfl⟩
 case round =>
  obtain ⟨rfl, rfl, rfl⟩ := hrel
  go_wp2
  go_ret2
  exact ⟨rfl, Below.refl _ _⟩
def avX : Chk := ⟨11, 0, 0, 0, 0, 0, 0, 0, 0, 0, [], [], [], [], []⟩
set_option maxHeartbeats 4000000 in
theorem same_av (w : World) (L M : Lay) : Calls Tryd.prog 38 #[.agg (CV avX L), .agg (CV avX M)] w fun e w' => e = .returned (.bool true) ∧ Below w.heap.size w w' := by
 have O0 := Lh (show ((w.alloc (.cells (CV avX L) 41)).alloc (.cells (CV avX M) 41)).heap[w.heap.size]? = some (.cells (CV avX L) 41 (0, 0)) from blk_alloc (blk_new _ _) _)
 have O1 := Lh (show ((w.alloc (.cells (CV avX L) 41)).alloc (.cells (CV avX M) 41)).heap[w.heap.size + 1]? = some (.cells (CV avX M) 41 (0, 0)) by have h := blk_new (w.alloc (.cells (CV avX L) 41)) (.cells (CV avX M) 41); rw [World.size_alloc] at h; exact h)
 have HB := Lh (below_alloc (below_alloc (Below.refl w.heap.size w) (.cells (CV avX L) 41)) (.cells (CV avX M) 41))
 have H10 := Lh (fun (W : World) => eqn_gap W L.A10 M.A10 L.c10 M.c10)
 have H11 := Lh (fun (W : World) => eqn_gap W L.A11 M.A11 L.c11 M.c11)
 have H12 := Lh (fun (W : World) => eqn_u32 W L.A12 M.A12 L.c12 M.c12)
 have H13 := Lh (fun (W : World) => eqn_byte W L.A13 M.A13 L.c13 M.c13)
 have H14 := Lh (fun (W : World) => eqn_prm W L.A14 M.A14 L.c14 M.c14)
 have u0 := (blk_cell O0.out 0).trans (show (CV avX L)[0]? = some (.int .u8 11) from rfl)
 have v0 := (blk_cell O1.out 0).trans (show (CV avX M)[0]? = some (.int .u8 11) from rfl)
 have u1 := (blk_cell O0.out 1).trans (show (CV avX L)[1]? = some (.int .u8 0) from rfl)
 have v1 := (blk_cell O1.out 1).trans (show (CV avX M)[1]? = some (.int .u8 0) from rfl)
 have u2 := (blk_cell O0.out 2).trans (show (CV avX L)[2]? = some (.int .u32 0) from rfl)
 have v2 := (blk_cell O1.out 2).trans (show (CV avX M)[2]? = some (.int .u32 0) from rfl)
 have u3 := (blk_cell O0.out 3).trans (show (CV avX L)[3]? = some (.int .u16 0) from rfl)
 have v3 := (blk_cell O1.out 3).trans (show (CV avX M)[3]? = some (.int .u16 0) from rfl)
 have u4 := (blk_cell O0.out 4).trans (show (CV avX L)[4]? = some (.int .u16 0) from rfl)
 have v4 := (blk_cell O1.out 4).trans (show (CV avX M)[4]? = some (.int .u16 0) from rfl)
 have u5 := (blk_cell O0.out 5).trans (show (CV avX L)[5]? = some (.int .u32 0) from rfl)
 have v5 := (blk_cell O1.out 5).trans (show (CV avX M)[5]? = some (.int .u32 0) from rfl)
 have u6 := (blk_cell O0.out 6).trans (show (CV avX L)[6]? = some (.int .u32 0) from rfl)
 have v6 := (blk_cell O1.out 6).trans (show (CV avX M)[6]? = some (.int .u32 0) from rfl)
 have u7 := (blk_cell O0.out 7).trans (show (CV avX L)[7]? = some (.int .u32 0) from rfl)
 have v7 := (blk_cell O1.out 7).trans (show (CV avX M)[7]? = some (.int .u32 0) from rfl)
 have u8 := (blk_cell O0.out 8).trans (show (CV avX L)[8]? = some (.int .u16 0) from rfl)
 have v8 := (blk_cell O1.out 8).trans (show (CV avX M)[8]? = some (.int .u16 0) from rfl)
 have u9 := (blk_cell O0.out 9).trans (show (CV avX L)[9]? = some (.int .u16 0) from rfl)
 have v9 := (blk_cell O1.out 9).trans (show (CV avX M)[9]? = some (.int .u16 0) from rfl)
 have u10 := (blk_cell O0.out 10).trans (show (CV avX L)[10]? = some (.slice L.A10 0 L.c10) from rfl)
 have v10 := (blk_cell O1.out 10).trans (show (CV avX M)[10]? = some (.slice M.A10 0 M.c10) from rfl)
 have u11 := (blk_cell O0.out 11).trans (show (CV avX L)[11]? = some (.slice L.A11 0 L.c11) from rfl)
 have v11 := (blk_cell O1.out 11).trans (show (CV avX M)[11]? = some (.slice M.A11 0 M.c11) from rfl)
 have u12 := (blk_cell O0.out 12).trans (show (CV avX L)[12]? = some (.slice L.A12 0 L.c12) from rfl)
 have v12 := (blk_cell O1.out 12).trans (show (CV avX M)[12]? = some (.slice M.A12 0 M.c12) from rfl)
 have u13 := (blk_cell O0.out 13).trans (show (CV avX L)[13]? = some (.slice L.A13 0 L.c13) from rfl)
 have v13 := (blk_cell O1.out 13).trans (show (CV avX M)[13]? = some (.slice M.A13 0 M.c13) from rfl)
 have u14 := (blk_cell O0.out 14).trans (show (CV avX L)[14]? = some (.slice L.A14 0 L.c14) from rfl)
 have v14 := (blk_cell O1.out 14).trans (show (CV avX M)[14]? = some (.slice M.A14 0 M.c14) from rfl)
 have EU11 := Lh (show (CV avX L)[11]? = some (.slice L.A11 0 L.c11) from rfl)
 have EV11 := Lh (show (CV avX M)[11]? = some (.slice M.A11 0 M.c11) from rfl)
 have EU12 := Lh (show (CV avX L)[12]? = some (.slice L.A12 0 L.c12) from rfl)
 have EV12 := Lh (show (CV avX M)[12]? = some (.slice M.A12 0 M.c12) from rfl)
 have EU13 := Lh (show (CV avX L)[13]? = some (.slice L.A13 0 L.c13) from rfl)
 have EV13 := Lh (show (CV avX M)[13]? = some (.slice M.A13 0 M.c13) from rfl)
 have EU14 := Lh (show (CV avX L)[14]? = some (.slice L.A14 0 L.c14) from rfl)
 have EV14 := Lh (show (CV avX M)[14]? = some (.slice M.A14 0 M.c14) from rfl)
 generalize CV avX L = CX at *
 generalize CV avX M = CY at *
 go_enter Tryd.func38, Tryd.ntmps38
 go_wp2_with fail
 refine (H10.out _).mono ?_
 rintro e W1 ⟨rfl, hB1⟩
 clear u0 v0 u1 v1 u2 v2 u3 v3 u4 v4 u5 v5 u6 v6 u7 v7 u8 v8 u9 v9 u10 v10 u11 v11 u12 v12 u13 v13 u14 v14
 replace O0 := Lh (blk_below O0.out hB1)
 replace O1 := Lh (blk_below O1.out hB1)
 replace HB := Lh (below_then HB.out HB.out.size hB1)
 have u11 := (blk_cell O0.out 11).trans EU11.out
 have v11 := (blk_cell O1.out 11).trans EV11.out
 clear hB1
 go_wp2_with fail
 refine (H11.out _).mono ?_
 rintro e W2 ⟨rfl, hB2⟩
 clear u11 v11
 replace O0 := Lh (blk_below O0.out hB2)
 replace O1 := Lh (blk_below O1.out hB2)
 replace HB := Lh (below_then HB.out HB.out.size hB2)
 have u12 := (blk_cell O0.out 12).trans EU12.out
 have v12 := (blk_cell O1.out 12).trans EV12.out
 clear hB2
 go_wp2_with fail
 refine (H12.out _).mono ?_
 rintro e W3 ⟨rfl, hB3⟩
 clear u12 v12
 replace O0 := Lh (blk_below O0.out hB3)
 replace O1 := Lh (blk_below O1.out hB3)
 replace HB := Lh (below_then HB.out HB.out.size hB3)
 have u13 := (blk_cell O0.out 13).trans EU13.out
 have v13 := (blk_cell O1.out 13).trans EV13.out
 clear hB3
 go_wp2_with fail
 refine (H13.out _).mono ?_
 rintro e W4 ⟨rfl, hB4⟩
 clear u13 v13
 replace O0 := Lh (blk_below O0.out hB4)
 replace O1 := Lh (blk_below O1.out hB4)
 replace HB := Lh (below_then HB.out HB.out.size hB4)
 have u14 := (blk_cell O0.out 14).trans EU14.out
 have v14 := (blk_cell O1.out 14).trans EV14.out
 clear hB4
 go_wp2_with fail
 refine (H14.out _).mono ?_
 rintro e W5 ⟨rfl, hB5⟩
 clear u14 v14
 go_wp2
 go_ret
 exact ⟨rfl, below_then HB.out HB.out.size hB5⟩
end Go.Proofs.YtdlamomabonkjaaDoor.Ch
end
section
namespace Go.Proofs.YtdlamomabonkjaaDoor.Ch
open Go.RowKit YtdlamomabonkjaaDoorW.PrintWords YtdlamomabonkjaaDoorW.PrintLast Base PCh ParDec
set_option maxHeartbeats 8000000 in
theorem bare_none (w : World) (x : Chk) (L : Lay) (hx : CR w x L) (h0 : x.f0 = 11) :
  Calls Tryd.prog 71 #[.agg (CV x L)] w fun e w' => e = .returned (.agg (CV (bareD x) (keepL (hasF x.f0) L))) ∧ Below w.heap.size w w' := by
 clear hx
 obtain ⟨f0, f1, f2, f3, f4, f5, f6, f7, f8, f9, f10, f11, f12, f13, f14⟩ := x
 dsimp only at h0
 subst h0
 obtain ⟨A10, c10, A11, c11, A12, c12, A13, c13, A14, c14⟩ := L
 have hkd : (∃ r, bareD ⟨11, f1, f2, f3, f4, f5, f6, f7, f8, f9, f10, f11, f12, f13, f14⟩ = r) := ⟨_, rfl⟩
 clear hkd
 have X := Bx.new w (CV ⟨11, f1, f2, f3, f4, f5, f6, f7, f8, f9, f10, f11, f12, f13, f14⟩ ⟨A10, c10, A11, c11, A12, c12, A13, c13, A14, c14⟩)
 go_enter Tryd.func71, Tryd.ntmps71
 go_upto_region 1 with (fail)
 refine wp_gen (Bx w (CV ⟨11, f1, f2, f3, f4, f5, f6, f7, f8, f9, f10, f11, f12, f13, f14⟩ ⟨A10, c10, A11, c11, A12, c12, A13, c13, A14, c14⟩)) X ?_
 clear X
 intro W X
 have U0 := Lh (show W.cell? ⟨w.heap.size, 0, none⟩ = some (.int .u8 11) from X.cell 0)
 have U1 := Lh (show W.cell? ⟨w.heap.size, 1, none⟩ = some (.int .u8 f1) from X.cell 1)
 have U2 := Lh (show W.cell? ⟨w.heap.size, 2, none⟩ = some (.int .u32 f2) from X.cell 2)
 have U3 := Lh (show W.cell? ⟨w.heap.size, 3, none⟩ = some (.int .u16 f3) from X.cell 3)
 have U4 := Lh (show W.cell? ⟨w.heap.size, 4, none⟩ = some (.int .u16 f4) from X.cell 4)
 have U5 := Lh (show W.cell? ⟨w.heap.size, 5, none⟩ = some (.int .u32 f5) from X.cell 5)
 have U6 := Lh (show W.cell? ⟨w.heap.size, 6, none⟩ = some (.int .u32 f6) from X.cell 6)
 have U7 := Lh (show W.cell? ⟨w.heap.size, 7, none⟩ = some (.int .u32 f7) from X.cell 7)
 have U8 := Lh (show W.cell? ⟨w.heap.size, 8, none⟩ = some (.int .u16 f8) from X.cell 8)
 have U9 := Lh (show W.cell? ⟨w.heap.size, 9, none⟩ = some (.int .u16 f9) from X.cell 9)
 have U10 := Lh (show W.cell? ⟨w.heap.size, 10, none⟩ = some (.slice A10 f10.length c10) from X.cell 10)
 have U11 := Lh (show W.cell? ⟨w.heap.size, 11, none⟩ = some (.slice A11 f11.length c11) from X.cell 11)
 have U12 := Lh (show W.cell? ⟨w.heap.size, 12, none⟩ = some (.slice A12 f12.length c12) from X.cell 12)
 have U13 := Lh (show W.cell? ⟨w.heap.size, 13, none⟩ = some (.slice A13 f13.length c13) from X.cell 13)
 have U14 := Lh (show W.cell? ⟨w.heap.size, 14, none⟩ = some (.slice A14 f14.length c14) from X.cell 14)
 obtain ⟨fl, hfl⟩ : ∃ fl, flD 11 f1 = fl := ⟨_, rfl⟩
 have HFL := Lh (show bits .and .u8 f1 (maskD 11) = fl from hfl)
 have HFE := Lh hfl
 clear hfl
 have B := True.intro
 refine start_ (n := 11) (S := fun w' => True) (ds := []) #[false, false, false, false, false, false, false, false, false, false, false] (by kernel_rfl) rfl rfl trivial (fun hHeld => ?_)
 refine with_tabW baretab1 barebits1 (fun HT_ HW_ => ?_)
 refine inv_at [0, 1, 2, 3, 4, 5, 6, 7, 8, 9, 10] (fun a0_ b a w' => ∃ (g3 : Nat) (m9_ : Value), a = putSel a0_ b [(0, 4, .pointer (some ⟨w.heap.size, 0, none⟩)), (1, 5, .int .u8 11), (2, 6, .pointer (some ⟨w.heap.size, 1, none⟩)), (3, 7, .int .u8 f1), (4, 8, .pointer (some ⟨w.heap.size, 0, none⟩)), (5, 9, .int .u8 11), (6, 10, .int .u8 (maskD 11)), (7, 11, .int .u8 fl), (8, 12, .agg (#[.int .u8 (11), .int .u8 (fl), .int .u32 0, .int .u16 0, .int .u16 0, .int .u32 0, .int .u32 0, .int .u32 0, .int .u16 0, .int .u16 0, .slice none 0 0, .slice none 0 0, .slice none 0 0, .slice none 0 0, .slice none 0 0])), (9, 3, m9_)] ∧ (Below W.heap.size W w') ∧ (b 9 = true → b 10 = false → w'.heap[g3]? = some (.cells (#[.int .u8 0, .int .u8 0, .int .u32 0, .int .u16 0, .int .u16 0, .int .u32 0, .int .u32 0, .int .u32 0, .int .u16 0, .int .u16 0, .slice none 0 0, .slice none 0 0, .slice none 0 0, .slice none 0 0, .slice none 0 0]) 41 (0, 0)) ∧ W.heap.size ≤ g3) ∧ (b 10 = true → w'.heap[g3]? = some (.cells (#[.int .u8 (11), .int .u8 (fl), .int .u32 0, .int .u16 0, .int .u16 0, .int .u32 0, .int .u32 0, .int .u32 0, .int .u16 0, .int .u16 0, .slice none 0 0, .slice none 0 0, .slice none 0 0, .slice none 0 0, .slice none 0 0]) 41 (0, 0)) ∧ W.heap.size ≤ g3) ∧ (b 9 = true → (m9_ : Value) = .pointer (some ⟨g3, 0, none⟩))) HT_.out HW_.out (by kernel_rfl) (by kernel_rfl) ?_ ?_ ?_
 ·exact ⟨0, .bool false, by simp only [putSel, Bool.false_eq_true, if_false], below_drew (Below.refl _ _), fun h_ => absurd h_ (by decide), fun h_ => absurd h_ (by decide), fun h_ => absurd h_ (by decide)⟩
 ·skip
  clear B
  refine sc rfl ?_ ?_
  ·rintro b a w' ⟨g3, m9_, ha, Q_B, Q_Z, Q_Z2, Q_X9_⟩ hb_ hon hoff K hK
   have e1 : a.tmps[1]? = some (.pointer (some ⟨w.heap.size, 0, none⟩)) := by rw [ha]; exact (putSel_off rfl).trans rfl
   replace ha := Am ha
   refine value_ (w1 := w') (v := .pointer (some ⟨w.heap.size, 0, none⟩)) (by rfl) rfl ?_ ?_
   ·go_simp
    (try simp only [i64_w])
    try rfl
   refine hK.out _ _ ⟨g3, m9_, (puk ha 0 hb_ rfl rfl rfl), Q_B, Q_Z, fun h0_ => hof (hoff 10 (by kernel_rfl)) h0_, Q_X9_⟩
  refine sc rfl ?_ ?_
  ·rintro b a w' ⟨g3, m9_, ha, Q_B, Q_Z, Q_Z2, Q_X9_⟩ hb_ hon hoff K hK
   have e4 := psn ha 0 rfl rfl (hon 0 (by kernel_rfl)) rfl
   replace ha := Am ha
   have B := Am Q_B
   have hs : w'.cell? ⟨w.heap.size, 0, none⟩ = some (.int .u8 11) := pw_cell_below B.out U0.out
   refine value_ (w1 := w') (v := .int .u8 11) (by rfl) rfl ?_ ?_
   ·go_simp
    (try simp only [i64_w])
    try rfl
   refine hK.out _ _ ⟨g3, m9_, (puk ha 1 hb_ rfl rfl rfl), Q_B, Q_Z, fun h0_ => hof (hoff 10 (by kernel_rfl)) h0_, Q_X9_⟩
  refine sc rfl ?_ ?_
  ·rintro b a w' ⟨g3, m9_, ha, Q_B, Q_Z, Q_Z2, Q_X9_⟩ hb_ hon hoff K hK
   have e1 : a.tmps[1]? = some (.pointer (some ⟨w.heap.size, 0, none⟩)) := by rw [ha]; exact (putSel_off rfl).trans rfl
   replace ha := Am ha
   refine value_ (w1 := w') (v := .pointer (some ⟨w.heap.size, 1, none⟩)) (by rfl) rfl ?_ ?_
   ·go_simp
    (try simp only [i64_w])
    try rfl
   refine hK.out _ _ ⟨g3, m9_, (puk ha 2 hb_ rfl rfl rfl), Q_B, Q_Z, fun h0_ => hof (hoff 10 (by kernel_rfl)) h0_, Q_X9_⟩
  refine sc rfl ?_ ?_
  ·rintro b a w' ⟨g3, m9_, ha, Q_B, Q_Z, Q_Z2, Q_X9_⟩ hb_ hon hoff K hK
   have e6 := psn ha 2 rfl rfl (hon 2 (by kernel_rfl)) rfl
   replace ha := Am ha
   have B := Am Q_B
   have hs : w'.cell? ⟨w.heap.size, 1, none⟩ = some (.int .u8 f1) := pw_cell_below B.out U1.out
   refine value_ (w1 := w') (v := .int .u8 f1) (by rfl) rfl ?_ ?_
   ·go_simp
    (try simp only [i64_w])
    try rfl
   refine hK.out _ _ ⟨g3, m9_, (puk ha 3 hb_ rfl rfl rfl), Q_B, Q_Z, fun h0_ => hof (hoff 10 (by kernel_rfl)) h0_, Q_X9_⟩
  refine sc rfl ?_ ?_
  ·rintro b a w' ⟨g3, m9_, ha, Q_B, Q_Z, Q_Z2, Q_X9_⟩ hb_ hon hoff K hK
   have e1 : a.tmps[1]? = some (.pointer (some ⟨w.heap.size, 0, none⟩)) := by rw [ha]; exact (putSel_off rfl).trans rfl
   replace ha := Am ha
   refine value_ (w1 := w') (v := .pointer (some ⟨w.heap.size, 0, none⟩)) (by rfl) rfl ?_ ?_
   ·go_simp
    (try simp only [i64_w])
    try rfl
   refine hK.out _ _ ⟨g3, m9_, (puk ha 4 hb_ rfl rfl rfl), Q_B, Q_Z, fun h0_ => hof (hoff 10 (by kernel_rfl)) h0_, Q_X9_⟩
  refine sc rfl ?_ ?_
  ·rintro b a w' ⟨g3, m9_, ha, Q_B, Q_Z, Q_Z2, Q_X9_⟩ hb_ hon hoff K hK
   have e8 := psn ha 4 rfl rfl (hon 4 (by kernel_rfl)) rfl
   replace ha := Am ha
   have B := Am Q_B
   have hs : w'.cell? ⟨w.heap.size, 0, none⟩ = some (.int .u8 11) := pw_cell_below B.out U0.out
   refine value_ (w1 := w') (v := .int .u8 11) (by rfl) rfl ?_ ?_
   ·go_simp
    (try simp only [i64_w])
    try rfl
   refine hK.out _ _ ⟨g3, m9_, (puk ha 5 hb_ rfl rfl rfl), Q_B, Q_Z, fun h0_ => hof (hoff 10 (by kernel_rfl)) h0_, Q_X9_⟩
  refine sc rfl ?_ ?_
  ·rintro b a w' ⟨g3, m9_, ha, Q_B, Q_Z, Q_Z2, Q_X9_⟩ hb_ hon hoff K hK
   have e9 := psn ha 5 rfl rfl (hon 5 (by kernel_rfl)) rfl
   replace ha := Am ha
   have B := Am Q_B
   refine goes_ Tryd.func88 (by kernel_rfl) rfl #[.int .u8 11] (by rfl) rfl rfl (by first | (simp only [List.map_toArray, List.map_cons, List.map_nil, Act.eval, Array.getD_eq_getD_getElem?, Option.getD_some, e9]; done) | (simp only [List.map_toArray, List.map_cons, List.map_nil, Act.eval, Array.getD_eq_getD_getElem?, Option.getD_some, e9]; rfl)) ?_
   refine (mask_calls 11 w').mono ?_
   rintro e w1 ⟨rfl, hD1⟩
   refine ⟨_, rfl, ?_⟩
   refine hK.out _ _ ⟨g3, m9_, (puk ha 6 hb_ rfl rfl rfl), below_then B.out B.out.size (drawn_below hD1), fun h0_ h1_ => ⟨blk_below (Q_Z h0_ h1_).1 (drawn_below hD1), (Q_Z h0_ h1_).2⟩, fun h0_ => hof (hoff 10 (by kernel_rfl)) h0_, Q_X9_⟩
  refine sc rfl ?_ ?_
  ·rintro b a w' ⟨g3, m9_, ha, Q_B, Q_Z, Q_Z2, Q_X9_⟩ hb_ hon hoff K hK
   have e7 := psn ha 3 rfl rfl (hon 3 (by kernel_rfl)) rfl
   have e10 := psn ha 6 rfl rfl (hon 6 (by kernel_rfl)) rfl
   replace ha := Am ha
   have B := Am Q_B
   refine value_ (w1 := w') (v := .int .u8 fl) (by rfl) rfl (by go_simp; first | done | exact HFL.out) ?_
   refine hK.out _ _ ⟨g3, m9_, (puk ha 7 hb_ rfl rfl rfl), B.out, fun h0_ h1_ => (Q_Z h0_ h1_), fun h0_ => hof (hoff 10 (by kernel_rfl)) h0_, Q_X9_⟩
  refine sc rfl ?_ ?_
  ·rintro b a w' ⟨g3, m9_, ha, Q_B, Q_Z, Q_Z2, Q_X9_⟩ hb_ hon hoff K hK
   have e5 := psn ha 1 rfl rfl (hon 1 (by kernel_rfl)) rfl
   have e11 := psn ha 7 rfl rfl (hon 7 (by kernel_rfl)) rfl
   replace ha := Am ha
   refine value_ (w1 := w') (v := .agg (#[.int .u8 (11), .int .u8 (fl), .int .u32 0, .int .u16 0, .int .u16 0, .int .u32 0, .int .u32 0, .int .u32 0, .int .u16 0, .int .u16 0, .slice none 0 0, .slice none 0 0, .slice none 0 0, .slice none 0 0, .slice none 0 0])) (by rfl) rfl ?_ ?_
   ·go_simp
    (try simp only [i64_w])
    try rfl
   refine hK.out _ _ ⟨g3, m9_, (puk ha 8 hb_ rfl rfl rfl), Q_B, Q_Z, fun h0_ => hof (hoff 10 (by kernel_rfl)) h0_, Q_X9_⟩
  refine sc rfl ?_ ?_
  ·rintro b a w' ⟨g3, m9_, ha, Q_B, Q_Z, Q_Z2, Q_X9_⟩ hb_ hon hoff K hK
   replace ha := Am ha
   have B := Am Q_B
   refine value_ (w1 := w'.alloc (.cells #[.int .u8 0, .int .u8 0, .int .u32 0, .int .u16 0, .int .u16 0, .int .u32 0, .int .u32 0, .int .u32 0, .int .u16 0, .int .u16 0, .slice none 0 0, .slice none 0 0, .slice none 0 0, .slice none 0 0, .slice none 0 0] 41)) (v := .pointer (some ⟨w'.heap.size, 0, none⟩)) (by rfl) rfl (by go_simp; try rfl) ?_
   refine hK.out _ _ ⟨w'.heap.size, (.pointer (some ⟨w'.heap.size, 0, none⟩)), (puk ha 9 hb_ rfl rfl rfl), B.out.alloc B.out.size _, fun _ _ => ⟨blk_new _ _, B.out.size⟩, fun h0_ => hof (hoff 10 (by kernel_rfl)) h0_, fun _ => rfl⟩
  refine sc rfl ?_ ?_
  ·rintro b a w' ⟨g3, m9_, ha, Q_B, Q_Z, Q_Z2, Q_X9_⟩ hb_ hon hoff K hK
   have e3 := psn ha 9 rfl rfl (hon 9 (by kernel_rfl)) rfl
   rw [Q_X9_ (hon 9 (by kernel_rfl))] at e3
   have e12 := psn ha 8 rfl rfl (hon 8 (by kernel_rfl)) rfl
   replace ha := Am ha
   have B := Am Q_B
   have Z := Am (Q_Z (hon 9 (by kernel_rfl)) hb_)
   refine skip_ (w1 := w'.setRow g3 (#[.int .u8 (11), .int .u8 (fl), .int .u32 0, .int .u16 0, .int .u16 0, .int .u32 0, .int .u32 0, .int .u32 0, .int .u16 0, .int .u16 0, .slice none 0 0, .slice none 0 0, .slice none 0 0, .slice none 0 0, .slice none 0 0])) (by rfl) rfl (exec_store_row 41 (.tmp 3) (.tmp 12) rfl (eval_of e3) (eval_of e12) Z.out.1 (by kernel_rfl) rfl (by simp [Value.oneCell'])) ?_
   refine hK.out _ _ ⟨g3, m9_, (by rw [ha.out]; exact putSel_none (v := undef) rfl), below_setRow B.out Z.out.2 _, fun _ h1_ => absurd ((up_self b 10).symm.trans h1_) (by decide), fun _ => ⟨setRow_heap _ _ _ _ _ _ Z.out.1, Z.out.2⟩, Q_X9_⟩
  exact steps_nil
 rintro b a w' hall ⟨g3, m9_, ha, Q_B, Q_Z, Q_Z2, Q_X9_⟩
 clear B
 have hb0_ := hall 0 (by kernel_rfl)
 have hb1_ := hall 1 (by kernel_rfl)
 have hb2_ := hall 2 (by kernel_rfl)
 have hb3_ := hall 3 (by kernel_rfl)
 have hb4_ := hall 4 (by kernel_rfl)
 have hb5_ := hall 5 (by kernel_rfl)
 have hb6_ := hall 6 (by kernel_rfl)
 have hb7_ := hall 7 (by kernel_rfl)
 have hb8_ := hall 8 (by kernel_rfl)
 have hb9_ := hall 9 (by kernel_rfl)
 have hb10_ := hall 10 (by kernel_rfl)
 subst ha
 obtain rfl := Q_X9_ hb9_
 simp only [putSel, hb0_, hb1_, hb2_, hb3_, hb4_, hb5_, hb6_, hb7_, hb8_, hb9_, hb10_, if_true, Act.put, List.setIfInBounds_toArray, List.set_cons_zero, List.set_cons_succ]
 have B := Am Q_B
 clear Q_B
 clear Q_Z
 have Z2 := Am (Q_Z2 hb10_)
 clear Q_Z2
 clear hall hb0_ hb1_ hb2_ hb3_ hb4_ hb5_ hb6_ hb7_ hb8_ hb9_ hb10_
 replace X : By w (CV ⟨11, f1, f2, f3, f4, f5, f6, f7, f8, f9, f10, f11, f12, f13, f14⟩ ⟨A10, c10, A11, c11, A12, c12, A13, c13, A14, c14⟩) (#[.int .u8 (11), .int .u8 (fl), .int .u32 0, .int .u16 0, .int .u16 0, .int .u32 0, .int .u32 0, .int .u32 0, .int .u16 0, .int .u16 0, .slice none 0 0, .slice none 0 0, .slice none 0 0, .slice none 0 0, .slice none 0 0]) g3 w' := ⟨X.below B.out, Z2.out.1, Nat.le_trans X.x3 Z2.out.2⟩
 replace U0 := Lh (pw_cell_below B.out U0.out)
 replace U1 := Lh (pw_cell_below B.out U1.out)
 replace U2 := Lh (pw_cell_below B.out U2.out)
 replace U3 := Lh (pw_cell_below B.out U3.out)
 replace U4 := Lh (pw_cell_below B.out U4.out)
 replace U5 := Lh (pw_cell_below B.out U5.out)
 replace U6 := Lh (pw_cell_below B.out U6.out)
 replace U7 := Lh (pw_cell_below B.out U7.out)
 replace U8 := Lh (pw_cell_below B.out U8.out)
 replace U9 := Lh (pw_cell_below B.out U9.out)
 replace U10 := Lh (pw_cell_below B.out U10.out)
 replace U11 := Lh (pw_cell_below B.out U11.out)
 replace U12 := Lh (pw_cell_below B.out U12.out)
 replace U13 := Lh (pw_cell_below B.out U13.out)
 replace U14 := Lh (pw_cell_below B.out U14.out)
 clear B Z2 HFL
 generalize w' = W at *
 have HN := Lh (show ¬ w.heap.size = g3 by have := X.hg; omega)
 have k0 := U0.out
 go_wp2_with (with_reducible refine gate_dst (N := 93) rfl ?_; go_must (refine wpList_ret_row 93 rfl rfl rfl (.tmp 3) (.tmp 2) rfl rfl rfl _ _ _ _ rfl rfl rfl X.x3 X.bx.x1 rfl rfl (by simp [Value.oneCell']) ?_))
 exact row_end rfl rfl rfl X.bx.x1 rfl X.bx.x2 (Nat.le_succ _) (by rw [← HFE.out]; rfl)
end Go.Proofs.YtdlamomabonkjaaDoor.Ch
end
section
namespace Go.Proofs.YtdlamomabonkjaaDoor.Ch
open Go.RowKit YtdlamomabonkjaaDoorW.PrintWords YtdlamomabonkjaaDoorW.PrintLast Base PCh ParDec ParEnc
set_option maxHeartbeats 4000000 in
theorem check_with (w : World) (x : Chk) (L : Lay) (hx : CR w x L) (hv : ValOk x L)
  (hbr : ∀ W, Below w.heap.size w W → Calls Tryd.prog 71 #[.agg (CV x L)] W fun e w' => e = .returned (.agg (CV (bareD x) (keepL (hasF x.f0) L))) ∧ Below W.heap.size W w')
  (hsm : ∀ W, Below w.heap.size w W → Calls Tryd.prog 38 #[.agg (CV x L), .agg (CV (bareD x) (keepL (hasF x.f0) L))] W fun e w' => e = .returned (.bool (decide (x = bareD x))) ∧ Below W.heap.size W w')
  (hen : ∀ W, Below w.heap.size w W → Calls Tryd.prog 74 #[.slice L.A14 x.f14.length L.c14] W fun e w' => ∃ v0 : Value, e = .returned (.tuple #[v0, .int .i64 (encP x.f14).2]) ∧ Kd.R (Kd.int .u8) 5 w' W.heap.size (fun _ => True) v0 (encP x.f14).1 ∧ Below W.heap.size W w') :
  Calls Tryd.prog 46 #[.agg (CV x L)] w fun e w' => e = .returned (.int .i64 (checkD x)) ∧ Below w.heap.size w w' := by
 have HBR := Lh hbr
 have HSM := Lh hsm
 have HEN := Lh hen
 have HXC := Lh (fun (W : World) (h : Below w.heap.size w W) => hx.below h)
 have HXS := Lh (show (Tryd.prog.info? 41).map (·.size) = some (CV x L).size by kernel_rfl)
 have HM13 := Lh hx.h13.2.1
 obtain ⟨CD, hcd⟩ : ∃ CD, checkD x = CD := ⟨_, rfl⟩
 have HCD := Lh hcd
 rw [hcd]
 have X := B1.new w x L
 clear hx hcd hbr hsm hen
 go_enter Tryd.func46, Tryd.ntmps46
 go_upto_region 1 with (fail)
 refine wp_gen (B1 w x L) X ?_
 clear X
 intro W X
 obtain ⟨q, hq⟩ : ∃ q, decide (x = bareD x) = q := ⟨_, rfl⟩
 rw [hq] at HSM
 have HQ := Lh hq
 clear hq
 have HX0 := Lh X
 have B := True.intro
 refine start_ (n := 6) (S := fun w' => True) (ds := []) #[false, false, false, false, false, false] (by kernel_rfl) rfl rfl trivial (fun hHeld => ?_)
 refine with_tabW checktab1 checkbits1 (fun HT_ HW_ => ?_)
 refine inv_at [0, 1, 2, 3, 4, 5] (fun a0_ b a w' => a = putSel a0_ b [(0, 6, .agg (CV x L)), (1, 7, .agg (CV x L)), (2, 8, .agg (CV (bareD x) (keepL (hasF x.f0) L))), (3, 9, .bool q), (4, 10, .bool (!q)), (5, 5, .bool (!q))] ∧ (Below W.heap.size W w')) HT_.out HW_.out (by kernel_rfl) (by kernel_rfl) ?_ ?_ ?_
 ·exact ⟨by simp only [putSel, Bool.false_eq_true, if_false], below_drew (Below.refl _ _)⟩
 ·skip
  clear B
  refine sc rfl ?_ ?_
  ·rintro b a w' ⟨ha, Q_B⟩ hb_ hon hoff K hK
   have e1 : a.tmps[1]? = some (.pointer (some ⟨w.heap.size, 0, none⟩)) := by rw [ha]; exact (putSel_off rfl).trans rfl
   replace ha := Am ha
   have B := Am Q_B
   refine value_ (w1 := w') (v := .agg (CV x L)) (by rfl) rfl (exec_load_row 41 (.tmp 1) rfl (eval_of e1) (blk_below HX0.out.x0 B.out) Tryd.underlying41 rfl HXS.out) ?_
   refine hK.out _ _ ⟨(puk ha 0 hb_ rfl rfl rfl), B.out⟩
  refine sc rfl ?_ ?_
  ·rintro b a w' ⟨ha, Q_B⟩ hb_ hon hoff K hK
   have e1 : a.tmps[1]? = some (.pointer (some ⟨w.heap.size, 0, none⟩)) := by rw [ha]; exact (putSel_off rfl).trans rfl
   replace ha := Am ha
   have B := Am Q_B
   refine value_ (w1 := w') (v := .agg (CV x L)) (by rfl) rfl (exec_load_row 41 (.tmp 1) rfl (eval_of e1) (blk_below HX0.out.x0 B.out) Tryd.underlying41 rfl HXS.out) ?_
   refine hK.out _ _ ⟨(puk ha 1 hb_ rfl rfl rfl), B.out⟩
  refine sc rfl ?_ ?_
  ·rintro b a w' ⟨ha, Q_B⟩ hb_ hon hoff K hK
   have e7 := psn ha 1 rfl rfl (hon 1 (by kernel_rfl)) rfl
   replace ha := Am ha
   have B := Am Q_B
   refine goes_ Tryd.func71 (by kernel_rfl) rfl #[.agg (CV x L)] (by rfl) rfl rfl (by first | (simp only [List.map_toArray, List.map_cons, List.map_nil, Act.eval, Array.getD_eq_getD_getElem?, Option.getD_some, e7]; done) | (simp only [List.map_toArray, List.map_cons, List.map_nil, Act.eval, Array.getD_eq_getD_getElem?, Option.getD_some, e7]; rfl)) ?_
   refine (HBR.out w' (HX0.out.below B.out).x2).mono ?_
   rintro e w1 ⟨rfl, hB1⟩
   refine ⟨_, rfl, ?_⟩
   refine hK.out _ _ ⟨(puk ha 2 hb_ rfl rfl rfl), B.out.trans (hB1.mono B.out.size)⟩
  refine sc rfl ?_ ?_
  ·rintro b a w' ⟨ha, Q_B⟩ hb_ hon hoff K hK
   have e6 := psn ha 0 rfl rfl (hon 0 (by kernel_rfl)) rfl
   have e8 := psn ha 2 rfl rfl (hon 2 (by kernel_rfl)) rfl
   replace ha := Am ha
   have B := Am Q_B
   refine goes_ Tryd.func38 (by kernel_rfl) rfl #[.agg (CV x L), .agg (CV (bareD x) (keepL (hasF x.f0) L))] (by rfl) rfl rfl (by first | (simp only [List.map_toArray, List.map_cons, List.map_nil, Act.eval, Array.getD_eq_getD_getElem?, Option.getD_some, e6, e8]; done) | (simp only [List.map_toArray, List.map_cons, List.map_nil, Act.eval, Array.getD_eq_getD_getElem?, Option.getD_some, e6, e8]; rfl)) ?_
   refine (HSM.out w' (HX0.out.below B.out).x2).mono ?_
   rintro e w1 ⟨rfl, hB1⟩
   refine ⟨_, rfl, ?_⟩
   refine hK.out _ _ ⟨(puk ha 3 hb_ rfl rfl rfl), B.out.trans (hB1.mono B.out.size)⟩
  refine sc rfl ?_ ?_
  ·rintro b a w' ⟨ha, Q_B⟩ hb_ hon hoff K hK
   have e9 := psn ha 3 rfl rfl (hon 3 (by kernel_rfl)) rfl
   replace ha := Am ha
   refine value_ (w1 := w') (v := .bool (!q)) (by rfl) rfl ?_ ?_
   ·go_simp
    (try simp only [i64_w])
    try rfl
   refine hK.out _ _ ⟨(puk ha 4 hb_ rfl rfl rfl), Q_B⟩
  refine sc rfl ?_ ?_
  ·rintro b a w' ⟨ha, Q_B⟩ hb_ hon hoff K hK
   have e10 := psn ha 4 rfl rfl (hon 4 (by kernel_rfl)) rfl
   replace ha := Am ha
   refine value_ (w1 := w') (v := .bool (!q)) (by rfl) rfl ?_ ?_
   ·go_simp
    (try simp only [i64_w])
    try rfl
   refine hK.out _ _ ⟨(puk ha 5 hb_ rfl rfl rfl), Q_B⟩
  exact steps_nil
 rintro b a w' hall ⟨ha, Q_B⟩
 clear B
 have hb0_ := hall 0 (by kernel_rfl)
 have hb1_ := hall 1 (by kernel_rfl)
 have hb2_ := hall 2 (by kernel_rfl)
 have hb3_ := hall 3 (by kernel_rfl)
 have hb4_ := hall 4 (by kernel_rfl)
 have hb5_ := hall 5 (by kernel_rfl)
 subst ha
 simp only [putSel, hb0_, hb1_, hb2_, hb3_, hb4_, hb5_, if_true, Act.put, List.setIfInBounds_toArray, List.set_cons_zero, List.set_cons_succ]
 have B := Am Q_B
 clear Q_B
 clear hall hb0_ hb1_ hb2_ hb3_ hb4_ hb5_
 replace X := X.below B.out
 clear B HBR HSM HX0
 generalize w' = W at *
 cases q with
 | false =>
  have hC : CD = 63 := by rw [← HCD.out]; unfold checkD; rw [if_pos HQ.out]
  subst hC
  go_wp2
  go_ret
  exact ⟨rfl, X.x2⟩
 | true =>
 have HXE := Lh (show x = bareD x from of_decide_eq_true HQ.out)
 have n1 : ¬ decide (x = bareD x) = false := by rw [HQ.out]; decide
 have hcd := HCD.out
 unfold checkD at hcd
 rw [if_neg n1] at hcd
 clear n1 HCD
 have k0 : W.cell? ⟨w.heap.size, 0, none⟩ = some (.int .u8 x.f0) := X.cell 0
 have k10 : W.cell? ⟨w.heap.size, 10, none⟩ = some (.slice L.A10 x.f10.length L.c10) := X.cell 10
 have k11 : W.cell? ⟨w.heap.size, 11, none⟩ = some (.slice L.A11 x.f11.length L.c11) := X.cell 11
 have k12 : W.cell? ⟨w.heap.size, 12, none⟩ = some (.slice L.A12 x.f12.length L.c12) := X.cell 12
 have k13 : W.cell? ⟨w.heap.size, 13, none⟩ = some (.slice L.A13 x.f13.length L.c13) := X.cell 13
 have k14 : W.cell? ⟨w.heap.size, 14, none⟩ = some (.slice L.A14 x.f14.length L.c14) := X.cell 14
 by_cases h62 : x.f0 = 0 ∧ x.f13.length = 0
 ·rw [if_pos h62] at hcd
  have q0 : (x.f0 == 0) = true := by simp [h62.1]
  have q13 : ((x.f13.length : Int) == 0) = true := by rw [h62.2]; rfl
  subst hcd
  clear h62
  go_wp2
  go_ret
  exact ⟨rfl, X.x2⟩
 rw [if_neg h62] at hcd
 have hbt : beatB x.f14 = true ∨ beatB x.f14 = false := by cases beatB x.f14 <;> simp
 by_cases h61 : (x.f0 = 4 ∨ x.f0 = 5) ∧ beatB x.f14 = false
 ·rw [if_pos h61] at hcd
  have q0 : (x.f0 == 0) = false := by simp; omega
  have HBT := Lh (fun (W' : World) (h : Below w.heap.size w W') => chunk_beat.calls x.f0 x.f1 x.f2 x.f3 x.f4 x.f5 x.f6 x.f7 x.f8 x.f9 L.A10 L.c10 x.f10 L.A11 L.c11 x.f11 L.A12 L.c12 x.f12 L.A13 L.c13 x.f13 L.A14 L.c14 x.f14 false W' (HXC.out W' h).h10 (HXC.out W' h).l10 (HXC.out W' h).h11 (HXC.out W' h).l11 (HXC.out W' h).h12 (HXC.out W' h).l12 (HXC.out W' h).h13 (HXC.out W' h).l13 (HXC.out W' h).h14 (HXC.out W' h).l14 (by rw [beat_f, h61.2]))
  have HIB := Lh (fun W' => isBeat_calls x.f0 W')
  rw [decide_eq_true h61.1] at HIB
  subst hcd
  clear h61 h62 hbt
  go_wp2_with fail
  refine (HIB.out _).mono ?_
  rintro e w2 ⟨rfl, ⟨m2, rfl⟩⟩
  replace X := X.drewN m2
  go_wp2_with (with_reducible refine gate_dst (N := 26) rfl ?_; go_must (refine step_on (wanted_on rfl rfl rfl rfl) (exec_load_row 41 (.tmp 1) rfl rfl X.x0 Tryd.underlying41 rfl HXS.out) ?_))
  refine (HBT.out _ X.x2).mono ?_
  rintro e w2 ⟨rfl, hB2⟩
  replace X := X.below hB2
  go_wp2
  go_ret
  exact ⟨rfl, X.x2⟩
 rw [if_neg h61] at hcd
 have HCD := Lh hcd
 clear hcd
 have hvar : (x.f0 = 0 ∧ ¬ x.f13.length = 0) ∨ (¬ x.f0 = 0 ∧ ¬ (x.f0 = 4 ∨ x.f0 = 5)) ∨ (¬ x.f0 = 0 ∧ (x.f0 = 4 ∨ x.f0 = 5) ∧ beatB x.f14 = true) := by
  by_cases a0 : x.f0 = 0
  ·exact Or.inl ⟨a0, fun e => h62 ⟨a0, e⟩⟩
  ·by_cases a4 : x.f0 = 4 ∨ x.f0 = 5
   ·exact Or.inr (Or.inr ⟨a0, a4, hbt.elim id (fun e => absurd ⟨a4, e⟩ h61)⟩)
   ·exact Or.inr (Or.inl ⟨a0, a4⟩)
 clear h61 h62 hbt
 rcases hvar with ⟨a0, a13⟩ | ⟨a0, a4⟩ | ⟨a0, a4, hbt⟩
 ·have HIB := Lh (fun W' => isBeat_calls x.f0 W')
  rw [decide_eq_false (by omega)] at HIB
  have q0 : (x.f0 == 0) = true := by simp [a0]
  have q13 : ((x.f13.length : Int) == 0) = false := by rw [beq_eq_false_iff_ne]; omega
  clear a0 a13
  go_wp2_with fail
  refine (HIB.out _).mono ?_
  rintro e w2 ⟨rfl, ⟨m2, rfl⟩⟩
  replace X := X.drewN m2
  go_upto_region 7 with (fail)
  refine wp_gen (B1 w x L) X ?_
  clear X k0 k10 k11 k12 k13 k14 q0 q13 HIB
  intro W X
  have k10 : W.cell? ⟨w.heap.size, 10, none⟩ = some (.slice L.A10 x.f10.length L.c10) := X.cell 10
  have k11 : W.cell? ⟨w.heap.size, 11, none⟩ = some (.slice L.A11 x.f11.length L.c11) := X.cell 11
  have k12 : W.cell? ⟨w.heap.size, 12, none⟩ = some (.slice L.A12 x.f12.length L.c12) := X.cell 12
  have k14 : W.cell? ⟨w.heap.size, 14, none⟩ = some (.slice L.A14 x.f14.length L.c14) := X.cell 14
  by_cases hm : 4096 < x.f10.length ∨ 4096 < x.f11.length ∨ 4096 < x.f12.length
  ·have hc := HCD.out
   rw [if_pos hm] at hc
   subst hc
   go_wp2
   all_goals first | (exfalso; omega) | (go_ret; exact ⟨rfl, X.x2⟩)
  have b10 : decide ((4096 : Int) < (x.f10.length : Int)) = false := by simp; omega
  have b11 : decide ((4096 : Int) < (x.f11.length : Int)) = false := by simp; omega
  have b12 : decide ((4096 : Int) < (x.f12.length : Int)) = false := by simp; omega
  have HCE := Lh HCD.out
  rw [if_neg hm] at HCE
  have l10 : x.f10.length ≤ 4096 := by omega
  have l11 : x.f11.length ≤ 4096 := by omega
  have l12 : x.f12.length ≤ 4096 := by omega
  have HEW := Lh (HEN.out W X.x2)
  by_cases he : (encP x.f14).2 = 0
  ·have HVL := Lh (fun (W' : World) (h : Below w.heap.size w W') => hv W' (HXC.out W' h) HXE.out l10 l11 l12 he)
   rw [if_neg (fun e => e he)] at HCE
   rw [he] at HEW
   clear hm he
   unfold ValP at HVL
   go_wp2_with fail
   refine HEW.out.mono ?_
   rintro e w3 ⟨v0, rfl, hR, hB3⟩
   obtain ⟨A0, c0, rfl⟩ := Kd.R_slice hR
   replace X := X.below hB3
   clear hR hB3 k10 k11 k12 k14
   go_wp2_with (with_reducible refine gate_dst (N := 52) rfl ?_; refine wpList_load_row rfl 41 (.tmp 1) rfl _ rfl 41 _ (0, 0) _ X.x0 Tryd.underlying41 rfl HXS.out ?_)
   refine (HVL.out _ X.x2).mono ?_
   rintro e w5 ⟨A9, c9, rfl, hle9, hC9, hB5⟩
   replace X := X.below hB5
   clear hC9 hB5 hle9
   generalize (valueD x).length = vl at *
   by_cases h2 : 65531 < vl
   ·have hc := HCE.out
    rw [if_pos h2] at hc
    subst hc
    go_wp2
    go_ret
    exact ⟨rfl, X.x2⟩
   ·have hc := HCE.out
    rw [if_neg h2] at hc
    subst hc
    go_wp2
    go_ret
    exact ⟨rfl, X.x2⟩
  ·have hc := HCE.out
   rw [if_pos he] at hc
   rw [hc] at HEW he
   have q : (CD != 0) = true := by simp [he]
   clear hm he hc
   go_wp2_with fail
   refine HEW.out.mono ?_
   rintro e w3 ⟨v0, rfl, hR, hB3⟩
   obtain ⟨A0, c0, rfl⟩ := Kd.R_slice hR
   replace X := X.below hB3
   clear hR hB3 k10 k11 k12 k14
   go_wp2
   go_ret
   exact ⟨rfl, X.x2⟩
 ·have HIB := Lh (fun W' => isBeat_calls x.f0 W')
  rw [decide_eq_false a4] at HIB
  have q0 : (x.f0 == 0) = false := by simp [a0]
  clear a0 a4
  go_wp2_with fail
  refine (HIB.out _).mono ?_
  rintro e w2 ⟨rfl, ⟨m2, rfl⟩⟩
  replace X := X.drewN m2
  go_upto_region 7 with (fail)
  refine wp_gen (B1 w x L) X ?_
  clear X k0 k10 k11 k12 k13 k14 q0 HIB
  intro W X
  have k10 : W.cell? ⟨w.heap.size, 10, none⟩ = some (.slice L.A10 x.f10.length L.c10) := X.cell 10
  have k11 : W.cell? ⟨w.heap.size, 11, none⟩ = some (.slice L.A11 x.f11.length L.c11) := X.cell 11
  have k12 : W.cell? ⟨w.heap.size, 12, none⟩ = some (.slice L.A12 x.f12.length L.c12) := X.cell 12
  have k14 : W.cell? ⟨w.heap.size, 14, none⟩ = some (.slice L.A14 x.f14.length L.c14) := X.cell 14
  by_cases hm : 4096 < x.f10.length ∨ 4096 < x.f11.length ∨ 4096 < x.f12.length
  ·have hc := HCD.out
   rw [if_pos hm] at hc
   subst hc
   go_wp2
   all_goals first | (exfalso; omega) | (go_ret; exact ⟨rfl, X.x2⟩)
  have b10 : decide ((4096 : Int) < (x.f10.length : Int)) = false := by simp; omega
  have b11 : decide ((4096 : Int) < (x.f11.length : Int)) = false := by simp; omega
  have b12 : decide ((4096 : Int) < (x.f12.length : Int)) = false := by simp; omega
  have HCE := Lh HCD.out
  rw [if_neg hm] at HCE
  have l10 : x.f10.length ≤ 4096 := by omega
  have l11 : x.f11.length ≤ 4096 := by omega
  have l12 : x.f12.length ≤ 4096 := by omega
  have HEW := Lh (HEN.out W X.x2)
  by_cases he : (encP x.f14).2 = 0
  ·have HVL := Lh (fun (W' : World) (h : Below w.heap.size w W') => hv W' (HXC.out W' h) HXE.out l10 l11 l12 he)
   rw [if_neg (fun e => e he)] at HCE
   rw [he] at HEW
   clear hm he
   unfold ValP at HVL
   go_wp2_with fail
   refine HEW.out.mono ?_
   rintro e w3 ⟨v0, rfl, hR, hB3⟩
   obtain ⟨A0, c0, rfl⟩ := Kd.R_slice hR
   replace X := X.below hB3
   clear hR hB3 k10 k11 k12 k14
   go_wp2_with (with_reducible refine gate_dst (N := 52) rfl ?_; refine wpList_load_row rfl 41 (.tmp 1) rfl _ rfl 41 _ (0, 0) _ X.x0 Tryd.underlying41 rfl HXS.out ?_)
   refine (HVL.out _ X.x2).mono ?_
   rintro e w5 ⟨A9, c9, rfl, hle9, hC9, hB5⟩
   replace X := X.below hB5
   clear hC9 hB5 hle9
   generalize (valueD x).length = vl at *
   by_cases h2 : 65531 < vl
   ·have hc := HCE.out
    rw [if_pos h2] at hc
    subst hc
    go_wp2
    go_ret
    exact ⟨rfl, X.x2⟩
   ·have hc := HCE.out
    rw [if_neg h2] at hc
    subst hc
    go_wp2
    go_ret
    exact ⟨rfl, X.x2⟩
  ·have hc := HCE.out
   rw [if_pos he] at hc
   rw [hc] at HEW he
   have q : (CD != 0) = true := by simp [he]
   clear hm he hc
   go_wp2_with fail
   refine HEW.out.mono ?_
   rintro e w3 ⟨v0, rfl, hR, hB3⟩
   obtain ⟨A0, c0, rfl⟩ := Kd.R_slice hR
   replace X := X.below hB3
   clear hR hB3 k10 k11 k12 k14
   go_wp2
   go_ret
   exact ⟨rfl, X.x2⟩
 ·have HIB := Lh (fun W' => isBeat_calls x.f0 W')
  rw [decide_eq_true a4] at HIB
  have HBT := Lh (fun (W' : World) (h : Below w.heap.size w W') => chunk_beat.calls x.f0 x.f1 x.f2 x.f3 x.f4 x.f5 x.f6 x.f7 x.f8 x.f9 L.A10 L.c10 x.f10 L.A11 L.c11 x.f11 L.A12 L.c12 x.f12 L.A13 L.c13 x.f13 L.A14 L.c14 x.f14 true W' (HXC.out W' h).h10 (HXC.out W' h).l10 (HXC.out W' h).h11 (HXC.out W' h).l11 (HXC.out W' h).h12 (HXC.out W' h).l12 (HXC.out W' h).h13 (HXC.out W' h).l13 (HXC.out W' h).h14 (HXC.out W' h).l14 (by rw [beat_f, hbt]))
  have q0 : (x.f0 == 0) = false := by simp [a0]
  clear a0 a4 hbt
  go_wp2_with fail
  refine (HIB.out _).mono ?_
  rintro e w2 ⟨rfl, ⟨m2, rfl⟩⟩
  replace X := X.drewN m2
  go_wp2_with (with_reducible refine gate_dst (N := 26) rfl ?_; go_must (refine step_on (wanted_on rfl rfl rfl rfl) (exec_load_row 41 (.tmp 1) rfl rfl X.x0 Tryd.underlying41 rfl HXS.out) ?_))
  refine (HBT.out _ X.x2).mono ?_
  rintro e w2 ⟨rfl, hB2⟩
  replace X := X.below hB2
  clear hB2
  go_upto_region 7 with (fail)
  refine wp_gen (B1 w x L) X ?_
  clear X k0 k10 k11 k12 k13 k14 q0 HIB HBT
  intro W X
  have k10 : W.cell? ⟨w.heap.size, 10, none⟩ = some (.slice L.A10 x.f10.length L.c10) := X.cell 10
  have k11 : W.cell? ⟨w.heap.size, 11, none⟩ = some (.slice L.A11 x.f11.length L.c11) := X.cell 11
  have k12 : W.cell? ⟨w.heap.size, 12, none⟩ = some (.slice L.A12 x.f12.length L.c12) := X.cell 12
  have k14 : W.cell? ⟨w.heap.size, 14, none⟩ = some (.slice L.A14 x.f14.length L.c14) := X.cell 14
  by_cases hm : 4096 < x.f10.length ∨ 4096 < x.f11.length ∨ 4096 < x.f12.length
  ·have hc := HCD.out
   rw [if_pos hm] at hc
   subst hc
   go_wp2
   all_goals first | (exfalso; omega) | (go_ret; exact ⟨rfl, X.x2⟩)
  have b10 : decide ((4096 : Int) < (x.f10.length : Int)) = false := by simp; omega
  have b11 : decide ((4096 : Int) < (x.f11.length : Int)) = false := by simp; omega
  have b12 : decide ((4096 : Int) < (x.f12.length : Int)) = false := by simp; omega
  have HCE := Lh HCD.out
  rw [if_neg hm] at HCE
  have l10 : x.f10.length ≤ 4096 := by omega
  have l11 : x.f11.length ≤ 4096 := by omega
  have l12 : x.f12.length ≤ 4096 := by omega
  have HEW := Lh (HEN.out W X.x2)
  by_cases he : (encP x.f14).2 = 0
  ·have HVL := Lh (fun (W' : World) (h : Below w.heap.size w W') => hv W' (HXC.out W' h) HXE.out l10 l11 l12 he)
   rw [if_neg (fun e => e he)] at HCE
   rw [he] at HEW
   clear hm he
   unfold ValP at HVL
   go_wp2_with fail
   refine HEW.out.mono ?_
   rintro e w3 ⟨v0, rfl, hR, hB3⟩
   obtain ⟨A0, c0, rfl⟩ := Kd.R_slice hR
   replace X := X.below hB3
   clear hR hB3 k10 k11 k12 k14
   go_wp2_with (with_reducible refine gate_dst (N := 52) rfl ?_; refine wpList_load_row rfl 41 (.tmp 1) rfl _ rfl 41 _ (0, 0) _ X.x0 Tryd.underlying41 rfl HXS.out ?_)
   refine (HVL.out _ X.x2).mono ?_
   rintro e w5 ⟨A9, c9, rfl, hle9, hC9, hB5⟩
   replace X := X.below hB5
   clear hC9 hB5 hle9
   generalize (valueD x).length = vl at *
   by_cases h2 : 65531 < vl
   ·have hc := HCE.out
    rw [if_pos h2] at hc
    subst hc
    go_wp2
    go_ret
    exact ⟨rfl, X.x2⟩
   ·have hc := HCE.out
    rw [if_neg h2] at hc
    subst hc
    go_wp2
    go_ret
    exact ⟨rfl, X.x2⟩
  ·have hc := HCE.out
   rw [if_pos he] at hc
   rw [hc] at HEW he
   have q : (CD != 0) = true := by simp [he]
   clear hm he hc
   go_wp2_with fail
   refine HEW.out.mono ?_
   rintro e w3 ⟨v0, rfl, hR, hB3⟩
   obtain ⟨A0, c0, rfl⟩ := Kd.R_slice hR
   replace X := X.below hB3
   clear hR hB3 k10 k11 k12 k14
   go_wp2
   go_ret
   exact ⟨rfl, X.x2⟩
end Go.Proofs.YtdlamomabonkjaaDoor.Ch
end
section
namespace Go.Proofs.YtdlamomabonkjaaDoor.Pk
open Go.RowKit YtdlamomabonkjaaDoorW.PrintWords YtdlamomabonkjaaDoorW.PrintLast Base PCh ParDec ParEnc Ch Crc CrcMath
theorem av_bare : bareD avX = avX := by
 unfold bareD
 rw [show flD avX.f0 avX.f1 = 0 from by rfl]
 rfl
theorem av_value : valueD avX = [] := by rfl
theorem av_check : checkD avX = 0 := by
 unfold checkD
 rw [av_bare, if_neg (by simp), if_neg (by simp [avX]), if_neg (by simp [avX]), if_neg (by simp [avX]), if_neg (by simp [avX, encP, runB]), av_value, if_neg (by simp)]
theorem value_av (b0 : Nat) (w : World) (L : Lay) (hb0 : b0 ≤ w.heap.size) :
  Calls Tryd.prog 52 #[.agg (CV avX L)] w (ValQ b0 (valueD avX) w) := by
 rw [av_value]
 have X := VX.new w avX L
 have E0 := Lh (show (CV avX L)[0]? = some (.int .u8 11) from rfl)
 go_enter Tryd.func52, Tryd.ntmps52
 go_upto_region 2 with (fail)
 refine wp_gen (VX w avX L []) X ?_
 clear X
 intro W X
 have k0 : W.cell? ⟨w.heap.size, 0, none⟩ = some (.int .u8 11) := (X.cell 0).trans E0.out
 obtain ⟨u, hg, hR⟩ := X.ws
 obtain ⟨Au, cu, rfl⟩ := Kd.R_slice hR
 have k9 : W.cell? ⟨w.heap.size + 1, 0, none⟩ = some (.slice Au [].length cu) := blk_cell hg 0
 have HR := Lh hR
 have HB := Lh X.bl
 clear hg hR X
 go_wp2
 go_ret
 exact ValQ.of_R HR.out (by omega) HB.out
theorem check_av (w : World) (L : Lay) (hx : CR w avX L) : Calls Tryd.prog 46 #[.agg (CV avX L)] w fun e w' => e = .returned (.int .i64 (checkD avX)) ∧ Below w.heap.size w w' := by
 refine check_with w avX L hx (fun W hW _ _ _ _ _ => (value_av W.heap.size W L (Nat.le_refl _)).mono fun e w' h => h.P) (fun W h => bare_none W avX L (hx.below h) rfl) (fun W h => ?_) (fun W h => ?_)
 ·rw [av_bare, decide_eq_true rfl]
  exact same_av W L _
 ·refine (enc_none W L.A14 L.c14).mono ?_
  rintro e w' ⟨rfl, hB⟩
  exact ⟨_, rfl, Kd.R_nil _ _ _ _ _, hB⟩
theorem encode_av (w : World) (A : Option Addr) (c : Nat) (hC : Kd.C k41 w A [avX].length [avX]) :
  Calls Tryd.prog 28 #[.slice A [avX].length c] w fun e w' => ∃ v, e = .returned (.tuple #[v, .int .i64 (encD [avX]).2]) ∧ (Kd.int .u8).R 5 w' w.heap.size (fun _ => True) v (encD [avX]).1 ∧ Below w.heap.size w w' :=
 encode_chunks w A c [avX] hC (fun x hx W L hW => by
  obtain rfl := List.mem_singleton.1 hx
  exact check_av W L hW) (fun x hx _ W L hb hW => by
  obtain rfl := List.mem_singleton.1 hx
  exact value_av w.heap.size W L hb)
end Go.Proofs.YtdlamomabonkjaaDoor.Pk
end
section
namespace Go.Proofs.YtdlamomabonkjaaDoor.Pk
open Go.RowKit YtdlamomabonkjaaDoorW.PrintWords YtdlamomabonkjaaDoorW.PrintLast Base PCh ParDec ParEnc Ch Crc CrcMath
def avL : Lay := ⟨none, 0, none, 0, none, 0, none, 0, none, 0⟩
theorem av_enc : encD [avX] = ([11, 0, 0, 4], 0) := by
 unfold encD chkAll
 rw [if_pos av_check, chkAll, if_pos rfl, runE]
 have h : [] ++ chunkL avX = [11, 0, 0, 4] := by
  unfold chunkL
  rw [av_value]
  rfl
 rw [h, if_neg (by decide), runE]
theorem av_ok : OkC avX := ⟨(show 0 ≤ (11 : Int) ∧ (11 : Int) < 256 by omega), (show 0 ≤ (0 : Int) ∧ (0 : Int) < 256 by omega), z32, z16, z16, z32, z32, z32, z16, z16, nog, nog, noi, noi, nop, by decide⟩
theorem av_pk : PkOk 1 2 3 [avX] := ⟨by decide, by decide, by decide, by decide, by unfold in32; omega, fun x hx => by rw [List.mem_singleton.1 hx]; exact av_ok⟩
theorem av_penc : pencD 1 2 3 [avX] = (putL (bytesOf (headL 1 2 3 ++ [11, 0, 0, 4])), 0) := by
 have h := penc_ok (f := 1) (t := 2) (q := 3) (l := [avX]) (by decide) (by decide) (by decide) rfl (by rw [av_enc]) (by rw [av_enc]; decide)
 rw [av_enc] at h
 exact h
theorem av_len : (pencD 1 2 3 [avX]).1.length = 16 := by
 rw [av_penc]
 show (putL _).length = 16
 rw [putL_length]
 rfl
theorem av_12 : (pencD 1 2 3 [avX]).1.getD 12 0 = 11 := by
 have h : ∀ l : List UInt8, l.getD 12 0 = (l.drop 12).getD 0 0 := fun l => by simp [List.getD_eq_getElem?_getD, List.getElem?_drop]
 rw [h, av_penc]
 show ((putL _).drop 12).getD 0 0 = 11
 rw [(put_take _ (by decide)).2]
 rfl
theorem av_back : preadD (pencD 1 2 3 [avX]).1 true = ⟨1, 2, 3, [avX], 0, 0⟩ := (pback av_pk (by rw [av_penc])).1
theorem CR_av (w : World) : CR w avX avL := ⟨Nat.le_refl _, Kd.C_nil _ _, Nat.le_refl _, Kd.C_nil _ _, Nat.le_refl _, Kd.C_nil _ _, Nat.le_refl _, Kd.C_nil _ _, Nat.le_refl _, Kd.C_nil _ _⟩
theorem av_drop : (pencD 1 2 3 [avX]).1.drop 12 = [11, 0, 0, 4] := by
 rw [av_penc]
 show (putL _).drop 12 = _
 rw [(put_take _ (by decide)).2]
 rfl
theorem av_all : AllOk ((pencD 1 2 3 [avX]).1.drop 12) := by
 rw [av_drop]
 intro W A c hb hc hv
 refine all_with W A [11, 0, 0, 4] c hb hc hv fun at_ W B d hlt hB hd => decC_with W B (([11, 0, 0, 4] : List UInt8).drop at_) d hB hd (by rw [List.length_drop]; simp; omega) ?_
 intro h4 kd fl v hk hv2 w0 w g gc j1 j2 j3 j4 j5 j6 j7
 have ha : at_ = 0 := by
  rw [List.length_drop] at h4
  simp at h4
  omega
 subst ha
 obtain rfl : kd = 11 := hk.symm
 exact read_none w0 w g gc v 11 fl j1 j2 j3 j4 j5 j6 j7 (Or.inr (Or.inl rfl))
set_option maxHeartbeats 4000000 in
theorem alive_calls (w : World) (hT : Table w) : Calls Tryd.prog 11 #[] w fun e w' => e = .returned (.bool true) ∧ Below w.heap.size w w' := by
 have HT := Lh (fun (W : World) (h : Below w.heap.size w W) => hT.below h)
 have HE := Lh (fun (W : World) (h : Below w.heap.size w W) (g : Nat) (hb : W.heap[g]? = some (.cells (CV avX avL) 41 (0, 0))) => pencode_with W 1 2 3 (some ⟨g, 0, none⟩) 1 [avX] (hT.below h) (chk_row1 hb (CR_av W)) (by decide) (fun W' h' => encode_av W' _ 1 (Kd.C_below (chk_row1 hb (CR_av W)) h')) (enc_in av_pk.ok) (fun _ => by rw [av_enc]; decide))
 have HD := Lh (fun (W : World) (h : Below w.heap.size w W) (A : Option Addr) (c : Nat) (hb : byte.C W A (pencD 1 2 3 [avX]).1.length (pencD 1 2 3 [avX]).1) (hc : (pencD 1 2 3 [avX]).1.length ≤ c) => pdecode_with W A (pencD 1 2 3 [avX]).1 c (hT.below h) hb hc (by rw [av_len]; decide) av_all)
 rw [av_back] at HD
 unfold ReadPP at HD
 have HP2 := Lh (show (pencD 1 2 3 [avX]).2 = 0 by rw [av_penc])
 have HPL := Lh av_len
 have HP12 := Lh av_12
 rw [HP2.out] at HE
 generalize (pencD 1 2 3 [avX]).1 = V at *
 clear hT HP2
 obtain ⟨g, hg⟩ : ∃ g, w.heap.size = g := ⟨_, rfl⟩
 have HG := Lh hg
 clear hg
 go_enter Tryd.func11, Tryd.ntmps11
 go_wp2_with fail
 refine (HE.out _ (below_alloc (Below.refl _ _) _) w.heap.size (by first | exact blk_new _ _ | (rw [HG.out]; exact blk_new _ _))).mono ?_
 rintro e W1 ⟨v, rfl, hR, hB1⟩
 obtain ⟨A1, c1, rfl, hle, hC⟩ := Kd.R_reads hR
 have HB1 := Lh (below_then (below_alloc (Below.refl w.heap.size w) _) (by simp) hB1)
 have HDD := Lh (HD.out W1 HB1.out A1 c1 hC hle)
 obtain ⟨ad, rfl, x12⟩ := byte_at hC 12 (by rw [HPL.out]; decide)
 have X12 := Lh (fun (W : World) (h : Below W1.heap.size W1 W) => (show W.cell? ⟨ad.block, ad.off + 12, none⟩ = some (.int .u8 11) by
  have h1 := pw_cell_below h x12
  rw [HP12.out, show ad.add 12 = ad.add (0 + 12) from rfl, add_field _ _ 12 (by omega)] at h1
  exact h1))
 rw [HPL.out] at HDD ⊢
 clear hR hB1 hC hle x12 HE HD HPL HP12
 go_wp2_with fail
 refine HDD.out.mono ?_
 rintro e W2 ⟨v2, rfl, hR2, hB2⟩
 obtain ⟨A2, c2, rfl, hle2, hC2⟩ := Kd.R_reads hR2
 obtain ⟨ad2, x2, L2, rfl, hd2, _, hc2, hx2⟩ := chk_at hC2 0 (by decide)
 obtain rfl : x2 = avX := by
  have h : ([avX] : List Chk) = x2 :: [] := hd2
  exact (List.cons.inj h).1.symm
 have HB2 := Lh (below_then HB1.out HB1.out.size hB2)
 have XC := Lh (fun (W : World) (h : Below W2.heap.size W2 W) => (show W.cell? ad2 = some (.int .u8 11) from by
  have h1 := pw_cell_below h (hc2 0 _ rfl)
  rw [Nat.zero_mul] at h1
  have h0 : ∀ a : Addr, (a.add 0).add 0 = a := fun a => by
   rw [show a.add 0 = a from rfl]
   rfl
  rw [h0] at h1
  exact h1))
 have X13 := Lh (fun (W : World) (h : Below W2.heap.size W2 W) => X12.out W (below_then hB2 hB2.size h))
 clear hR2 hB2 hC2 hle2 hd2 hc2 hx2 X12 HDD
 obtain ⟨g2, hg2⟩ : ∃ g, W2.heap.size = g := ⟨_, rfl⟩
 have HG2 := Lh hg2
 clear hg2
 go_upto_region 5 with (fail)
 refine wp_gen (fun W => W.heap[W2.heap.size]? = some (.cells #[.int .u16 1, .int .u16 2, .int .u32 3, .slice (some ad2) 1 c2] 26 (0, 0)) ∧ Below W2.heap.size W2 W) ⟨by first | exact blk_new _ _ | exact blk_put (blk_new _ _) 0 _ rfl, below_alloc (Below.refl _ _) _⟩ ?_
 rintro W3 ⟨h3, hB3⟩
 rw [HG2.out] at h3 ⊢
 have k2 : W3.cell? ⟨g2, 2, none⟩ = some (.int .u32 3) := blk_cell h3 2
 have k3 : W3.cell? ⟨g2, 3, none⟩ = some (.slice (some ad2) 1 c2) := blk_cell h3 3
 have kc := XC.out W3 hB3
 have kb := X13.out W3 hB3
 have HB3 := Lh (below_then HB2.out HB2.out.size hB3)
 clear h3 hB3 XC X13
 go_wp2
 go_ret
 exact ⟨rfl, HB3.out⟩
end Go.Proofs.YtdlamomabonkjaaDoor.Pk
end
section
namespace Go.Proofs.YtdlamomabonkjaaDoor.Pk
open Go.RowKit YtdlamomabonkjaaDoorW.PrintWords YtdlamomabonkjaaDoorW.PrintLast Base PCh ParDec ParEnc Ch Crc CrcMath
theorem rpself (W : World) (f t q : Int) (A B : Option Addr) (c d : Nat) (l : List Chk) (hl : Kd.C k41 W A l.length l) (hl2 : Kd.C k41 W B l.length l) (ho : ∀ x ∈ l, OkB x) :
  Calls Tryd.prog 14 #[.agg #[.int .u16 f, .int .u16 t, .int .u32 q, .slice A l.length c], .agg #[.int .u16 f, .int .u16 t, .int .u32 q, .slice B l.length d]] W fun e w' => e = .returned (.bool true) ∧ Below W.heap.size W w' := by
 have h := rpsame_calls W f t q f t q A B c d l l hl hl2 ho ho
 rw [show (f == f && t == t && q == q && decide (l = l)) = true by simp] at h
 exact h
theorem pread_okB (b : List UInt8) (wh : Bool) : ∀ x ∈ (preadD b wh).l, OkB x := by
 unfold preadD
 by_cases hh : headE b = 0
 ·rw [if_pos hh]
  by_cases hw : wh = false
  ·rw [if_pos hw]; intro x hx; cases hx
  rw [if_neg hw]
  by_cases hn : (b.drop 12).length = 0
  ·rw [if_pos hn]; intro x hx; cases hx
  rw [if_neg hn]
  by_cases he : (allL (b.drop 12)).2.2 = 0
  ·rw [if_pos he]
   by_cases ha : apartB (allL (b.drop 12)).1 = true
   ·rw [if_pos ha]; intro x hx; cases hx
   rw [if_neg ha]
   exact all_okB (b.drop 12) ((b.drop 12).length + 1) 0 [] (fun x hx => by cases hx)
  ·rw [if_neg he]; intro x hx; cases hx
 ·rw [if_neg hh]; intro x hx; cases hx
theorem pread_head (b : List UInt8) : (preadD b false).l = [] := by
 unfold preadD
 by_cases hh : headE b = 0
 ·rw [if_pos hh]; rfl
 ·rw [if_neg hh]; rfl
end Go.Proofs.YtdlamomabonkjaaDoor.Pk
end
section
namespace Go.Proofs.YtdlamomabonkjaaDoor.Base
open Go.RowKit YtdlamomabonkjaaDoorW.PrintWords YtdlamomabonkjaaDoorW.PrintLast
def updV (vs : Nat → Value) (m : Nat) (v : Value) : Nat → Value := fun j => if j = m then v else vs j
def GvI (C : List Nat) (I : Nat → (Nat → Value) → World → Prop) (L : (Nat → Value) → Sel) (a0 : Act) (b : Nat → Bool) (a : Act) (w : World) : Prop :=
 ∃ (s : Nat) (vs : Nat → Value), s ≤ C.length ∧ (∀ j c, C[j]? = some c → (j < s → b c = true) ∧ (s ≤ j → b c = false)) ∧ a = putSel a0 b (L vs) ∧ I s vs w
def RdL (O B : List Nat) (i : Nat) (L : (Nat → Value) → Sel) (a0 : Act) : List (Tmp × ((Nat → Value) → Value)) → Prop
 | [] => True
 | x :: r => Rd O B i L a0 x.1 x.2 ∧ RdL O B i L a0 r
def Has (a : Act) (vs : Nat → Value) : List (Tmp × ((Nat → Value) → Value)) → Prop
 | [] => True
 | x :: r => a.tmps[x.1]? = some (x.2 vs) ∧ Has a vs r
def Wt (ops : Array Oper) (O B : List Nat) (i : Nat) (L : (Nat → Value) → Sel) (a0 : Act) (oi : Oper) (r : Bool) : Prop :=
 ∀ (b : Nat → Bool) (vs : Nat → Value), (∀ j, (O.contains j && (B.getD i 0).testBit j) = true → b j = true) → (∀ d, (O.contains d && (B.getD d 0).testBit i) = true → b d = false) → Region.wanted oi (yielded ops (putSel a0 b (L vs)).tmps) = r
section
variable {P : Program} {ops : Array Oper} {Q : Exit → Act → World → Prop} {B O C : List Nat} {W : World} {I : Nat → (Nat → Value) → World → Prop} {L : (Nat → Value) → Sel} {a0 : Act} {i : Nat} {p : Tmp} {oi : Oper}
theorem has_of : ∀ {ps : List (Tmp × ((Nat → Value) → Value))}, RdL O B i L a0 ps → ∀ (b : Nat → Bool) (vs : Nat → Value), (∀ j, (O.contains j && (B.getD i 0).testBit j) = true → b j = true) → (∀ d, (O.contains d && (B.getD d 0).testBit i) = true → b d = false) → Has (putSel a0 b (L vs)) vs ps
 | [], _, _, _, _, _ => trivial
 | _ :: _, h, b, vs, h1, h2 => ⟨h.1 b vs h1 h2, has_of h.2 b vs h1 h2⟩
theorem wt_none (hg : oi.guard = none) : Wt ops O B i L a0 oi true := fun _ _ _ _ => wanted_none0 hg
theorem chain_skip {b : Nat → Bool} {s : Nat} (hC : C.contains i = false) (h1 : ∀ j c, C[j]? = some c → (j < s → b c = true) ∧ (s ≤ j → b c = false)) : ∀ j c, C[j]? = some c → (j < s → up b i c = true) ∧ (s ≤ j → up b i c = false) := by
 intro j c hc
 have hne : c ≠ i := fun e => by
  rw [e] at hc
  have := List.mem_of_getElem? hc
  rw [List.contains_iff_mem.2 this] at hC
  cases hC
 rw [up_ne hne]
 exact h1 j c hc
theorem gv_op (m M : Nat) (ps : List (Tmp × ((Nat → Value) → Value))) (i k : Nat) {t : Tmp} {fv : (Nat → Value) → Value} {oi : Oper} (ho : ops[i]? = some oi) (hd : oi.dst = some t) (hw : Wt ops O B i L a0 oi true) (hL : ∀ vs, (L vs)[k]? = some (i, t, fv vs))
  (hdist : ∀ vs, ((L vs).take k ++ (L vs).drop (k + 1)).all (fun e => !(e.1 == i) && !(e.2.1 == t)) = true) (hC : C.contains i = false) (hmC : Nat.ble m C.length = true) (hmm : (C.take m).all (fun q => O.contains q && (B.getD i 0).testBit q) = true) (hMM : (match C[M]? with | some c => O.contains c && (B.getD c 0).testBit i | none => true) = true) (hr : RdL O B i L a0 ps)
  (hrun : ∀ (a : Act) (w : World) (s : Nat) (vs : Nat → Value), m ≤ s → s ≤ M → I s vs w → Has a vs ps → (execOp a.eval oi).run P w = .ok (.value (fv vs)) w) : StepAt P ops Q B O (GvI C I L a0) i := by
 rintro b a w ⟨s, vs, h0, h1, ha, hI⟩ hb hon hoff
 have hms : m ≤ s := by
  rcases Nat.lt_or_ge s m with h | h
  ·rcases Nat.lt_or_ge s C.length with h2 | h2
   ·have hc := List.getElem?_eq_getElem h2
    have e2 := (h1 s _ hc).2 (Nat.le_refl _)
    have e3 := List.all_eq_true.1 hmm C[s] (List.mem_take_iff_getElem.2 ⟨s, by omega, rfl⟩)
    rw [hon _ e3] at e2
    cases e2
   ·have := Nat.le_of_ble_eq_true hmC
    omega
  ·exact h
 have hsM : s ≤ M := by
  cases hc : C[M]? with
  | none =>
   have := List.getElem?_eq_none_iff.1 hc
   omega
  | some c =>
   rw [hc] at hMM
   rcases Nat.lt_or_ge M s with h | h
   ·have e2 := (h1 M c hc).1 h
    rw [hoff c hMM] at e2
    cases e2
   ·exact h
 refine ⟨oi, ho, fun K hK => ?_⟩
 rw [hd]
 refine value_ (w1 := w) (v := fv vs) (by rw [ha]; exact hw b vs hon hoff) hd (hrun a w s vs hms hsM hI (by rw [ha]; exact has_of hr b vs hon hoff)) (hK.out _ _ ⟨s, vs, h0, chain_skip hC h1, ?_, hI⟩)
 rw [ha]
 exact putSel_upk k hb (hL vs) (set_same (hL vs)) (hdist vs)
theorem gv_step (i k m : Nat) {t : Tmp} (hm : C[m]? = some i) (hL : ∀ vs, (L vs)[k]? = some (i, t, vs (m + 1))) (hset : ∀ vs v', (L vs).set k (i, t, v') = L (updV vs (m + 1) v'))
  (hdist : ∀ vs, ((L vs).take k ++ (L vs).drop (k + 1)).all (fun e => !(e.1 == i) && !(e.2.1 == t)) = true) (hnd : (C.take m ++ C.drop (m + 1)).contains i = false) (hprev : (C.take m).all (fun q => O.contains q && (B.getD i 0).testBit q) = true)
  {b : Nat → Bool} {a : Act} {w : World} (hI : GvI C I L a0 b a w) (hb : b i = false) (hon : ∀ j, (O.contains j && (B.getD i 0).testBit j) = true → b j = true) :
  ∃ vs, a = putSel a0 b (L vs) ∧ I m vs w ∧ ∀ v' w', I (m + 1) (updV vs (m + 1) v') w' → GvI C I L a0 (up b i) (a.put (some t) v') w' := by
 obtain ⟨s, vs, h0, h1, ha, hI⟩ := hI
 have hs : s = m := by
  have e1 := h1 m i hm
  rcases Nat.lt_trichotomy s m with h | h | h
  ·have hlt : s < C.length := by
    have := (List.getElem?_eq_some_iff.1 hm).1
    omega
   have hc := List.getElem?_eq_getElem hlt
   have e2 := (h1 s _ hc).2 (Nat.le_refl _)
   have e3 := List.all_eq_true.1 hprev C[s] (List.mem_take_iff_getElem.2 ⟨s, by omega, rfl⟩)
   rw [hon _ e3] at e2
   cases e2
  ·exact h
  ·rw [e1.1 h] at hb
   cases hb
 subst hs
 refine ⟨vs, ha, hI, fun v' w' hI' => ⟨s + 1, updV vs (s + 1) v', ?_, fun j c hc => ?_, ?_, hI'⟩⟩
 ·have := (List.getElem?_eq_some_iff.1 hm).1
  omega
 ·by_cases hj : j = s
  ·subst hj
   rw [hm] at hc
   injection hc with hc
   subst hc
   exact ⟨fun _ => up_self _ _, fun h => absurd h (by omega)⟩
  ·have hne : c ≠ i := fun e => by
    subst e
    have hmem : c ∈ C.take s ++ C.drop (s + 1) := by
     rw [List.mem_append]
     have hl := (List.getElem?_eq_some_iff.1 hc)
     obtain ⟨hl1, hl2⟩ := hl
     by_cases h : j < s
     ·exact Or.inl (List.mem_take_iff_getElem.2 ⟨j, by omega, hl2⟩)
     ·refine Or.inr (List.mem_drop_iff_getElem.2 ⟨j - (s + 1), by omega, ?_⟩)
      rw [← hl2]
      congr 1
      omega
    rw [List.contains_iff_mem.2 hmem] at hnd
    cases hnd
   rw [up_ne hne]
   have := h1 j c hc
   exact ⟨fun h => this.1 (by omega), fun h => this.2 (by omega)⟩
 ·rw [ha]
  exact putSel_upk k hb (hL vs) (hset vs v') (hdist vs)
theorem gv_put (i m : Nat) (hm : C[m]? = some i) (hL : ∀ vs, (L vs).all (fun e => !(e.1 == i)) = true) (hnd : (C.take m ++ C.drop (m + 1)).contains i = false) (hprev : (C.take m).all (fun q => O.contains q && (B.getD i 0).testBit q) = true)
  {b : Nat → Bool} {a : Act} {w : World} (hI : GvI C I L a0 b a w) (hb : b i = false) (hon : ∀ j, (O.contains j && (B.getD i 0).testBit j) = true → b j = true) :
  ∃ vs, a = putSel a0 b (L vs) ∧ I m vs w ∧ ∀ w', I (m + 1) vs w' → GvI C I L a0 (up b i) a w' := by
 obtain ⟨s, vs, h0, h1, ha, hI⟩ := hI
 have hs : s = m := by
  have e1 := h1 m i hm
  rcases Nat.lt_trichotomy s m with h | h | h
  ·have hlt : s < C.length := by
    have := (List.getElem?_eq_some_iff.1 hm).1
    omega
   have hc := List.getElem?_eq_getElem hlt
   have e2 := (h1 s _ hc).2 (Nat.le_refl _)
   have e3 := List.all_eq_true.1 hprev C[s] (List.mem_take_iff_getElem.2 ⟨s, by omega, rfl⟩)
   rw [hon _ e3] at e2
   cases e2
  ·exact h
  ·rw [e1.1 h] at hb
   cases hb
 subst hs
 refine ⟨vs, ha, hI, fun w' hI' => ⟨s + 1, vs, ?_, fun j c hc => ?_, ?_, hI'⟩⟩
 ·have := (List.getElem?_eq_some_iff.1 hm).1
  omega
 ·by_cases hj : j = s
  ·subst hj
   rw [hm] at hc
   injection hc with hc
   subst hc
   exact ⟨fun _ => up_self _ _, fun h => absurd h (by omega)⟩
  ·have hne : c ≠ i := fun e => by
    subst e
    have hmem : c ∈ C.take s ++ C.drop (s + 1) := by
     rw [List.mem_append]
     have hl := (List.getElem?_eq_some_iff.1 hc)
     obtain ⟨hl1, hl2⟩ := hl
     by_cases h : j < s
     ·exact Or.inl (List.mem_take_iff_getElem.2 ⟨j, by omega, hl2⟩)
     ·refine Or.inr (List.mem_drop_iff_getElem.2 ⟨j - (s + 1), by omega, ?_⟩)
      rw [← hl2]
      congr 1
      omega
    rw [List.contains_iff_mem.2 hmem] at hnd
    cases hnd
   rw [up_ne hne]
   have := h1 j c hc
   exact ⟨fun h => this.1 (by omega), fun h => this.2 (by omega)⟩
 ·rw [ha]
  exact (putSel_skip (hL vs)).symm
theorem gv_gen (ps : List (Tmp × ((Nat → Value) → Value))) (i k m : Nat) {t : Tmp} {oi : Oper} (ho : ops[i]? = some oi) (hd : oi.dst = some t) (hw : Wt ops O B i L a0 oi true) (hm : C[m]? = some i) (hL : ∀ vs, (L vs)[k]? = some (i, t, vs (m + 1))) (hset : ∀ vs v', (L vs).set k (i, t, v') = L (updV vs (m + 1) v'))
  (hdist : ∀ vs, ((L vs).take k ++ (L vs).drop (k + 1)).all (fun e => !(e.1 == i) && !(e.2.1 == t)) = true) (hnd : (C.take m ++ C.drop (m + 1)).contains i = false) (hprev : (C.take m).all (fun q => O.contains q && (B.getD i 0).testBit q) = true) (hr : RdL O B i L a0 ps)
  (hstep : ∀ (a : Act) (w : World) (K : Act → World → Prop) (vs : Nat → Value), I m vs w → Has a vs ps → Region.wanted oi (yielded ops a.tmps) = true → (∀ v' w', I (m + 1) (updV vs (m + 1) v') w' → K (a.put (some t) v') w') → if Region.wanted oi (yielded ops a.tmps) = true then Oper.wp P oi a w K Q else K (a.put (some t) undef) w) : StepAt P ops Q B O (GvI C I L a0) i := by
 rintro b a w hG hb hon hoff
 obtain ⟨vs, ha, hI, hK2⟩ := gv_step i k m hm hL hset hdist hnd hprev hG hb hon
 refine ⟨oi, ho, fun K hK => ?_⟩
 rw [hd]
 exact hstep a w K vs hI (by rw [ha]; exact has_of hr b vs hon hoff) (by rw [ha]; exact hw b vs hon hoff) (fun v' w' h => hK.out _ _ (hK2 v' w' h))
theorem gv_store (ps : List (Tmp × ((Nat → Value) → Value))) (i m : Nat) {f : (Nat → Value) → World → World} {oi : Oper} (ho : ops[i]? = some oi) (hd : oi.dst = none) (hw : Wt ops O B i L a0 oi true) (hm : C[m]? = some i) (hL : ∀ vs, (L vs).all (fun e => !(e.1 == i)) = true)
  (hnd : (C.take m ++ C.drop (m + 1)).contains i = false) (hprev : (C.take m).all (fun q => O.contains q && (B.getD i 0).testBit q) = true) (hr : RdL O B i L a0 ps)
  (hrun : ∀ (a : Act) (w : World) (vs : Nat → Value), I m vs w → Has a vs ps → (execOp a.eval oi).run P w = .ok .skip (f vs w)) (hI : ∀ vs w, I m vs w → I (m + 1) vs (f vs w)) : StepAt P ops Q B O (GvI C I L a0) i := by
 rintro b a w hG hb hon hoff
 obtain ⟨vs, ha, hIm, hK2⟩ := gv_put i m hm hL hnd hprev hG hb hon
 refine ⟨oi, ho, fun K hK => ?_⟩
 rw [hd]
 exact skip_ (w1 := f vs w) (by rw [ha]; exact hw b vs hon hoff) hd (hrun a w vs hIm (by rw [ha]; exact has_of hr b vs hon hoff)) (hK.out _ _ (hK2 _ (hI vs w hIm)))
theorem grow_v {id : Nat} (O C : List Nat) (I : Nat → (Nat → Value) → World → Prop) (L : (Nat → Value) → Sel) {n : Nat} {l : Array Bool} {Tb : Bool × List (List Nat × List Nat)} (hm : P.follows .mixedOrders = true) (hn : ops.size = n) (hl : Array.replicate n false = l) (hT : rtab .any ops = Tb) (hw : waitsOk Tb.2 B = true) (hk : baseOk Tb.2 O = true) (hl2 : (lof Tb.2.length O (fun _ => false) == l.toList && O.length == n) = true)
  (hLO : ∀ vs, (L vs).all (fun e => O.contains e.1) = true) (hCO : (C.all fun e => O.contains e) = true) (vs0 : Nat → Value) (h0 : I 0 vs0 W.drew) (hs : ∀ i ∈ O, StepAt P ops Q B O (GvI C I L a0) i)
  (hend : ∀ (vs : Nat → Value) (w : World), I C.length vs w → Q .normal (putSel a0 (fun _ => true) (L vs)) w) : Code.wp P (Code.region id ops true) Q a0 W := by
 refine start_ (S := fun _ => True) (ds := []) l hm hn hl trivial (fun _ => ?_)
 refine inv_at O (fun a0 => GvI C I L a0) hT hw hk hl2 ⟨0, vs0, Nat.zero_le _, fun j c _ => ⟨fun h => absurd h (Nat.not_lt_zero _), fun _ => rfl⟩, ?_, h0⟩ hs ?_
 ·generalize L vs0 = LL
  clear hLO hs hend
  induction LL with
  | nil => rfl
  | cons e r ih => unfold putSel; exact ih
 ·rintro b a w hall ⟨s, vs, hs1, h1, ha, hI⟩
  have e1 : putSel a0 b (L vs) = putSel a0 (fun _ => true) (L vs) := putSel_congr (fun e he => hall _ (List.all_eq_true.1 (hLO vs) e he))
  have e2 : s = C.length := by
   rcases Nat.lt_or_ge s C.length with h | h
   ·have hc := List.getElem?_eq_getElem h
    have e2 := (h1 s _ hc).2 (Nat.le_refl _)
    rw [hall _ (List.all_eq_true.1 hCO _ (List.getElem_mem h))] at e2
    cases e2
   ·omega
  rw [ha, e1]
  rw [e2] at hI
  exact hend vs w hI
end
end Go.Proofs.YtdlamomabonkjaaDoor.Base
end
section
namespace Go.Proofs.YtdlamomabonkjaaDoor.Crc
open Go.RowKit YtdlamomabonkjaaDoorW.PrintWords Base CrcMath
theorem refPut_brief (A : Option Addr) (c : Nat) (l : List UInt8) (w : World) (hl : l.length < 12) :
  Calls Tryd.prog 43 #[.slice A l.length c] w fun e w' => e = .returned (.tuple #[.slice none 0 0, .int .i64 20]) ∧ w = w' := by
 go_enter Tryd.func43, Tryd.ntmps43
 go_wp2
 go_ret2
 exact ⟨rfl, rfl⟩
theorem refPut_calls (A : Option Addr) (c : Nat) (l : List UInt8) (w : World) (hb : byte.C w A l.length l) (hc : l.length ≤ c) (hm : l.length ≤ 140737488355328) (hl : 12 ≤ l.length) :
  Calls Tryd.prog 43 #[.slice A l.length c] w (PutDone (putL l) w) := by
 have hO : byte.R 5 (w.alloc (.cells #[] 5)) w.heap.size (fun _ => True) (.slice (some ⟨w.heap.size, 0, none⟩) 0 0) [] := Kd.R_of_own (own_lit_of (enc := fun b : UInt8 => Value.int .u8 (b.toNat : Int)) w w.heap.size 5 [] (Nat.le_refl _) (by simp)) (fun _ _ => trivial)
 have HO := Lh hO
 clear hO
 have hs : sumL (noSum l) < 4294967296 := sumL_lt _
 have hS := Lh (putL_eq l)
 generalize hsv : sumL (noSum l) = s at *
 have HSV := Lh hsv
 clear hsv
 generalize putL l = q at *
 go_enter Tryd.func43, Tryd.ntmps43
 go_wp2_with (at_builtin; go_must (refine Kd.R_append_row (fun b : UInt8 => .int .u8 (b.toNat : Int)) (0 : UInt8) (w0 := w) w.heap.size rfl _ _ 27 5 _ 1 rfl Tryd.underlying27 info_u8 rfl (by decide) _ [] l A l.length c (fun _ => True) rfl rfl (fun _ _ => trivial) HO.out (Kd.C_alloc hb _) ((Below.refl _ _).alloc (Nat.le_refl _) _) (by simp) (by simpa using hm) ?_); intro v1 w1 hR1 hB1 _ _; clear hb)
 rw [List.nil_append] at hR1
 have hR : byte.R 5 w1 w.heap.size (fun _ => True) v1 l := hR1
 obtain ⟨g, cap, rfl, hg, hg1⟩ := (Kd.R_own hR).elim fun _ h => h.form (by omega)
 clear hR1 hg1
 go_loopw [5] (fun v5 w' => ∃ k : Nat, k ≤ 4 ∧ v5 = .int .i64 ((8 + k : Nat) : Int) ∧ byte.R 5 w' w.heap.size (fun _ => True) (.slice (some ⟨g, 0, none⟩) l.length cap) (puts l 0 k) ∧ Below w.heap.size w w') (fun v5 _ => 12 - (intOf v5).toNat)
 case atStart => exact ⟨0, by omega, rfl, hR, hB1⟩
 case round =>
  clear hR hB1
  obtain ⟨k, hk, rfl, hR, hB⟩ := hrel
  have hpl := puts_length l 0 k
  rcases (by omega : k = 0 ∨ k = 1 ∨ k = 2 ∨ k = 3 ∨ k = 4) with rfl | rfl | rfl | rfl | rfl
  ·obtain ⟨hcl, hfr⟩ := byte_cell hR 8 (by omega)
   go_wp2
   go_roundw
   case rel => exact ⟨1, by omega, rfl, byte_put hR 8 _ _ (by simp), hB.setCell hg _⟩
   case measure => simp [intOf]
  ·obtain ⟨hcl, hfr⟩ := byte_cell hR 9 (by omega)
   go_wp2
   go_roundw
   case rel => exact ⟨2, by omega, rfl, byte_put hR 9 _ _ (by simp), hB.setCell hg _⟩
   case measure => simp [intOf]
  ·obtain ⟨hcl, hfr⟩ := byte_cell hR 10 (by omega)
   go_wp2
   go_roundw
   case rel => exact ⟨3, by omega, rfl, byte_put hR 10 _ _ (by simp), hB.setCell hg _⟩
   case measure => simp [intOf]
  ·obtain ⟨hcl, hfr⟩ := byte_cell hR 11 (by omega)
   go_wp2
   go_roundw
   case rel => exact ⟨4, by omega, rfl, byte_put hR 11 _ _ (by simp), hB.setCell hg _⟩
   case measure => simp [intOf]
  ·rw [puts_noSum l hl] at hR
   obtain ⟨A2, c2, hv2, hle2, hC2⟩ := Kd.R_reads hR
   injection hv2 with hA2 hn2 hc2
   subst hA2
   subst hc2
   have hsum := refSum_calls (some ⟨g, 0, none⟩) cap (noSum l) wr hC2
   rw [HSV.out] at hsum
   have hbl := noSum_length l hl
   rw [hbl] at hsum
   clear hbl hpl hC2 hle2 hn2
   go_wp2_with fail
   refine hsum.mono ?_
   rintro e w' ⟨rfl, rfl⟩
   go_wp2
   go_loopw [7] (fun v7 w' => ∃ k : Nat, k ≤ 4 ∧ v7 = .int .i64 ((8 + k : Nat) : Int) ∧ byte.R 5 w' w.heap.size (fun _ => True) (.slice (some ⟨g, 0, none⟩) l.length cap) (puts (noSum l) s k) ∧ Below w.heap.size w w') (fun v7 _ => 12 - (intOf v7).toNat)
   case atStart => exact ⟨0, by omega, rfl, hR, hB⟩
   case round =>
    clear hR hB hsum
    obtain ⟨k, hk, rfl, hR, hB⟩ := hrel
    have hpl := puts_length (noSum l) s k
    rcases (by omega : k = 0 ∨ k = 1 ∨ k = 2 ∨ k = 3 ∨ k = 4) with rfl | rfl | rfl | rfl | rfl
    ·obtain ⟨hcl, hfr⟩ := byte_cell hR 8 (by omega)
     go_wp2
     go_roundw
     case rel => exact ⟨1, by omega, rfl, byte_put hR 8 _ _ (by rw [show (8 * 0) = 0 from rfl, ofNat_shr, show ((2 ^ 0 : Nat) : Int) = 1 from rfl]; omega), hB.setCell hg _⟩
     case measure => simp [intOf]
    ·obtain ⟨hcl, hfr⟩ := byte_cell hR 9 (by omega)
     go_wp2
     go_roundw
     case rel => exact ⟨2, by omega, rfl, byte_put hR 9 _ _ (by rw [show (8 * 1) = 8 from rfl, ofNat_shr, show ((2 ^ 8 : Nat) : Int) = 256 from rfl]), hB.setCell hg _⟩
     case measure => simp [intOf]
    ·obtain ⟨hcl, hfr⟩ := byte_cell hR 10 (by omega)
     go_wp2
     go_roundw
     case rel => exact ⟨3, by omega, rfl, byte_put hR 10 _ _ (by rw [show (8 * 2) = 16 from rfl, ofNat_shr, show ((2 ^ 16 : Nat) : Int) = 65536 from rfl]), hB.setCell hg _⟩
     case measure => simp [intOf]
    ·obtain ⟨hcl, hfr⟩ := byte_cell hR 11 (by omega)
     go_wp2
     go_roundw
     case rel => exact ⟨4, by omega, rfl, byte_put hR 11 _ _ (by rw [show (8 * 3) = 24 from rfl, ofNat_shr, show ((2 ^ 24 : Nat) : Int) = 16777216 from rfl]; omega), hB.setCell hg _⟩
     case measure => simp [intOf]
    ·go_wp2
     go_ret2
     refine ⟨_, rfl, ?_, hB⟩
     rw [hS.out, ← puts_again l 0 s hl, puts_noSum l hl]
     exact hR
theorem refCheck_calls (A : Option Addr) (c : Nat) (l : List UInt8) (w : World) (hb : byte.C w A l.length l) (hc : l.length ≤ c) (hm : l.length ≤ 140737488355328) :
  Calls Tryd.prog 45 #[.slice A l.length c] w fun e w' => e = .returned (.int .i64 (checkL l)) ∧ Below w.heap.size w w' := by
 by_cases hl : l.length < 12
 ·have h := refPut_brief A c l w hl
  have hL : checkL l = 20 := if_pos hl
  rw [hL]
  go_enter Tryd.func45, Tryd.ntmps45
  go_wp2_with fail
  refine h.mono ?_
  rintro e w' ⟨rfl, rfl⟩
  go_wp2
  go_ret
  exact ⟨rfl, Below.refl _ _⟩
 ·have h := refPut_calls A c l w hb hc hm (by omega)
  have hL : checkL l = if putL l = l then 0 else 21 := if_neg hl
  rw [hL]
  have hlen := putL_length l
  generalize putL l = q at *
  by_cases hq : q = l
  ·rw [if_pos hq]
   have hs := bstr_eq q l
   rw [decide_eq_true hq] at hs
   have HL := Lh hlen
   clear hq hlen hL
   go_enter Tryd.func45, Tryd.ntmps45
   go_wp2_with fail
   refine h.mono ?_
   rintro e w1 ⟨v, rfl, hR, hB⟩
   obtain ⟨A1, c1, rfl, hle, hC⟩ := Kd.R_reads hR
   have r1 := run_bstr (c := c1) hC
   have r2 := run_bstr (c := c) (Kd.C_below hb hB)
   clear h hR hb hC
   go_wp2
   go_ret
   exact ⟨rfl, hB⟩
  ·rw [if_neg hq]
   have hs := bstr_eq q l
   rw [decide_eq_false hq] at hs
   have HL := Lh hlen
   clear hq hlen hL
   go_enter Tryd.func45, Tryd.ntmps45
   go_wp2_with fail
   refine h.mono ?_
   rintro e w1 ⟨v, rfl, hR, hB⟩
   obtain ⟨A1, c1, rfl, hle, hC⟩ := Kd.R_reads hR
   have r1 := run_bstr (c := c1) hC
   have r2 := run_bstr (c := c) (Kd.C_below hb hB)
   clear h hR hb hC
   go_wp2
   go_ret
   exact ⟨rfl, hB⟩
end Go.Proofs.YtdlamomabonkjaaDoor.Crc
end
section
namespace Go.Proofs.YtdlamomabonkjaaDoor.Pk
open Go.RowKit YtdlamomabonkjaaDoorW.PrintWords YtdlamomabonkjaaDoorW.PrintLast Base PCh ParDec ParEnc Ch Crc CrcMath
def rhAT6 : Bool × List (List Nat × List Nat) := (true, [([], []), ([0], [0]), ([1], [1]), ([2], [2]), ([3], [3]), ([], []), ([5], [5]), ([6], [6]), ([7], [7]), ([4, 8], [4, 8]), ([], []), ([10], [10]), ([11], [11]), ([12], [12]), ([13], [13]), ([], []), ([15], [15]), ([16], [16]), ([17], [17]), ([14, 18], [14, 18]), ([9, 19], [9, 19]), ([], []), ([21, 20, 0, 1, 2, 3, 4, 5, 6, 7, 8, 9, 10, 11, 12, 13, 14, 15, 16, 17, 18, 19, 20, 21], [20, 21])])
def rhAB6 : List Nat := [0, 1, 3, 7, 15, 0, 32, 96, 224, 511, 0, 1024, 3072, 7168, 15360, 0, 32768, 98304, 229376, 523264, 1048575, 0, 4194303]
theorem rhAtab6 : Go.Proofs.YtdlamomabonkjaaDoorW.PrintLast.rtab .any (Go.Proofs.YtdlamomabonkjaaDoorW.PrintLast.opsOf Tryd.f22 6) = rhAT6 := by kernel_rfl
theorem rhAbits6 : Go.Proofs.YtdlamomabonkjaaDoorW.PrintLast.waitsOk rhAT6.2 rhAB6 = true := by kernel_rfl
def rhBT10 : Bool × List (List Nat × List Nat) := (true, [([], []), ([0], [0]), ([1], [1]), ([], []), ([], []), ([3, 4], [3, 4]), ([5], [5]), ([6], [6]), ([2, 7], [2, 7]), ([0, 1, 2, 3, 4, 5, 6, 7, 8], []), ([9, 8, 0, 1, 2, 3, 4, 5, 6, 7, 8], [8, 9])])
def rhBB10 : List Nat := [0, 1, 3, 0, 0, 24, 56, 120, 255, 511, 1023]
theorem rhBtab10 : Go.Proofs.YtdlamomabonkjaaDoorW.PrintLast.rtab .any (Go.Proofs.YtdlamomabonkjaaDoorW.PrintLast.opsOf Tryd.f22 10) = rhBT10 := by kernel_rfl
theorem rhBbits10 : Go.Proofs.YtdlamomabonkjaaDoorW.PrintLast.waitsOk rhBT10.2 rhBB10 = true := by kernel_rfl
theorem rhead_results (tmps : Array Value) (w : World) (g : Nat) (cs : Array Value) (v1 : Value) (t0 : tmps.getD 2 undef = .pointer (some ⟨g, 0, none⟩)) (t1 : tmps.getD 3 undef = v1)
  (h0 : w.heap[g]? = some (.cells cs 26 (0, 0))) (hcs : cs.size = 4) :
  (results Tryd.f22 tmps).run Tryd.prog w = .ok (.tuple #[.agg cs, v1]) w := by
 have hi : (Tryd.prog.info? 26).map (·.size) = some cs.size := by rw [hcs]; kernel_rfl
 have hl := run_loadVar_row w g 26 26 cs (0, 0) _ h0 Tryd.underlying26 rfl hi
 rw [Array.getD_eq_getD_getElem?] at t0 t1
 simp [results, Tryd.results22, asAddr, t0, t1, hl]
theorem bytes4 {w : World} {A : Option Addr} {l : List UInt8} (h : byte.C w A l.length l) (hl : 4 ≤ l.length) : ∃ ad, A = some ad ∧ w.cell? ad = some (.int .u8 ((l.getD 0 0).toNat : Int)) ∧ w.cell? ⟨ad.block, ad.off + 1, none⟩ = some (.int .u8 ((l.getD 1 0).toNat : Int)) ∧ w.cell? ⟨ad.block, ad.off + 2, none⟩ = some (.int .u8 ((l.getD 2 0).toNat : Int)) ∧ w.cell? ⟨ad.block, ad.off + 3, none⟩ = some (.int .u8 ((l.getD 3 0).toNat : Int)) := by
 obtain ⟨ad, rfl, x0⟩ := byte_at h 0 (by omega)
 obtain ⟨ad', e', x1⟩ := byte_at h 1 (by omega)
 cases e'
 obtain ⟨ad', e', x2⟩ := byte_at h 2 (by omega)
 cases e'
 obtain ⟨ad', e', x3⟩ := byte_at h 3 (by omega)
 cases e'
 refine ⟨ad, rfl, x0, ?_, ?_, ?_⟩
 ·rw [show ad.add 1 = ad.add (0 + 1) from rfl, add_field _ _ 1 (by omega)] at x1
  exact x1
 ·rw [show ad.add 2 = ad.add (0 + 2) from rfl, add_field _ _ 2 (by omega)] at x2
  exact x2
 ·rw [show ad.add 3 = ad.add (0 + 3) from rfl, add_field _ _ 3 (by omega)] at x3
  exact x3
theorem be_take2 (l : List UInt8) (h : 2 ≤ l.length) : be (l.take 2) = (l.getD 0 0).toNat * 256 + (l.getD 1 0).toNat := by
 match l, h with
 | b0 :: b1 :: r, _ => exact be_two _ _
theorem be_take_succ (l : List UInt8) (i : Nat) (h : i < l.length) : be (l.take (i + 1)) = be (l.take i) * 256 + (l.getD i 0).toNat := by
 have ht : l.take (i + 1) = l.take i ++ [l.getD i 0] := by
  rw [List.take_succ_eq_append_getElem h]
  congr 2
  simp [List.getD_eq_getElem?_getD, h]
 rw [ht, be_snoc]
set_option maxHeartbeats 4000000 in
theorem rhead_calls (w : World) (A : Option Addr) (b : List UInt8) (c : Nat) (hb : byte.C w A b.length b) (hc : b.length ≤ c) (hm : b.length ≤ 140737488355328) :
  Calls Tryd.prog 22 #[.slice A b.length c] w fun e w' => e = .returned (.tuple #[.agg #[.int .u16 (preadD b false).f, .int .u16 (preadD b false).t, .int .u32 (preadD b false).q, .slice none 0 0], .int .i64 (preadD b false).e]) ∧ Below w.heap.size w w' := by
 obtain ⟨D, hD⟩ : ∃ D, preadD b false = D := ⟨_, rfl⟩
 rw [hD]
 unfold preadD headE at hD
 have HCK := Lh (fun (W : World) (h : Below w.heap.size w W) => Crc.refCheck_calls A c b W (Kd.C_below hb h) hc hm)
 have HBC := Lh hb
 obtain ⟨g2, hg2⟩ : ∃ g, w.heap.size = g := ⟨_, rfl⟩
 have HG := Lh hg2
 clear hb hg2
 obtain ⟨n, hn⟩ : ∃ n, b.length = n := ⟨_, rfl⟩
 have HN := Lh hn
 rw [hn] at hD hc hm HCK ⊢
 clear hn
 go_enter Tryd.func22, Tryd.ntmps22
 go_upto_region 1 with (fail)
 refine wp_gen (fun W => W.heap[w.heap.size]? = some (.cells #[.int .u16 0, .int .u16 0, .int .u32 0, .slice none 0 0] 26 (0, 0)) ∧ Below w.heap.size w W) ⟨blk_new _ _, below_alloc (Below.refl _ _) _⟩ ?_
 rintro W0 ⟨h0, hB⟩
 rw [HG.out] at h0 ⊢
 have H0 := Lh h0
 have HB0 := Lh hB
 clear h0 hB
 by_cases h6 : 65536 < n
 ·have hz : decide ((65536 : Int) < (n : Int)) = true := decide_eq_true (by omega)
  rw [if_pos h6, if_neg (by decide)] at hD
  have HD := Lh hD.symm
  clear hD h6 hc hm HCK
  go_wp2_with (refine wpList_store_row rfl 26 _ _ rfl g2 #[.int .u16 0, .int .u16 0, .int .u32 0, .slice none 0 0] rfl rfl 26 #[.int .u16 0, .int .u16 0, .int .u32 0, .slice none 0 0] H0.out (by kernel_rfl) rfl (by simp [Value.oneCell']) ?_)
  exact bodyPost_ret (rhead_results _ _ g2 #[.int .u16 0, .int .u16 0, .int .u32 0, .slice none 0 0] _ rfl rfl (setRow_heap _ _ _ _ _ _ H0.out) rfl) rfl ⟨by rw [HD.out]; rfl, below_setRow HB0.out (by rw [HG.out]; exact Nat.le_refl _) _⟩
 have hz : decide ((65536 : Int) < (n : Int)) = false := decide_eq_false (by omega)
 rw [if_neg h6] at hD
 have HH6 := Lh h6
 clear h6
 go_wp2_with fail
 refine (HCK.out W0 HB0.out).mono ?_
 rintro e W1 ⟨rfl, hB1⟩
 have H1 := Lh (blk_below H0.out hB1)
 have HB1 := Lh (below_then HB0.out HB0.out.size hB1)
 clear hB1 HCK hz H0 HB0
 by_cases hk : checkL b = 0
 ·rw [if_pos hk] at hD
  have hlen : 12 ≤ b.length := by
   unfold checkL at hk
   split at hk
   ·cases hk
   ·omega
  rw [hk]
  have HHF := Lh (show hdF b = (b.getD 0 0).toNat * 256 + (b.getD 1 0).toNat from be_take2 b (by omega))
  have HHT := Lh (show hdT b = ((b.drop 2).getD 0 0).toNat * 256 + ((b.drop 2).getD 1 0).toNat from be_take2 _ (by rw [List.length_drop]; omega))
  have HHQ := Lh (show hdQ b = be ((b.drop 4).take 4) by unfold hdQ; rw [List.drop_drop])
  obtain ⟨ad, rfl, x0, x1, x2, x3⟩ := bytes4 HBC.out (by omega)
  have XB0 := Lh (fun (W : World) (h : Below W1.heap.size W1 W) => pw_cell_below (below_then HB1.out HB1.out.size h) x0)
  have XB1 := Lh (fun (W : World) (h : Below W1.heap.size W1 W) => pw_cell_below (below_then HB1.out HB1.out.size h) x1)
  have XB2 := Lh (fun (W : World) (h : Below W1.heap.size W1 W) => pw_cell_below (below_then HB1.out HB1.out.size h) x2)
  have XB3 := Lh (fun (W : World) (h : Below W1.heap.size W1 W) => pw_cell_below (below_then HB1.out HB1.out.size h) x3)
  have hd2 : (b.drop 2).getD 0 0 = b.getD 2 0 := by simp [List.getD_eq_getElem?_getD, List.getElem?_drop]
  have hd3 : (b.drop 2).getD 1 0 = b.getD 3 0 := by simp [List.getD_eq_getElem?_getD, List.getElem?_drop]
  rw [hd2, hd3] at HHT
  have g0 := (b.getD 0 0).toNat_lt
  have g1 := (b.getD 1 0).toNat_lt
  have g2' := (b.getD 2 0).toNat_lt
  have g3 := (b.getD 3 0).toNat_lt
  have hn12 : 12 ≤ n := by rw [← HN.out]; exact hlen
  have HL0 := Lh (show ¬ n = 0 by omega)
  have HL1 := Lh (show ¬ (n : Int) ≤ 1 by omega)
  have HL2 := Lh (show ¬ (n : Int) ≤ 2 by omega)
  have HL3 := Lh (show ¬ (n : Int) ≤ 3 by omega)
  have HW0 := Lh (u16_small ((b.getD 0 0).toNat : Int) (by omega) (by omega))
  have HW1 := Lh (u16_small ((b.getD 1 0).toNat : Int) (by omega) (by omega))
  have HW2 := Lh (u16_small ((b.getD 2 0).toNat : Int) (by omega) (by omega))
  have HW3 := Lh (u16_small ((b.getD 3 0).toNat : Int) (by omega) (by omega))
  have HM0 := Lh (u16_small ((b.getD 0 0).toNat * 256 : Int) (by omega) (by omega))
  have HM2 := Lh (u16_small ((b.getD 2 0).toNat * 256 : Int) (by omega) (by omega))
  have HS0 := Lh (show IntKind.u16.wrap ((b.getD 0 0).toNat * 256 + (b.getD 1 0).toNat : Int) = (hdF b : Int) by rw [u16_small _ (by omega) (by omega), HHF.out]; omega)
  have HS2 := Lh (show IntKind.u16.wrap ((b.getD 2 0).toNat * 256 + (b.getD 3 0).toNat : Int) = (hdT b : Int) by rw [u16_small _ (by omega) (by omega), HHT.out]; omega)
  have HPQ := Lh (show (decide (0 < (hdF b : Int)) && decide (0 < (hdT b : Int))) = (!((hdF b : Int) == 0) && !((hdT b : Int) == 0)) by
   have key : ∀ z : Int, 0 ≤ z → decide (0 < z) = !(z == 0) := fun z hz => by
    by_cases h : z = 0
    ·subst h; rfl
    ·rw [decide_eq_true (by omega)]; simp [h]
   rw [key _ (by omega), key _ (by omega)])
  rw [HPQ.out] at hD
  have HDok := Lh (fun h : (!((hdF b : Int) == 0) && !((hdT b : Int) == 0)) = true => (show D = ⟨(hdF b : Nat), (hdT b : Nat), (hdQ b : Nat), [], 0, 0⟩ by rw [← hD, h]; rfl))
  have HDno := Lh (fun h : (!((hdF b : Int) == 0) && !((hdT b : Int) == 0)) = false => (show D = pzero 0 72 by rw [← hD, h]; rfl))
  have HLN := Lh hlen
  clear hk hlen x0 x1 x2 x3 hd2 hd3 g0 g1 g2' g3 hn12 hD HHF HHT HPQ
  generalize ((hdF b : Nat) : Int) = nf at *
  generalize ((hdT b : Nat) : Int) = nt at *
  generalize ((b.getD 0 0).toNat : Int) = y0 at *
  generalize ((b.getD 1 0).toNat : Int) = y1 at *
  generalize ((b.getD 2 0).toNat : Int) = y2 at *
  generalize ((b.getD 3 0).toNat : Int) = y3 at *
  go_upto_region 6 with (fail)
  refine grow_v (B := rhAB6) [0, 1, 2, 3, 4, 5, 6, 7, 8, 9, 10, 11, 12, 13, 14, 15, 16, 17, 18, 19, 20, 21, 22] [21, 22] (fun s vs W => Below W1.heap.size W1 W ∧ (match s with | 0 => True | 1 => ∃ g5, vs 1 = .pointer (some ⟨g5, 0, none⟩) ∧ W.heap[g5]? = some (.cells #[.int .u16 0, .int .u16 0, .int .u32 0, .slice none 0 0] 26 (0, 0)) ∧ W1.heap.size ≤ g5 | _ => ∃ g5, vs 1 = .pointer (some ⟨g5, 0, none⟩) ∧ W.heap[g5]? = some (.cells #[.int .u16 nf, .int .u16 nt, .int .u32 0, .slice none 0 0] 26 (0, 0)) ∧ W1.heap.size ≤ g5)) (fun vs => [(0, 17, .slice (some ad) n c), (1, 18, .pointer (some ad)), (2, 19, .int .u8 y0), (3, 20, .int .u16 y0), (4, 21, .int .u16 (y0 * 256)), (5, 22, .slice (some ad) n c), (6, 23, .pointer (some ⟨ad.block, ad.off + 1, none⟩)), (7, 24, .int .u8 y1), (8, 25, .int .u16 y1), (9, 26, .int .u16 nf), (10, 27, .slice (some ad) n c), (11, 28, .pointer (some ⟨ad.block, ad.off + 2, none⟩)), (12, 29, .int .u8 y2), (13, 30, .int .u16 y2), (14, 31, .int .u16 (y2 * 256)), (15, 32, .slice (some ad) n c), (16, 33, .pointer (some ⟨ad.block, ad.off + 3, none⟩)), (17, 34, .int .u8 y3), (18, 35, .int .u16 y3), (19, 36, .int .u16 nt), (20, 37, .agg #[.int .u16 nf, .int .u16 nt, .int .u32 0, .slice none 0 0]), (21, 5, vs 1)]) (by kernel_rfl) rfl (l := #[false, false, false, false, false, false, false, false, false, false, false, false, false, false, false, false, false, false, false, false, false, false, false]) rfl rhAtab6 rhAbits6 (by kernel_rfl) (by kernel_rfl) (fun _ => rfl) rfl (fun _ => undef) ?_ ?_ ?_
  ·exact ⟨pw_below_drewN (Below.refl _ _) 1, trivial⟩
  ·exact steps_cons (gv_op 0 1 [(0, fun vs => .slice (some ad) n c)] 0 0 (fv := fun vs => .slice (some ad) n c) rfl rfl (wt_none rfl) (fun _ => rfl) (fun _ => rfl) rfl rfl (by kernel_rfl) (by kernel_rfl) ⟨rd_off (p := 0) (fun _ => rfl) rfl, trivial⟩ (fun a w s vs hm hs h e => by
    obtain ⟨e0, _⟩ := e
    replace e0 : a.tmps[0]? = some (.slice (some ad) n c) := e0
    go_simp)) (steps_cons (gv_op 0 1 [(17, fun vs => .slice (some ad) n c)] 1 1 (fv := fun vs => .pointer (some ad)) rfl rfl (wt_none rfl) (fun _ => rfl) (fun _ => rfl) rfl rfl (by kernel_rfl) (by kernel_rfl) ⟨rd_on (p := 17) 0 0 (fun _ => rfl) (fun _ => rfl) (by kernel_rfl) rfl, trivial⟩ (fun a w s vs hm hs h e => by
    obtain ⟨e17, _⟩ := e
    replace e17 : a.tmps[17]? = some (.slice (some ad) n c) := e17
    have hl := HL0.out; go_simp)) (steps_cons (gv_op 0 1 [(18, fun vs => .pointer (some ad))] 2 2 (fv := fun vs => .int .u8 y0) rfl rfl (wt_none rfl) (fun _ => rfl) (fun _ => rfl) rfl rfl (by kernel_rfl) (by kernel_rfl) ⟨rd_on (p := 18) 1 1 (fun _ => rfl) (fun _ => rfl) (by kernel_rfl) rfl, trivial⟩ (fun a w s vs hm hs h e => by
    obtain ⟨e18, _⟩ := e
    replace e18 : a.tmps[18]? = some (.pointer (some ad)) := e18
    have hs := XB0.out w h.1; go_simp)) (steps_cons (gv_op 0 1 [(19, fun vs => .int .u8 y0)] 3 3 (fv := fun vs => .int .u16 y0) rfl rfl (wt_none rfl) (fun _ => rfl) (fun _ => rfl) rfl rfl (by kernel_rfl) (by kernel_rfl) ⟨rd_on (p := 19) 2 2 (fun _ => rfl) (fun _ => rfl) (by kernel_rfl) rfl, trivial⟩ (fun a w s vs hm hs h e => by
    obtain ⟨e19, _⟩ := e
    replace e19 : a.tmps[19]? = some (.int .u8 y0) := e19
    have hq := HW0.out; go_simp; first | done | exact hq | rw [hq])) (steps_cons (gv_op 0 1 [(20, fun vs => .int .u16 y0)] 4 4 (fv := fun vs => .int .u16 (y0 * 256)) rfl rfl (wt_none rfl) (fun _ => rfl) (fun _ => rfl) rfl rfl (by kernel_rfl) (by kernel_rfl) ⟨rd_on (p := 20) 3 3 (fun _ => rfl) (fun _ => rfl) (by kernel_rfl) rfl, trivial⟩ (fun a w s vs hm hs h e => by
    obtain ⟨e20, _⟩ := e
    replace e20 : a.tmps[20]? = some (.int .u16 y0) := e20
    have hq := HM0.out; go_simp; first | done | exact hq | rw [hq])) (steps_cons (gv_op 0 1 [(0, fun vs => .slice (some ad) n c)] 5 5 (fv := fun vs => .slice (some ad) n c) rfl rfl (wt_none rfl) (fun _ => rfl) (fun _ => rfl) rfl rfl (by kernel_rfl) (by kernel_rfl) ⟨rd_off (p := 0) (fun _ => rfl) rfl, trivial⟩ (fun a w s vs hm hs h e => by
    obtain ⟨e0, _⟩ := e
    replace e0 : a.tmps[0]? = some (.slice (some ad) n c) := e0
    go_simp)) (steps_cons (gv_op 0 1 [(22, fun vs => .slice (some ad) n c)] 6 6 (fv := fun vs => .pointer (some ⟨ad.block, ad.off + 1, none⟩)) rfl rfl (wt_none rfl) (fun _ => rfl) (fun _ => rfl) rfl rfl (by kernel_rfl) (by kernel_rfl) ⟨rd_on (p := 22) 5 5 (fun _ => rfl) (fun _ => rfl) (by kernel_rfl) rfl, trivial⟩ (fun a w s vs hm hs h e => by
    obtain ⟨e22, _⟩ := e
    replace e22 : a.tmps[22]? = some (.slice (some ad) n c) := e22
    have hl := HL1.out; go_simp)) (steps_cons (gv_op 0 1 [(23, fun vs => .pointer (some ⟨ad.block, ad.off + 1, none⟩))] 7 7 (fv := fun vs => .int .u8 y1) rfl rfl (wt_none rfl) (fun _ => rfl) (fun _ => rfl) rfl rfl (by kernel_rfl) (by kernel_rfl) ⟨rd_on (p := 23) 6 6 (fun _ => rfl) (fun _ => rfl) (by kernel_rfl) rfl, trivial⟩ (fun a w s vs hm hs h e => by
    obtain ⟨e23, _⟩ := e
    replace e23 : a.tmps[23]? = some (.pointer (some ⟨ad.block, ad.off + 1, none⟩)) := e23
    have hs := XB1.out w h.1; go_simp)) (steps_cons (gv_op 0 1 [(24, fun vs => .int .u8 y1)] 8 8 (fv := fun vs => .int .u16 y1) rfl rfl (wt_none rfl) (fun _ => rfl) (fun _ => rfl) rfl rfl (by kernel_rfl) (by kernel_rfl) ⟨rd_on (p := 24) 7 7 (fun _ => rfl) (fun _ => rfl) (by kernel_rfl) rfl, trivial⟩ (fun a w s vs hm hs h e => by
    obtain ⟨e24, _⟩ := e
    replace e24 : a.tmps[24]? = some (.int .u8 y1) := e24
    have hq := HW1.out; go_simp; first | done | exact hq | rw [hq])) (steps_cons (gv_op 0 1 [(21, fun vs => .int .u16 (y0 * 256)), (25, fun vs => .int .u16 y1)] 9 9 (fv := fun vs => .int .u16 nf) rfl rfl (wt_none rfl) (fun _ => rfl) (fun _ => rfl) rfl rfl (by kernel_rfl) (by kernel_rfl) ⟨rd_on (p := 21) 4 4 (fun _ => rfl) (fun _ => rfl) (by kernel_rfl) rfl, rd_on (p := 25) 8 8 (fun _ => rfl) (fun _ => rfl) (by kernel_rfl) rfl, trivial⟩ (fun a w s vs hm hs h e => by
    obtain ⟨e21, e25, _⟩ := e
    replace e21 : a.tmps[21]? = some (.int .u16 (y0 * 256)) := e21
    replace e25 : a.tmps[25]? = some (.int .u16 y1) := e25
    have hq := HS0.out; go_simp; first | done | exact hq | rw [hq])) (steps_cons (gv_op 0 1 [(0, fun vs => .slice (some ad) n c)] 10 10 (fv := fun vs => .slice (some ad) n c) rfl rfl (wt_none rfl) (fun _ => rfl) (fun _ => rfl) rfl rfl (by kernel_rfl) (by kernel_rfl) ⟨rd_off (p := 0) (fun _ => rfl) rfl, trivial⟩ (fun a w s vs hm hs h e => by
    obtain ⟨e0, _⟩ := e
    replace e0 : a.tmps[0]? = some (.slice (some ad) n c) := e0
    go_simp)) (steps_cons (gv_op 0 1 [(27, fun vs => .slice (some ad) n c)] 11 11 (fv := fun vs => .pointer (some ⟨ad.block, ad.off + 2, none⟩)) rfl rfl (wt_none rfl) (fun _ => rfl) (fun _ => rfl) rfl rfl (by kernel_rfl) (by kernel_rfl) ⟨rd_on (p := 27) 10 10 (fun _ => rfl) (fun _ => rfl) (by kernel_rfl) rfl, trivial⟩ (fun a w s vs hm hs h e => by
    obtain ⟨e27, _⟩ := e
    replace e27 : a.tmps[27]? = some (.slice (some ad) n c) := e27
    have hl := HL2.out; go_simp)) (steps_cons (gv_op 0 1 [(28, fun vs => .pointer (some ⟨ad.block, ad.off + 2, none⟩))] 12 12 (fv := fun vs => .int .u8 y2) rfl rfl (wt_none rfl) (fun _ => rfl) (fun _ => rfl) rfl rfl (by kernel_rfl) (by kernel_rfl) ⟨rd_on (p := 28) 11 11 (fun _ => rfl) (fun _ => rfl) (by kernel_rfl) rfl, trivial⟩ (fun a w s vs hm hs h e => by
    obtain ⟨e28, _⟩ := e
    replace e28 : a.tmps[28]? = some (.pointer (some ⟨ad.block, ad.off + 2, none⟩)) := e28
    have hs := XB2.out w h.1; go_simp)) (steps_cons (gv_op 0 1 [(29, fun vs => .int .u8 y2)] 13 13 (fv := fun vs => .int .u16 y2) rfl rfl (wt_none rfl) (fun _ => rfl) (fun _ => rfl) rfl rfl (by kernel_rfl) (by kernel_rfl) ⟨rd_on (p := 29) 12 12 (fun _ => rfl) (fun _ => rfl) (by kernel_rfl) rfl, trivial⟩ (fun a w s vs hm hs h e => by
    obtain ⟨e29, _⟩ := e
    replace e29 : a.tmps[29]? = some (.int .u8 y2) := e29
    have hq := HW2.out; go_simp; first | done | exact hq | rw [hq])) (steps_cons (gv_op 0 1 [(30, fun vs => .int .u16 y2)] 14 14 (fv := fun vs => .int .u16 (y2 * 256)) rfl rfl (wt_none rfl) (fun _ => rfl) (fun _ => rfl) rfl rfl (by kernel_rfl) (by kernel_rfl) ⟨rd_on (p := 30) 13 13 (fun _ => rfl) (fun _ => rfl) (by kernel_rfl) rfl, trivial⟩ (fun a w s vs hm hs h e => by
    obtain ⟨e30, _⟩ := e
    replace e30 : a.tmps[30]? = some (.int .u16 y2) := e30
    have hq := HM2.out; go_simp; first | done | exact hq | rw [hq])) (steps_cons (gv_op 0 1 [(0, fun vs => .slice (some ad) n c)] 15 15 (fv := fun vs => .slice (some ad) n c) rfl rfl (wt_none rfl) (fun _ => rfl) (fun _ => rfl) rfl rfl (by kernel_rfl) (by kernel_rfl) ⟨rd_off (p := 0) (fun _ => rfl) rfl, trivial⟩ (fun a w s vs hm hs h e => by
    obtain ⟨e0, _⟩ := e
    replace e0 : a.tmps[0]? = some (.slice (some ad) n c) := e0
    go_simp)) (steps_cons (gv_op 0 1 [(32, fun vs => .slice (some ad) n c)] 16 16 (fv := fun vs => .pointer (some ⟨ad.block, ad.off + 3, none⟩)) rfl rfl (wt_none rfl) (fun _ => rfl) (fun _ => rfl) rfl rfl (by kernel_rfl) (by kernel_rfl) ⟨rd_on (p := 32) 15 15 (fun _ => rfl) (fun _ => rfl) (by kernel_rfl) rfl, trivial⟩ (fun a w s vs hm hs h e => by
    obtain ⟨e32, _⟩ := e
    replace e32 : a.tmps[32]? = some (.slice (some ad) n c) := e32
    have hl := HL3.out; go_simp)) (steps_cons (gv_op 0 1 [(33, fun vs => .pointer (some ⟨ad.block, ad.off + 3, none⟩))] 17 17 (fv := fun vs => .int .u8 y3) rfl rfl (wt_none rfl) (fun _ => rfl) (fun _ => rfl) rfl rfl (by kernel_rfl) (by kernel_rfl) ⟨rd_on (p := 33) 16 16 (fun _ => rfl) (fun _ => rfl) (by kernel_rfl) rfl, trivial⟩ (fun a w s vs hm hs h e => by
    obtain ⟨e33, _⟩ := e
    replace e33 : a.tmps[33]? = some (.pointer (some ⟨ad.block, ad.off + 3, none⟩)) := e33
    have hs := XB3.out w h.1; go_simp)) (steps_cons (gv_op 0 1 [(34, fun vs => .int .u8 y3)] 18 18 (fv := fun vs => .int .u16 y3) rfl rfl (wt_none rfl) (fun _ => rfl) (fun _ => rfl) rfl rfl (by kernel_rfl) (by kernel_rfl) ⟨rd_on (p := 34) 17 17 (fun _ => rfl) (fun _ => rfl) (by kernel_rfl) rfl, trivial⟩ (fun a w s vs hm hs h e => by
    obtain ⟨e34, _⟩ := e
    replace e34 : a.tmps[34]? = some (.int .u8 y3) := e34
    have hq := HW3.out; go_simp; first | done | exact hq | rw [hq])) (steps_cons (gv_op 0 1 [(31, fun vs => .int .u16 (y2 * 256)), (35, fun vs => .int .u16 y3)] 19 19 (fv := fun vs => .int .u16 nt) rfl rfl (wt_none rfl) (fun _ => rfl) (fun _ => rfl) rfl rfl (by kernel_rfl) (by kernel_rfl) ⟨rd_on (p := 31) 14 14 (fun _ => rfl) (fun _ => rfl) (by kernel_rfl) rfl, rd_on (p := 35) 18 18 (fun _ => rfl) (fun _ => rfl) (by kernel_rfl) rfl, trivial⟩ (fun a w s vs hm hs h e => by
    obtain ⟨e31, e35, _⟩ := e
    replace e31 : a.tmps[31]? = some (.int .u16 (y2 * 256)) := e31
    replace e35 : a.tmps[35]? = some (.int .u16 y3) := e35
    have hq := HS2.out; go_simp; first | done | exact hq | rw [hq])) (steps_cons (gv_op 0 1 [(26, fun vs => .int .u16 nf), (36, fun vs => .int .u16 nt)] 20 20 (fv := fun vs => .agg #[.int .u16 nf, .int .u16 nt, .int .u32 0, .slice none 0 0]) rfl rfl (wt_none rfl) (fun _ => rfl) (fun _ => rfl) rfl rfl (by kernel_rfl) (by kernel_rfl) ⟨rd_on (p := 26) 9 9 (fun _ => rfl) (fun _ => rfl) (by kernel_rfl) rfl, rd_on (p := 36) 19 19 (fun _ => rfl) (fun _ => rfl) (by kernel_rfl) rfl, trivial⟩ (fun a w s vs hm hs h e => by
    obtain ⟨e26, e36, _⟩ := e
    replace e26 : a.tmps[26]? = some (.int .u16 nf) := e26
    replace e36 : a.tmps[36]? = some (.int .u16 nt) := e36
    go_simp; first | done | rfl)) (steps_cons (gv_gen [] 21 21 0 rfl rfl (wt_none rfl) rfl (fun _ => rfl) (fun _ _ => rfl) (fun _ => rfl) rfl (by kernel_rfl) trivial (fun a w K vs h e hw hK => by
    exact value_ (w1 := w.alloc (.cells #[.int .u16 0, .int .u16 0, .int .u32 0, .slice none 0 0] 26)) (v := .pointer (some ⟨w.heap.size, 0, none⟩)) hw rfl (by go_simp; try rfl) (hK _ _ ⟨h.1.alloc h.1.size _, w.heap.size, rfl, blk_new _ _, h.1.size⟩))) (steps_cons (gv_store (f := fun vs W => match vs 1 with | .pointer (some a) => W.setRow a.block #[.int .u16 nf, .int .u16 nt, .int .u32 0, .slice none 0 0] | _ => W) [(5, fun vs => vs 1), (37, fun vs => .agg #[.int .u16 nf, .int .u16 nt, .int .u32 0, .slice none 0 0])] 22 1 rfl rfl (wt_none rfl) rfl (fun _ => rfl) rfl (by kernel_rfl) ⟨rd_on (p := 5) 21 21 (fun _ => rfl) (fun _ => rfl) (by kernel_rfl) rfl, rd_on (p := 37) 20 20 (fun _ => rfl) (fun _ => rfl) (by kernel_rfl) rfl, trivial⟩ (fun a w vs h e => by obtain ⟨e5, e37, _⟩ := e; replace e5 : a.tmps[5]? = some (vs 1) := e5; replace e37 : a.tmps[37]? = some (.agg #[.int .u16 nf, .int .u16 nt, .int .u32 0, .slice none 0 0]) := e37; obtain ⟨_, g5, hv, hb, hg⟩ := h; rw [hv]; exact exec_store_row 26 (.tmp 5) (.tmp 37) rfl ((eval_of e5).trans hv) (eval_of e37) hb (by kernel_rfl) rfl (by simp [Value.oneCell'])) (fun vs w h => by obtain ⟨h1, g5, hv, hb, hg⟩ := h; rw [hv]; exact ⟨below_setRow h1 hg _, g5, rfl, setRow_heap _ _ _ _ _ _ hb, hg⟩)) steps_nil))))))))))))))))))))))
  intro vs W4 hX
  obtain ⟨hB4, g5, hv5, hb5, hg5⟩ := hX
  simp only [putSel, if_true, Act.put, List.setIfInBounds_toArray, List.set_cons_zero, List.set_cons_succ]
  rw [hv5]
  clear hv5 vs
  have H4 := Lh (blk_below H1.out hB4)
  have HB4 := Lh (below_then HB1.out HB1.out.size hB4)
  have HG5 := Lh (show g2 < g5 by have := blk_lt H1.out; omega)
  have HB5 := Lh hb5
  clear hB4 hb5 hg5 XB0 XB1 XB2 XB3 HL0 HL1 HL2 HL3 HW0 HW1 HW2 HW3 HM0 HM2 HS0 HS2 H1 HB1
  have HQ := Lh (show ∀ i, be ((b.drop 4).take (i - 4)) < 256 ^ (i - 4) from fun i => by
   have := fold_lt ((b.drop 4).take (i - 4)) 0
   have h2 : 256 ^ ((b.drop 4).take (i - 4)).length ≤ 256 ^ (i - 4) := Nat.pow_le_pow_right (by decide) (by rw [List.length_take]; omega)
   unfold be
   omega)
  go_wp2
  go_loopw [6] (fun v6 W => ∃ i : Nat, 4 ≤ i ∧ i ≤ 8 ∧ v6 = .int .i64 i ∧ Hid (W.heap[g5]? = some (.cells #[.int .u16 nf, .int .u16 nt, .int .u32 (be ((b.drop 4).take (i - 4)) : Nat), .slice none 0 0] 26 (0, 0))) ∧ Hid (Only (· = g5) W4 W)) (fun v6 _ => 8 - (intOf v6).toNat)
  case atStart => exact ⟨4, by omega, by omega, rfl, HB5.out, Only.refl _ _⟩
  case round =>
   obtain ⟨i, hi4, hi8, rfl, HC, HO⟩ := hrel
   by_cases hlt : i < 8
   ·obtain ⟨ad', e', xi⟩ := byte_at HBC.out i (by have := HLN.out; omega)
    cases e'
    have hbw := HB4.out.trans (HO.out.below HB4.out.size (fun k hk => by have h1 := HG5.out; have h2 := HG.out; have h3 : k = g5 := hk; omega))
    have HY := Lh (fun (W : World) (h : Only (· = g5) wr W) => pw_cell_below (hbw.trans (h.below hbw.size (fun k hk => by have h1 := HG5.out; have h2 := HG.out; have h3 : k = g5 := hk; omega))) xi)
    clear hbw
    have hq4 := HQ.out i
    have hq3 : be ((b.drop 4).take (i - 4)) < 16777216 := Nat.lt_of_lt_of_le hq4 (show 256 ^ (i - 4) ≤ 256 ^ 3 from Nat.pow_le_pow_right (by decide) (by omega))
    have hy := (b.getD i 0).toNat_lt
    have hbe : be ((b.drop 4).take (i + 1 - 4)) = be ((b.drop 4).take (i - 4)) * 256 + (b.getD i 0).toNat := by
     rw [show i + 1 - 4 = (i - 4) + 1 by omega, be_take_succ _ _ (by rw [List.length_drop]; have := HLN.out; omega)]
     congr 2
     simp only [List.getD_eq_getElem?_getD, List.getElem?_drop]
     rw [show 4 + (i - 4) = i by omega]
    have HLI := Lh (show ¬ n ≤ i by have := HLN.out; have := HN.out; omega)
    have HMZ := Lh (u32_small ((be ((b.drop 4).take (i - 4)) : Nat) * 256 : Int) (by omega) (by omega))
    have HWY := Lh (u32_small ((b.getD i 0).toNat : Int) (by omega) (by omega))
    have HSZ := Lh (show IntKind.u32.wrap ((be ((b.drop 4).take (i - 4)) : Nat) * 256 + (b.getD i 0).toNat : Int) = ((be ((b.drop 4).take (i + 1 - 4)) : Nat) : Int) by rw [u32_small _ (by omega) (by omega), hbe]; omega)
    have HZZ := Lh (fun (W : World) (h : W.heap[g5]? = some (.cells #[.int .u16 nf, .int .u16 nt, .int .u32 (be ((b.drop 4).take (i + 1 - 4)) : Nat), .slice none 0 0] 26 (0, 0))) => h)
    clear hq4 hq3 hy hbe xi
    obtain ⟨z2, hz2⟩ : ∃ z2 : Int, ((be ((b.drop 4).take (i + 1 - 4)) : Nat) : Int) = z2 := ⟨_, rfl⟩
    have HZE := Lh hz2
    rw [hz2] at HSZ HZZ
    clear hz2
    generalize ((be ((b.drop 4).take (i - 4)) : Nat) : Int) = z at *
    generalize ((b.getD i 0).toNat : Int) = y at *
    go_upto_region 10 with (fail)
    refine grow_v (B := rhBB10) [0, 1, 2, 3, 4, 5, 6, 7, 8, 9, 10] [10] (fun s vs W => match s with | 0 => W.heap[g5]? = some (.cells #[.int .u16 nf, .int .u16 nt, .int .u32 z, .slice none 0 0] 26 (0, 0)) ∧ Only (· = g5) wr W | _ => W.heap[g5]? = some (.cells #[.int .u16 nf, .int .u16 nt, .int .u32 z2, .slice none 0 0] 26 (0, 0)) ∧ Only (· = g5) wr W) (fun vs => [(0, 42, .pointer (some ⟨g5, 2, none⟩)), (1, 43, .int .u32 z), (2, 44, .int .u32 (z * 256)), (3, 45, .slice (some ad) n c), (4, 46, .int .i64 (i : Int)), (5, 47, .pointer (some (ad.add i))), (6, 48, .int .u8 y), (7, 49, .int .u32 y), (8, 50, .int .u32 z2), (9, 51, .pointer (some ⟨g5, 2, none⟩))]) (by kernel_rfl) rfl (l := #[false, false, false, false, false, false, false, false, false, false, false]) rfl rhBtab10 rhBbits10 (by kernel_rfl) (by kernel_rfl) (fun _ => rfl) rfl (fun _ => undef) ?_ ?_ ?_
    ·exact ⟨blk_drewN HC.out 1, (Only.refl _ _).drew⟩
    ·exact steps_cons (gv_op 0 0 [(5, fun vs => .pointer (some ⟨g5, 0, none⟩))] 0 0 (fv := fun vs => .pointer (some ⟨g5, 2, none⟩)) rfl rfl (wt_none rfl) (fun _ => rfl) (fun _ => rfl) rfl rfl (by kernel_rfl) (by kernel_rfl) ⟨rd_off (p := 5) (fun _ => rfl) rfl, trivial⟩ (fun a w s vs hm hs h e => by
      obtain rfl : s = 0 := by omega
      obtain ⟨e5, _⟩ := e
      replace e5 : a.tmps[5]? = some (.pointer (some ⟨g5, 0, none⟩)) := e5
      go_simp)) (steps_cons (gv_op 0 0 [(42, fun vs => .pointer (some ⟨g5, 2, none⟩))] 1 1 (fv := fun vs => .int .u32 z) rfl rfl (wt_none rfl) (fun _ => rfl) (fun _ => rfl) rfl rfl (by kernel_rfl) (by kernel_rfl) ⟨rd_on (p := 42) 0 0 (fun _ => rfl) (fun _ => rfl) (by kernel_rfl) rfl, trivial⟩ (fun a w s vs hm hs h e => by
      obtain rfl : s = 0 := by omega
      obtain ⟨e42, _⟩ := e
      replace e42 : a.tmps[42]? = some (.pointer (some ⟨g5, 2, none⟩)) := e42
      have hs : w.cell? ⟨g5, 2, none⟩ = some (.int .u32 z) := blk_cell h.1 2; go_simp)) (steps_cons (gv_op 0 0 [(43, fun vs => .int .u32 z)] 2 2 (fv := fun vs => .int .u32 (z * 256)) rfl rfl (wt_none rfl) (fun _ => rfl) (fun _ => rfl) rfl rfl (by kernel_rfl) (by kernel_rfl) ⟨rd_on (p := 43) 1 1 (fun _ => rfl) (fun _ => rfl) (by kernel_rfl) rfl, trivial⟩ (fun a w s vs hm hs h e => by
      obtain rfl : s = 0 := by omega
      obtain ⟨e43, _⟩ := e
      replace e43 : a.tmps[43]? = some (.int .u32 z) := e43
      have hq := HMZ.out; go_simp; first | done | exact hq | rw [hq])) (steps_cons (gv_op 0 0 [(0, fun vs => .slice (some ad) n c)] 3 3 (fv := fun vs => .slice (some ad) n c) rfl rfl (wt_none rfl) (fun _ => rfl) (fun _ => rfl) rfl rfl (by kernel_rfl) (by kernel_rfl) ⟨rd_off (p := 0) (fun _ => rfl) rfl, trivial⟩ (fun a w s vs hm hs h e => by
      obtain rfl : s = 0 := by omega
      obtain ⟨e0, _⟩ := e
      replace e0 : a.tmps[0]? = some (.slice (some ad) n c) := e0
      go_simp)) (steps_cons (gv_op 0 0 [(6, fun vs => .int .i64 (i : Int))] 4 4 (fv := fun vs => .int .i64 (i : Int)) rfl rfl (wt_none rfl) (fun _ => rfl) (fun _ => rfl) rfl rfl (by kernel_rfl) (by kernel_rfl) ⟨rd_off (p := 6) (fun _ => rfl) rfl, trivial⟩ (fun a w s vs hm hs h e => by
      obtain rfl : s = 0 := by omega
      obtain ⟨e6, _⟩ := e
      replace e6 : a.tmps[6]? = some (.int .i64 (i : Int)) := e6
      go_simp)) (steps_cons (gv_op 0 0 [(45, fun vs => .slice (some ad) n c), (46, fun vs => .int .i64 (i : Int))] 5 5 (fv := fun vs => .pointer (some (ad.add i))) rfl rfl (wt_none rfl) (fun _ => rfl) (fun _ => rfl) rfl rfl (by kernel_rfl) (by kernel_rfl) ⟨rd_on (p := 45) 3 3 (fun _ => rfl) (fun _ => rfl) (by kernel_rfl) rfl, rd_on (p := 46) 4 4 (fun _ => rfl) (fun _ => rfl) (by kernel_rfl) rfl, trivial⟩ (fun a w s vs hm hs h e => by
      obtain rfl : s = 0 := by omega
      obtain ⟨e45, e46, _⟩ := e
      replace e45 : a.tmps[45]? = some (.slice (some ad) n c) := e45
      replace e46 : a.tmps[46]? = some (.int .i64 (i : Int)) := e46
      have hl := HLI.out; go_simp)) (steps_cons (gv_op 0 0 [(47, fun vs => .pointer (some (ad.add i)))] 6 6 (fv := fun vs => .int .u8 y) rfl rfl (wt_none rfl) (fun _ => rfl) (fun _ => rfl) rfl rfl (by kernel_rfl) (by kernel_rfl) ⟨rd_on (p := 47) 5 5 (fun _ => rfl) (fun _ => rfl) (by kernel_rfl) rfl, trivial⟩ (fun a w s vs hm hs h e => by
      obtain rfl : s = 0 := by omega
      obtain ⟨e47, _⟩ := e
      replace e47 : a.tmps[47]? = some (.pointer (some (ad.add i))) := e47
      have hs := HY.out w h.2; go_simp)) (steps_cons (gv_op 0 0 [(48, fun vs => .int .u8 y)] 7 7 (fv := fun vs => .int .u32 y) rfl rfl (wt_none rfl) (fun _ => rfl) (fun _ => rfl) rfl rfl (by kernel_rfl) (by kernel_rfl) ⟨rd_on (p := 48) 6 6 (fun _ => rfl) (fun _ => rfl) (by kernel_rfl) rfl, trivial⟩ (fun a w s vs hm hs h e => by
      obtain rfl : s = 0 := by omega
      obtain ⟨e48, _⟩ := e
      replace e48 : a.tmps[48]? = some (.int .u8 y) := e48
      have hq := HWY.out; go_simp; first | done | exact hq | rw [hq])) (steps_cons (gv_op 0 0 [(44, fun vs => .int .u32 (z * 256)), (49, fun vs => .int .u32 y)] 8 8 (fv := fun vs => .int .u32 z2) rfl rfl (wt_none rfl) (fun _ => rfl) (fun _ => rfl) rfl rfl (by kernel_rfl) (by kernel_rfl) ⟨rd_on (p := 44) 2 2 (fun _ => rfl) (fun _ => rfl) (by kernel_rfl) rfl, rd_on (p := 49) 7 7 (fun _ => rfl) (fun _ => rfl) (by kernel_rfl) rfl, trivial⟩ (fun a w s vs hm hs h e => by
      obtain rfl : s = 0 := by omega
      obtain ⟨e44, e49, _⟩ := e
      replace e44 : a.tmps[44]? = some (.int .u32 (z * 256)) := e44
      replace e49 : a.tmps[49]? = some (.int .u32 y) := e49
      have hq := HSZ.out; go_simp; first | done | exact hq | rw [hq])) (steps_cons (gv_op 0 0 [(5, fun vs => .pointer (some ⟨g5, 0, none⟩))] 9 9 (fv := fun vs => .pointer (some ⟨g5, 2, none⟩)) rfl rfl (wt_none rfl) (fun _ => rfl) (fun _ => rfl) rfl rfl (by kernel_rfl) (by kernel_rfl) ⟨rd_off (p := 5) (fun _ => rfl) rfl, trivial⟩ (fun a w s vs hm hs h e => by
      obtain rfl : s = 0 := by omega
      obtain ⟨e5, _⟩ := e
      replace e5 : a.tmps[5]? = some (.pointer (some ⟨g5, 0, none⟩)) := e5
      go_simp)) (steps_cons (gv_store (f := fun vs W => W.setCell ⟨g5, 2, none⟩ (.int .u32 z2)) [(51, fun vs => .pointer (some ⟨g5, 2, none⟩)), (50, fun vs => .int .u32 z2)] 10 0 rfl rfl (wt_none rfl) rfl (fun _ => rfl) rfl (by kernel_rfl) ⟨rd_on (p := 51) 9 9 (fun _ => rfl) (fun _ => rfl) (by kernel_rfl) rfl, rd_on (p := 50) 8 8 (fun _ => rfl) (fun _ => rfl) (by kernel_rfl) rfl, trivial⟩ (fun a w vs h e => by obtain ⟨e51, e50, _⟩ := e; replace e51 : a.tmps[51]? = some (.pointer (some ⟨g5, 2, none⟩)) := e51; replace e50 : a.tmps[50]? = some (.int .u32 z2) := e50; have hs : w.cell? ⟨g5, 2, none⟩ = some (.int .u32 z) := blk_cell h.1 2; have hf := blk_frozen h.1 2; go_simp; first | done | rfl) (fun vs w h => ⟨blk_put h.1 2 _ rfl, h.2.setCell (fun _ => rfl) _⟩)) steps_nil))))))))))
    intro vs W6 hX
    obtain ⟨hC6, hO6⟩ := hX
    have HC6 := Lh (HZZ.out W6 hC6)
    have HO6 := Lh (HO.out.trans hO6 (fun _ _ h => h))
    simp only [putSel, if_true, Act.put, List.setIfInBounds_toArray, List.set_cons_zero, List.set_cons_succ]
    clear hC6 hO6 HY HLI HMZ HWY HSZ HZZ HC HO
    go_wp2
    go_roundw
    case rel => exact ⟨i + 1, by omega, by omega, by go_num, by rw [HZE.out]; exact HC6, HO6⟩
    case measure => simp [intOf]; omega
   ·obtain rfl : i = 8 := by omega
    have hc5 := HC.out
    rw [show (b.drop 4).take (8 - 4) = (b.drop 4).take 4 from rfl] at hc5
    have hb8 := HB4.out.trans (HO.out.below HB4.out.size (fun k hk => by have h1 := HG5.out; have h2 := HG.out; omega))
    have h8 := HO.out.blk H4.out (show ¬ g2 = g5 by have := HG5.out; omega)
    rw [HHQ.out] at HDok
    generalize ((be ((b.drop 4).take 4) : Nat) : Int) = nq at *
    have HB8 := Lh hb8
    have H8 := Lh h8
    have HC8 := Lh hc5
    have k0 : wr.cell? ⟨g5, 0, none⟩ = some (.int .u16 nf) := blk_cell hc5 0
    have k1 : wr.cell? ⟨g5, 1, none⟩ = some (.int .u16 nt) := blk_cell hc5 1
    clear hb8 h8 hc5 HC HO H4 HB4 HB5 hlt HQ
    by_cases hf : nf = 0
    ·have e0 : (nf == 0) = true := by simp [hf]
     have HD := Lh (HDno.out (by rw [e0]; rfl))
     clear hf HDok HDno
     go_wp2_with (refine wpList_store_row rfl 26 _ _ rfl g2 #[.int .u16 0, .int .u16 0, .int .u32 0, .slice none 0 0] rfl rfl 26 #[.int .u16 0, .int .u16 0, .int .u32 0, .slice none 0 0] H8.out (by kernel_rfl) rfl (by simp [Value.oneCell']) ?_)
     exact bodyPost_ret (rhead_results _ _ g2 #[.int .u16 0, .int .u16 0, .int .u32 0, .slice none 0 0] _ rfl rfl (setRow_heap _ _ _ _ _ _ H8.out) rfl) rfl ⟨by rw [HD.out]; rfl, below_setRow HB8.out (by rw [HG.out]; exact Nat.le_refl _) _⟩
    have e0 : (nf == 0) = false := by simp [hf]
    by_cases ht : nt = 0
    ·have e1 : (nt == 0) = true := by simp [ht]
     have HD := Lh (HDno.out (by rw [e0, e1]; rfl))
     clear hf ht HDok HDno
     go_wp2_with (refine wpList_store_row rfl 26 _ _ rfl g2 #[.int .u16 0, .int .u16 0, .int .u32 0, .slice none 0 0] rfl rfl 26 #[.int .u16 0, .int .u16 0, .int .u32 0, .slice none 0 0] H8.out (by kernel_rfl) rfl (by simp [Value.oneCell']) ?_)
     exact bodyPost_ret (rhead_results _ _ g2 #[.int .u16 0, .int .u16 0, .int .u32 0, .slice none 0 0] _ rfl rfl (setRow_heap _ _ _ _ _ _ H8.out) rfl) rfl ⟨by rw [HD.out]; rfl, below_setRow HB8.out (by rw [HG.out]; exact Nat.le_refl _) _⟩
    have e1 : (nt == 0) = false := by simp [ht]
    have HD := Lh (HDok.out (by rw [e0, e1]; rfl))
    clear hf ht HDok HDno
    obtain ⟨CS, hCS⟩ : ∃ CS : Array Value, #[.int .u16 nf, .int .u16 nt, .int .u32 nq, .slice none 0 0] = CS := ⟨_, rfl⟩
    have HCZ := Lh (show (#[.int .u16 0, .int .u16 0, .int .u32 0, .slice none 0 0] : Array Value).size = CS.size by rw [← hCS]; rfl)
    have HCI := Lh (show (Tryd.prog.info? 26).map (·.size) = some CS.size by rw [← hCS]; kernel_rfl)
    have HC1 := Lh (show CS.all (·.oneCell') = true by rw [← hCS]; simp [Value.oneCell'])
    have HCS := Lh hCS
    rw [hCS] at HC8
    clear hCS
    go_wp2_with (first | ((with_reducible refine gate_dst (N := 61) rfl ?_); go_must (refine wpList_load_row rfl 26 (.tmp 5) rfl _ rfl 26 _ (0, 0) _ HC8.out Tryd.underlying26 rfl HCI.out ?_)) | (refine wpList_store_row rfl 26 _ _ rfl g2 CS rfl rfl 26 #[.int .u16 0, .int .u16 0, .int .u32 0, .slice none 0 0] H8.out HCI.out HCZ.out HC1.out ?_))
    exact bodyPost_ret (rhead_results _ _ g2 CS _ rfl rfl (setRow_heap _ _ _ _ _ _ H8.out) HCZ.out.symm) rfl ⟨by rw [← HCS.out, HD.out]; rfl, below_setRow HB8.out (by rw [HG.out]; exact Nat.le_refl _) _⟩
 ·rw [if_neg hk, if_neg hk] at hD
  have hz : (checkL b != 0) = true := by simp [hk]
  have HD := Lh hD.symm
  clear hk hD
  generalize checkL b = ck at *
  go_wp2_with (refine wpList_store_row rfl 26 _ _ rfl g2 #[.int .u16 0, .int .u16 0, .int .u32 0, .slice none 0 0] rfl rfl 26 #[.int .u16 0, .int .u16 0, .int .u32 0, .slice none 0 0] H1.out (by kernel_rfl) rfl (by simp [Value.oneCell']) ?_)
  exact bodyPost_ret (rhead_results _ _ g2 #[.int .u16 0, .int .u16 0, .int .u32 0, .slice none 0 0] _ rfl rfl (setRow_heap _ _ _ _ _ _ H1.out) rfl) rfl ⟨by rw [HD.out]; rfl, below_setRow HB1.out (by rw [HG.out]; exact Nat.le_refl _) _⟩
end Go.Proofs.YtdlamomabonkjaaDoor.Pk
end
section
namespace Go.Proofs.YtdlamomabonkjaaDoor.Pk
open Go.RowKit YtdlamomabonkjaaDoorW.PrintWords YtdlamomabonkjaaDoorW.PrintLast Base PCh ParDec ParEnc Ch Crc CrcMath
theorem rdec2_results (tmps : Array Value) (w : World) (g : Nat) (cs : Array Value) (v1 v2 : Value) (t0 : tmps.getD 2 undef = .pointer (some ⟨g, 0, none⟩)) (t1 : tmps.getD 3 undef = v1) (t2 : tmps.getD 4 undef = v2)
  (h0 : w.heap[g]? = some (.cells cs 26 (0, 0))) (hcs : cs.size = 4) :
  (results Tryd.f20 tmps).run Tryd.prog w = .ok (.tuple #[.agg cs, v1, v2]) w := by
 have hi : (Tryd.prog.info? 26).map (·.size) = some cs.size := by rw [hcs]; kernel_rfl
 have hl := run_loadVar_row w g 26 26 cs (0, 0) _ h0 Tryd.underlying26 rfl hi
 rw [Array.getD_eq_getD_getElem?] at t0 t1 t2
 simp [results, Tryd.results20, asAddr, t0, t1, t2, hl]
set_option maxHeartbeats 4000000 in
theorem rdecode_calls (w : World) (A : Option Addr) (b : List UInt8) (c : Nat) (hb : byte.C w A b.length b) (hc : b.length ≤ c) (hm : b.length ≤ 140737488355328) :
  Calls Tryd.prog 20 #[.slice A b.length c] w (ReadPP w (preadD b true)) := by
 have HH := Lh (fun (W : World) (h : Below w.heap.size w W) => rhead_calls W A b c (Kd.C_below hb h) hc hm)
 obtain ⟨D, hD⟩ : ∃ D, preadD b true = D := ⟨_, rfl⟩
 rw [hD]
 have HD := Lh hD.symm
 clear hD
 have HBC := Lh hb
 have HHC := Lh hc
 unfold ReadPP
 obtain ⟨g2, hg2⟩ : ∃ g, w.heap.size = g := ⟨_, rfl⟩
 have HG := Lh hg2
 clear hb hg2 hc hm
 by_cases hh : headE b = 0
 ·have hr : preadD b false = ⟨(hdF b : Nat), (hdT b : Nat), (hdQ b : Nat), [], 0, 0⟩ := by unfold preadD; rw [if_pos hh]; rfl
  rw [hr] at HH
  obtain ⟨hl12, hl6, hck⟩ := head_len hh
  have HDE := Lh (show D = if (b.drop 12).length = 0 then pzero 0 73
  else if (allL (b.drop 12)).2.2 = 0 then (if apartB (allL (b.drop 12)).1 = true then pzero 0 74 else ⟨(hdF b : Nat), (hdT b : Nat), (hdQ b : Nat), (allL (b.drop 12)).1, 0, 0⟩)
  else pzero (12 + (allL (b.drop 12)).2.1) (allL (b.drop 12)).2.2 from by rw [HD.out]; unfold preadD; rw [if_pos hh, if_neg (by decide)])
  have HAT := Lh (show 0 ≤ (allL (b.drop 12)).2.1 ∧ (allL (b.drop 12)).2.1 ≤ 65536 from by
   have := all_at (b.drop 12) ((b.drop 12).length + 1) 0 [] (Nat.zero_le _)
   have h2 : (b.drop 12).length ≤ 65536 := by rw [List.length_drop]; omega
   exact ⟨this.1, Int.le_trans this.2 (by omega)⟩)
  have HSLI := Lh (fun (W : World) (h : Below w.heap.size w W) => drop_bytes (Kd.C_below HBC.out h) HHC.out 12 (12 : Int) rfl hl12)
  have HAL := Lh (fun (W : World) (B : Option Addr) (hB : byte.C W B (b.drop 12).length (b.drop 12)) (hcc : (b.drop 12).length ≤ c - 12) => rall_calls W B (b.drop 12) (c - 12) hB hcc (by rw [List.length_drop]; omega))
  have HLN := Lh (show (b.drop 12).length = b.length - 12 ∧ 12 ≤ b.length from ⟨List.length_drop, hl12⟩)
  clear hr hh hl12 hl6 hck HD
  generalize ((hdF b : Nat) : Int) = nf at *
  generalize ((hdT b : Nat) : Int) = nt at *
  generalize ((hdQ b : Nat) : Int) = nq at *
  go_enter Tryd.func20, Tryd.ntmps20
  go_upto_region 1 with (fail)
  refine wp_gen (fun W => W.heap[w.heap.size]? = some (.cells #[.int .u16 0, .int .u16 0, .int .u32 0, .slice none 0 0] 26 (0, 0)) ∧ Below w.heap.size w W) ⟨blk_new _ _, below_alloc (Below.refl _ _) _⟩ ?_
  rintro W0 ⟨h0, hB⟩
  rw [HG.out] at h0 ⊢
  have H0 := Lh h0
  have HB0 := Lh hB
  clear h0 hB
  go_wp2_with fail
  refine (HH.out W0 HB0.out).mono ?_
  rintro e W1 ⟨rfl, hB1⟩
  have H1 := Lh (blk_below H0.out hB1)
  have HB1 := Lh (below_then HB0.out HB0.out.size hB1)
  clear hB1 H0 HB0 HH
  obtain ⟨g5, hg5⟩ : ∃ g, W1.heap.size = g := ⟨_, rfl⟩
  have HG5 := Lh hg5
  clear hg5
  go_upto_region 2 with (fail)
  refine wp_gen (fun W => W.heap[W1.heap.size]? = some (.cells #[.int .u16 nf, .int .u16 nt, .int .u32 nq, .slice none 0 0] 26 (0, 0)) ∧ Below W1.heap.size W1 W) ⟨by first | exact blk_new _ _ | exact blk_put (blk_new _ _) 0 _ rfl, below_alloc (Below.refl _ _) _⟩ ?_
  rintro W2 ⟨h5, hB2⟩
  rw [HG5.out] at h5 ⊢
  have H5 := Lh h5
  have HNE := Lh (show g2 < g5 by have := blk_lt H1.out; have := HG5.out; omega)
  replace H1 := Lh (blk_below H1.out hB2)
  replace HB1 := Lh (below_then HB1.out HB1.out.size hB2)
  clear h5 hB2 HG5
  by_cases hn : (b.drop 12).length = 0
  ·have HD1 := Lh (show D = pzero 0 73 by rw [HDE.out, if_pos hn])
   have hz : b.length = 12 := by have := HLN.out; omega
   clear hn HDE HAL HSLI
   rw [hz]
   go_wp2_with (refine wpList_store_row rfl 26 _ _ rfl g2 #[.int .u16 0, .int .u16 0, .int .u32 0, .slice none 0 0] rfl rfl 26 #[.int .u16 0, .int .u16 0, .int .u32 0, .slice none 0 0] H1.out (by kernel_rfl) rfl (by simp [Value.oneCell']) ?_)
   exact bodyPost_ret (rdec2_results _ _ g2 #[.int .u16 0, .int .u16 0, .int .u32 0, .slice none 0 0] _ _ rfl rfl rfl (setRow_heap _ _ _ _ _ _ H1.out) rfl) rfl ⟨.slice none 0 0, by rw [HD1.out]; rfl, by rw [HD1.out]; exact Kd.R_nil _ _ _ _ _, below_setRow HB1.out (by rw [HG.out]; exact Nat.le_refl _) _⟩
  rw [if_neg hn] at HDE
  have hz : ((b.length : Int) == 12) = false := by have := HLN.out; simp; omega
  obtain ⟨B, hdr, hdC, hdl⟩ := HSLI.out W2 HB1.out
  have HALC := Lh (HAL.out W2 B hdC hdl)
  clear hn HSLI HAL hdC hdl
  generalize allL (b.drop 12) = AL at *
  obtain ⟨xs, at_, er⟩ := AL
  dsimp only at HDE HALC HAT
  generalize (b.drop 12).length = zl at *
  generalize c - 12 = c12 at *
  generalize b.length = n at *
  go_wp2_with fail
  refine HALC.out.mono ?_
  rintro e W3 ⟨v, rfl, hR, hB3⟩
  obtain ⟨A3, c3, rfl, hle3, hC3⟩ := Kd.R_reads hR
  have HR := Lh hR
  have HC3 := Lh hC3
  have HLE3 := Lh hle3
  have HSZ := Lh (show g5 < W2.heap.size from blk_lt H5.out)
  replace H1 := Lh (blk_below H1.out hB3)
  replace H5 := Lh (blk_below H5.out hB3)
  replace HB1 := Lh (below_then HB1.out HB1.out.size hB3)
  clear hR hC3 hB3 HALC hle3 hz hdr
  by_cases her : er = 0
  ·subst her
   rw [if_pos rfl] at HDE
   have HMX := Lh (mixed_calls W3 A3 c3 xs HC3.out HLE3.out)
   generalize apartB xs = ab at *
   go_wp2_with fail
   refine HMX.out.mono ?_
   rintro e W4 ⟨rfl, hD4⟩
   have hB4 := drawn_below hD4
   replace H1 := Lh (blk_below H1.out hB4)
   replace H5 := Lh (blk_below H5.out hB4)
   replace HR := Lh (Kd.R_below HR.out hB4)
   replace HB1 := Lh (below_then HB1.out HB1.out.size hB4)
   clear hD4 hB4 HMX HC3
   cases ab with
   | true =>
    have HD1 := Lh (show D = pzero 0 74 by rw [HDE.out, if_pos rfl])
    clear HDE HR
    go_wp2_with (refine wpList_store_row rfl 26 _ _ rfl g2 #[.int .u16 0, .int .u16 0, .int .u32 0, .slice none 0 0] rfl rfl 26 #[.int .u16 0, .int .u16 0, .int .u32 0, .slice none 0 0] H1.out (by kernel_rfl) rfl (by simp [Value.oneCell']) ?_)
    exact bodyPost_ret (rdec2_results _ _ g2 #[.int .u16 0, .int .u16 0, .int .u32 0, .slice none 0 0] _ _ rfl rfl rfl (setRow_heap _ _ _ _ _ _ H1.out) rfl) rfl ⟨.slice none 0 0, by rw [HD1.out]; rfl, by rw [HD1.out]; exact Kd.R_nil _ _ _ _ _, below_setRow HB1.out (by rw [HG.out]; exact Nat.le_refl _) _⟩
   | false =>
    rw [if_neg (by decide)] at HDE
    have hs : W4.cell? ⟨g5, 3, none⟩ = some (.slice none 0 0) := blk_cell H5.out 3
    have hf := blk_frozen H5.out 3
    go_upto_region 12 with (fail)
    have HO := Lh ((Only.refl (· = g5) W4).setCell (p := ⟨g5, 3, none⟩) (fun _ => rfl) (.slice A3 xs.length c3))
    have H5b := Lh (blk_put H5.out 3 (.slice A3 xs.length c3) (show _ = (#[.int .u16 nf, .int .u16 nt, .int .u32 nq, .slice A3 xs.length c3] : Array Value) from rfl))
    have H1b := Lh (HO.out.blk H1.out (show ¬ g2 = g5 by have := HNE.out; omega))
    have HRb := Lh (R_only HR.out HO.out (fun k hk _ h => by have h1 := HSZ.out; have h3 : k = g5 := h; omega))
    have HBb := Lh (HB1.out.trans (HO.out.below HB1.out.size (fun k hk => by have h1 := HNE.out; have h2 := HG.out; have h3 : k = g5 := hk; omega)))
    clear hs hf HR H1 H5 HB1 HO
    refine wp_gen (fun W => W = W4.setCell ⟨g5, 3, none⟩ (.slice A3 xs.length c3)) rfl ?_
    intro W9 hW9
    rw [← hW9] at H5b H1b HRb HBb
    clear hW9
    obtain ⟨CS, hCS⟩ : ∃ CS : Array Value, #[.int .u16 nf, .int .u16 nt, .int .u32 nq, .slice A3 xs.length c3] = CS := ⟨_, rfl⟩
    have HCZ := Lh (show (#[.int .u16 0, .int .u16 0, .int .u32 0, .slice none 0 0] : Array Value).size = CS.size by rw [← hCS]; rfl)
    have HCI := Lh (show (Tryd.prog.info? 26).map (·.size) = some CS.size by rw [← hCS]; kernel_rfl)
    have HC1 := Lh (show CS.all (·.oneCell') = true by rw [← hCS]; simp [Value.oneCell'])
    have HCS := Lh hCS
    rw [hCS] at H5b
    clear hCS
    go_wp2_with (first | ((with_reducible refine gate_dst (N := 41) rfl ?_); go_must (refine wpList_load_row rfl 26 (.tmp 5) rfl _ rfl 26 _ (0, 0) _ H5b.out Tryd.underlying26 rfl HCI.out ?_)) | (refine wpList_store_row rfl 26 _ _ rfl g2 CS rfl rfl 26 #[.int .u16 0, .int .u16 0, .int .u32 0, .slice none 0 0] H1b.out HCI.out HCZ.out HC1.out ?_))
    exact bodyPost_ret (rdec2_results _ _ g2 CS _ _ rfl rfl rfl (setRow_heap _ _ _ _ _ _ H1b.out) HCZ.out.symm) rfl ⟨.slice A3 xs.length c3, by rw [← HCS.out, HDE.out]; rfl, by rw [HDE.out]; exact Kd.R_lower (R_only HRb.out ((Only.refl (· = g2) W9).setRow (fun _ => rfl) CS) (fun k hk _ h => by have h1 := HSZ.out; have h2 := HNE.out; have h3 : k = g2 := h; omega)) (by have h1 := HSZ.out; have h2 := HNE.out; have h3 := HG.out; omega), below_setRow HBb.out (by rw [HG.out]; exact Nat.le_refl _) _⟩
  ·have HD1 := Lh (show D = pzero (12 + at_) er by rw [HDE.out, if_neg her])
   have hz : (er != 0) = true := by simp [her]
   have hw : wrap64 (12 + at_) = 12 + at_ := by have := HAT.out; unfold wrap64; omega
   clear HDE HR HC3 her
   go_wp2_with (refine wpList_store_row rfl 26 _ _ rfl g2 #[.int .u16 0, .int .u16 0, .int .u32 0, .slice none 0 0] rfl rfl 26 #[.int .u16 0, .int .u16 0, .int .u32 0, .slice none 0 0] H1.out (by kernel_rfl) rfl (by simp [Value.oneCell']) ?_)
   exact bodyPost_ret (rdec2_results _ _ g2 #[.int .u16 0, .int .u16 0, .int .u32 0, .slice none 0 0] _ _ rfl rfl rfl (setRow_heap _ _ _ _ _ _ H1.out) rfl) rfl ⟨.slice none 0 0, by rw [HD1.out, ← hw]; rfl, by rw [HD1.out]; exact Kd.R_nil _ _ _ _ _, below_setRow HB1.out (by rw [HG.out]; exact Nat.le_refl _) _⟩
 ·have hr : preadD b false = pzero 0 (headE b) := by unfold preadD; rw [if_neg hh]
  rw [hr] at HH
  have HD1 := Lh (show D = pzero 0 (headE b) from by rw [HD.out]; unfold preadD; rw [if_neg hh])
  have hz : (headE b != 0) = true := by simp [hh]
  clear hr hh HD
  generalize headE b = hE at *
  unfold pzero at HH
  go_enter Tryd.func20, Tryd.ntmps20
  go_upto_region 1 with (fail)
  refine wp_gen (fun W => W.heap[w.heap.size]? = some (.cells #[.int .u16 0, .int .u16 0, .int .u32 0, .slice none 0 0] 26 (0, 0)) ∧ Below w.heap.size w W) ⟨blk_new _ _, below_alloc (Below.refl _ _) _⟩ ?_
  rintro W0 ⟨h0, hB⟩
  rw [HG.out] at h0 ⊢
  have H0 := Lh h0
  have HB0 := Lh hB
  clear h0 hB
  go_wp2_with fail
  refine (HH.out W0 HB0.out).mono ?_
  rintro e W1 ⟨rfl, hB1⟩
  have H1 := Lh (blk_below H0.out hB1)
  have HB1 := Lh (below_then HB0.out HB0.out.size hB1)
  clear hB1 H0 HB0 HH
  go_upto_region 2 with (fail)
  refine wp_gen (fun W => Below W1.heap.size W1 W) (below_alloc (Below.refl _ _) _) ?_
  intro W2 hB2
  replace H1 := Lh (blk_below H1.out hB2)
  replace HB1 := Lh (below_then HB1.out HB1.out.size hB2)
  clear hB2
  go_wp2_with (refine wpList_store_row rfl 26 _ _ rfl g2 #[.int .u16 0, .int .u16 0, .int .u32 0, .slice none 0 0] rfl rfl 26 #[.int .u16 0, .int .u16 0, .int .u32 0, .slice none 0 0] H1.out (by kernel_rfl) rfl (by simp [Value.oneCell']) ?_)
  exact bodyPost_ret (rdec2_results _ _ g2 #[.int .u16 0, .int .u16 0, .int .u32 0, .slice none 0 0] _ _ rfl rfl rfl (setRow_heap _ _ _ _ _ _ H1.out) rfl) rfl ⟨.slice none 0 0, by rw [HD1.out]; rfl, by rw [HD1.out]; exact Kd.R_nil _ _ _ _ _, below_setRow HB1.out (by rw [HG.out]; exact Nat.le_refl _) _⟩
end Go.Proofs.YtdlamomabonkjaaDoor.Pk
end
section
namespace Go.Proofs.YtdlamomabonkjaaDoor.Pk
open Go.RowKit YtdlamomabonkjaaDoorW.PrintWords YtdlamomabonkjaaDoorW.PrintLast Base PCh ParDec ParEnc Ch Crc CrcMath
set_option maxHeartbeats 4000000 in
theorem decodes_row {w : World} (A : Option Addr) (c : Nat) (l : List UInt8) (hb : byte.C w A l.length l) (hc : l.length ≤ c) (hm : c ≤ 140737488351232) (ht : Table w) :
  Calls Tryd.prog 7 #[.slice A l.length c] w fun e w' => e = .returned (.bool true) ∧ Below w.heap.size w w' := by
 have H1 := Lh (fun (W : World) (h : Below w.heap.size w W) => pdecode_calls W A l c (ht.below h) (Kd.C_below hb h) hc (by omega))
 have H2 := Lh (fun (W : World) (h : Below w.heap.size w W) => rdecode_calls W A l c (Kd.C_below hb h) hc (by omega))
 have H3 := Lh (fun (W : World) (h : Below w.heap.size w W) => phead_calls W A l c (ht.below h) (Kd.C_below hb h) hc (by omega))
 have H4 := Lh (fun (W : World) (h : Below w.heap.size w W) => rhead_calls W A l c (Kd.C_below hb h) hc (by omega))
 have HA := Lh (fun (W : World) (h : Below w.heap.size w W) => alive_calls W (ht.below h))
 have HOB := Lh (pread_okB l true)
 rw [pread_head l] at H3
 generalize preadD l true = D at *
 generalize preadD l false = D2 at *
 unfold ReadPP at H1 H2
 clear hb hc ht hm
 generalize l.length = n at *
 go_enter Tryd.func7, Tryd.ntmps7
 go_wp2_with fail
 refine (H1.out w (Below.refl _ _)).mono ?_
 rintro e W1 ⟨v1, rfl, hR1, hB1⟩
 obtain ⟨A1, c1, rfl, _, hC1⟩ := Kd.R_reads hR1
 have HB1 := Lh hB1
 have HC1 := Lh hC1
 clear hR1 hB1 hC1 H1
 obtain ⟨g1, hg1⟩ : ∃ g, W1.heap.size = g := ⟨_, rfl⟩
 have HG1 := Lh hg1
 clear hg1
 go_upto_region 2 with (fail)
 refine wp_gen (fun W => W.heap[W1.heap.size]? = some (.cells #[.int .u16 D.f, .int .u16 D.t, .int .u32 D.q, .slice A1 D.l.length c1] 26 (0, 0)) ∧ Below W1.heap.size W1 W) ⟨by first | exact blk_new _ _ | exact blk_put (blk_new _ _) 0 _ rfl, below_alloc (Below.refl _ _) _⟩ ?_
 rintro V1 ⟨hk1, hb1⟩
 rw [HG1.out] at hk1 ⊢
 have K1 := Lh hk1
 have HV1 := Lh hb1
 clear hk1 hb1
 replace HB1 := Lh (below_then HB1.out HB1.out.size HV1.out)
 replace HC1 := Lh (Kd.C_below HC1.out HV1.out)
 go_wp2_with fail
 refine (H2.out V1 HB1.out).mono ?_
 rintro e W2 ⟨v2, rfl, hR2, hB2⟩
 obtain ⟨A2, c2, rfl, _, hC2⟩ := Kd.R_reads hR2
 replace HB1 := Lh (below_then HB1.out HB1.out.size hB2)
 replace HC1 := Lh (Kd.C_below HC1.out hB2)
 replace K1 := Lh (blk_below K1.out hB2)
 have HC2 := Lh hC2
 clear hR2 hB2 hC2 H2
 obtain ⟨g2, hg2⟩ : ∃ g, W2.heap.size = g := ⟨_, rfl⟩
 have HG2 := Lh hg2
 clear hg2
 go_upto_region 3 with (fail)
 refine wp_gen (fun W => W.heap[W2.heap.size]? = some (.cells #[.int .u16 D.f, .int .u16 D.t, .int .u32 D.q, .slice A2 D.l.length c2] 26 (0, 0)) ∧ Below W2.heap.size W2 W) ⟨by first | exact blk_new _ _ | exact blk_put (blk_new _ _) 0 _ rfl, below_alloc (Below.refl _ _) _⟩ ?_
 rintro V2 ⟨hk2, hb2⟩
 rw [HG2.out] at hk2 ⊢
 have K2 := Lh hk2
 have HV2 := Lh hb2
 clear hk2 hb2
 replace HB1 := Lh (below_then HB1.out HB1.out.size HV2.out)
 replace HC1 := Lh (Kd.C_below HC1.out HV2.out)
 replace HC2 := Lh (Kd.C_below HC2.out HV2.out)
 replace K1 := Lh (blk_below K1.out HV2.out)
 go_wp2_with fail
 refine (H3.out V2 HB1.out).mono ?_
 rintro e W3 ⟨v3, rfl, hR3, hB3⟩
 obtain ⟨A3, c3, rfl, _, hC3⟩ := Kd.R_reads hR3
 replace HB1 := Lh (below_then HB1.out HB1.out.size hB3)
 replace HC1 := Lh (Kd.C_below HC1.out hB3)
 replace HC2 := Lh (Kd.C_below HC2.out hB3)
 replace K1 := Lh (blk_below K1.out hB3)
 replace K2 := Lh (blk_below K2.out hB3)
 have HC3 := Lh hC3
 clear hR3 hB3 hC3 H3
 rw [List.length_nil]
 obtain ⟨g3, hg3⟩ : ∃ g, W3.heap.size = g := ⟨_, rfl⟩
 have HG3 := Lh hg3
 clear hg3
 go_upto_region 4 with (fail)
 refine wp_gen (fun W => W.heap[W3.heap.size]? = some (.cells #[.int .u16 D2.f, .int .u16 D2.t, .int .u32 D2.q, .slice A3 0 c3] 26 (0, 0)) ∧ Below W3.heap.size W3 W) ⟨by first | exact blk_new _ _ | exact blk_put (blk_new _ _) 0 _ rfl, below_alloc (Below.refl _ _) _⟩ ?_
 rintro V3 ⟨hk3, hb3⟩
 rw [HG3.out] at hk3 ⊢
 have K3 := Lh hk3
 have HV3 := Lh hb3
 clear hk3 hb3
 replace HB1 := Lh (below_then HB1.out HB1.out.size HV3.out)
 replace HC1 := Lh (Kd.C_below HC1.out HV3.out)
 replace HC2 := Lh (Kd.C_below HC2.out HV3.out)
 replace HC3 := Lh (Kd.C_below HC3.out HV3.out)
 replace K1 := Lh (blk_below K1.out HV3.out)
 replace K2 := Lh (blk_below K2.out HV3.out)
 go_wp2_with fail
 refine (H4.out V3 HB1.out).mono ?_
 rintro e W4 ⟨rfl, hB4⟩
 replace HB1 := Lh (below_then HB1.out HB1.out.size hB4)
 replace HC1 := Lh (Kd.C_below HC1.out hB4)
 replace HC2 := Lh (Kd.C_below HC2.out hB4)
 replace HC3 := Lh (Kd.C_below HC3.out hB4)
 replace K1 := Lh (blk_below K1.out hB4)
 replace K2 := Lh (blk_below K2.out hB4)
 replace K3 := Lh (blk_below K3.out hB4)
 clear hB4 H4
 obtain ⟨g4, hg4⟩ : ∃ g, W4.heap.size = g := ⟨_, rfl⟩
 have HG4 := Lh hg4
 clear hg4
 go_upto_region 5 with (fail)
 refine wp_gen (fun W => W.heap[W4.heap.size]? = some (.cells #[.int .u16 D2.f, .int .u16 D2.t, .int .u32 D2.q, .slice none 0 0] 26 (0, 0)) ∧ Below W4.heap.size W4 W) ⟨by first | exact blk_new _ _ | exact blk_put (blk_new _ _) 0 _ rfl, below_alloc (Below.refl _ _) _⟩ ?_
 rintro V4 ⟨hk4, hb4⟩
 rw [HG4.out] at hk4 ⊢
 have K4 := Lh hk4
 have HV4 := Lh hb4
 clear hk4 hb4
 replace HB1 := Lh (below_then HB1.out HB1.out.size HV4.out)
 replace HC1 := Lh (Kd.C_below HC1.out HV4.out)
 replace HC2 := Lh (Kd.C_below HC2.out HV4.out)
 replace HC3 := Lh (Kd.C_below HC3.out HV4.out)
 replace K1 := Lh (blk_below K1.out HV4.out)
 replace K2 := Lh (blk_below K2.out HV4.out)
 replace K3 := Lh (blk_below K3.out HV4.out)
 have HS1 := Lh (rpself V4 D.f D.t D.q A1 A2 c1 c2 D.l HC1.out HC2.out HOB.out)
 have HS2 := Lh (fun (W : World) (h : Below V4.heap.size V4 W) => rpself W D2.f D2.t D2.q A3 none c3 0 [] (Kd.C_below HC3.out h) (Kd.C_nil _ _) (fun x hx => by cases hx))
 clear HC1 HC2 HC3 HV1 HV2 HV3 HV4 HOB
 rw [List.length_nil] at HS2
 generalize D.l.length = m at *
 have KK3 := Lh (fun (W : World) (h : Below V4.heap.size V4 W) => blk_below K3.out h)
 have KK4 := Lh (fun (W : World) (h : Below V4.heap.size V4 W) => blk_below K4.out h)
 go_wp2_with (first | ((with_reducible refine gate_dst (N := 35) rfl ?_); go_must (refine wpList_load_row rfl 26 (.tmp 3) rfl _ rfl 26 _ (0, 0) _ K1.out Tryd.underlying26 rfl (by kernel_rfl) ?_)) | ((with_reducible refine gate_dst (N := 36) rfl ?_); go_must (refine wpList_load_row rfl 26 (.tmp 6) rfl _ rfl 26 _ (0, 0) _ K2.out Tryd.underlying26 rfl (by kernel_rfl) ?_)))
 refine HS1.out.mono ?_
 rintro e W5 ⟨rfl, hB5⟩
 have KA := Lh (KK3.out W5 hB5)
 have KB := Lh (KK4.out W5 hB5)
 have HS3 := Lh (HS2.out W5 hB5)
 replace HB1 := Lh (below_then HB1.out HB1.out.size hB5)
 clear hB5 HS1 HS2 KK3 KK4 K1 K2 K3 K4
 go_wp2_with (first | ((with_reducible refine gate_dst (N := 49) rfl ?_); go_must (refine gate_guard (wanted_on rfl rfl rfl rfl) ?_; refine wpList_load_row rfl 26 (.tmp 9) rfl _ rfl 26 _ (0, 0) _ KA.out Tryd.underlying26 rfl (by kernel_rfl) ?_)) | ((with_reducible refine gate_dst (N := 50) rfl ?_); go_must (refine gate_guard (wanted_on rfl rfl rfl rfl) ?_; refine wpList_load_row rfl 26 (.tmp 11) rfl _ rfl 26 _ (0, 0) _ KB.out Tryd.underlying26 rfl (by kernel_rfl) ?_)))
 refine HS3.out.mono ?_
 rintro e W6 ⟨rfl, hB6⟩
 replace HB1 := Lh (below_then HB1.out HB1.out.size hB6)
 have HAL := Lh (HA.out W6 HB1.out)
 clear hB6 HS3 KA KB HA
 go_wp2_with fail
 refine HAL.out.mono ?_
 rintro e W7 ⟨rfl, hB7⟩
 have HB7 := Lh (below_then HB1.out HB1.out.size hB7)
 clear hB7 HAL
 go_wp2
 go_ret
 exact ⟨rfl, HB7.out⟩
end Go.Proofs.YtdlamomabonkjaaDoor.Pk
end
section
namespace Go.Proofs.YtdlamomabonkjaaDoor.Crc
open Go.RowKit YtdlamomabonkjaaDoorW.PrintWords Base CrcMath
theorem gSteps : Tryd.prog.globalNamed "ropewalk/crc.steps" = some 0 := by kernel_rfl
theorem gStepsType : (Tryd.prog.globals[0]?).map (·.type) = some 136 := by kernel_rfl
theorem cells16 : Tryd.prog.cellsOf 136 = 16 := by kernel_rfl
theorem cells32 : Tryd.prog.cellsOf 23 = 1 := by kernel_rfl
theorem table_of {W : World} (h : laidMetH Tryd.prog [("ropewalk/crc.steps", Rows.laid_ropewalk_crc_steps)] W) : Table W := by
 have ht : Lib.TabIs Tryd.prog W "ropewalk/crc.steps" .u32 [0, 274646895, 549293790, 820201905, 1098587580, 1361435347, 1640403810, 1905808397, 2197175160, 2460548119, 2722870694, 2987750089, 3280807620, 3553878443, 3811616794, 4084100981] :=
  Lib.tabIs_of_head (rest := []) gSteps gStepsType Tryd.underlying136 Tryd.underlying23 cells32 cells16 h
 refine ⟨fun i hi => ?_⟩
 have := ht.cell gSteps i (by simpa using hi)
 rw [this]
 have hn : ∀ i : Nat, i < 16 → ([0, 274646895, 549293790, 820201905, 1098587580, 1361435347, 1640403810, 1905808397, 2197175160, 2460548119, 2722870694, 2987750089, 3280807620, 3553878443, 3811616794, 4084100981] : List Int).getD i 0 = (nib i : Int) := by decide +kernel
 rw [← hn i hi]
end Go.Proofs.YtdlamomabonkjaaDoor.Crc
end
section
namespace Go.Proofs.YtdlamomabonkjaaDoor.packetDecodes
open Go.ChangeShapes Go.WideShapes Go.ChangeAt Go.RowKit Base
open Go.ChangeMaps (open_string shut_string)
set_option maxRecDepth 100000 in
theorem contract (H : Type) (enc : TypeId × Value → H) (W : World) (base : Nat) (args : Array Value) (ds gs : List (DataW H)) (before : List MemPlace)
  (hval : ∀ (j : Nat) t v, Tryd.f7.params[j]? = some t → args[j]? = some v → Value.okWide Tryd.prog W .any base t v)
  (hW : DataW.Whole enc Tryd.prog Tryd.f7.params.toList Rows.packetDecodesSpec.vars false W args.toList ds gs before)
  (hsz0 : (DataW.weightsEach Tryd.prog (Tryd.f7.params.toList ++ (OpenSpec.ofChange Rows.packetDecodesSpec).bare.plain.varTypes Tryd.prog) (ds ++ gs)).all (· ≤ reachBytes) = true)
  (hL : laidMetH Tryd.prog Rows.packetDecodesRow.laid W) :
  Calls Tryd.prog 7 args W fun e W' => ∃ v, e = .returned v ∧ Rows.packetDecodesSpec.post enc Tryd.prog Tryd.f7 false true false false W args v W' := by
 have hW' := hW
 obtain ⟨p, q, hA0, hV, rfl, hfz, hnd⟩ := hW
 have hA : DataW.TrodAll enc Tryd.prog W 0 (fun _ => true) true Tryd.f7.params.toList args.toList ds p := hA0
 rw [Tryd.params7] at hA hval
 obtain ⟨v0, vs0, d0, ds0, p0, q0, hargs, rfl, rfl, h0, r0⟩ := trodAll_cons hA
 obtain ⟨rfl, rfl, rfl⟩ := trodAll_nil r0
 obtain rfl : args = #[v0] := by cases args; simp_all
 obtain ⟨rfl, rfl⟩ := trodVars_none hV
 have hsz := hsz0
 rw [Tryd.params7] at hsz
 obtain ⟨a0, len0, cap0, rfl⟩ := okWide_slice Tryd.underlying27 (hval 0 27 v0 rfl rfl)
 have k0 := h0
 have lt0 : ∀ x ∈ p0, x.block < W.heap.size := by obtain ⟨m, hm⟩ := k0; exact DataW.trod_lt m _ _ _ hm
 obtain ⟨l0, rfl, hc0, hb0, hd0⟩ := open_bytes h0
 have hm0 : cap0 ≤ 140737488351232 := reach_bytes hsz (j := 0) rfl rfl hd0
 clear hA0 hsz hsz0
 have ht := Crc.table_of hL
 refine (Pk.decodes_row a0 cap0 l0 hb0 hc0 hm0 ht).mono fun e W' ⟨he, bel⟩ => ?_
 subst he
 exact ⟨_, rfl, _, _, _, [], _, [], hW', trodAll_mk1 (shut_bool Tryd.underlying4 _), (trodAll_cons_mk (Below.trod laidOut (by kernel_rfl) (of_decide_eq_true (by kernel_rfl)) k0 bel lt0) trodAll_mk0), rfl, bel.frame _, fun h => by cases h⟩
noncomputable def laidWorld (os : Os) : World := World.doorLaid Tryd.prog 14 os
theorem laid_met (os : Os) : laidMet Tryd.prog Rows.packetDecodesRow.laid ((laidWorld os).forCall (fun _ _ => 0) ⟨#[], #[.slice none 0 0], []⟩).memory :=
 laidMet_of_run' 8 (by kernel_rfl) (by kernel_rfl)
theorem reads (os : Os) {H : Type} (enc : TypeId × Value → H) : ∃ places, DataW.whole enc Tryd.prog ((laidWorld os).forCall (fun _ _ => 0) ⟨#[], #[.slice none 0 0], []⟩).memory Tryd.f7.params.toList Rows.packetDecodesSpec.vars false (#[.slice none 0 0] : Array Value).toList 8 = some ([.nil], [], places) :=
 ⟨[], by kernel_rfl⟩
set_option maxRecDepth 100000 in
theorem lifted (os : Os) (started : os.Started) (H : Type) (enc : TypeId × Value → H) (F : Stop.Interp) :
  ReturnsInHanded {} Tryd.checked os 7 .any ((OpenSpec.ofChange Rows.packetDecodesSpec).preRow enc Tryd.prog Tryd.f7 Rows.packetDecodesRow.domain false Rows.packetDecodesRow.laid) (((OpenSpec.ofChange Rows.packetDecodesSpec).at F).post enc Tryd.prog Tryd.f7 false true false false) := by
 obtain ⟨places, hx⟩ := reads os enc
 refine returnsInHanded_of_row (C := Tryd.checked) (s := (OpenSpec.ofChange Rows.packetDecodesSpec)) own started (by kernel_rfl) Tryd.func7
  (witness_row_at (enc := enc) (C := Tryd.checked) false (laidWorld os) #[.slice none 0 0] rfl (by kernel_rfl) (by kernel_rfl) (by kernel_rfl)
   (OpenSpec.preRow_of_cond 8 hx (by kernel_rfl) (fun k hk => by cases hk) (by kernel_rfl) (laid_met os))) ?_
 intro W base args ds gs before hval hW _ hcond hsz hL _ _
 exact contract H enc W base args ds gs before hval hW hsz hL
theorem said : Rows.PacketDecodesSaid :=
 OpenClaim.holds_of_cond 7 Tryd.f7 rfl rfl rfl rfl rfl rfl rfl ⟨rfl, rfl, rfl, rfl, rfl⟩ rfl rfl rfl rfl rfl (by kernel_rfl) Tryd.func7 (by kernel_rfl)
  (of_decide_eq_true (by kernel_rfl)) (by unfold Func.isWrapper; first | (rw [if_pos (by decide +kernel)]; kernel_rfl) | (rw [if_neg (by decide +kernel)]; exact ⟨rfl, rfl⟩))
  (fun os started H enc _ F => by rw [OpenClaim.pre_eq_preRow]; exact lifted os started H enc F)
theorem plain (f : FuncId) (fn : Func) (hf : Tryd.pinned.checked.prog.funcNamed "ropewalk/ropewalklaw07.PacketDecodes" = some f) (hfn : Tryd.pinned.checked.prog.funcs[f]? = some fn) :
  true = Tryd.pinned.checked.prog.looks [] ∧ ∀ (j : Nat) t, fn.params[j]? = some t → Tryd.pinned.checked.prog.wantsStandIn t = false := by
 obtain rfl : f = 7 := Option.some.inj ((show Tryd.prog.funcNamed "ropewalk/ropewalklaw07.PacketDecodes" = some 7 by kernel_rfl).symm.trans hf) |>.symm
 obtain rfl : fn = Tryd.f7 := (Option.some.inj (Tryd.func7.symm.trans hfn)).symm
 refine ⟨by kernel_rfl, fun j t ht => ?_⟩
 rw [Tryd.params7] at ht
 have hm : t ∈ [27] := by simpa using Array.mem_of_getElem? ht
 have hall : ([27].all fun u => !Tryd.prog.wantsStandIn u) = true := by kernel_rfl
 exact (show Tryd.prog.wantsStandIn t = false by simpa using List.all_eq_true.1 hall t hm)
theorem packetDecodes_holds : Rows.PacketDecodesCardSaid :=
 Claim7.holds_tied_plain_at .later [] _ _ _ _ said (fun _ h => by cases h) (by kernel_rfl) (fun _ h => by cases h) packetDecodes_row_tie rfl ⟨rfl, rfl⟩ (by kernel_rfl) rfl plain (by kernel_rfl)
#print axioms packetDecodes_holds
end Go.Proofs.YtdlamomabonkjaaDoor.packetDecodes
end
