/- The seal's block, write and seal, walked. -/
import Derived.Test.YthdemajmlidefaaMacC
namespace Go.Proofs.Ythdemajmlidefaa.Mac
open Go.RowKit Go.Proofs.YthdemajmlidefaaW.PrintWords Go.Proofs.Ythdemajmlidefaa.Base
set_option linter.unusedVariables false
set_option linter.unusedSimpArgs false

def blockQ (q : Quad) (m : UInt64) : Quad :=
  let p := rounds 2 ⟨q.a, q.b, q.c, q.d ^^^ m⟩
  ⟨p.a ^^^ m, p.b, p.c, p.d⟩
set_option maxHeartbeats 1000000 in
theorem block_calls (w : World) (g t : Nat) (q : Quad) (r : List Value) (m : UInt64) (HQ : FourQ w g t q r) :
    Calls Try.prog 59 #[.pointer (some ⟨g, 0, none⟩), .int .u64 (m.toNat : Int)] w fun e w' => e = .returned (.tuple #[]) ∧ FourQ w' g t (blockQ q m) r ∧ Only (· = g) w w' := by
  have h0 : Four w g t q.a q.b q.c q.d r := HQ
  have k3 := h0.c3
  have fz := h0.f 3
  have e3 := xor64 q.d m
  have hcall := fun (W : World) (h : FourQ W g t ⟨q.a, q.b, q.c, q.d ^^^ m⟩ r) => rounds_calls W g t _ r 2 2 rfl (by decide) h
  have hbq : Hid (blockQ q m = ⟨(rounds 2 ⟨q.a, q.b, q.c, q.d ^^^ m⟩).a ^^^ m, (rounds 2 ⟨q.a, q.b, q.c, q.d ^^^ m⟩).b, (rounds 2 ⟨q.a, q.b, q.c, q.d ^^^ m⟩).c, (rounds 2 ⟨q.a, q.b, q.c, q.d ^^^ m⟩).d⟩) := rfl
  generalize blockQ q m = fin at *
  generalize rounds 2 ⟨q.a, q.b, q.c, q.d ^^^ m⟩ = p at *
  have HC := Lib.hid hcall
  have H0 := Lib.hid h0
  have E3 := Lib.hid e3
  clear hcall h0 HQ e3
  go_enter Try.func59, Try.ntmps59
  go_wp2_with fail
  rw [E3.out]
  refine (HC.out _ (H0.out.s3 _)).mono ?_
  rintro e w1 ⟨rfl, hF, hO⟩
  have hO2 : Only (· = g) w w1 := ((Only.refl (· = g) w).setCell (p := ⟨g, 3, none⟩) (fun _ => rfl) _).trans hO (fun _ _ h => h)
  have h1 : Four w1 g t p.a p.b p.c p.d r := hF
  have k0 := h1.c0
  have f0 := h1.f 0
  have e0 := Lib.hid (xor64 p.a m)
  clear hF hO fz k3
  go_wp2
  go_end0
  rw [e0.out, hbq.out]
  exact ⟨rfl, h1.s0 _, hO2.setCell (p := ⟨g, 0, none⟩) (fun _ => rfl) _⟩
/-- A seal that is being made. -/
structure MS where
  q : Quad
  word : UInt64
  n : Nat
/-- It stands in block g. -/
structure St (w : World) (g : Nat) (s : MS) : Prop where mk :: (out : FourQ w g 94 s.q [.int .u64 (s.word.toNat : Int), .int .i64 (s.n : Int)])
section
variable {w : World} {g : Nat} {q : Quad} {x : UInt64} {n : Nat}
theorem St.c4 (h : St w g ⟨q, x, n⟩) : w.cell? ⟨g, 4, none⟩ = some (.int .u64 (x.toNat : Int)) := by
  have := blk_cell h.out.out 4
  rw [this]; simp
theorem St.c5 (h : St w g ⟨q, x, n⟩) : w.cell? ⟨g, 5, none⟩ = some (.int .i64 (n : Int)) := by
  have := blk_cell h.out.out 5
  rw [this]; simp
theorem St.f (h : St w g ⟨q, x, n⟩) (i : Nat) : w.frozen? ⟨g, i, none⟩ = false := blk_frozen h.out.out i
theorem St.drew (h : St w g ⟨q, x, n⟩) : St w.drew g ⟨q, x, n⟩ := ⟨⟨h.out.out⟩⟩
theorem St.s4 (h : St w g ⟨q, x, n⟩) (y : UInt64) (z : Int) (hz : z = (y.toNat : Int)) : St (w.setCell ⟨g, 4, none⟩ (.int .u64 z)) g ⟨q, y, n⟩ := ⟨⟨blk_put h.out.out 4 _ (by rw [hz]; simp)⟩⟩
theorem St.s5 (h : St w g ⟨q, x, n⟩) (m : Nat) (z : Int) (hz : z = (m : Int)) : St (w.setCell ⟨g, 5, none⟩ (.int .i64 z)) g ⟨q, x, m⟩ := ⟨⟨blk_put h.out.out 5 _ (by rw [hz]; simp)⟩⟩
end
def shl64 (c : UInt8) (j : Nat) : UInt64 := UInt64.ofNat (c.toNat * 2 ^ j % 18446744073709551616)
theorem shl64_eq (c : UInt8) (j : Nat) : IntKind.u64.wrap ((c.toNat : Int) * 2 ^ j) = ((shl64 c j).toNat : Int) := by
  unfold shl64
  rw [u64w, UInt64.toNat_ofNat', Nat.mod_mod]
  simp
theorem or64 (x y : UInt64) : bits .or .u64 (x.toNat : Int) (y.toNat : Int) = ((x ||| y).toNat : Int) := by
  have hx := x.toNat_lt
  have hy := y.toNat_lt
  rw [(bits_nat .u64 64 (by decide) (fun n h0 h1 => by rw [u64w]; omega) _ _ hx hy).2, UInt64.toNat_or]
def putB (s : MS) (c : UInt8) : MS :=
  if (s.n + 1) % 8 = 0 then ⟨blockQ s.q (s.word ||| shl64 c (8 * (s.n % 8))), 0, s.n + 1⟩ else ⟨s.q, s.word ||| shl64 c (8 * (s.n % 8)), s.n + 1⟩
def putL (s : MS) (l : List UInt8) : MS := l.foldl putB s
theorem putB_n (s : MS) (c : UInt8) : (putB s c).n = s.n + 1 := by unfold putB; split <;> rfl
theorem putL_n (s : MS) (l : List UInt8) : (putL s l).n = s.n + l.length := by
  induction l generalizing s with
  | nil => rfl
  | cons c l ih => show (putL (putB s c) l).n = _; rw [ih, putB_n, List.length_cons]; omega
theorem putL_succ (s : MS) (l : List UInt8) (k : Nat) (h : k < l.length) : putL s (l.take (k + 1)) = putB (putL s (l.take k)) (l.getD k 0) := by
  rw [List.take_succ_eq_append_getElem h, getD_lt _ _ _ h]
  unfold putL
  rw [List.foldl_append]
  rfl
attribute [irreducible] shl64 blockQ
set_option maxHeartbeats 1000000 in
theorem write_calls (w : World) (g : Nat) (s : MS) (A : Option Addr) (c : Nat) (l : List UInt8) (hb : byte.C w A l.length l) (hA : ∀ ad, A = some ad → 0 < l.length → ad.block ≠ g) (hn : s.n + l.length ≤ 4611686018427387904) (HS : St w g s) :
    Calls Try.prog 47 #[.pointer (some ⟨g, 0, none⟩), .slice A l.length c] w fun e w' => e = .returned (.tuple #[]) ∧ St w' g (putL s l) ∧ Only (· = g) w w' := by
  have hlen := hb.2.1
  have HB := Lib.hid hb
  have HSH := Lib.hid HS
  have HAH := Lib.hid hA
  clear hb HS hA
  go_enter Try.func47, Try.ntmps47
  go_wp2
  go_loopw [8] (fun v8 w' => ∃ k : Nat, k ≤ l.length ∧ v8 = .int .i64 k ∧ Hid (St w' g (putL s (l.take k))) ∧ Only (· = g) w w') (fun v8 _ => l.length - (intOf v8).toNat)
  case atStart => exact ⟨0, Nat.zero_le _, rfl, HSH, Only.refl _ _⟩
  case round =>
    obtain ⟨k, hk, rfl, HS, HO⟩ := hrel
    by_cases hk1 : k < l.length
    · have hpn := putL_n s (l.take k)
      have hps := putL_succ s l k hk1
      rw [List.length_take, Nat.min_eq_left hk] at hpn
      generalize putL s (l.take k) = p at *
      obtain ⟨q, x, n⟩ := p
      have hpn : n = s.n + k := hpn
      obtain ⟨ad, rfl, hcb⟩ := byte_at HB.out k hk1
      have hcb := HO.cell hcb (by rw [add_block]; exact HAH.out ad rfl (by omega))
      generalize l.getD k 0 = cb at *
      have hn2 : n ≤ 4611686018427387904 := by omega
      have HPS := Lib.hid hps
      clear hps hpn
      have k4 := HS.out.c4
      have k5 := HS.out.c5
      have fz := HS.out.f 4
      have e1 : IntKind.u64.wrap (cb.toNat : Int) = (cb.toNat : Int) := by rw [u64w]; have := cb.toNat_lt; omega
      have e2 := shl64_eq cb (8 * (n % 8))
      have e3 := or64 x (shl64 cb (8 * (n % 8)))
      generalize hy : x ||| shl64 cb (8 * (n % 8)) = y at *
      have HY := Lib.hid hy
      clear hy
      generalize ((shl64 cb (8 * (n % 8))).toNat : Int) = si at *
      generalize hz : ((y.toNat : Nat) : Int) = z at *
      have HZ := Lib.hid hz
      clear hz
      generalize ((cb.toNat : Nat) : Int) = ci at *
      go_upto_region 3 with (fail)
      go_region
      go_upto_region 4 with (fail)
      refine gen_world (G := Code.wp _ _ _ _) (Pd := fun W' => Hid (St W' g ⟨q, y, n⟩) ∧ Only (· = g) w W') ⟨by first | exact (HS.out.s4 _ _ HZ.out.symm).drew | exact HS.out.drew.s4 _ _ HZ.out.symm, by first | exact (HO.setCell (fun _ => rfl) _).drew | exact HO.drew.setCell (fun _ => rfl) _⟩ ?_
      clear HS HO k4 k5 fz e1 e2 e3 HZ hcb
      rintro wr ⟨HS, HO⟩
      have k5 := HS.out.c5
      have fz := HS.out.f 5
      go_upto_region 5 with (fail)
      refine gen_world (G := Code.wp _ _ _ _) (Pd := fun W' => Hid (St W' g ⟨q, y, n + 1⟩) ∧ Only (· = g) w W') ⟨HS.out.s5 _ _ (by omega), HO.setCell (fun _ => rfl) _⟩ ?_
      clear HS HO k5 fz
      rintro wr ⟨HS, HO⟩
      have k5 := HS.out.c5
      have hc1 : (((n + 1 : Nat) : Int)) = (n : Int) + 1 := by omega
      rw [hc1] at k5
      clear hc1
      have hpb : Hid (putB ⟨q, x, n⟩ cb = if (n + 1) % 8 = 0 then ⟨blockQ q y, 0, n + 1⟩ else ⟨q, y, n + 1⟩) := by rw [← HY.out]; rfl
      by_cases h8 : (n + 1) % 8 = 0
      · have ht : (((n : Int) + 1) % 8 == 0) = true := by rw [beq_iff_eq]; omega
        have hp2 : Hid (putL s (l.take (k + 1)) = ⟨blockQ q y, 0, n + 1⟩) := by show _ = _; rw [HPS.out, hpb.out, if_pos h8]
        clear h8
        have k4 := HS.out.c4
        go_wp2_with fail
        refine (block_calls wr g _ q _ y HS.out.out).mono ?_
        rintro e w1 ⟨rfl, hF, hO1⟩
        have HS1 : Hid (St w1 g ⟨blockQ q y, y, n + 1⟩) := ⟨hF⟩
        have HO1 := HO.trans hO1 (fun _ _ h => h)
        have fz := HS1.out.f 4
        have k4' := HS1.out.c4
        clear HS HO k4 k5 hF hO1 ht
        go_wp2
        go_roundw
        case rel => exact ⟨k + 1, by omega, by go_num, by rw [hp2.out]; exact HS1.out.s4 0 _ rfl, HO1.setCell (fun _ => rfl) _⟩
        case measure => simp [intOf]; omega
      · have ht : (((n : Int) + 1) % 8 == 0) = false := by rw [beq_eq_false_iff_ne]; omega
        have hp2 : Hid (putL s (l.take (k + 1)) = ⟨q, y, n + 1⟩) := by show _ = _; rw [HPS.out, hpb.out, if_neg h8]
        clear h8
        go_wp2
        go_roundw
        case rel => exact ⟨k + 1, by omega, by go_num, by rw [hp2.out]; exact HS.out, HO⟩
        case measure => simp [intOf]; omega
    · obtain rfl : k = l.length := by omega
      rw [List.take_length] at HS
      go_wp2
      go_end0
      exact ⟨rfl, HS.out, HO⟩
end Go.Proofs.Ythdemajmlidefaa.Mac
