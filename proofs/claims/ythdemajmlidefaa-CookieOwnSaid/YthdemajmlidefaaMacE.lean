/- The seal's end, its begin, its bytes, walked. -/
import Derived.Test.YthdemajmlidefaaMacD
namespace Go.Proofs.Ythdemajmlidefaa.Mac
open Go.RowKit Go.Proofs.YthdemajmlidefaaW.PrintWords Go.Proofs.Ythdemajmlidefaa.Base
set_option linter.unusedVariables false
set_option linter.unusedSimpArgs false

def len56 (n : Nat) : UInt64 := UInt64.ofNat (n % 256 * 72057594037927936)
theorem len56_eq (n : Nat) : (((n : Int) % 256 * 72057594037927936)) = ((len56 n).toNat : Int) := by
  unfold len56
  rw [UInt64.toNat_ofNat', Nat.mod_eq_of_lt (by omega)]
  omega
def lastQ (q : Quad) : UInt64 :=
  let p := rounds 4 ⟨q.a, q.b, q.c ^^^ 255, q.d⟩
  p.a ^^^ p.b ^^^ p.c ^^^ p.d
def sealS (s : MS) : UInt64 := lastQ (blockQ s.q (s.word ||| len56 s.n))
attribute [irreducible] len56
set_option maxHeartbeats 1000000 in
theorem seal_calls (w : World) (g : Nat) (s : MS) (hn : s.n ≤ 4611686018427387904) (HS : St w g s) :
    Calls Try.prog 48 #[.pointer (some ⟨g, 0, none⟩)] w fun e w' => e = .returned (.int .u64 ((sealS s).toNat : Int)) ∧ Only (· = g) w w' := by
  obtain ⟨q, x, n⟩ := s
  have k4 := HS.c4
  have k5 := HS.c5
  have hs : Hid (sealS ⟨q, x, n⟩ = lastQ (blockQ q (x ||| len56 n))) := rfl
  have hn : n ≤ 4611686018427387904 := hn
  have e1 := len56_eq n
  have e2 := or64 x (len56 n)
  generalize hy : x ||| len56 n = y at *
  have HY := Lib.hid hy
  clear hy
  have HB := Lib.hid (fun (W : World) (h : FourQ W g 94 q [.int .u64 (x.toNat : Int), .int .i64 (n : Int)]) => block_calls W g _ q _ y h)
  have HS := Lib.hid HS
  generalize ((len56 n).toNat : Int) = li at *
  generalize hz : ((y.toNat : Nat) : Int) = z at *
  have HZ := Lib.hid hz
  clear hz
  generalize hv : ((sealS ⟨q, x, n⟩).toNat : Int) = v at *
  have HV := Lib.hid hv
  clear hv
  go_enter Try.func48, Try.ntmps48
  go_upto_region 1 with (fail)
  refine wp_region_still_tail 13 (by kernel_rfl) (by kernel_rfl) ?_
  simp only [List.take_succ_cons, List.take_zero, List.drop_succ_cons, List.drop_zero]
  repeat still_step
  refine wpStill_nil ?_
  change wpList _ _ _ _ _ w.drew
  go_wp2_with fail
  refine (HB.out w.drew HS.out.drew.out).mono ?_
  rintro e w1 ⟨rfl, hF, hO⟩
  have hO1 : Only (· = g) w w1 := (Only.refl (· = g) w).drew.trans hO (fun _ _ h => h)
  generalize hp : blockQ q y = p at *
  have HP := Lib.hid hp
  clear hp
  have h1 : Four w1 g 94 p.a p.b p.c p.d [.int .u64 (x.toNat : Int), .int .i64 (n : Int)] := hF
  have k2 := h1.c2
  have fz := h1.f 2
  have e3 := xor64 p.c 255
  rw [show (((255 : UInt64).toNat : Nat) : Int) = 255 from rfl] at e3
  have H1 := Lib.hid h1
  have HC := Lib.hid (fun (W : World) (h : FourQ W g 94 ⟨p.a, p.b, p.c ^^^ 255, p.d⟩ [.int .u64 (x.toNat : Int), .int .i64 (n : Int)]) => rounds_calls W g _ _ _ 4 4 rfl (by decide) h)
  have hl : Hid (lastQ p = (rounds 4 ⟨p.a, p.b, p.c ^^^ 255, p.d⟩).a ^^^ (rounds 4 ⟨p.a, p.b, p.c ^^^ 255, p.d⟩).b ^^^ (rounds 4 ⟨p.a, p.b, p.c ^^^ 255, p.d⟩).c ^^^ (rounds 4 ⟨p.a, p.b, p.c ^^^ 255, p.d⟩).d) := rfl
  generalize rounds 4 ⟨p.a, p.b, p.c ^^^ 255, p.d⟩ = r at *
  generalize hz3 : (((p.c ^^^ 255).toNat : Nat) : Int) = z3 at *
  have HZ3 := Lib.hid hz3
  clear hz3 h1 hF hO k4 k5 e1 e2 HB HS
  go_wp2_with fail
  rw [← HZ3.out]
  refine (HC.out _ (H1.out.s2 _)).mono ?_
  rintro e w2 ⟨rfl, hF, hO⟩
  have hO2 : Only (· = g) w w2 := (hO1.setCell (p := ⟨g, 2, none⟩) (fun _ => rfl) _).trans hO (fun _ _ h => h)
  have h2 : Four w2 g 94 r.a r.b r.c r.d [.int .u64 (x.toNat : Int), .int .i64 (n : Int)] := hF
  have k0 := h2.c0
  have k1 := h2.c1
  have k2 := h2.c2
  have k3 := h2.c3
  have x1 := xor64 r.a r.b
  have x2 := xor64 (r.a ^^^ r.b) r.c
  have x3 := xor64 (r.a ^^^ r.b ^^^ r.c) r.d
  clear h2 hF hO HC H1 fz e3
  have hv2 : Hid (v = ((r.a ^^^ r.b ^^^ r.c ^^^ r.d).toNat : Int)) := by show _ = _; rw [← HV.out, hs.out, hl.out]
  generalize ((r.a ^^^ r.b ^^^ r.c ^^^ r.d).toNat : Int) = y4 at *
  generalize ((r.a ^^^ r.b ^^^ r.c).toNat : Int) = y3 at *
  generalize ((r.a ^^^ r.b).toNat : Int) = y2 at *
  go_wp2
  go_quiet (fail)
  go_wp2
  go_ret
  exact ⟨by rw [hv2.out]; rfl, hO2.drewN _⟩
end Go.Proofs.Ythdemajmlidefaa.Mac
