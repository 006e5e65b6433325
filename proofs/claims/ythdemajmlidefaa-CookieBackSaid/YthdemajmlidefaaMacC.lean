/- The reference's rounds, walked. -/
import Derived.Test.YthdemajmlidefaaMacB
namespace Go.Proofs.Ythdemajmlidefaa.Mac
open Go.RowKit Go.Proofs.YthdemajmlidefaaW.PrintWords Go.Proofs.Ythdemajmlidefaa.Base
set_option linter.unusedVariables false
set_option linter.unusedSimpArgs false

theorem refRol_calls (x : UInt64) (k : Nat) (j : Int) (hj : j = k) (h0 : 0 < k) (hk : k < 64) (w : World) :
    Calls Try.prog 61 #[.int .u64 (x.toNat : Int), .int .u64 j] w fun e w' => e = .returned (.int .u64 ((rol x k).toNat : Int)) ∧ w = w' := by
  subst hj
  have e := rol_eq x k hk h0
  generalize ((rol x k).toNat : Int) = y at *
  generalize ((x.toNat : Nat) : Int) = z at *
  go_enter Try.func61, Try.ntmps61
  go_wp2
  go_ret
  exact ⟨rfl, rfl⟩
set_option maxRecDepth 100000 in
set_option maxHeartbeats 4000000 in
theorem refRounds_calls (w : World) (g t : Nat) (q : Quad) (r : List Value) (n : Nat) (j : Int) (hj : j = n) (hn : n ≤ 100) (HQ : FourQ w g t q r) :
    Calls Try.prog 51 #[.pointer (some ⟨g, 0, none⟩), .int .i64 j] w fun e w' => e = .returned (.tuple #[]) ∧ FourQ w' g t (rounds n q) r ∧ Only (· = g) w w' := by
  subst hj
  have HN := Lib.hid HQ
  clear HQ
  go_enter Try.func51, Try.ntmps51
  go_wp2
  go_loopw [4] (fun v5 w' => ∃ k : Nat, k ≤ n ∧ v5 = .int .i64 k ∧ Hid (FourQ w' g t (rounds k q) r) ∧ Only (· = g) w w') (fun v5 _ => n - (intOf v5).toNat)
  case atStart => exact ⟨0, Nat.zero_le _, rfl, HN, Only.refl _ _⟩
  case round =>
    obtain ⟨k, hk, rfl, HS, HO⟩ := hrel
    have HR : Hid (rounds (k + 1) q = round (rounds k q)) := rfl
    generalize hp : rounds k q = p at *
    have HP := Lib.hid hp
    clear hp HN
    by_cases hk1 : k < n
    · obtain ⟨a, b, c, d⟩ := p
      have HS : Hid (Four wr g t a b c d r) := HS
      go_upto_region 3 with (fail)
      -- a add a b
      have k0 := HS.out.c0
      have k1 := HS.out.c1
      have fz := HS.out.f 0
      have ea := add64 a b
      generalize hv : (a + b) = a1 at *
      have HA1 := Lib.hid hv
      clear hv
      generalize hz : ((a1.toNat : Nat) : Int) = z at *
      have HZ := Lib.hid hz
      clear hz
      go_region
      go_upto_region 4 with (fail)
      refine gen_world (G := Code.wp _ _ _ _) (Pd := fun W' => Hid (Four W' g t a1 b c d r) ∧ Only (· = g) w W') ⟨by rw [← HZ.out]; first | exact (HS.out.s0 _).drew | exact HS.out.drew.s0 _ | exact HS.out.s0 _, by first | exact (HO.setCell (fun _ => rfl) _).drew | exact HO.drew.setCell (fun _ => rfl) _ | exact HO.setCell (fun _ => rfl) _⟩ ?_
      clear HS HO k0 k1 fz HZ ea
      rintro wr ⟨HS, HO⟩
      -- b rolx b 13 a
      have k0 := HS.out.c0
      have k1 := HS.out.c1
      have fz := HS.out.f 1
      have hr := fun W : World => refRol_calls b 13 13 rfl (by decide) (by decide) W
      have ea := xor64 (rol b 13) a1
      generalize hv : (rol b 13 ^^^ a1) = b2 at *
      have HB2 := Lib.hid hv
      clear hv
      generalize (((rol b 13).toNat : Nat) : Int) = zr at *
      generalize hz : ((b2.toNat : Nat) : Int) = z at *
      have HZ := Lib.hid hz
      clear hz
      refine wp_region_still_tail 13 (by kernel_rfl) (by kernel_rfl) ?_
      simp only [List.take_succ_cons, List.take_zero, List.drop_succ_cons, List.drop_zero]
      repeat still_step
      refine wpStill_step (fun K hK => ?_)
      go_simp
      refine ⟨_, (hr _).mono (fun e w' ⟨h1, h2⟩ => ⟨h1, h2.symm⟩), hK _ ?_⟩
      clear hK K
      repeat still_step
      refine wpStill_nil ?_
      change wpList _ _ _ _ _ wr.drew
      go_upto_region 5 with (fail)
      refine gen_world (G := Code.wp _ _ _ _) (Pd := fun W' => Hid (Four W' g t a1 b2 c d r) ∧ Only (· = g) w W') ⟨by rw [← HZ.out]; first | exact (HS.out.s1 _).drew | exact HS.out.drew.s1 _ | exact HS.out.s1 _, by first | exact (HO.setCell (fun _ => rfl) _).drew | exact HO.drew.setCell (fun _ => rfl) _ | exact HO.setCell (fun _ => rfl) _⟩ ?_
      clear HS HO k0 k1 fz HZ ea hr
      rintro wr ⟨HS, HO⟩
      -- a rol a 32
      have k0 := HS.out.c0
      have fz := HS.out.f 0
      have hr := fun W : World => refRol_calls a1 32 32 rfl (by decide) (by decide) W
      generalize hv : (rol a1 32) = a3 at *
      have HA3 := Lib.hid hv
      clear hv
      generalize hz : ((a3.toNat : Nat) : Int) = z at *
      have HZ := Lib.hid hz
      clear hz
      go_upto_region 6 with (go_at_call 61; refine (hr _).mono ?_; rintro e w' ⟨rfl, rfl⟩)
      refine gen_world (G := Code.wp _ _ _ _) (Pd := fun W' => Hid (Four W' g t a3 b2 c d r) ∧ Only (· = g) w W') ⟨by rw [← HZ.out]; first | exact (HS.out.s0 _).drew | exact HS.out.drew.s0 _ | exact HS.out.s0 _, by first | exact (HO.setCell (fun _ => rfl) _).drew | exact HO.drew.setCell (fun _ => rfl) _ | exact HO.setCell (fun _ => rfl) _⟩ ?_
      clear HS HO k0 fz HZ hr
      rintro wr ⟨HS, HO⟩
      -- c add c d
      have k2 := HS.out.c2
      have k3 := HS.out.c3
      have fz := HS.out.f 2
      have ea := add64 c d
      generalize hv : (c + d) = c4 at *
      have HC4 := Lib.hid hv
      clear hv
      generalize hz : ((c4.toNat : Nat) : Int) = z at *
      have HZ := Lib.hid hz
      clear hz
      go_region
      go_upto_region 7 with (fail)
      refine gen_world (G := Code.wp _ _ _ _) (Pd := fun W' => Hid (Four W' g t a3 b2 c4 d r) ∧ Only (· = g) w W') ⟨by rw [← HZ.out]; first | exact (HS.out.s2 _).drew | exact HS.out.drew.s2 _ | exact HS.out.s2 _, by first | exact (HO.setCell (fun _ => rfl) _).drew | exact HO.drew.setCell (fun _ => rfl) _ | exact HO.setCell (fun _ => rfl) _⟩ ?_
      clear HS HO k2 k3 fz HZ ea
      rintro wr ⟨HS, HO⟩
      -- d rolx d 16 c
      have k2 := HS.out.c2
      have k3 := HS.out.c3
      have fz := HS.out.f 3
      have hr := fun W : World => refRol_calls d 16 16 rfl (by decide) (by decide) W
      have ea := xor64 (rol d 16) c4
      generalize hv : (rol d 16 ^^^ c4) = d5 at *
      have HD5 := Lib.hid hv
      clear hv
      generalize (((rol d 16).toNat : Nat) : Int) = zr at *
      generalize hz : ((d5.toNat : Nat) : Int) = z at *
      have HZ := Lib.hid hz
      clear hz
      refine wp_region_still_tail 13 (by kernel_rfl) (by kernel_rfl) ?_
      simp only [List.take_succ_cons, List.take_zero, List.drop_succ_cons, List.drop_zero]
      repeat still_step
      refine wpStill_step (fun K hK => ?_)
      go_simp
      refine ⟨_, (hr _).mono (fun e w' ⟨h1, h2⟩ => ⟨h1, h2.symm⟩), hK _ ?_⟩
      clear hK K
      repeat still_step
      refine wpStill_nil ?_
      change wpList _ _ _ _ _ wr.drew
      go_upto_region 8 with (fail)
      refine gen_world (G := Code.wp _ _ _ _) (Pd := fun W' => Hid (Four W' g t a3 b2 c4 d5 r) ∧ Only (· = g) w W') ⟨by rw [← HZ.out]; first | exact (HS.out.s3 _).drew | exact HS.out.drew.s3 _ | exact HS.out.s3 _, by first | exact (HO.setCell (fun _ => rfl) _).drew | exact HO.drew.setCell (fun _ => rfl) _ | exact HO.setCell (fun _ => rfl) _⟩ ?_
      clear HS HO k2 k3 fz HZ ea hr
      rintro wr ⟨HS, HO⟩
      -- a add a d
      have k0 := HS.out.c0
      have k3 := HS.out.c3
      have fz := HS.out.f 0
      have ea := add64 a3 d5
      generalize hv : (a3 + d5) = a6 at *
      have HA6 := Lib.hid hv
      clear hv
      generalize hz : ((a6.toNat : Nat) : Int) = z at *
      have HZ := Lib.hid hz
      clear hz
      go_region
      go_upto_region 9 with (fail)
      refine gen_world (G := Code.wp _ _ _ _) (Pd := fun W' => Hid (Four W' g t a6 b2 c4 d5 r) ∧ Only (· = g) w W') ⟨by rw [← HZ.out]; first | exact (HS.out.s0 _).drew | exact HS.out.drew.s0 _ | exact HS.out.s0 _, by first | exact (HO.setCell (fun _ => rfl) _).drew | exact HO.drew.setCell (fun _ => rfl) _ | exact HO.setCell (fun _ => rfl) _⟩ ?_
      clear HS HO k0 k3 fz HZ ea
      rintro wr ⟨HS, HO⟩
      -- d rolx d 21 a
      have k0 := HS.out.c0
      have k3 := HS.out.c3
      have fz := HS.out.f 3
      have hr := fun W : World => refRol_calls d5 21 21 rfl (by decide) (by decide) W
      have ea := xor64 (rol d5 21) a6
      generalize hv : (rol d5 21 ^^^ a6) = d7 at *
      have HD7 := Lib.hid hv
      clear hv
      generalize (((rol d5 21).toNat : Nat) : Int) = zr at *
      generalize hz : ((d7.toNat : Nat) : Int) = z at *
      have HZ := Lib.hid hz
      clear hz
      refine wp_region_still_tail 13 (by kernel_rfl) (by kernel_rfl) ?_
      simp only [List.take_succ_cons, List.take_zero, List.drop_succ_cons, List.drop_zero]
      repeat still_step
      refine wpStill_step (fun K hK => ?_)
      go_simp
      refine ⟨_, (hr _).mono (fun e w' ⟨h1, h2⟩ => ⟨h1, h2.symm⟩), hK _ ?_⟩
      clear hK K
      repeat still_step
      refine wpStill_nil ?_
      change wpList _ _ _ _ _ wr.drew
      go_upto_region 10 with (fail)
      refine gen_world (G := Code.wp _ _ _ _) (Pd := fun W' => Hid (Four W' g t a6 b2 c4 d7 r) ∧ Only (· = g) w W') ⟨by rw [← HZ.out]; first | exact (HS.out.s3 _).drew | exact HS.out.drew.s3 _ | exact HS.out.s3 _, by first | exact (HO.setCell (fun _ => rfl) _).drew | exact HO.drew.setCell (fun _ => rfl) _ | exact HO.setCell (fun _ => rfl) _⟩ ?_
      clear HS HO k0 k3 fz HZ ea hr
      rintro wr ⟨HS, HO⟩
      -- c add c b
      have k1 := HS.out.c1
      have k2 := HS.out.c2
      have fz := HS.out.f 2
      have ea := add64 c4 b2
      generalize hv : (c4 + b2) = c8 at *
      have HC8 := Lib.hid hv
      clear hv
      generalize hz : ((c8.toNat : Nat) : Int) = z at *
      have HZ := Lib.hid hz
      clear hz
      go_region
      go_upto_region 11 with (fail)
      refine gen_world (G := Code.wp _ _ _ _) (Pd := fun W' => Hid (Four W' g t a6 b2 c8 d7 r) ∧ Only (· = g) w W') ⟨by rw [← HZ.out]; first | exact (HS.out.s2 _).drew | exact HS.out.drew.s2 _ | exact HS.out.s2 _, by first | exact (HO.setCell (fun _ => rfl) _).drew | exact HO.drew.setCell (fun _ => rfl) _ | exact HO.setCell (fun _ => rfl) _⟩ ?_
      clear HS HO k1 k2 fz HZ ea
      rintro wr ⟨HS, HO⟩
      -- b rolx b 17 c
      have k1 := HS.out.c1
      have k2 := HS.out.c2
      have fz := HS.out.f 1
      have hr := fun W : World => refRol_calls b2 17 17 rfl (by decide) (by decide) W
      have ea := xor64 (rol b2 17) c8
      generalize hv : (rol b2 17 ^^^ c8) = b9 at *
      have HB9 := Lib.hid hv
      clear hv
      generalize (((rol b2 17).toNat : Nat) : Int) = zr at *
      generalize hz : ((b9.toNat : Nat) : Int) = z at *
      have HZ := Lib.hid hz
      clear hz
      refine wp_region_still_tail 13 (by kernel_rfl) (by kernel_rfl) ?_
      simp only [List.take_succ_cons, List.take_zero, List.drop_succ_cons, List.drop_zero]
      repeat still_step
      refine wpStill_step (fun K hK => ?_)
      go_simp
      refine ⟨_, (hr _).mono (fun e w' ⟨h1, h2⟩ => ⟨h1, h2.symm⟩), hK _ ?_⟩
      clear hK K
      repeat still_step
      refine wpStill_nil ?_
      change wpList _ _ _ _ _ wr.drew
      go_upto_region 12 with (fail)
      refine gen_world (G := Code.wp _ _ _ _) (Pd := fun W' => Hid (Four W' g t a6 b9 c8 d7 r) ∧ Only (· = g) w W') ⟨by rw [← HZ.out]; first | exact (HS.out.s1 _).drew | exact HS.out.drew.s1 _ | exact HS.out.s1 _, by first | exact (HO.setCell (fun _ => rfl) _).drew | exact HO.drew.setCell (fun _ => rfl) _ | exact HO.setCell (fun _ => rfl) _⟩ ?_
      clear HS HO k1 k2 fz HZ ea hr
      rintro wr ⟨HS, HO⟩
      -- c rol c 32
      have k2 := HS.out.c2
      have fz := HS.out.f 2
      have hr := fun W : World => refRol_calls c8 32 32 rfl (by decide) (by decide) W
      generalize hv : (rol c8 32) = c10 at *
      have HC10 := Lib.hid hv
      clear hv
      generalize hz : ((c10.toNat : Nat) : Int) = z at *
      have HZ := Lib.hid hz
      clear hz
      go_upto_region 2 with (go_at_call 61; refine (hr _).mono ?_; rintro e w' ⟨rfl, rfl⟩)
      refine gen_world (G := Code.wp _ _ _ _) (Pd := fun W' => Hid (Four W' g t a6 b9 c10 d7 r) ∧ Only (· = g) w W') ⟨by rw [← HZ.out]; first | exact (HS.out.s2 _).drew | exact HS.out.drew.s2 _ | exact HS.out.s2 _, by first | exact (HO.setCell (fun _ => rfl) _).drew | exact HO.drew.setCell (fun _ => rfl) _ | exact HO.setCell (fun _ => rfl) _⟩ ?_
      clear HS HO k2 fz HZ hr
      rintro wr ⟨HS, HO⟩
      have HE := round_of (q := ⟨a, b, c, d⟩) HA1.out HB2.out HA3.out HC4.out HD5.out HA6.out HD7.out HC8.out HB9.out HC10.out
      have HEH := Lib.hid HE
      clear HE
      go_wp2
      go_roundw
      case rel => exact ⟨k + 1, by omega, by go_num, by rw [HR.out, HEH.out]; exact HS, HO⟩
      case measure => simp [intOf]; omega
    · obtain rfl : k = n := by omega
      go_wp2
      go_end0
      rw [HP.out]
      exact ⟨rfl, HS.out, HO⟩
end Go.Proofs.Ythdemajmlidefaa.Mac
