/- The fields of a cookie's state: walked. (Printed by gen/CkA.py.) -/
import Derived.Test.YthdemajmlidefaaCkPure
import Derived.Test.YthdemajmlidefaaBaseB
import Derived.Laws.Rows
import Derived.Laws.EntriesVeiled
import Derived.Test.YthdemajmlidefaaWLast
namespace Go.Proofs.Ythdemajmlidefaa.Ck
open Go.RowKit Go.Proofs.YthdemajmlidefaaW.PrintWords Go.Proofs.YthdemajmlidefaaW.PrintLast Go.Proofs.Ythdemajmlidefaa.Base
set_option linter.unusedVariables false
set_option linter.unusedSimpArgs false
/-- Of each field: its bytes, its functions, where it lies. -/
def nF : Nat → Nat
  | 0 => 8
  | 1 => 4
  | 2 => 2
  | 3 => 2
  | 4 => 4
  | 5 => 4
  | 6 => 4
  | 7 => 4
  | 8 => 4
  | 9 => 2
  | 10 => 2
  | 11 => 4
  | _ => 4
def aF : Nat → Nat
  | 0 => 31
  | 1 => 32
  | 2 => 34
  | 3 => 35
  | 4 => 37
  | 5 => 38
  | 6 => 39
  | 7 => 40
  | 8 => 41
  | 9 => 42
  | 10 => 43
  | 11 => 44
  | _ => 45
def gF : Nat → Nat
  | 0 => 52
  | 1 => 52
  | 2 => 54
  | 3 => 54
  | 4 => 56
  | 5 => 56
  | 6 => 56
  | 7 => 56
  | 8 => 56
  | 9 => 54
  | 10 => 54
  | 11 => 56
  | _ => 56
def sF : Nat → Nat
  | 0 => 53
  | 1 => 53
  | 2 => 55
  | 3 => 55
  | 4 => 57
  | 5 => 57
  | 6 => 57
  | 7 => 57
  | 8 => 57
  | 9 => 55
  | 10 => 55
  | 11 => 57
  | _ => 57
def bT : Nat → TypeId
  | 0 => 74
  | 1 => 74
  | 2 => 77
  | 3 => 77
  | 4 => 80
  | 5 => 80
  | 6 => 80
  | 7 => 80
  | 8 => 80
  | 9 => 77
  | 10 => 77
  | 11 => 80
  | _ => 80
def cF : Nat → Nat
  | 0 => 11
  | 1 => 12
  | 2 => 0
  | 3 => 1
  | 4 => 2
  | 5 => 3
  | 6 => 4
  | 7 => 5
  | 8 => 6
  | 9 => 7
  | 10 => 8
  | 11 => 9
  | _ => 10
def kF : Nat → IntKind
  | 0 => .i64
  | 1 => .i64
  | 2 => .u16
  | 3 => .u16
  | 4 => .u32
  | 5 => .u32
  | 6 => .u32
  | 7 => .u32
  | 8 => .u32
  | 9 => .u16
  | 10 => .u16
  | 11 => .u32
  | _ => .u32
/-- A state in memory: its numbers in the order of its fields. -/
def stV (x : Nat → Nat) : Array Value := #[.int .u16 (x 2 : Nat), .int .u16 (x 3 : Nat), .int .u32 (x 4 : Nat), .int .u32 (x 5 : Nat), .int .u32 (x 6 : Nat), .int .u32 (x 7 : Nat), .int .u32 (x 8 : Nat), .int .u16 (x 9 : Nat), .int .u16 (x 10 : Nat), .int .u32 (x 11 : Nat), .int .u32 (x 12 : Nat), .int .i64 (x 0 : Nat), .int .i64 (x 1 : Nat)]
def upd (x : Nat → Nat) (i v : Nat) : Nat → Nat := fun j => if j = i then v else x j
def atV (i : Nat) : Value := .func (.func (aF i)) #[] #[]
def getV (i b : Nat) : Value := .func (.func (gF i)) #[] #[.pointer (some ⟨b, 0, none⟩)]
def setV (i b : Nat) : Value := .func (.func (sF i)) #[] #[.pointer (some ⟨b, 0, none⟩)]
abbrev STT := 55
theorem at_calls (i : Nat) (hi : i < 13) (s : Nat) (w : World) : Calls Try.prog (aF i) #[.pointer (some ⟨s, 0, none⟩)] w fun e w' => e = .returned (.pointer (some ⟨s, cF i, none⟩)) ∧ w' = w := by
  match i, hi with
  | 0, _ =>
    show Calls Try.prog 31 _ _ _
    go_enter Try.func31, Try.ntmps31
    go_wp2
    go_ret
    exact ⟨rfl, rfl⟩
  | 1, _ =>
    show Calls Try.prog 32 _ _ _
    go_enter Try.func32, Try.ntmps32
    go_wp2
    go_ret
    exact ⟨rfl, rfl⟩
  | 2, _ =>
    show Calls Try.prog 34 _ _ _
    go_enter Try.func34, Try.ntmps34
    go_wp2
    go_ret
    exact ⟨rfl, rfl⟩
  | 3, _ =>
    show Calls Try.prog 35 _ _ _
    go_enter Try.func35, Try.ntmps35
    go_wp2
    go_ret
    exact ⟨rfl, rfl⟩
  | 4, _ =>
    show Calls Try.prog 37 _ _ _
    go_enter Try.func37, Try.ntmps37
    go_wp2
    go_ret
    exact ⟨rfl, rfl⟩
  | 5, _ =>
    show Calls Try.prog 38 _ _ _
    go_enter Try.func38, Try.ntmps38
    go_wp2
    go_ret
    exact ⟨rfl, rfl⟩
  | 6, _ =>
    show Calls Try.prog 39 _ _ _
    go_enter Try.func39, Try.ntmps39
    go_wp2
    go_ret
    exact ⟨rfl, rfl⟩
  | 7, _ =>
    show Calls Try.prog 40 _ _ _
    go_enter Try.func40, Try.ntmps40
    go_wp2
    go_ret
    exact ⟨rfl, rfl⟩
  | 8, _ =>
    show Calls Try.prog 41 _ _ _
    go_enter Try.func41, Try.ntmps41
    go_wp2
    go_ret
    exact ⟨rfl, rfl⟩
  | 9, _ =>
    show Calls Try.prog 42 _ _ _
    go_enter Try.func42, Try.ntmps42
    go_wp2
    go_ret
    exact ⟨rfl, rfl⟩
  | 10, _ =>
    show Calls Try.prog 43 _ _ _
    go_enter Try.func43, Try.ntmps43
    go_wp2
    go_ret
    exact ⟨rfl, rfl⟩
  | 11, _ =>
    show Calls Try.prog 44 _ _ _
    go_enter Try.func44, Try.ntmps44
    go_wp2
    go_ret
    exact ⟨rfl, rfl⟩
  | 12, _ =>
    show Calls Try.prog 45 _ _ _
    go_enter Try.func45, Try.ntmps45
    go_wp2
    go_ret
    exact ⟨rfl, rfl⟩
theorem aE (i : Nat) (hi : i < 13) (args : Array Value) (w : World) : (callFunc (aF i) args).run Try.prog w = .ok (.enter (aF i) args) w := by
  match i, hi with
  | 0, _ => exact enters_ Try.func31 (by kernel_rfl) (by kernel_rfl) args w
  | 1, _ => exact enters_ Try.func32 (by kernel_rfl) (by kernel_rfl) args w
  | 2, _ => exact enters_ Try.func34 (by kernel_rfl) (by kernel_rfl) args w
  | 3, _ => exact enters_ Try.func35 (by kernel_rfl) (by kernel_rfl) args w
  | 4, _ => exact enters_ Try.func37 (by kernel_rfl) (by kernel_rfl) args w
  | 5, _ => exact enters_ Try.func38 (by kernel_rfl) (by kernel_rfl) args w
  | 6, _ => exact enters_ Try.func39 (by kernel_rfl) (by kernel_rfl) args w
  | 7, _ => exact enters_ Try.func40 (by kernel_rfl) (by kernel_rfl) args w
  | 8, _ => exact enters_ Try.func41 (by kernel_rfl) (by kernel_rfl) args w
  | 9, _ => exact enters_ Try.func42 (by kernel_rfl) (by kernel_rfl) args w
  | 10, _ => exact enters_ Try.func43 (by kernel_rfl) (by kernel_rfl) args w
  | 11, _ => exact enters_ Try.func44 (by kernel_rfl) (by kernel_rfl) args w
  | 12, _ => exact enters_ Try.func45 (by kernel_rfl) (by kernel_rfl) args w
theorem gE (i : Nat) (hi : i < 13) (args : Array Value) (w : World) : (callFunc (gF i) args).run Try.prog w = .ok (.enter (gF i) args) w := by
  match i, hi with
  | 0, _ => exact enters_ Try.func52 (by kernel_rfl) (by kernel_rfl) args w
  | 1, _ => exact enters_ Try.func52 (by kernel_rfl) (by kernel_rfl) args w
  | 2, _ => exact enters_ Try.func54 (by kernel_rfl) (by kernel_rfl) args w
  | 3, _ => exact enters_ Try.func54 (by kernel_rfl) (by kernel_rfl) args w
  | 4, _ => exact enters_ Try.func56 (by kernel_rfl) (by kernel_rfl) args w
  | 5, _ => exact enters_ Try.func56 (by kernel_rfl) (by kernel_rfl) args w
  | 6, _ => exact enters_ Try.func56 (by kernel_rfl) (by kernel_rfl) args w
  | 7, _ => exact enters_ Try.func56 (by kernel_rfl) (by kernel_rfl) args w
  | 8, _ => exact enters_ Try.func56 (by kernel_rfl) (by kernel_rfl) args w
  | 9, _ => exact enters_ Try.func54 (by kernel_rfl) (by kernel_rfl) args w
  | 10, _ => exact enters_ Try.func54 (by kernel_rfl) (by kernel_rfl) args w
  | 11, _ => exact enters_ Try.func56 (by kernel_rfl) (by kernel_rfl) args w
  | 12, _ => exact enters_ Try.func56 (by kernel_rfl) (by kernel_rfl) args w
theorem sE (i : Nat) (hi : i < 13) (args : Array Value) (w : World) : (callFunc (sF i) args).run Try.prog w = .ok (.enter (sF i) args) w := by
  match i, hi with
  | 0, _ => exact enters_ Try.func53 (by kernel_rfl) (by kernel_rfl) args w
  | 1, _ => exact enters_ Try.func53 (by kernel_rfl) (by kernel_rfl) args w
  | 2, _ => exact enters_ Try.func55 (by kernel_rfl) (by kernel_rfl) args w
  | 3, _ => exact enters_ Try.func55 (by kernel_rfl) (by kernel_rfl) args w
  | 4, _ => exact enters_ Try.func57 (by kernel_rfl) (by kernel_rfl) args w
  | 5, _ => exact enters_ Try.func57 (by kernel_rfl) (by kernel_rfl) args w
  | 6, _ => exact enters_ Try.func57 (by kernel_rfl) (by kernel_rfl) args w
  | 7, _ => exact enters_ Try.func57 (by kernel_rfl) (by kernel_rfl) args w
  | 8, _ => exact enters_ Try.func57 (by kernel_rfl) (by kernel_rfl) args w
  | 9, _ => exact enters_ Try.func55 (by kernel_rfl) (by kernel_rfl) args w
  | 10, _ => exact enters_ Try.func55 (by kernel_rfl) (by kernel_rfl) args w
  | 11, _ => exact enters_ Try.func57 (by kernel_rfl) (by kernel_rfl) args w
  | 12, _ => exact enters_ Try.func57 (by kernel_rfl) (by kernel_rfl) args w
theorem count_get (w : World) (s b k j y : Nat) (k0 : w.cell? ⟨b, 0, none⟩ = some (.func (.func k) #[] #[])) (k1 : w.cell? ⟨s, j, none⟩ = some (.int .i64 (y : Nat))) (hy : y < 9223372036854775808) (hE : ∀ (args : Array Value) (w : World), (callFunc k args).run Try.prog w = .ok (.enter k args) w) (hA : Calls Try.prog k #[.pointer (some ⟨s, 0, none⟩)] w fun e w' => e = .returned (.pointer (some ⟨s, j, none⟩)) ∧ w' = w) :
    Calls Try.prog 52 #[.pointer (some ⟨s, 0, none⟩), .pointer (some ⟨b, 0, none⟩)] w fun e w' => e = .returned (.int .u64 (y : Nat)) ∧ w' = w := by
  have HA := Lib.hid hA
  clear hA
  go_enter Try.func52, Try.ntmps52
  go_wp2_with fail
  refine HA.out.mono ?_
  rintro e w' ⟨rfl, rfl⟩
  go_wp2
  go_ret
  exact ⟨rfl, rfl⟩
theorem count_set (w : World) (s b k j y : Nat) (u : Value) (k0 : w.cell? ⟨b, 0, none⟩ = some (.func (.func k) #[] #[])) (k1 : w.cell? ⟨s, j, none⟩ = some u) (f1 : w.frozen? ⟨s, j, none⟩ = false) (hy : y < 9223372036854775808) (hE : ∀ (args : Array Value) (w : World), (callFunc k args).run Try.prog w = .ok (.enter k args) w) (hA : Calls Try.prog k #[.pointer (some ⟨s, 0, none⟩)] w fun e w' => e = .returned (.pointer (some ⟨s, j, none⟩)) ∧ w' = w) :
    Calls Try.prog 53 #[.pointer (some ⟨s, 0, none⟩), .int .u64 (y : Nat), .pointer (some ⟨b, 0, none⟩)] w fun e w' => e = .returned (.tuple #[]) ∧ w' = w.setCell ⟨s, j, none⟩ (.int .i64 (y : Nat)) := by
  have HA := Lib.hid hA
  clear hA
  go_enter Try.func53, Try.ntmps53
  go_wp2_with fail
  refine HA.out.mono ?_
  rintro e w' ⟨rfl, rfl⟩
  go_wp2
  go_end0
  exact ⟨rfl, rfl⟩
theorem short_get (w : World) (s b k j y : Nat) (k0 : w.cell? ⟨b, 0, none⟩ = some (.func (.func k) #[] #[])) (k1 : w.cell? ⟨s, j, none⟩ = some (.int .u16 (y : Nat))) (hy : y < 65536) (hE : ∀ (args : Array Value) (w : World), (callFunc k args).run Try.prog w = .ok (.enter k args) w) (hA : Calls Try.prog k #[.pointer (some ⟨s, 0, none⟩)] w fun e w' => e = .returned (.pointer (some ⟨s, j, none⟩)) ∧ w' = w) :
    Calls Try.prog 54 #[.pointer (some ⟨s, 0, none⟩), .pointer (some ⟨b, 0, none⟩)] w fun e w' => e = .returned (.int .u64 (y : Nat)) ∧ w' = w := by
  have HA := Lib.hid hA
  clear hA
  go_enter Try.func54, Try.ntmps54
  go_wp2_with fail
  refine HA.out.mono ?_
  rintro e w' ⟨rfl, rfl⟩
  go_wp2
  go_ret
  exact ⟨rfl, rfl⟩
theorem short_set (w : World) (s b k j y : Nat) (u : Value) (k0 : w.cell? ⟨b, 0, none⟩ = some (.func (.func k) #[] #[])) (k1 : w.cell? ⟨s, j, none⟩ = some u) (f1 : w.frozen? ⟨s, j, none⟩ = false) (hy : y < 65536) (hE : ∀ (args : Array Value) (w : World), (callFunc k args).run Try.prog w = .ok (.enter k args) w) (hA : Calls Try.prog k #[.pointer (some ⟨s, 0, none⟩)] w fun e w' => e = .returned (.pointer (some ⟨s, j, none⟩)) ∧ w' = w) :
    Calls Try.prog 55 #[.pointer (some ⟨s, 0, none⟩), .int .u64 (y : Nat), .pointer (some ⟨b, 0, none⟩)] w fun e w' => e = .returned (.tuple #[]) ∧ w' = w.setCell ⟨s, j, none⟩ (.int .u16 (y : Nat)) := by
  have HA := Lib.hid hA
  clear hA
  go_enter Try.func55, Try.ntmps55
  go_wp2_with fail
  refine HA.out.mono ?_
  rintro e w' ⟨rfl, rfl⟩
  go_wp2
  go_end0
  exact ⟨rfl, rfl⟩
theorem long_get (w : World) (s b k j y : Nat) (k0 : w.cell? ⟨b, 0, none⟩ = some (.func (.func k) #[] #[])) (k1 : w.cell? ⟨s, j, none⟩ = some (.int .u32 (y : Nat))) (hy : y < 4294967296) (hE : ∀ (args : Array Value) (w : World), (callFunc k args).run Try.prog w = .ok (.enter k args) w) (hA : Calls Try.prog k #[.pointer (some ⟨s, 0, none⟩)] w fun e w' => e = .returned (.pointer (some ⟨s, j, none⟩)) ∧ w' = w) :
    Calls Try.prog 56 #[.pointer (some ⟨s, 0, none⟩), .pointer (some ⟨b, 0, none⟩)] w fun e w' => e = .returned (.int .u64 (y : Nat)) ∧ w' = w := by
  have HA := Lib.hid hA
  clear hA
  go_enter Try.func56, Try.ntmps56
  go_wp2_with fail
  refine HA.out.mono ?_
  rintro e w' ⟨rfl, rfl⟩
  go_wp2
  go_ret
  exact ⟨rfl, rfl⟩
theorem long_set (w : World) (s b k j y : Nat) (u : Value) (k0 : w.cell? ⟨b, 0, none⟩ = some (.func (.func k) #[] #[])) (k1 : w.cell? ⟨s, j, none⟩ = some u) (f1 : w.frozen? ⟨s, j, none⟩ = false) (hy : y < 4294967296) (hE : ∀ (args : Array Value) (w : World), (callFunc k args).run Try.prog w = .ok (.enter k args) w) (hA : Calls Try.prog k #[.pointer (some ⟨s, 0, none⟩)] w fun e w' => e = .returned (.pointer (some ⟨s, j, none⟩)) ∧ w' = w) :
    Calls Try.prog 57 #[.pointer (some ⟨s, 0, none⟩), .int .u64 (y : Nat), .pointer (some ⟨b, 0, none⟩)] w fun e w' => e = .returned (.tuple #[]) ∧ w' = w.setCell ⟨s, j, none⟩ (.int .u32 (y : Nat)) := by
  have HA := Lib.hid hA
  clear hA
  go_enter Try.func57, Try.ntmps57
  go_wp2_with fail
  refine HA.out.mono ?_
  rintro e w' ⟨rfl, rfl⟩
  go_wp2
  go_end0
  exact ⟨rfl, rfl⟩
theorem get_calls (i : Nat) (hi : i < 13) (w : World) (s b : Nat) (x : Nat → Nat) (hs : w.heap[s]? = some (.cells (stV x) STT (0, 0))) (hb : w.heap[b]? = some (.cells #[atV i] (bT i) (0, 0))) (hx : x i < 256 ^ nF i) (h63 : x i < 9223372036854775808) :
    Calls Try.prog (gF i) #[.pointer (some ⟨s, 0, none⟩), .pointer (some ⟨b, 0, none⟩)] w fun e w' => e = .returned (.int .u64 (x i : Nat)) ∧ w' = w := by
  have hA := at_calls i hi s w
  have k0 := blk_cell hb 0
  have k1 := blk_cell hs (cF i)
  match i, hi with
  | 0, _ => exact count_get w s b _ _ _ k0 k1 h63 (aE 0 (by omega)) hA
  | 1, _ => exact count_get w s b _ _ _ k0 k1 h63 (aE 1 (by omega)) hA
  | 2, _ => exact short_get w s b _ _ _ k0 k1 hx (aE 2 (by omega)) hA
  | 3, _ => exact short_get w s b _ _ _ k0 k1 hx (aE 3 (by omega)) hA
  | 4, _ => exact long_get w s b _ _ _ k0 k1 hx (aE 4 (by omega)) hA
  | 5, _ => exact long_get w s b _ _ _ k0 k1 hx (aE 5 (by omega)) hA
  | 6, _ => exact long_get w s b _ _ _ k0 k1 hx (aE 6 (by omega)) hA
  | 7, _ => exact long_get w s b _ _ _ k0 k1 hx (aE 7 (by omega)) hA
  | 8, _ => exact long_get w s b _ _ _ k0 k1 hx (aE 8 (by omega)) hA
  | 9, _ => exact short_get w s b _ _ _ k0 k1 hx (aE 9 (by omega)) hA
  | 10, _ => exact short_get w s b _ _ _ k0 k1 hx (aE 10 (by omega)) hA
  | 11, _ => exact long_get w s b _ _ _ k0 k1 hx (aE 11 (by omega)) hA
  | 12, _ => exact long_get w s b _ _ _ k0 k1 hx (aE 12 (by omega)) hA
theorem st_upd (i : Nat) (hi : i < 13) {w : World} {s : Nat} {x : Nat → Nat} (hs : w.heap[s]? = some (.cells (stV x) STT (0, 0))) (v : Nat) : (w.setCell ⟨s, cF i, none⟩ (.int (kF i) (v : Nat))).heap[s]? = some (.cells (stV (upd x i v)) STT (0, 0)) := by
  match i, hi with
  | 0, _ => exact blk_put hs 11 (.int .i64 (v : Nat)) rfl
  | 1, _ => exact blk_put hs 12 (.int .i64 (v : Nat)) rfl
  | 2, _ => exact blk_put hs 0 (.int .u16 (v : Nat)) rfl
  | 3, _ => exact blk_put hs 1 (.int .u16 (v : Nat)) rfl
  | 4, _ => exact blk_put hs 2 (.int .u32 (v : Nat)) rfl
  | 5, _ => exact blk_put hs 3 (.int .u32 (v : Nat)) rfl
  | 6, _ => exact blk_put hs 4 (.int .u32 (v : Nat)) rfl
  | 7, _ => exact blk_put hs 5 (.int .u32 (v : Nat)) rfl
  | 8, _ => exact blk_put hs 6 (.int .u32 (v : Nat)) rfl
  | 9, _ => exact blk_put hs 7 (.int .u16 (v : Nat)) rfl
  | 10, _ => exact blk_put hs 8 (.int .u16 (v : Nat)) rfl
  | 11, _ => exact blk_put hs 9 (.int .u32 (v : Nat)) rfl
  | 12, _ => exact blk_put hs 10 (.int .u32 (v : Nat)) rfl
theorem set_calls (i : Nat) (hi : i < 13) (w : World) (s b : Nat) (x : Nat → Nat) (v : Nat) (hs : w.heap[s]? = some (.cells (stV x) STT (0, 0))) (hb : w.heap[b]? = some (.cells #[atV i] (bT i) (0, 0))) (hv : v < 256 ^ nF i) (h63 : v < 9223372036854775808) :
    Calls Try.prog (sF i) #[.pointer (some ⟨s, 0, none⟩), .int .u64 (v : Nat), .pointer (some ⟨b, 0, none⟩)] w fun e w' => e = .returned (.tuple #[]) ∧ w' = w.setCell ⟨s, cF i, none⟩ (.int (kF i) (v : Nat)) := by
  have hA := at_calls i hi s w
  have k0 := blk_cell hb 0
  have k1 := blk_cell hs (cF i)
  have f1 := blk_frozen hs (cF i)
  match i, hi with
  | 0, _ => exact count_set w s b _ _ v _ k0 k1 f1 h63 (aE 0 (by omega)) hA
  | 1, _ => exact count_set w s b _ _ v _ k0 k1 f1 h63 (aE 1 (by omega)) hA
  | 2, _ => exact short_set w s b _ _ v _ k0 k1 f1 hv (aE 2 (by omega)) hA
  | 3, _ => exact short_set w s b _ _ v _ k0 k1 f1 hv (aE 3 (by omega)) hA
  | 4, _ => exact long_set w s b _ _ v _ k0 k1 f1 hv (aE 4 (by omega)) hA
  | 5, _ => exact long_set w s b _ _ v _ k0 k1 f1 hv (aE 5 (by omega)) hA
  | 6, _ => exact long_set w s b _ _ v _ k0 k1 f1 hv (aE 6 (by omega)) hA
  | 7, _ => exact long_set w s b _ _ v _ k0 k1 f1 hv (aE 7 (by omega)) hA
  | 8, _ => exact long_set w s b _ _ v _ k0 k1 f1 hv (aE 8 (by omega)) hA
  | 9, _ => exact short_set w s b _ _ v _ k0 k1 f1 hv (aE 9 (by omega)) hA
  | 10, _ => exact short_set w s b _ _ v _ k0 k1 f1 hv (aE 10 (by omega)) hA
  | 11, _ => exact long_set w s b _ _ v _ k0 k1 f1 hv (aE 11 (by omega)) hA
  | 12, _ => exact long_set w s b _ _ v _ k0 k1 f1 hv (aE 12 (by omega)) hA
theorem short_calls (k : Nat) (w : World) : Calls Try.prog 33 #[.func (.func k) #[] #[]] w fun e w' => e = .returned (.agg #[.int .i64 2, .func (.func 54) #[] #[.pointer (some ⟨w.heap.size, 0, none⟩)], .func (.func 55) #[] #[.pointer (some ⟨w.heap.size, 0, none⟩)]]) ∧ w'.heap[w.heap.size]? = some (.cells #[.func (.func k) #[] #[]] 77 (0, 0)) ∧ Below w.heap.size w w' := by
  have hmf : ∀ (fn : Fn) (first cap : Array Value) (w : World), (Instr.makeFunc fn first cap).run Try.prog w = .ok (.func fn first cap) w := fun _ _ _ _ => rfl
  go_enter Try.func33, Try.ntmps33
  go_wp2
  refine bodyPost_ret (results_cell_row rfl _ _ (w.heap.size + 1) 71 #[.int .i64 2, .func (.func 54) #[] #[.pointer (some ⟨w.heap.size, 0, none⟩)], .func (.func 55) #[] #[.pointer (some ⟨w.heap.size, 0, none⟩)]] (0, 0) _ rfl (by have h := blk_new (w.alloc (.cells #[.func (.func k) #[] #[]] 77)) (.cells #[.int .i64 2, .func (.func 54) #[] #[.pointer (some ⟨w.heap.size, 0, none⟩)], .func (.func 55) #[] #[.pointer (some ⟨w.heap.size, 0, none⟩)]] 71); rw [World.size_alloc] at h; exact h) Try.underlying71 rfl (by kernel_rfl)) rfl ?_
  exact ⟨rfl, blk_alloc (blk_new w (.cells #[.func (.func k) #[] #[]] 77)) _, below_alloc (below_alloc (Below.refl _ _) _) _⟩
theorem long_calls (k : Nat) (w : World) : Calls Try.prog 36 #[.func (.func k) #[] #[]] w fun e w' => e = .returned (.agg #[.int .i64 4, .func (.func 56) #[] #[.pointer (some ⟨w.heap.size, 0, none⟩)], .func (.func 57) #[] #[.pointer (some ⟨w.heap.size, 0, none⟩)]]) ∧ w'.heap[w.heap.size]? = some (.cells #[.func (.func k) #[] #[]] 80 (0, 0)) ∧ Below w.heap.size w w' := by
  have hmf : ∀ (fn : Fn) (first cap : Array Value) (w : World), (Instr.makeFunc fn first cap).run Try.prog w = .ok (.func fn first cap) w := fun _ _ _ _ => rfl
  go_enter Try.func36, Try.ntmps36
  go_wp2
  refine bodyPost_ret (results_cell_row rfl _ _ (w.heap.size + 1) 71 #[.int .i64 4, .func (.func 56) #[] #[.pointer (some ⟨w.heap.size, 0, none⟩)], .func (.func 57) #[] #[.pointer (some ⟨w.heap.size, 0, none⟩)]] (0, 0) _ rfl (by have h := blk_new (w.alloc (.cells #[.func (.func k) #[] #[]] 80)) (.cells #[.int .i64 4, .func (.func 56) #[] #[.pointer (some ⟨w.heap.size, 0, none⟩)], .func (.func 57) #[] #[.pointer (some ⟨w.heap.size, 0, none⟩)]] 71); rw [World.size_alloc] at h; exact h) Try.underlying71 rfl (by kernel_rfl)) rfl ?_
  exact ⟨rfl, blk_alloc (blk_new w (.cells #[.func (.func k) #[] #[]] 80)) _, below_alloc (below_alloc (Below.refl _ _) _) _⟩
theorem count_calls (n : Int) (k : Nat) (w : World) : Calls Try.prog 30 #[.int .i64 n, .func (.func k) #[] #[]] w fun e w' => e = .returned (.agg #[.int .i64 n, .func (.func 52) #[] #[.pointer (some ⟨w.heap.size, 0, none⟩)], .func (.func 53) #[] #[.pointer (some ⟨w.heap.size, 0, none⟩)]]) ∧ w'.heap[w.heap.size]? = some (.cells #[.func (.func k) #[] #[]] 74 (0, 0)) ∧ Below w.heap.size w w' := by
  have hmf : ∀ (fn : Fn) (first cap : Array Value) (w : World), (Instr.makeFunc fn first cap).run Try.prog w = .ok (.func fn first cap) w := fun _ _ _ _ => rfl
  go_enter Try.func30, Try.ntmps30
  go_wp2
  refine bodyPost_ret (results_cell_row rfl _ _ (w.heap.size + 1) 71 #[.int .i64 n, .func (.func 52) #[] #[.pointer (some ⟨w.heap.size, 0, none⟩)], .func (.func 53) #[] #[.pointer (some ⟨w.heap.size, 0, none⟩)]] (0, 0) _ rfl (by have h := blk_new (w.alloc (.cells #[.func (.func k) #[] #[]] 74)) (.cells #[.int .i64 n, .func (.func 52) #[] #[.pointer (some ⟨w.heap.size, 0, none⟩)], .func (.func 53) #[] #[.pointer (some ⟨w.heap.size, 0, none⟩)]] 71); rw [World.size_alloc] at h; exact h) Try.underlying71 rfl (by kernel_rfl)) rfl ?_
  exact ⟨rfl, blk_alloc (blk_new w (.cells #[.func (.func k) #[] #[]] 74)) _, below_alloc (below_alloc (Below.refl _ _) _) _⟩
end Go.Proofs.Ythdemajmlidefaa.Ck
