/- Parts of the proof, behind one another; unused words are left out. -/
import Derived.Test.YthmeocigliephaaGreatDoorXr04
set_option linter.unusedVariables false
set_option linter.unusedSimpArgs false
set_option linter.unusedSectionVars false
set_option exponentiation.threshold 100000
set_option maxRecDepth 100000
set_option maxHeartbeats 8000000
open Go.RowKit Go.Proofs.YthmeocigliephaaGreatDoorW.PrintWords Go.Proofs.YthmeocigliephaaGreatDoorW.PrintLast Go.Proofs.YthmeocigliephaaGreatDoorW.PrintMore
section
namespace Go.Proofs.YthmeocigliephaaGreatDoor.PSv
open Go.Proofs.YthmeocigliephaaGreatDoor.PSu Go.RowKit Go.Proofs.YthmeocigliephaaGreatDoorW.PrintWords Go.Proofs.YthmeocigliephaaGreatDoorW.PrintLast Go.Proofs.YthmeocigliephaaGreatDoorW.PrintMore
attribute [local go_sem] f64bits_run f64from_run run_float_some max2_int min2_int max_two min_two max_three min_three max_four min_four
def cuspref03_Sum0.f (a0 : Bool) (a1 : Bool) (a2 : Int) : Option (Nat) := if a0 = true then (if a1 = true then ((cuspref01_Nought.f true).bind fun t118 => (some t118)) else (if a2 = 1 then ((cuspref01_Nought.f true).bind fun t119 => (some t119)) else ((cuspref01_Nought.f false).bind fun t120 => (some t120)))) else (if a2 = 1 then ((cuspref01_Nought.f a1).bind fun t121 => (some t121)) else ((cuspref01_Nought.f false).bind fun t122 => (some t122)))
theorem cuspref03_Sum0.calls (a0 : Bool) (a1 : Bool) (a2 : Int) (r : Nat) (w : World) (h : cuspref03_Sum0.f a0 a1 a2 = some r) :
  Calls Tryz.prog 119 #[.bool a0, .bool a1, .int .i64 a2] w fun e w' => e = .returned (.float .f64 r) ∧ Drawn0 w w' := by
 have H : (if a0 = true then (if a1 = true then ((cuspref01_Nought.f true).bind fun t118 => (some t118)) else (if a2 = 1 then ((cuspref01_Nought.f true).bind fun t119 => (some t119)) else ((cuspref01_Nought.f false).bind fun t120 => (some t120)))) else (if a2 = 1 then ((cuspref01_Nought.f a1).bind fun t121 => (some t121)) else ((cuspref01_Nought.f false).bind fun t122 => (some t122)))) = some r := h
 clear h
 by_cases c4 : a0 = true
 ·subst c4
  have H1 : (if a1 = true then ((cuspref01_Nought.f true).bind fun t118 => (some t118)) else (if a2 = 1 then ((cuspref01_Nought.f true).bind fun t119 => (some t119)) else ((cuspref01_Nought.f false).bind fun t120 => (some t120)))) = some r := by rw [if_pos rfl] at H; exact H
  clear H
  have H := H1
  clear H1
  by_cases c5 : a1 = true
  ·subst c5
   have H1 : ((cuspref01_Nought.f true).bind fun t118 => (some t118)) = some r := by rw [if_pos rfl] at H; exact H
   clear H
   have H := H1
   clear H1
   replace H := Option.bind_eq_some_iff.mp H
   obtain ⟨t118, A60, H⟩ := H
   replace H : (some t118) = some r := H
   have A6 := asd A60
   clear A60
   obtain rfl := Option.some.inj H
   go_enter Tryz.func119, Tryz.ntmps119
   go_wp2_with (first | ((with_reducible refine gate_callee (f := 61) rfl ?_); refine goesL_ (some 21) rfl rfl Tryz.func61 (by kernel_rfl) rfl #[.bool true] rfl eqA ?_; (with_reducible refine (cuspref01_Nought.calls true t118 _ A6.out).mono ?_); rintro e w' ⟨rfl, ⟨nd, rfl⟩⟩; refine ⟨_, rfl, ?_⟩))
   go_ret
   exact ⟨eqB, dn0⟩
  ·replace c5 := Bool.eq_false_iff.mpr c5
   subst c5
   have H1 : (if a2 = 1 then ((cuspref01_Nought.f true).bind fun t119 => (some t119)) else ((cuspref01_Nought.f false).bind fun t120 => (some t120))) = some r := by rw [if_neg (show ¬ (false = true) by decide)] at H; exact H
   clear H
   have H := H1
   clear H1
   by_cases c7 : a2 = 1
   ·rw [if_pos c7] at H
    have c7b0 : (a2 == 1) = true := beq_iff_eq.mpr c7
    have c7b1 : (a2 != 1) = false := bne_eq_false_iff_eq.mpr c7
    clear c7
    replace H := Option.bind_eq_some_iff.mp H
    obtain ⟨t119, A80, H⟩ := H
    replace H : (some t119) = some r := H
    have A8 := asd A80
    clear A80
    obtain rfl := Option.some.inj H
    go_enter Tryz.func119, Tryz.ntmps119
    go_wp2_with (first | ((with_reducible refine gate_callee (f := 61) rfl ?_); refine goesL_ (some 21) rfl rfl Tryz.func61 (by kernel_rfl) rfl #[.bool true] rfl eqA ?_; (with_reducible refine (cuspref01_Nought.calls true t119 _ A8.out).mono ?_); rintro e w' ⟨rfl, ⟨nd, rfl⟩⟩; refine ⟨_, rfl, ?_⟩))
    go_ret
    exact ⟨eqB, dn0⟩
   ·rw [if_neg c7] at H
    have c7b0 : (a2 == 1) = false := beq_eq_false_iff_ne.mpr c7
    have c7b1 : (a2 != 1) = true := bne_iff_ne.mpr c7
    replace H := Option.bind_eq_some_iff.mp H
    obtain ⟨t120, A90, H⟩ := H
    replace H : (some t120) = some r := H
    have A9 := asd A90
    clear A90
    obtain rfl := Option.some.inj H
    go_enter Tryz.func119, Tryz.ntmps119
    go_wp2_with (first | ((with_reducible refine gate_callee (f := 61) rfl ?_); refine goesL_ (some 21) rfl rfl Tryz.func61 (by kernel_rfl) rfl #[.bool false] rfl eqA ?_; (with_reducible refine (cuspref01_Nought.calls false t120 _ A9.out).mono ?_); rintro e w' ⟨rfl, ⟨nd, rfl⟩⟩; refine ⟨_, rfl, ?_⟩))
    go_ret
    exact ⟨eqB, dn0⟩
 ·replace c4 := Bool.eq_false_iff.mpr c4
  subst c4
  have H1 : (if a2 = 1 then ((cuspref01_Nought.f a1).bind fun t121 => (some t121)) else ((cuspref01_Nought.f false).bind fun t122 => (some t122))) = some r := by rw [if_neg (show ¬ (false = true) by decide)] at H; exact H
  clear H
  have H := H1
  clear H1
  by_cases c10 : a2 = 1
  ·rw [if_pos c10] at H
   have c10b0 : (a2 == 1) = true := beq_iff_eq.mpr c10
   have c10b1 : (a2 != 1) = false := bne_eq_false_iff_eq.mpr c10
   clear c10
   replace H := Option.bind_eq_some_iff.mp H
   obtain ⟨t121, A110, H⟩ := H
   replace H : (some t121) = some r := H
   have A11 := asd A110
   clear A110
   obtain rfl := Option.some.inj H
   go_enter Tryz.func119, Tryz.ntmps119
   go_wp2_with (first | ((with_reducible refine gate_callee (f := 61) rfl ?_); refine goesL_ (some 21) rfl rfl Tryz.func61 (by kernel_rfl) rfl #[.bool a1] rfl eqA ?_; (with_reducible refine (cuspref01_Nought.calls a1 t121 _ A11.out).mono ?_); rintro e w' ⟨rfl, ⟨nd, rfl⟩⟩; refine ⟨_, rfl, ?_⟩))
   go_ret
   exact ⟨eqB, dn0⟩
  ·rw [if_neg c10] at H
   have c10b0 : (a2 == 1) = false := beq_eq_false_iff_ne.mpr c10
   have c10b1 : (a2 != 1) = true := bne_iff_ne.mpr c10
   replace H := Option.bind_eq_some_iff.mp H
   obtain ⟨t122, A120, H⟩ := H
   replace H : (some t122) = some r := H
   have A12 := asd A120
   clear A120
   obtain rfl := Option.some.inj H
   go_enter Tryz.func119, Tryz.ntmps119
   go_wp2_with (first | ((with_reducible refine gate_callee (f := 61) rfl ?_); refine goesL_ (some 21) rfl rfl Tryz.func61 (by kernel_rfl) rfl #[.bool false] rfl eqA ?_; (with_reducible refine (cuspref01_Nought.calls false t122 _ A12.out).mono ?_); rintro e w' ⟨rfl, ⟨nd, rfl⟩⟩; refine ⟨_, rfl, ?_⟩))
   go_ret
   exact ⟨eqB, dn0⟩
def cuspref03_sign.f (a0 : Nat) : Option (Bool) := (cuspref01_Neg.f a0).bind fun t123 => (some t123)
theorem cuspref03_sign.calls (a0 : Nat) (r : Bool) (w : World) (h : cuspref03_sign.f a0 = some r) :
  Calls Tryz.prog 120 #[.float .f64 a0] w fun e w' => e = .returned (.bool r) ∧ Drawn0 w w' := by
 have H : ((cuspref01_Neg.f a0).bind fun t123 => (some t123)) = some r := h
 clear h
 replace H := Option.bind_eq_some_iff.mp H
 obtain ⟨t123, A20, H⟩ := H
 replace H : (some t123) = some r := H
 have A2 := asd A20
 clear A20
 obtain rfl := Option.some.inj H
 go_enter Tryz.func120, Tryz.ntmps120
 go_wp2_with (first | ((with_reducible refine gate_callee (f := 59) rfl ?_); refine goesL_ (some 4) rfl rfl Tryz.func59 (by kernel_rfl) rfl #[.float .f64 a0] rfl eqA ?_; (with_reducible refine (cuspref01_Neg.calls a0 t123 _ A2.out).mono ?_); rintro e w' ⟨rfl, ⟨nd, rfl⟩⟩; refine ⟨_, rfl, ?_⟩))
 go_ret
 exact ⟨eqB, dn0⟩
mutual
def cuspref03_Add.j0 : Nat → Nat → Nat → Int → Bool → Option (Nat)
 | 0, _, _, _, _ => none
 | k + 1, x0, x1, x2, x7 => if x7 = true then ((cuspref01_Not.f).bind fun t127 => (some t127)) else ((cuspref01_IsInf.f x0).bind fun t128 => (if t128 = true then ((cuspref01_IsInf.f x1).bind fun t129 => (cuspref03_Add.j1 k x0 x1 x2 t129)) else (cuspref03_Add.j1 k x0 x1 x2 false)))
def cuspref03_Add.j1 : Nat → Nat → Nat → Int → Bool → Option (Nat)
 | 0, _, _, _, _ => none
 | k + 1, x0, x1, x2, x20 => if x20 = true then ((cuspref01_Neg.f x0).bind fun t130 => ((cuspref01_Neg.f x1).bind fun t131 => (if (t130 != t131) = true then ((cuspref01_Not.f).bind fun t132 => (some t132)) else (some x0)))) else ((cuspref01_IsInf.f x0).bind fun t133 => (if t133 = true then (some x0) else ((cuspref01_IsInf.f x1).bind fun t134 => (if t134 = true then (some x1) else ((cuspref02_Float.f k x0).bind fun bt135 => ((cuspref02_Float.f k x1).bind fun bt140 => ((cuspref02_Plus.f bt135.1 bt135.2.1 bt135.2.2 bt140.1 bt140.2.1 bt140.2.2).bind fun bt145 => ((cuspref03_sign.f x0).bind fun t150 => ((cuspref03_sign.f x1).bind fun t151 => ((cuspref03_Sum0.f t150 t151 x2).bind fun t152 => ((cuspref03_R.f bt145.1 bt145.2.1 bt145.2.2 x2 t152).bind fun t153 => (some t153))))))))))))
end
def cuspref03_Add.f (k : Nat) (a0 : Nat) (a1 : Nat) (a2 : Int) : Option (Nat) := (cuspref03_Valid.f a2).bind fun t124 => (if t124 = 0 then ((cuspref01_IsNaN.f a0).bind fun t125 => (if t125 = true then (cuspref03_Add.j0 k a0 a1 a2 true) else ((cuspref01_IsNaN.f a1).bind fun t126 => (cuspref03_Add.j0 k a0 a1 a2 t126)))) else (cuspref03_Add.j0 k a0 a1 a2 true))
theorem cuspref03_Add.mono_l : ∀ k, (∀ y0 y1 y2 y3, LeO (cuspref03_Add.j0 k y0 y1 y2 y3) (cuspref03_Add.j0 (k + 1) y0 y1 y2 y3)) ∧ (∀ y0 y1 y2 y3, LeO (cuspref03_Add.j1 k y0 y1 y2 y3) (cuspref03_Add.j1 (k + 1) y0 y1 y2 y3))
 | 0 => ⟨fun _ _ _ _ r h => by simp [cuspref03_Add.j0] at h, fun _ _ _ _ r h => by simp [cuspref03_Add.j1] at h⟩
 | k + 1 => by
  obtain ⟨ih0, ih1⟩ := cuspref03_Add.mono_l k
  refine ⟨?_, ?_⟩
  ·intro y0 y1 y2 y3
   unfold cuspref03_Add.j0
   repeat' first
   | (with_reducible exact ih0 _ _ _ _)
   | (with_reducible exact ih1 _ _ _ _)
   | (with_reducible exact cuspref02_Float.mono _ _)
   | (with_reducible exact LeO.refl _)
   | (with_reducible exact LeO.none _)
   | (with_reducible refine LeO.ite ?_ ?_)
   | (with_reducible refine LeO.bind ?_ (fun _ => ?_))
   | exact ih0 _ _ _ _
   | exact ih1 _ _ _ _
   | exact cuspref02_Float.mono _ _
   | exact LeO.none _
   | refine LeO.ite ?_ ?_
   | refine LeO.bind ?_ (fun _ => ?_)
  ·intro y0 y1 y2 y3
   unfold cuspref03_Add.j1
   repeat' first
   | (with_reducible exact ih0 _ _ _ _)
   | (with_reducible exact ih1 _ _ _ _)
   | (with_reducible exact cuspref02_Float.mono _ _)
   | (with_reducible exact LeO.refl _)
   | (with_reducible exact LeO.none _)
   | (with_reducible refine LeO.ite ?_ ?_)
   | (with_reducible refine LeO.bind ?_ (fun _ => ?_))
   | exact ih0 _ _ _ _
   | exact ih1 _ _ _ _
   | exact cuspref02_Float.mono _ _
   | exact LeO.none _
   | refine LeO.ite ?_ ?_
   | refine LeO.bind ?_ (fun _ => ?_)
theorem cuspref03_Add.mono : ∀ a0 a1 a2 k, LeO (cuspref03_Add.f k a0 a1 a2) (cuspref03_Add.f (k + 1) a0 a1 a2) := by
 intro a0 a1 a2 k
 obtain ⟨ih0, ih1⟩ := cuspref03_Add.mono_l k
 unfold cuspref03_Add.f
 repeat' first
   | (with_reducible exact ih0 _ _ _ _)
   | (with_reducible exact ih1 _ _ _ _)
   | (with_reducible exact cuspref02_Float.mono _ _)
   | (with_reducible exact LeO.refl _)
   | (with_reducible exact LeO.none _)
   | (with_reducible refine LeO.ite ?_ ?_)
   | (with_reducible refine LeO.bind ?_ (fun _ => ?_))
   | exact ih0 _ _ _ _
   | exact ih1 _ _ _ _
   | exact cuspref02_Float.mono _ _
   | exact LeO.none _
   | refine LeO.ite ?_ ?_
   | refine LeO.bind ?_ (fun _ => ?_)
theorem cuspref03_Add.calls (k : Nat) (a0 : Nat) (a1 : Nat) (a2 : Int) (r : Nat) (w : World) (h : cuspref03_Add.f k a0 a1 a2 = some r) :
  Calls Tryz.prog 85 #[.float .f64 a0, .float .f64 a1, .int .i64 a2] w fun e w' => e = .returned (.float .f64 r) ∧ Below w.heap.size w w' := by
 have HB := asd (Below.refl w.heap.size w)
 have H : ((cuspref03_Valid.f a2).bind fun t124 => (if t124 = 0 then ((cuspref01_IsNaN.f a0).bind fun t125 => (if t125 = true then (cuspref03_Add.j0 k a0 a1 a2 true) else ((cuspref01_IsNaN.f a1).bind fun t126 => (cuspref03_Add.j0 k a0 a1 a2 t126)))) else (cuspref03_Add.j0 k a0 a1 a2 true))) = some r := h
 clear h
 have HC4 := asd H
 clear H
 go_enter Tryz.func85, Tryz.ntmps85
 go_upto_region 1 with (fail)
 go_cut [7] (fun v7 wc => ∃ (kq : Nat) (x7_3 : Bool), v7 = .bool x7_3 ∧ Aside0 (cuspref03_Add.j0 kq a0 a1 a2 x7_3 = some r) ∧ Aside0 (kq ≤ k) ∧ Aside0 (Below w.heap.size w wc))
 case first =>
  have H := HC4.out
  clear HC4
  replace H := Option.bind_eq_some_iff.mp H
  obtain ⟨t124, A50, H⟩ := H
  replace H : (if t124 = 0 then ((cuspref01_IsNaN.f a0).bind fun t125 => (if t125 = true then (cuspref03_Add.j0 k a0 a1 a2 true) else ((cuspref01_IsNaN.f a1).bind fun t126 => (cuspref03_Add.j0 k a0 a1 a2 t126)))) else (cuspref03_Add.j0 k a0 a1 a2 true)) = some r := H
  have A5 := asd A50
  clear A50
  by_cases c6 : t124 = 0
  ·rw [if_pos c6] at H
   have c6b0 : (t124 == 0) = true := beq_iff_eq.mpr c6
   have c6b1 : (t124 != 0) = false := bne_eq_false_iff_eq.mpr c6
   clear c6
   (first | rw [c6b0] | (simp only [i64_w, i32_w]; rw [c6b0]) | skip)
   replace H := Option.bind_eq_some_iff.mp H
   obtain ⟨t125, A70, H⟩ := H
   replace H : (if t125 = true then (cuspref03_Add.j0 k a0 a1 a2 true) else ((cuspref01_IsNaN.f a1).bind fun t126 => (cuspref03_Add.j0 k a0 a1 a2 t126))) = some r := H
   have A7 := asd A70
   clear A70
   by_cases c8 : t125 = true
   ·subst c8
    have H1 : (cuspref03_Add.j0 k a0 a1 a2 true) = some r := by rw [if_pos rfl] at H; exact H
    clear H
    have H := H1
    clear H1
    have H' := asd H
    clear H
    go_wp2_with (first | ((with_reducible refine gate_callee (f := 56) rfl ?_); refine goesL_ (some 9) rfl rfl Tryz.func56 (by kernel_rfl) rfl #[.int .i64 a2] rfl eqA ?_; (with_reducible refine (cuspref03_Valid.calls a2 t124 _ A5.out).mono ?_); rintro e w' ⟨rfl, ⟨nd, rfl⟩⟩; refine ⟨_, rfl, ?_⟩) | (go_at_call 73; (with_reducible refine (cuspref01_IsNaN.calls a0 true _ A7.out).mono ?_); rintro e w' ⟨rfl, ⟨nd, rfl⟩⟩))
    go_meet
    case rel => exact ⟨_, (true), eqB, H', ⟨by first | omega | exact Nat.le_refl _⟩, ⟨hbw⟩⟩
   ·replace c8 := Bool.eq_false_iff.mpr c8
    subst c8
    have H1 : ((cuspref01_IsNaN.f a1).bind fun t126 => (cuspref03_Add.j0 k a0 a1 a2 t126)) = some r := by rw [if_neg (show ¬ (false = true) by decide)] at H; exact H
    clear H
    have H := H1
    clear H1
    replace H := Option.bind_eq_some_iff.mp H
    obtain ⟨t126, A90, H⟩ := H
    replace H : (cuspref03_Add.j0 k a0 a1 a2 t126) = some r := H
    have A9 := asd A90
    clear A90
    have H' := asd H
    clear H
    go_wp2_with (first | ((with_reducible refine gate_callee (f := 56) rfl ?_); refine goesL_ (some 9) rfl rfl Tryz.func56 (by kernel_rfl) rfl #[.int .i64 a2] rfl eqA ?_; (with_reducible refine (cuspref03_Valid.calls a2 t124 _ A5.out).mono ?_); rintro e w' ⟨rfl, ⟨nd, rfl⟩⟩; refine ⟨_, rfl, ?_⟩) | (go_at_call 73; (with_reducible refine (cuspref01_IsNaN.calls a0 false _ A7.out).mono ?_); rintro e w' ⟨rfl, ⟨nd, rfl⟩⟩) | (go_at_call 73; (with_reducible refine (cuspref01_IsNaN.calls a1 t126 _ A9.out).mono ?_); rintro e w' ⟨rfl, ⟨nd, rfl⟩⟩))
    go_meet
    case rel => exact ⟨_, (t126), eqB, H', ⟨by first | omega | exact Nat.le_refl _⟩, ⟨hbw⟩⟩
  ·rw [if_neg c6] at H
   have c6b0 : (t124 == 0) = false := beq_eq_false_iff_ne.mpr c6
   have c6b1 : (t124 != 0) = true := bne_iff_ne.mpr c6
   (first | rw [c6b0] | (simp only [i64_w, i32_w]; rw [c6b0]) | skip)
   have H' := asd H
   clear H
   go_wp2_with (first | ((with_reducible refine gate_callee (f := 56) rfl ?_); refine goesL_ (some 9) rfl rfl Tryz.func56 (by kernel_rfl) rfl #[.int .i64 a2] rfl eqA ?_; (with_reducible refine (cuspref03_Valid.calls a2 t124 _ A5.out).mono ?_); rintro e w' ⟨rfl, ⟨nd, rfl⟩⟩; refine ⟨_, rfl, ?_⟩))
   go_meet
   case rel => exact ⟨_, (true), eqB, H', ⟨by first | omega | exact Nat.le_refl _⟩, ⟨hbw⟩⟩
 case rest =>
  clear HC4
  try clear p2
  try clear c5
  try clear c6
  try clear c6b0
  try clear c6b1
  try clear c8
  obtain ⟨kq, x7_3, rfl, HA, HJ3, HB⟩ := hcut
  cases kq with
  | zero => exact absurd HA.out (by simp [cuspref03_Add.j0])
  | succ kj3 =>
   have H := HA.out
   clear HA
   simp only [cuspref03_Add.j0] at H
   by_cases c10 : x7_3 = true
   ·subst c10
    have H1 : ((cuspref01_Not.f).bind fun t127 => (some t127)) = some r := by rw [if_pos rfl] at H; exact H
    clear H
    have H := H1
    clear H1
    replace H := Option.bind_eq_some_iff.mp H
    obtain ⟨t127, A110, H⟩ := H
    replace H : (some t127) = some r := H
    have A11 := asd A110
    clear A110
    obtain rfl := Option.some.inj H
    go_wp2_with (first | ((with_reducible refine gate_callee (f := 118) rfl ?_); refine goesL_ (some 19) rfl rfl Tryz.func118 (by kernel_rfl) rfl #[] rfl eqA ?_; (with_reducible refine (cuspref01_Not.calls  t127 _ A11.out).mono ?_); rintro e w' ⟨rfl, ⟨nd, rfl⟩⟩; refine ⟨_, rfl, ?_⟩))
    go_ret
    exact ⟨eqC, hbw⟩
   ·replace c10 := Bool.eq_false_iff.mpr c10
    subst c10
    have H1 : ((cuspref01_IsInf.f a0).bind fun t128 => (if t128 = true then ((cuspref01_IsInf.f a1).bind fun t129 => (cuspref03_Add.j1 kj3 a0 a1 a2 t129)) else (cuspref03_Add.j1 kj3 a0 a1 a2 false))) = some r := by rw [if_neg (show ¬ (false = true) by decide)] at H; exact H
    clear H
    have H := H1
    clear H1
    have HC12 := asd H
    clear H
    go_upto_region 3 with (fail)
    go_cut [20] (fun v20 wc => ∃ (kq : Nat) (x20_11 : Bool), v20 = .bool x20_11 ∧ Aside0 (cuspref03_Add.j1 kq a0 a1 a2 x20_11 = some r) ∧ Aside0 (kq ≤ kj3) ∧ Aside0 (Below w.heap.size w wc))
    case first =>
     have H := HC12.out
     clear HC12
     replace H := Option.bind_eq_some_iff.mp H
     obtain ⟨t128, A130, H⟩ := H
     replace H : (if t128 = true then ((cuspref01_IsInf.f a1).bind fun t129 => (cuspref03_Add.j1 kj3 a0 a1 a2 t129)) else (cuspref03_Add.j1 kj3 a0 a1 a2 false)) = some r := H
     have A13 := asd A130
     clear A130
     by_cases c14 : t128 = true
     ·subst c14
      have H1 : ((cuspref01_IsInf.f a1).bind fun t129 => (cuspref03_Add.j1 kj3 a0 a1 a2 t129)) = some r := by rw [if_pos rfl] at H; exact H
      clear H
      have H := H1
      clear H1
      replace H := Option.bind_eq_some_iff.mp H
      obtain ⟨t129, A150, H⟩ := H
      replace H : (cuspref03_Add.j1 kj3 a0 a1 a2 t129) = some r := H
      have A15 := asd A150
      clear A150
      have H' := asd H
      clear H
      go_wp2_with (first | ((with_reducible refine gate_callee (f := 74) rfl ?_); refine goesL_ (some 22) rfl rfl Tryz.func74 (by kernel_rfl) rfl #[.float .f64 a0] rfl eqA ?_; (with_reducible refine (cuspref01_IsInf.calls a0 true _ A13.out).mono ?_); rintro e w' ⟨rfl, ⟨nd, rfl⟩⟩; refine ⟨_, rfl, ?_⟩) | (go_at_call 74; (with_reducible refine (cuspref01_IsInf.calls a1 t129 _ A15.out).mono ?_); rintro e w' ⟨rfl, ⟨nd, rfl⟩⟩))
      go_meet
      case rel => exact ⟨_, (t129), eqB, H', ⟨by have := HJ3.out; first | omega | exact Nat.le_refl _⟩, ⟨hbw⟩⟩
     ·replace c14 := Bool.eq_false_iff.mpr c14
      subst c14
      have H1 : (cuspref03_Add.j1 kj3 a0 a1 a2 false) = some r := by rw [if_neg (show ¬ (false = true) by decide)] at H; exact H
      clear H
      have H := H1
      clear H1
      have H' := asd H
      clear H
      go_wp2_with (first | ((with_reducible refine gate_callee (f := 74) rfl ?_); refine goesL_ (some 22) rfl rfl Tryz.func74 (by kernel_rfl) rfl #[.float .f64 a0] rfl eqA ?_; (with_reducible refine (cuspref01_IsInf.calls a0 false _ A13.out).mono ?_); rintro e w' ⟨rfl, ⟨nd, rfl⟩⟩; refine ⟨_, rfl, ?_⟩))
      go_meet
      case rel => exact ⟨_, (false), eqB, H', ⟨by have := HJ3.out; first | omega | exact Nat.le_refl _⟩, ⟨hbw⟩⟩
    case rest =>
     clear HC12
     try clear c1
     try clear p2
     try clear c5
     try clear c6
     try clear c6b0
     try clear c6b1
     try clear c7
     try clear c8
     try clear c10
     try clear c11
     try clear c14
     try clear p2
     obtain ⟨kq, x20_11, rfl, HA, HJ11, HB⟩ := hcut
     cases kq with
     | zero => exact absurd HA.out (by simp [cuspref03_Add.j1])
     | succ kj11 =>
      have H := HA.out
      clear HA
      simp only [cuspref03_Add.j1] at H
      by_cases c16 : x20_11 = true
      ·subst c16
       have H1 : ((cuspref01_Neg.f a0).bind fun t130 => ((cuspref01_Neg.f a1).bind fun t131 => (if (t130 != t131) = true then ((cuspref01_Not.f).bind fun t132 => (some t132)) else (some a0)))) = some r := by rw [if_pos rfl] at H; exact H
       clear H
       have H := H1
       clear H1
       replace H := Option.bind_eq_some_iff.mp H
       obtain ⟨t130, A170, H⟩ := H
       replace H : ((cuspref01_Neg.f a1).bind fun t131 => (if (t130 != t131) = true then ((cuspref01_Not.f).bind fun t132 => (some t132)) else (some a0))) = some r := H
       have A17 := asd A170
       clear A170
       replace H := Option.bind_eq_some_iff.mp H
       obtain ⟨t131, A180, H⟩ := H
       replace H : (if (t130 != t131) = true then ((cuspref01_Not.f).bind fun t132 => (some t132)) else (some a0)) = some r := H
       have A18 := asd A180
       clear A180
       by_cases c19 : (t130 != t131) = true
       ·rw [if_pos c19] at H
        have c19b0 : (t130 != t131) = true := c19
        (try (have c19b1 : decide (t130 = t131) = false := by simpa using c19))
        (try (have c19b2 : (t130 == t131) = false := by simpa using c19))
        (try (have c19b3 : ¬ (t130 = t131) := by simpa using c19))
        clear c19
        replace H := Option.bind_eq_some_iff.mp H
        obtain ⟨t132, A200, H⟩ := H
        replace H : (some t132) = some r := H
        have A20 := asd A200
        clear A200
        obtain rfl := Option.some.inj H
        go_wp2_with (first | ((with_reducible refine gate_callee (f := 59) rfl ?_); refine goesL_ (some 28) rfl rfl Tryz.func59 (by kernel_rfl) rfl #[.float .f64 a0] rfl eqA ?_; (with_reducible refine (cuspref01_Neg.calls a0 t130 _ A17.out).mono ?_); rintro e w' ⟨rfl, ⟨nd, rfl⟩⟩; refine ⟨_, rfl, ?_⟩) | ((with_reducible refine gate_callee (f := 59) rfl ?_); refine goesL_ (some 30) rfl rfl Tryz.func59 (by kernel_rfl) rfl #[.float .f64 a1] rfl eqA ?_; (with_reducible refine (cuspref01_Neg.calls a1 t131 _ A18.out).mono ?_); rintro e w' ⟨rfl, ⟨nd, rfl⟩⟩; refine ⟨_, rfl, ?_⟩) | ((with_reducible refine gate_callee (f := 118) rfl ?_); refine goesL_ (some 32) rfl rfl Tryz.func118 (by kernel_rfl) rfl #[] rfl eqA ?_; (with_reducible refine (cuspref01_Not.calls  t132 _ A20.out).mono ?_); rintro e w' ⟨rfl, ⟨nd, rfl⟩⟩; refine ⟨_, rfl, ?_⟩))
        go_ret
        exact ⟨eqC, hbw⟩
       ·rw [if_neg c19] at H
        have c19b0 : (t130 != t131) = false := by simpa using c19
        (try (have c19b1 : decide (t130 = t131) = true := by simpa using c19))
        (try (have c19b2 : (t130 == t131) = true := by simpa using c19))
        clear c19
        obtain rfl := Option.some.inj H
        go_wp2_with (first | ((with_reducible refine gate_callee (f := 59) rfl ?_); refine goesL_ (some 28) rfl rfl Tryz.func59 (by kernel_rfl) rfl #[.float .f64 a0] rfl eqA ?_; (with_reducible refine (cuspref01_Neg.calls a0 t130 _ A17.out).mono ?_); rintro e w' ⟨rfl, ⟨nd, rfl⟩⟩; refine ⟨_, rfl, ?_⟩) | ((with_reducible refine gate_callee (f := 59) rfl ?_); refine goesL_ (some 30) rfl rfl Tryz.func59 (by kernel_rfl) rfl #[.float .f64 a1] rfl eqA ?_; (with_reducible refine (cuspref01_Neg.calls a1 t131 _ A18.out).mono ?_); rintro e w' ⟨rfl, ⟨nd, rfl⟩⟩; refine ⟨_, rfl, ?_⟩))
        go_ret
        exact ⟨eqC, hbw⟩
      ·replace c16 := Bool.eq_false_iff.mpr c16
       subst c16
       have H1 : ((cuspref01_IsInf.f a0).bind fun t133 => (if t133 = true then (some a0) else ((cuspref01_IsInf.f a1).bind fun t134 => (if t134 = true then (some a1) else ((cuspref02_Float.f kj11 a0).bind fun bt135 => ((cuspref02_Float.f kj11 a1).bind fun bt140 => ((cuspref02_Plus.f bt135.1 bt135.2.1 bt135.2.2 bt140.1 bt140.2.1 bt140.2.2).bind fun bt145 => ((cuspref03_sign.f a0).bind fun t150 => ((cuspref03_sign.f a1).bind fun t151 => ((cuspref03_Sum0.f t150 t151 a2).bind fun t152 => ((cuspref03_R.f bt145.1 bt145.2.1 bt145.2.2 a2 t152).bind fun t153 => (some t153)))))))))))) = some r := by rw [if_neg (show ¬ (false = true) by decide)] at H; exact H
       clear H
       have H := H1
       clear H1
       replace H := Option.bind_eq_some_iff.mp H
       obtain ⟨t133, A210, H⟩ := H
       replace H : (if t133 = true then (some a0) else ((cuspref01_IsInf.f a1).bind fun t134 => (if t134 = true then (some a1) else ((cuspref02_Float.f kj11 a0).bind fun bt135 => ((cuspref02_Float.f kj11 a1).bind fun bt140 => ((cuspref02_Plus.f bt135.1 bt135.2.1 bt135.2.2 bt140.1 bt140.2.1 bt140.2.2).bind fun bt145 => ((cuspref03_sign.f a0).bind fun t150 => ((cuspref03_sign.f a1).bind fun t151 => ((cuspref03_Sum0.f t150 t151 a2).bind fun t152 => ((cuspref03_R.f bt145.1 bt145.2.1 bt145.2.2 a2 t152).bind fun t153 => (some t153))))))))))) = some r := H
       have A21 := asd A210
       clear A210
       by_cases c22 : t133 = true
       ·subst c22
        have H1 : (some a0) = some r := by rw [if_pos rfl] at H; exact H
        clear H
        have H := H1
        clear H1
        obtain rfl := Option.some.inj H
        go_wp2_with (first | ((with_reducible refine gate_callee (f := 74) rfl ?_); refine goesL_ (some 36) rfl rfl Tryz.func74 (by kernel_rfl) rfl #[.float .f64 a0] rfl eqA ?_; (with_reducible refine (cuspref01_IsInf.calls a0 true _ A21.out).mono ?_); rintro e w' ⟨rfl, ⟨nd, rfl⟩⟩; refine ⟨_, rfl, ?_⟩))
        go_ret
        exact ⟨eqC, hbw⟩
       ·replace c22 := Bool.eq_false_iff.mpr c22
        subst c22
        have H1 : ((cuspref01_IsInf.f a1).bind fun t134 => (if t134 = true then (some a1) else ((cuspref02_Float.f kj11 a0).bind fun bt135 => ((cuspref02_Float.f kj11 a1).bind fun bt140 => ((cuspref02_Plus.f bt135.1 bt135.2.1 bt135.2.2 bt140.1 bt140.2.1 bt140.2.2).bind fun bt145 => ((cuspref03_sign.f a0).bind fun t150 => ((cuspref03_sign.f a1).bind fun t151 => ((cuspref03_Sum0.f t150 t151 a2).bind fun t152 => ((cuspref03_R.f bt145.1 bt145.2.1 bt145.2.2 a2 t152).bind fun t153 => (some t153)))))))))) = some r := by rw [if_neg (show ¬ (false = true) by decide)] at H; exact H
        clear H
        have H := H1
        clear H1
        replace H := Option.bind_eq_some_iff.mp H
        obtain ⟨t134, A230, H⟩ := H
        replace H : (if t134 = true then (some a1) else ((cuspref02_Float.f kj11 a0).bind fun bt135 => ((cuspref02_Float.f kj11 a1).bind fun bt140 => ((cuspref02_Plus.f bt135.1 bt135.2.1 bt135.2.2 bt140.1 bt140.2.1 bt140.2.2).bind fun bt145 => ((cuspref03_sign.f a0).bind fun t150 => ((cuspref03_sign.f a1).bind fun t151 => ((cuspref03_Sum0.f t150 t151 a2).bind fun t152 => ((cuspref03_R.f bt145.1 bt145.2.1 bt145.2.2 a2 t152).bind fun t153 => (some t153))))))))) = some r := H
        have A23 := asd A230
        clear A230
        by_cases c24 : t134 = true
        ·subst c24
         have H1 : (some a1) = some r := by rw [if_pos rfl] at H; exact H
         clear H
         have H := H1
         clear H1
         obtain rfl := Option.some.inj H
         go_wp2_with (first | ((with_reducible refine gate_callee (f := 74) rfl ?_); refine goesL_ (some 36) rfl rfl Tryz.func74 (by kernel_rfl) rfl #[.float .f64 a0] rfl eqA ?_; (with_reducible refine (cuspref01_IsInf.calls a0 false _ A21.out).mono ?_); rintro e w' ⟨rfl, ⟨nd, rfl⟩⟩; refine ⟨_, rfl, ?_⟩) | ((with_reducible refine gate_callee (f := 74) rfl ?_); refine goesL_ (some 40) rfl rfl Tryz.func74 (by kernel_rfl) rfl #[.float .f64 a1] rfl eqA ?_; (with_reducible refine (cuspref01_IsInf.calls a1 true _ A23.out).mono ?_); rintro e w' ⟨rfl, ⟨nd, rfl⟩⟩; refine ⟨_, rfl, ?_⟩))
         go_ret
         exact ⟨eqC, hbw⟩
        ·replace c24 := Bool.eq_false_iff.mpr c24
         subst c24
         have H1 : ((cuspref02_Float.f kj11 a0).bind fun bt135 => ((cuspref02_Float.f kj11 a1).bind fun bt140 => ((cuspref02_Plus.f bt135.1 bt135.2.1 bt135.2.2 bt140.1 bt140.2.1 bt140.2.2).bind fun bt145 => ((cuspref03_sign.f a0).bind fun t150 => ((cuspref03_sign.f a1).bind fun t151 => ((cuspref03_Sum0.f t150 t151 a2).bind fun t152 => ((cuspref03_R.f bt145.1 bt145.2.1 bt145.2.2 a2 t152).bind fun t153 => (some t153)))))))) = some r := by rw [if_neg (show ¬ (false = true) by decide)] at H; exact H
         clear H
         have H := H1
         clear H1
         replace H := Option.bind_eq_some_iff.mp H
         obtain ⟨⟨t135, t136, t139⟩, A250, H⟩ := H
         replace H : ((cuspref02_Float.f kj11 a1).bind fun bt140 => ((cuspref02_Plus.f t135 t136 t139 bt140.1 bt140.2.1 bt140.2.2).bind fun bt145 => ((cuspref03_sign.f a0).bind fun t150 => ((cuspref03_sign.f a1).bind fun t151 => ((cuspref03_Sum0.f t150 t151 a2).bind fun t152 => ((cuspref03_R.f bt145.1 bt145.2.1 bt145.2.2 a2 t152).bind fun t153 => (some t153))))))) = some r := H
         have A25 := asd A250
         clear A250
         replace H := Option.bind_eq_some_iff.mp H
         obtain ⟨⟨t140, t141, t144⟩, A260, H⟩ := H
         replace H : ((cuspref02_Plus.f t135 t136 t139 t140 t141 t144).bind fun bt145 => ((cuspref03_sign.f a0).bind fun t150 => ((cuspref03_sign.f a1).bind fun t151 => ((cuspref03_Sum0.f t150 t151 a2).bind fun t152 => ((cuspref03_R.f bt145.1 bt145.2.1 bt145.2.2 a2 t152).bind fun t153 => (some t153)))))) = some r := H
         have A26 := asd A260
         clear A260
         replace H := Option.bind_eq_some_iff.mp H
         obtain ⟨⟨t145, t146, t149⟩, A270, H⟩ := H
         replace H : ((cuspref03_sign.f a0).bind fun t150 => ((cuspref03_sign.f a1).bind fun t151 => ((cuspref03_Sum0.f t150 t151 a2).bind fun t152 => ((cuspref03_R.f t145 t146 t149 a2 t152).bind fun t153 => (some t153))))) = some r := H
         have A27 := asd A270
         clear A270
         replace H := Option.bind_eq_some_iff.mp H
         obtain ⟨t150, A280, H⟩ := H
         replace H : ((cuspref03_sign.f a1).bind fun t151 => ((cuspref03_Sum0.f t150 t151 a2).bind fun t152 => ((cuspref03_R.f t145 t146 t149 a2 t152).bind fun t153 => (some t153)))) = some r := H
         have A28 := asd A280
         clear A280
         replace H := Option.bind_eq_some_iff.mp H
         obtain ⟨t151, A290, H⟩ := H
         replace H : ((cuspref03_Sum0.f t150 t151 a2).bind fun t152 => ((cuspref03_R.f t145 t146 t149 a2 t152).bind fun t153 => (some t153))) = some r := H
         have A29 := asd A290
         clear A290
         replace H := Option.bind_eq_some_iff.mp H
         obtain ⟨t152, A300, H⟩ := H
         replace H : ((cuspref03_R.f t145 t146 t149 a2 t152).bind fun t153 => (some t153)) = some r := H
         have A30 := asd A300
         clear A300
         replace H := Option.bind_eq_some_iff.mp H
         obtain ⟨t153, A310, H⟩ := H
         replace H : (some t153) = some r := H
         have A31 := asd A310
         clear A310
         obtain rfl := Option.some.inj H
         go_wp2_with (first | ((with_reducible refine gate_callee (f := 74) rfl ?_); refine goesL_ (some 36) rfl rfl Tryz.func74 (by kernel_rfl) rfl #[.float .f64 a0] rfl eqA ?_; (with_reducible refine (cuspref01_IsInf.calls a0 false _ A21.out).mono ?_); rintro e w' ⟨rfl, ⟨nd, rfl⟩⟩; refine ⟨_, rfl, ?_⟩) | ((with_reducible refine gate_callee (f := 74) rfl ?_); refine goesL_ (some 40) rfl rfl Tryz.func74 (by kernel_rfl) rfl #[.float .f64 a1] rfl eqA ?_; (with_reducible refine (cuspref01_IsInf.calls a1 false _ A23.out).mono ?_); rintro e w' ⟨rfl, ⟨nd, rfl⟩⟩; refine ⟨_, rfl, ?_⟩) | ((with_reducible refine gate_callee (f := 26) rfl ?_); refine goesL_ (some 43) rfl rfl Tryz.func26 (by kernel_rfl) rfl #[.float .f64 a0] rfl eqA ?_; (with_reducible refine (cuspref02_Float.calls kj11 a0 t135 t136 t139 _ A25.out).mono ?_); rintro e w32 ⟨v137, rfl, ho0, hb⟩; refine ⟨_, rfl, ?_⟩; have n0_ := asd (Kd.R_lower ho0 (below_size hbw)); have n1_ := asd (below_step hbw hb); clear HB; have HO138 := n0_; have HB := n1_; clear n0_ n1_; (try clear hb); (try clear hb2); (try clear hk); (try clear hi); (try clear ho0)) | ((with_reducible refine gate_callee (f := 26) rfl ?_); refine goesL_ (some 45) rfl rfl Tryz.func26 (by kernel_rfl) rfl #[.float .f64 a1] rfl eqA ?_; (with_reducible refine (cuspref02_Float.calls kj11 a1 t140 t141 t144 _ A26.out).mono ?_); rintro e w33 ⟨v142, rfl, ho0, hb⟩; refine ⟨_, rfl, ?_⟩; have n0_ := asd (Kd.R_elder' (rUp HO138.out) (Kd.R_base ho0) hb); have n1_ := asd (Kd.R_lower (Kd.R_new' ho0 (Kd.R_lt (rUp HO138.out))) (below_size hbw)); have n2_ := asd (below_step hbw hb); clear HO138; clear HB; have HO138 := n0_; have HO143 := n1_; have HB := n2_; clear n0_ n1_ n2_; (try clear hb); (try clear hb2); (try clear hk); (try clear hi); (try clear ho0); obtain ⟨Ao34, co34, eo34⟩ := Kd.R_slice HO138.out; subst eo34; obtain ⟨Ao35, co35, eo35⟩ := Kd.R_slice HO143.out; subst eo35) | ((with_reducible refine gate_callee (f := 25) rfl ?_); refine goesL_ (some 46) rfl rfl Tryz.func25 (by kernel_rfl) rfl #[.agg #[.bool t135, .slice Ao34 t136.length co34, .int .i64 t139], .agg #[.bool t140, .slice Ao35 t141.length co35, .int .i64 t144]] rfl eqA ?_; (with_reducible refine (cuspref02_Plus.calls t135 _ _ t136 t139 t140 _ _ t141 t144 t145 t146 t149 _ ?side1 ?side2 ?side3 ?side4 A27.out).mono ?_); (case side1 => repeat (first | exact (Kd.R_reads' HO138.out).2.2 | (with_reducible refine Kd.C_alloc ?_ _) | (with_reducible refine Kd.C_drewN ?_ _) | (with_reducible refine Kd.C_drew ?_))); (case side2 => exact (Kd.R_reads' HO138.out).2.1); (case side3 => repeat (first | exact (Kd.R_reads' HO143.out).2.2 | (with_reducible refine Kd.C_alloc ?_ _) | (with_reducible refine Kd.C_drewN ?_ _) | (with_reducible refine Kd.C_drew ?_))); (case side4 => exact (Kd.R_reads' HO143.out).2.1); rintro e w36 ⟨v147, rfl, ho0, hb⟩; refine ⟨_, rfl, ?_⟩; have n0_ := asd (Kd.R_elder' (rUp HO138.out) (Kd.R_base ho0) hb); have n1_ := asd (Kd.R_elder' (rUp HO143.out) (Kd.R_base ho0) hb); have n2_ := asd (Kd.R_lower (Kd.R_new' (Kd.R_new' ho0 (Kd.R_lt (rUp HO138.out))) (Kd.R_lt (rUp HO143.out))) (below_size hbw)); have n3_ := asd (below_step hbw hb); clear HO138; clear HO143; clear HB; have HO138 := n0_; have HO143 := n1_; have HO148 := n2_; have HB := n3_; clear n0_ n1_ n2_ n3_; (try clear hb); (try clear hb2); (try clear hk); (try clear hi); (try clear ho0)) | ((with_reducible refine gate_callee (f := 120) rfl ?_); refine goesL_ (some 49) rfl rfl Tryz.func120 (by kernel_rfl) rfl #[.float .f64 a0] rfl eqA ?_; (with_reducible refine (cuspref03_sign.calls a0 t150 _ A28.out).mono ?_); rintro e w' ⟨rfl, ⟨nd, rfl⟩⟩; refine ⟨_, rfl, ?_⟩) | ((with_reducible refine gate_callee (f := 120) rfl ?_); refine goesL_ (some 51) rfl rfl Tryz.func120 (by kernel_rfl) rfl #[.float .f64 a1] rfl eqA ?_; (with_reducible refine (cuspref03_sign.calls a1 t151 _ A29.out).mono ?_); rintro e w' ⟨rfl, ⟨nd, rfl⟩⟩; refine ⟨_, rfl, ?_⟩) | ((with_reducible refine gate_callee (f := 119) rfl ?_); refine goesL_ (some 53) rfl rfl Tryz.func119 (by kernel_rfl) rfl #[.bool t150, .bool t151, .int .i64 a2] rfl eqA ?_; (with_reducible refine (cuspref03_Sum0.calls t150 t151 a2 t152 _ A30.out).mono ?_); rintro e w' ⟨rfl, ⟨nd, rfl⟩⟩; refine ⟨_, rfl, ?_⟩; obtain ⟨Ao37, co37, eo37⟩ := Kd.R_slice HO148.out; subst eo37) | ((with_reducible refine gate_callee (f := 48) rfl ?_); refine goesL_ (some 54) rfl rfl Tryz.func48 (by kernel_rfl) rfl #[.agg #[.bool t145, .slice Ao37 t146.length co37, .int .i64 t149], .int .i64 a2, .float .f64 t152] rfl eqA ?_; (with_reducible refine (cuspref03_R.calls t145 _ _ t146 t149 a2 t152 t153 _ ?side1 ?side2 A31.out).mono ?_); (case side1 => repeat (first | exact (Kd.R_reads' HO148.out).2.2 | (with_reducible refine Kd.C_alloc ?_ _) | (with_reducible refine Kd.C_drewN ?_ _) | (with_reducible refine Kd.C_drew ?_))); (case side2 => exact (Kd.R_reads' HO148.out).2.1); rintro e w38 ⟨rfl, hb⟩; refine ⟨_, rfl, ?_⟩; have n0_ := asd (Kd.R_below (rUp HO138.out) hb); have n1_ := asd (Kd.R_below (rUp HO143.out) hb); have n2_ := asd (Kd.R_below (rUp HO148.out) hb); have n3_ := asd (below_step hbw hb); clear HO138; clear HO143; clear HO148; clear HB; have HO138 := n0_; have HO143 := n1_; have HO148 := n2_; have HB := n3_; clear n0_ n1_ n2_ n3_; (try clear hb); (try clear hb2); (try clear hk); (try clear hi)))
         go_ret
         exact ⟨eqC, hbw⟩
def cuspref05_add.f (k : Nat) (a0 : Nat) (a1 : Nat) : Option (Nat) := (cuspref03_Add.f k a0 a1 2).bind fun t154 => (some t154)
theorem cuspref05_add.mono : ∀ a0 a1 k, LeO (cuspref05_add.f k a0 a1) (cuspref05_add.f (k + 1) a0 a1) := by
 intro a0 a1 k
 unfold cuspref05_add.f
 repeat' first
   | (with_reducible exact cuspref03_Add.mono _ _ _ _)
   | (with_reducible exact LeO.refl _)
   | (with_reducible exact LeO.none _)
   | (with_reducible refine LeO.ite ?_ ?_)
   | (with_reducible refine LeO.bind ?_ (fun _ => ?_))
   | exact cuspref03_Add.mono _ _ _ _
   | exact LeO.none _
   | refine LeO.ite ?_ ?_
   | refine LeO.bind ?_ (fun _ => ?_)
theorem cuspref05_add.calls (k : Nat) (a0 : Nat) (a1 : Nat) (r : Nat) (w : World) (h : cuspref05_add.f k a0 a1 = some r) :
  Calls Tryz.prog 40 #[.float .f64 a0, .float .f64 a1] w fun e w' => e = .returned (.float .f64 r) ∧ Below w.heap.size w w' := by
 have HB := asd (Below.refl w.heap.size w)
 have H : ((cuspref03_Add.f k a0 a1 2).bind fun t154 => (some t154)) = some r := h
 clear h
 replace H := Option.bind_eq_some_iff.mp H
 obtain ⟨t154, A30, H⟩ := H
 replace H : (some t154) = some r := H
 have A3 := asd A30
 clear A30
 obtain rfl := Option.some.inj H
 go_enter Tryz.func40, Tryz.ntmps40
 go_wp2_with (first | ((with_reducible refine gate_callee (f := 85) rfl ?_); refine goesL_ (some 7) rfl rfl Tryz.func85 (by kernel_rfl) rfl #[.float .f64 a0, .float .f64 a1, .int .i64 2] rfl eqA ?_; (with_reducible refine (cuspref03_Add.calls k a0 a1 2 t154 _ A3.out).mono ?_); rintro e w4 ⟨rfl, hb⟩; refine ⟨_, rfl, ?_⟩; have n0_ := asd (below_step hbw hb); clear HB; have HB := n0_; clear n0_; (try clear hb); (try clear hb2); (try clear hk); (try clear hi)))
 go_ret
 exact ⟨eqC, hbw⟩
def cuspref05_Two.f (k : Nat) (a0 : Nat) (a1 : Nat) : Option (Nat × Nat) := (cuspref05_add.f k a0 a1).bind fun t155 => ((cuspref01_Finite.f t155).bind fun t156 => (if t156 = true then ((cuspref02_Float.f k a0).bind fun bt157 => ((cuspref02_Float.f k a1).bind fun bt162 => ((cuspref02_Plus.f bt157.1 bt157.2.1 bt157.2.2 bt162.1 bt162.2.1 bt162.2.2).bind fun bt167 => ((cuspref02_Float.f k t155).bind fun bt172 => ((cuspref02_Less.f bt167.1 bt167.2.1 bt167.2.2 bt172.1 bt172.2.1 bt172.2.2).bind fun bt177 => ((cuspref03_R.f bt177.1 bt177.2.1 bt177.2.2 2 (0 : Nat)).bind fun t182 => (some (t155, t182)))))))) else (some (t155, (0 : Nat)))))
def cusplaw05_SumsTwo.f (k : Nat) (a0 : Nat) (a1 : Nat) : Option (Bool) := (sums_Two.f k a0 a1).bind fun bt183 => ((cuspref05_Two.f k a0 a1).bind fun bt185 => ((cusplaw05_same.f bt183.1 bt185.1).bind fun t187 => (if t187 = true then ((cusplaw05_same.f bt183.2 bt185.2).bind fun t188 => (if t188 = true then ((cusplaw05_sure.f).bind fun t189 => (some t189)) else (some false))) else (some false))))
end Go.Proofs.YthmeocigliephaaGreatDoor.PSv
end
section
namespace Go.Proofs.YthmeocigliephaaGreatDoor.Big
open Go.Proofs.YthmeocigliephaaGreatDoor.PSv Go.Proofs.YthmeocigliephaaGreatDoor.PSu Go.Proofs.YthmeocigliephaaGreatDoor.Plain Ieee
def sumR (a b : Nat) : Nat := if nanB a = true ∨ nanB b = true then 9221120237041090560 else sumV a b
theorem rnot_law : cuspref01_Not.f = some 9221120237041090560 := by rfl
theorem rsum0_law (x y : Bool) : cuspref03_Sum0.f x y 2 = some (if x = true ∧ y = true then 9223372036854775808 else 0) := by
  cases x <;> cases y <;> rfl
theorem radd_law {a b : Nat} (ha : a < 18446744073709551616) (hb : b < 18446744073709551616) (ho : ¬ opp a b) : Ev (fun k => cuspref05_add.f k a b) (sumR a b) := by
  have hA : Ev (fun k => cuspref03_Add.f k a b 2) (sumR a b) := by
    unfold cuspref03_Add.f sumR
    have hv : cuspref03_Valid.f 2 = some 0 := rvalid_yes (by omega)
    by_cases hn : nanB a = true ∨ nanB b = true
    · rw [if_pos hn]
      refine Ev.congr (f := fun k => cuspref03_Add.j0 k a b 2 true) (fun k => ?_) (Ev.step (f := fun _ => some 9221120237041090560) (fun k => ?_) (Ev.now _))
      · rw [hv, Option.bind_some, if_pos rfl, risnan_law ha, Option.bind_some]
        by_cases h1 : nanB a = true
        · rw [if_pos h1]
        · rw [if_neg h1, risnan_law hb, Option.bind_some, hn.resolve_left h1]
      · rw [cuspref03_Add.j0, if_pos rfl, rnot_law]; rfl
    · rw [if_neg hn]
      have n1 : nanB a = false := by cases h : nanB a; rfl; exact absurd (.inl h) hn
      have n2 : nanB b = false := by cases h : nanB b; rfl; exact absurd (.inr h) hn
      refine Ev.congr (f := fun k => cuspref03_Add.j0 k a b 2 false) (fun k => ?_) ?_
      · rw [hv, Option.bind_some, if_pos rfl, risnan_law ha, Option.bind_some, n1, if_neg (by simp), risnan_law hb, Option.bind_some, n2]
      unfold sumV
      rw [if_neg hn]
      by_cases ia : infB? a = true
      · rw [if_pos ia]
        by_cases ib : infB? b = true
        · have he : sgn a = sgn b := Classical.byContradiction fun h => ho ⟨ia, ib, h⟩
          refine Ev.step (f := fun k => cuspref03_Add.j1 k a b 2 true) (fun k => ?_) (Ev.step (f := fun _ => some a) (fun k => ?_) (Ev.now _))
          · rw [cuspref03_Add.j0, if_neg (by simp), risinf_law ha, Option.bind_some, if_pos ia, risinf_law hb, Option.bind_some, ib]
          · rw [cuspref03_Add.j1, if_pos rfl, rneg_law ha, Option.bind_some, rneg_law hb, Option.bind_some, he, if_neg (by simp)]
        · refine Ev.step (f := fun k => cuspref03_Add.j1 k a b 2 false) (fun k => ?_) (Ev.step (f := fun _ => some a) (fun k => ?_) (Ev.now _))
          · rw [cuspref03_Add.j0, if_neg (by simp), risinf_law ha, Option.bind_some, if_pos ia, risinf_law hb, Option.bind_some]
            congr 1; simpa using ib
          · rw [cuspref03_Add.j1, if_neg (by simp), risinf_law ha, Option.bind_some, if_pos ia]
      · rw [if_neg ia]
        have i1 : infB? a = false := by simpa using ia
        refine Ev.step (f := fun k => cuspref03_Add.j1 k a b 2 false) (fun k => ?_) ?_
        · rw [cuspref03_Add.j0, if_neg (by simp), risinf_law ha, Option.bind_some, if_neg ia]
        by_cases ib : infB? b = true
        · rw [if_pos ib]
          refine Ev.step (f := fun _ => some b) (fun k => ?_) (Ev.now _)
          rw [cuspref03_Add.j1, if_neg (by simp), risinf_law ha, Option.bind_some, if_neg ia, risinf_law hb, Option.bind_some, if_pos ib]
        · rw [if_neg ib]
          have fa := fin_kind ha n1 i1
          have fb := fin_kind hb n2 (by simpa using ib)
          have b1 : bl (flz a).natAbs ≤ 2098 := bl_le.2 (flz_lt fa)
          have b2 : bl (flz b).natAbs ≤ 2098 := bl_le.2 (flz_lt fb)
          have b3 := sum_bl fa fb
          refine Ev.step (f := fun k => (cuspref02_Float.f k a).bind fun x => (cuspref02_Float.f k b).bind fun y => (cuspref02_Plus.f x.1 x.2.1 x.2.2 y.1 y.2.1 y.2.2).bind fun z => (cuspref03_R.f z.1 z.2.1 z.2.2 2 (if sgn a = true ∧ sgn b = true then 9223372036854775808 else 0)).bind fun t => some t) (fun k => ?_) ?_
          · rw [cuspref03_Add.j1, if_neg (by simp), risinf_law ha, Option.bind_some, if_neg ia, risinf_law hb, Option.bind_some, if_neg ib]
            have hs : ∀ {x : Nat}, x < 18446744073709551616 → cuspref03_sign.f x = some (sgn x) := fun hx => by unfold cuspref03_sign.f; rw [rneg_law hx]; rfl
            rw [hs ha, hs hb]
            simp only [Option.bind_some, rsum0_law]
          · refine Ev.bind (rfloat_law fa) (Ev.bind (rfloat_law fb) ?_)
            refine Ev.congr (f := fun _ => some _) (fun k => ?_) (Ev.now _)
            rw [rplus_can (by omega) (by omega), Option.bind_some, rR_law (by omega) (by omega), Option.bind_some]
  unfold cuspref05_add.f
  exact Ev.bind hA (Ev.now _)
theorem same_nan {a b : Nat} (ha : a < 18446744073709551616) (hb : b < 18446744073709551616) (h : a = b ∨ nanB a = true ∧ nanB b = true) : cusplaw05_same.f a b = some true := by
  rcases h with rfl | ⟨h1, h2⟩
  · exact same_law a
  · unfold cusplaw05_same.f cuspref01_Same.f cuspref01_Bits.f
    rw [Option.bind_some, Option.bind_some]
    by_cases he : (a : Int) = (b : Int)
    · rw [if_pos he]; rfl
    · rw [if_neg he, risnan_law ha, Option.bind_some, if_pos h1, risnan_law hb, Option.bind_some, h2]; rfl
theorem sumR_rel (a b : Nat) : sumV a b = sumR a b ∨ nanB (sumV a b) = true ∧ nanB (sumR a b) = true := by
  unfold sumR
  by_cases hn : nanB a = true ∨ nanB b = true
  · right
    rw [if_pos hn]
    unfold sumV
    rw [if_pos hn]
    exact ⟨by decide +kernel, by decide +kernel⟩
  · left; rw [if_neg hn]
theorem sumR_lt {a b : Nat} (ha : a < 18446744073709551616) (hb : b < 18446744073709551616) : sumR a b < 18446744073709551616 := by
  unfold sumR
  split
  · omega
  · exact sumV_lt ha hb
def sumD (a b : Nat) : Nat := if opp a b then 9221120237041090560 else sumR a b
theorem sumD_rel (a b : Nat) : relN (sumT a b) (sumD a b) := by
  unfold sumT sumD
  by_cases ho : opp a b
  · rw [if_pos ho, if_pos ho]; exact .inl rfl
  · rw [if_neg ho, if_neg ho]; exact sumR_rel a b
theorem sumD_lt {a b : Nat} (ha : a < 18446744073709551616) (hb : b < 18446744073709551616) : sumD a b < 18446744073709551616 := by
  unfold sumD
  split
  · omega
  · exact sumR_lt ha hb
theorem radd_all {a b : Nat} (ha : a < 18446744073709551616) (hb : b < 18446744073709551616) : Ev (fun k => cuspref05_add.f k a b) (sumD a b) := by
  unfold sumD
  by_cases ho : opp a b
  · rw [if_pos ho]
    refine Ev.of (fun k => cuspref05_add.mono _ _ k) (k := 10) ?_
    rcases opp_cases ha hb ho with ⟨rfl, rfl⟩ | ⟨rfl, rfl⟩ <;> decide +kernel
  · rw [if_neg ho]; exact radd_law ha hb ho
end Go.Proofs.YthmeocigliephaaGreatDoor.Big
end
section
namespace Go.Proofs.YthmeocigliephaaGreatDoor.Big
open Go.Proofs.YthmeocigliephaaGreatDoor.PSu Go.Proofs.YthmeocigliephaaGreatDoor.Plain Ieee
def halvesT : Nat → List Nat → Nat
  | 0, _ => 0
  | n + 1, l => if l.length = 0 then 0 else if l.length = 1 then rdOf (0 : Nat) l 0 else sumT (halvesT n (l.take (l.length / 2))) (halvesT n (l.drop (l.length / 2)))
theorem halvesT_lt : ∀ (n : Nat) (l : List Nat), (∀ b ∈ l, b < 18446744073709551616) → halvesT n l < 18446744073709551616
  | 0, _, _ => by unfold halvesT; omega
  | n + 1, l, h => by
    unfold halvesT
    split
    · omega
    · split
      · exact rd_lt h 0
      · exact sumT_lt (halvesT_lt n _ fun b hb => h b (List.mem_of_mem_take hb)) (halvesT_lt n _ fun b hb => h b (List.mem_of_mem_drop hb))
def halves_T : Bool × List (List Nat × List Nat) := (true, [([], []), ([], []), ([1], [1]), ([0, 2], [0, 2]), ([3], [3]), ([], []), ([], []), ([6], [6]), ([5, 7], [5, 7]), ([8, 4], [8]), ([4, 9, 9], [4, 9]), ([10, 10, 0, 1, 2, 3, 4, 5, 6, 7, 8, 9, 10], [10])])
def halves_B : List Nat := [0, 0, 2, 7, 15, 0, 0, 64, 224, 511, 1023, 2047]
theorem halves_tab : rtab .any (opsOf Tryz.f14 3) = halves_T := by kernel_rfl
theorem halves_bits : waitsOk halves_T.2 halves_B = true := by kernel_rfl
theorem halves_rel (n : Nat) : ∀ (A0 : Option Addr) (c0 : Nat) (l0 : List Nat) (w : World), l0.length ≤ n ∧ l0.length < 4611686018427387904 → Kd.C Kd.float w A0 l0.length l0 → l0.length ≤ c0 → (∀ b ∈ l0, b < 18446744073709551616) → Laid w →
    Calls Tryz.prog 14 #[.slice A0 l0.length c0] w (RetRel (halvesT n l0) w) := by
  induction n with
  | zero =>
    intro A0 c0 l0 w hn hr hc hw hL
    have HB := asd (Below.refl w.heap.size w)
    obtain rfl : l0 = [] := List.length_eq_zero_iff.1 (by omega)
    clear hn hr hc hw hL
    go_enter Tryz.func14, Tryz.ntmps14
    go_wp2
    go_ret
    exact ⟨0, .inl rfl, by omega, rfl, HB.out⟩
  | succ n ih =>
  intro A0 c0 l0 w hn hr hc hw hL
  have IH := asd ih
  have HL := asd hL
  have HB := asd (Below.refl w.heap.size w)
  clear ih
  obtain ⟨T, hT⟩ : ∃ T, halvesT (n + 1) l0 = T := ⟨_, rfl⟩
  rw [hT]
  unfold halvesT at hT
  by_cases c2 : (l0.length : Int) = 0
  · have c2b0 : ((l0.length : Int) == 0) = true := beq_iff_eq.mpr c2
    rw [if_pos (by omega)] at hT
    subst hT
    clear c2 hn hr hc hw hL
    go_enter Tryz.func14, Tryz.ntmps14
    go_wp2
    go_ret
    exact ⟨0, .inl rfl, by omega, rfl, HB.out⟩
  have c2b0 : ((l0.length : Int) == 0) = false := beq_eq_false_iff_ne.mpr c2
  have c2b1 : ((l0.length : Int) != 0) = true := bne_iff_ne.mpr c2
  have c2b2 : ¬ (l0 = []) := fun h_ => c2 (by rw [h_]; rfl)
  rw [if_neg (by omega)] at hT
  by_cases c3 : (l0.length : Int) = 1
  · have c3b0 : ((l0.length : Int) == 1) = true := beq_iff_eq.mpr c3
    have c3b1 : ((l0.length : Int) != 1) = false := bne_eq_false_iff_eq.mpr c3
    rw [if_pos (by omega)] at hT
    have HX := asd (rd_lt hw 0)
    have p172 : 0 ≤ (0 : Int) := (by omega)
    have q172 : 0 < (l0.length : Int) := by omega
    obtain ⟨ad172, e172, hx172_0⟩ := Kd.at_float hr 0 p172 q172
    cases e172
    rw [hT] at hx172_0 HX
    have qi172 : (0 < l0.length) = True := eq_true (by omega)
    rw [show ((0 : Int)).toNat = 0 from rfl, Addr.add_zero'] at hx172_0
    replace p172 := eq_true p172
    replace q172 := eq_true q172
    clear c3 hT hn hr hc hw hL c2
    go_enter Tryz.func14, Tryz.ntmps14
    go_wp2
    go_ret
    exact ⟨T, .inl rfl, HX.out, rfl, HB.out⟩
  · have c3b0 : ((l0.length : Int) == 1) = false := beq_eq_false_iff_ne.mpr c3
    have c3b1 : ((l0.length : Int) != 1) = true := bne_iff_ne.mpr c3
    rw [if_neg (by omega)] at hT
    obtain ⟨ji5, hji5⟩ : ∃ j_ : Int, (wrap64 ((l0.length : Int) / 2)) = j_ := ⟨_, rfl⟩
    have hji5w : (IntKind.i64.wrap ((l0.length : Int) / 2)) = ji5 := (i64_w _).trans hji5
    have hj : ji5 = (l0.length : Int) / 2 := by rw [← hji5]; exact w64_of (by omega) (by omega)
    have hj2 : (ji5 : Int).toNat = l0.length / 2 := by omega
    rw [← hj2] at hT
    have c6b1 : decide (0 ≤ (ji5)) = true := decide_eq_true (by omega)
    have c7b1 : decide ((ji5) ≤ (l0.length : Int)) = true := decide_eq_true (by omega)
    have J1 := asd (show (l0.take ((ji5) : Int).toNat).length ≤ n ∧ (l0.take ((ji5) : Int).toNat).length < 4611686018427387904 by rw [List.length_take]; omega)
    have J2 := asd (show ∀ b ∈ l0.take ((ji5) : Int).toNat, b < 18446744073709551616 from fun b hb => hw b (List.mem_of_mem_take hb))
    have J3 := asd (show (l0.drop ((ji5) : Int).toNat).length ≤ n ∧ (l0.drop ((ji5) : Int).toNat).length < 4611686018427387904 by rw [List.length_drop]; omega)
    have J4 := asd (show ∀ b ∈ l0.drop ((ji5) : Int).toNat, b < 18446744073709551616 from fun b hb => hw b (List.mem_of_mem_drop hb))
    have HT := asd hT
    have HR0 := asd hr
    have HC0 := asd hc
    have HJ0 := asd (show 0 ≤ ji5 ∧ ji5 ≤ (l0.length : Int) by omega)
    have c6b0 := eq_true HJ0.out.1
    have c7b0 := eq_true HJ0.out.2
    clear hj hj2 hT hn hr hc hw hL
    go_enter Tryz.func14, Tryz.ntmps14
    try go_wp2
    have n0_ := asd (below_drew1 HB.out)
    clear HB
    have HB := n0_
    clear n0_
    obtain ⟨i014, hi014, _, hsz14, _⟩ := info_parts info25
    obtain ⟨hcut14, hA14, hC14⟩ := print_take_of (P := Tryz.prog) (Value.float .f64) (0 : Nat) 22 25 .i64 Tryz.underlying22 hi014 hsz14 A0 c0 l0 (ji5) (of_decide_eq_true (by first | (with_reducible assumption) | assumption)) (of_decide_eq_true (by first | (with_reducible assumption) | assumption)) HC0.out
    have HR173 := asd (Kd.C_of_reads (h1 := fun _ => rfl) (hA14 _ (Kd.reads_of_C HR0.out)))
    have HC173 := asd hC14
    clear hA14 hC14 hi014 hsz14
    obtain ⟨i015, hi015, _, hsz15, _⟩ := info_parts info25
    obtain ⟨A15, hcut15, hA15, hC15⟩ := print_drop_of (P := Tryz.prog) (Value.float .f64) (0 : Nat) 22 25 .i64 Tryz.underlying22 hi015 hsz15 A0 c0 l0 (ji5) (of_decide_eq_true (by first | (with_reducible assumption) | assumption)) (of_decide_eq_true (by first | (with_reducible assumption) | assumption)) HC0.out
    have HR175 := asd (Kd.C_of_reads (h1 := fun _ => rfl) (hA15 _ (Kd.reads_of_C HR0.out)))
    have HC175 := asd hC15
    clear hA15 hC15 hi015 hsz15
    refine start_ (n := 12) (S := fun w' => True) (ds := []) #[false, false, false, false, false, false, false, false, false, false, false, false] (by kernel_rfl) rfl rfl trivial (fun hHeld => ?_); refine with_tabW halves_tab halves_bits (fun HT_ HW_ => ?_)
    generalize w.drew = w13 at HB HR173 HR175 hHeld ⊢
    refine pure_ (i := 0) (N := some 7) (v := ?_) (a' := ?_) #[true, false, false, false, false, false, false, false, false, false, false, false] rfl rfl (any_of HT_.out (by kernel_rfl)) (fun _ _ _ h => h) (Or.inl ⟨by rfl, ?_⟩) ?_ ?_
    rotate_left
    · intro w'
      go_simp
      with_reducible rfl
    rotate_left
    · simp only [Act.put, List.setIfInBounds_toArray, List.set_cons_zero, List.set_cons_succ, i64_w, i32_w]
      rfl
    refine pure_ (i := 1) (N := some 8) (v := ?_) (a' := ?_) #[true, true, false, false, false, false, false, false, false, false, false, false] rfl rfl (any_of HT_.out (by kernel_rfl)) (fun _ _ _ h => h) (Or.inl ⟨by rfl, ?_⟩) ?_ ?_
    rotate_left
    · intro w'
      go_simp
      with_reducible rfl
    rotate_left
    · simp only [Act.put, List.setIfInBounds_toArray, List.set_cons_zero, List.set_cons_succ, i64_w, i32_w]
      rfl
    refine pure_ (i := 2) (N := some 9) (v := ?_) (a' := ?_) #[true, true, true, false, false, false, false, false, false, false, false, false] rfl rfl (any_of HT_.out (by kernel_rfl)) (fun _ _ _ h => h) (Or.inl ⟨by rfl, ?_⟩) ?_ ?_
    rotate_left
    · intro w'
      go_simp
      with_reducible rfl
    rotate_left
    · simp only [Act.put, List.setIfInBounds_toArray, List.set_cons_zero, List.set_cons_succ, i64_w, i32_w]
      rfl
    refine pure_ (i := 3) (N := some 10) (v := ?_) (a' := ?_) #[true, true, true, true, false, false, false, false, false, false, false, false] rfl rfl (any_of HT_.out (by kernel_rfl)) (fun _ _ _ h => h) (Or.inl ⟨by rfl, ?_⟩) ?_ ?_
    rotate_left
    · intro w'
      go_simp
      with_reducible rfl
    rotate_left
    · simp only [Act.put, List.setIfInBounds_toArray, List.set_cons_zero, List.set_cons_succ, i64_w, i32_w]
      rfl
    refine pure_ (i := 5) (N := some 12) (v := ?_) (a' := ?_) #[true, true, true, true, false, true, false, false, false, false, false, false] rfl rfl (any_of HT_.out (by kernel_rfl)) (fun _ _ _ h => h) (Or.inl ⟨by rfl, ?_⟩) ?_ ?_
    rotate_left
    · intro w'
      go_simp
      with_reducible rfl
    rotate_left
    · simp only [Act.put, List.setIfInBounds_toArray, List.set_cons_zero, List.set_cons_succ, i64_w, i32_w]
      rfl
    refine pure_ (i := 6) (N := some 13) (v := ?_) (a' := ?_) #[true, true, true, true, false, true, true, false, false, false, false, false] rfl rfl (any_of HT_.out (by kernel_rfl)) (fun _ _ _ h => h) (Or.inl ⟨by rfl, ?_⟩) ?_ ?_
    rotate_left
    · intro w'
      go_simp
      with_reducible rfl
    rotate_left
    · simp only [Act.put, List.setIfInBounds_toArray, List.set_cons_zero, List.set_cons_succ, i64_w, i32_w]
      rfl
    refine pure_ (i := 7) (N := some 14) (v := ?_) (a' := ?_) #[true, true, true, true, false, true, true, true, false, false, false, false] rfl rfl (any_of HT_.out (by kernel_rfl)) (fun _ _ _ h => h) (Or.inl ⟨by rfl, ?_⟩) ?_ ?_
    rotate_left
    · intro w'
      go_simp
      with_reducible rfl
    rotate_left
    · simp only [Act.put, List.setIfInBounds_toArray, List.set_cons_zero, List.set_cons_succ, i64_w, i32_w]
      rfl
    refine pure_ (i := 8) (N := some 15) (v := ?_) (a' := ?_) #[true, true, true, true, false, true, true, true, true, false, false, false] rfl rfl (any_of HT_.out (by kernel_rfl)) (fun _ _ _ h => h) (Or.inl ⟨by rfl, ?_⟩) ?_ ?_
    rotate_left
    · intro w'
      go_simp
      with_reducible rfl
    rotate_left
    · simp only [Act.put, List.setIfInBounds_toArray, List.set_cons_zero, List.set_cons_succ, i64_w, i32_w]
      rfl
    refine one_ (i := 4) (N := some 11) #[true, true, true, true, true, true, true, true, true, false, false, false] rfl rfl (one_of HT_.out (by kernel_rfl)) (by decide) (fun K hK => ?_)
    refine goes_ Tryz.func14 (by kernel_rfl) rfl #[.slice A0 (l0.take ((ji5) : Int).toNat).length c0] (by rfl) rfl rfl (by (try simp only [List.map_toArray, List.map_cons, List.map_nil]); first | done | (rw [show (l0.take ((ji5) : Int).toNat).length = (ji5).toNat from (by rw [List.length_take]; have h_ : ((ji5) : Int) ≤ (l0.length : Int) := of_decide_eq_true (by first | (with_reducible assumption) | assumption); omega)] <;> rfl) | (simp only [hji5]; rfl) | rfl | (simp only [List.length_drop, List.length_take]; rfl)) ?_
    refine (IH.out A0 c0 (l0.take ((ji5) : Int).toNat) _ J1.out (Kd.C_below HR173.out HB.out) HC173.out J2.out (HL.out.step HB.out)).mono ?_
    rintro e w16 ⟨t174, n1, n2, rfl, hb⟩
    have N1 := asd (And.intro n1 n2)
    clear n1 n2
    refine ⟨_, rfl, ?_⟩
    have n0_ := asd (below_step hbw hb)
    clear HB
    have HB := n0_
    clear n0_
    (try clear hb)
    (try clear hb2)
    (try clear hk)
    (try clear hi)
    refine hK.out _ _ trivial (fun hHeld => ?_)
    clear hK K
    refine norm_ (a' := ?_) ?_ ?_
    rotate_left
    · show Act.put _ (some 11) _ = _
      simp only [Act.put, List.setIfInBounds_toArray, List.set_cons_zero, List.set_cons_succ, i64_w, i32_w]
      rfl
    refine one_ (i := 9) (N := some 16) #[true, true, true, true, true, true, true, true, true, true, false, false] rfl rfl (one_of HT_.out (by kernel_rfl)) (by decide) (fun K hK => ?_)
    refine goes_ Tryz.func14 (by kernel_rfl) rfl #[.slice A15 (l0.drop ((ji5) : Int).toNat).length (c0 - (ji5).toNat)] (by rfl) rfl rfl (by (try simp only [List.map_toArray, List.map_cons, List.map_nil]); first | done | (rw [show (l0.drop ((ji5) : Int).toNat).length = (l0.length - (ji5).toNat) from List.length_drop] <;> rfl) | (simp only [hji5]; rfl) | rfl | (simp only [List.length_drop, List.length_take]; rfl)) ?_
    refine (IH.out A15 (c0 - (ji5).toNat) (l0.drop ((ji5) : Int).toNat) _ J3.out (Kd.C_below HR175.out HB.out) HC175.out J4.out (HL.out.step HB.out)).mono ?_
    rintro e w17 ⟨t176, n1, n2, rfl, hb⟩
    have N2 := asd (And.intro n1 n2)
    clear n1 n2
    refine ⟨_, rfl, ?_⟩
    have n0_ := asd (below_step hbw hb)
    clear HB
    have HB := n0_
    clear n0_
    (try clear hb)
    (try clear hb2)
    (try clear hk)
    (try clear hi)
    refine hK.out _ _ trivial (fun hHeld => ?_)
    clear hK K
    refine norm_ (a' := ?_) ?_ ?_
    rotate_left
    · show Act.put _ (some 16) _ = _
      simp only [Act.put, List.setIfInBounds_toArray, List.set_cons_zero, List.set_cons_succ, i64_w, i32_w]
      rfl
    refine one_ (i := 10) (N := some 17) #[true, true, true, true, true, true, true, true, true, true, true, false] rfl rfl (one_of HT_.out (by kernel_rfl)) (by decide) (fun K hK => ?_)
    refine goes_ Tryz.func39 (by kernel_rfl) rfl #[.float .f64 t174, .float .f64 t176] (by rfl) rfl rfl eqA ?_
    refine (near_rel t174 t176 _ N1.out.2 N2.out.2 (HL.out.step HB.out)).mono ?_
    rintro e w18 ⟨t177, n1, n2, rfl, hb⟩
    have N3 := asd (And.intro n1 n2)
    clear n1 n2
    refine ⟨_, rfl, ?_⟩
    have n0_ := asd (below_step hbw hb)
    clear HB
    have HB := n0_
    clear n0_
    (try clear hb)
    (try clear hb2)
    (try clear hk)
    (try clear hi)
    refine hK.out _ _ trivial (fun hHeld => ?_)
    clear hK K
    refine norm_ (a' := ?_) ?_ ?_
    rotate_left
    · show Act.put _ (some 17) _ = _
      simp only [Act.put, List.setIfInBounds_toArray, List.set_cons_zero, List.set_cons_succ, i64_w, i32_w]
      rfl
    refine pure_ (i := 11) (N := some 2) (v := ?_) (a' := ?_) #[true, true, true, true, true, true, true, true, true, true, true, true] rfl rfl (any_of HT_.out (by kernel_rfl)) (fun _ _ _ h => h) (Or.inl ⟨by rfl, ?_⟩) ?_ ?_
    rotate_left
    · intro w'
      go_simp
      with_reducible rfl
    rotate_left
    · simp only [Act.put, List.setIfInBounds_toArray, List.set_cons_zero, List.set_cons_succ, i64_w, i32_w]
      rfl
    refine done_ (done_of HT_.out (by kernel_rfl)) ?_
    try go_wp2
    go_ret
    refine ⟨t177, ?_, N3.out.2, rfl, HB.out⟩
    have := relN_sum N1.out.2 N2.out.2 (halvesT_lt n _ J2.out) (halvesT_lt n _ J4.out) N1.out.1 N2.out.1
    exact HT.out ▸ relN_trans N3.out.1 this
end Go.Proofs.YthmeocigliephaaGreatDoor.Big
end
section
namespace Go.Proofs.YthmeocigliephaaGreatDoor.PSv
open Go.Proofs.YthmeocigliephaaGreatDoor.PSu Go.RowKit Go.Proofs.YthmeocigliephaaGreatDoorW.PrintWords Go.Proofs.YthmeocigliephaaGreatDoorW.PrintLast Go.Proofs.YthmeocigliephaaGreatDoorW.PrintMore
attribute [local go_sem] f64bits_run f64from_run run_float_some max2_int min2_int max_two min_two max_three min_three max_four min_four
def cuspref02_magnitude.j0 : Nat → Bool → Bool → List Int → Int → Bool → List Int → Int → Option (Int)
 | 0, _, _, _, _, _, _, _ => none
 | k + 1, x6, x191000, x191001, x191002, x192000, x192001, x192002 => if x6 = true then (some (wrap64 ((x191001.length : Int) - (x192001.length : Int)))) else ((cuspref02_High.f k x191000 x191001 x191002).bind fun t192 => ((cuspref02_High.f k x192000 x192001 x192002).bind fun t193 => (if t192 = t193 then ((cuspref02_up.f k x191001 (wrap64 (x191002 - (mn x191002 x192002)))).bind fun t194 => ((cuspref02_up.f k x192001 (wrap64 (x192002 - (mn x191002 x192002)))).bind fun t197 => ((cuspref02_order.f k t194 t197).bind fun t200 => (some t200)))) else ((cuspref02_High.f k x191000 x191001 x191002).bind fun t201 => ((cuspref02_High.f k x192000 x192001 x192002).bind fun t202 => (some (wrap64 (t201 - t202))))))))
def cuspref02_magnitude.f (k : Nat) (a0_0 : Bool) (l0_1 : List Int) (a0_2 : Int) (a1_0 : Bool) (l1_1 : List Int) (a1_2 : Int) : Option (Int) := if (l0_1.length : Int) = 0 then (cuspref02_magnitude.j0 k true a0_0 l0_1 a0_2 a1_0 l1_1 a1_2) else (cuspref02_magnitude.j0 k ((l1_1.length : Int) == 0) a0_0 l0_1 a0_2 a1_0 l1_1 a1_2)
end Go.Proofs.YthmeocigliephaaGreatDoor.PSv
end
section
namespace Go.Proofs.YthmeocigliephaaGreatDoor.PSv
open Go.Proofs.YthmeocigliephaaGreatDoor.PSu Go.RowKit Go.Proofs.YthmeocigliephaaGreatDoorW.PrintWords Go.Proofs.YthmeocigliephaaGreatDoorW.PrintLast Go.Proofs.YthmeocigliephaaGreatDoorW.PrintMore
attribute [local go_sem] f64bits_run f64from_run run_float_some max2_int min2_int max_two min_two max_three min_three max_four min_four
def cuspref02_Order.j0 : Nat → Int → Option (Int)
 | 0, _ => none
 | k + 1, x7 => if x7 < 0 then (some (-1)) else (if x7 > 0 then (some 1) else (some 0))
def cuspref02_Order.f (k : Nat) (a0_0 : Bool) (l0_1 : List Int) (a0_2 : Int) (a1_0 : Bool) (l1_1 : List Int) (a1_2 : Int) : Option (Int) := (cuspref02_Sgn.f a0_0 l0_1 a0_2).bind fun t205 => ((cuspref02_Sgn.f a1_0 l1_1 a1_2).bind fun t206 => (if t205 = t206 then ((cuspref02_magnitude.f k a0_0 l0_1 a0_2 a1_0 l1_1 a1_2).bind fun t207 => (if t205 < 0 then (cuspref02_Order.j0 k (wrap64 (-t207))) else (cuspref02_Order.j0 k t207))) else (if t205 < t206 then (some (-1)) else (some 1))))
end Go.Proofs.YthmeocigliephaaGreatDoor.PSv
end
section
namespace Go.Proofs.YthmeocigliephaaGreatDoor.PSv
open Go.Proofs.YthmeocigliephaaGreatDoor.PSu Go.RowKit Go.Proofs.YthmeocigliephaaGreatDoorW.PrintWords Go.Proofs.YthmeocigliephaaGreatDoorW.PrintLast Go.Proofs.YthmeocigliephaaGreatDoorW.PrintMore
attribute [local go_sem] f64bits_run f64from_run run_float_some max2_int min2_int max_two min_two max_three min_three max_four min_four
def cusplaw05_SumsSplit.j0 : Nat → Nat → Nat → Nat → Nat → Bool → Option (Bool)
 | 0, _, _, _, _, _ => none
 | k + 1, x0, x1, x5, x6, x26 => if x26 = true then ((cusplaw05_same.f x6 (0 : Nat)).bind fun t213 => (if t213 = true then ((cusplaw05_sure.f).bind fun t214 => (some t214)) else (some false))) else ((cuspref01_Finite.f x6).bind fun t215 => (if t215 = true then ((cuspref02_Float.f k x0).bind fun bt216 => ((cuspref02_Float.f k x1).bind fun bt221 => ((cuspref02_Plus.f bt216.1 bt216.2.1 bt216.2.2 bt221.1 bt221.2.1 bt221.2.2).bind fun bt226 => ((cuspref02_Float.f k x5).bind fun bt232 => ((cuspref02_Float.f k x6).bind fun bt237 => ((cuspref02_Plus.f bt232.1 bt232.2.1 bt232.2.2 bt237.1 bt237.2.1 bt237.2.2).bind fun bt242 => ((cuspref02_Order.f k bt226.1 bt226.2.1 bt226.2.2 bt242.1 bt242.2.1 bt242.2.2).bind fun t247 => (if t247 = 0 then ((cusplaw05_sure.f).bind fun t248 => (some t248)) else (some false))))))))) else (some false)))
def cusplaw05_SumsSplit.f (k : Nat) (a0 : Nat) (a1 : Nat) : Option (Bool) := (sums_Two.f k a0 a1).bind fun bt208 => ((cuspref01_Finite.f a0).bind fun t210 => (if t210 = true then ((cuspref01_Finite.f a1).bind fun t211 => (if t211 = true then ((cuspref01_Finite.f bt208.1).bind fun t212 => (cusplaw05_SumsSplit.j0 k a0 a1 bt208.1 bt208.2 (!t212))) else (cusplaw05_SumsSplit.j0 k a0 a1 bt208.1 bt208.2 true))) else (cusplaw05_SumsSplit.j0 k a0 a1 bt208.1 bt208.2 true)))
def cusplaw05_twin.f (l0 : List Nat) : Option (List Nat) := if ([] : List Nat).length + l0.length < 17592186044416 then (some (([] : List Nat) ++ l0)) else (none)
theorem cusplaw05_twin.calls (A0 : Option Addr) (c0 : Nat) (l0 : List Nat) (r : List Nat) (w : World) (hr0 : Kd.C Kd.float w A0 l0.length l0) (hc0 : l0.length ≤ c0) (h : cusplaw05_twin.f l0 = some r) :
  Calls Tryz.prog 10 #[.slice A0 l0.length c0] w fun e w' => ∃ v0_ : Value, e = .returned (v0_) ∧ Kd.R Kd.float 25 w' w.heap.size (fun _ => True) v0_ r ∧ Below w.heap.size w w' := by
 have HR0 := asd hr0
 have HC0 := asd hc0
 clear hr0 hc0
 have HB := asd (Below.refl w.heap.size w)
 have H : (if ([] : List Nat).length + l0.length < 17592186044416 then (some (([] : List Nat) ++ l0)) else (none)) = some r := h
 clear h
 by_cases c2 : ([] : List Nat).length + l0.length < 17592186044416
 ·rw [if_pos c2] at H
  have LMc2 := asd c2
  clear c2
  obtain ⟨y249, hy249⟩ : ∃ y_ : List Nat, y_ = (([] : List Nat) ++ l0) := ⟨_, rfl⟩
  replace H : (some y249) = some r := by first | (rw [hy249]; with_reducible exact H) | (have H2_ := (Option.bind_some _ _).symm.trans H; rw [hy249]; with_reducible exact H2_) | (have H2_ := (Option.bind_some _ _).symm.trans H; with_reducible exact H2_) | with_reducible exact H | (rw [hy249]; exact H) | exact H
  have Ny249 := asd hy249
  clear hy249
  obtain rfl := Option.some.inj H
  go_enter Tryz.func10, Tryz.ntmps10
  go_wp2_with (first | ((with_reducible refine gate_builtin (b := .append) (xs := #[.tmp 4, .tmp 5]) rfl ?_); at_builtin; refine Kd.R_append_rows Kd.float (w0 := w) w.heap.size rfl (.tmp 4) (.tmp 5) 22 25 (.float .f64 0) 8 rfl Tryz.underlying22 info25 rfl (by decide) (by omega) (.slice none 0 0) ([] : List Nat) l0 _ _ _ (fun _ => True) (fun _ => False) rfl rfl ?aO ?aR (fun _ _ h => h) (fun _ h => h.elim) ?aF ?aB ?aS ?aL ?_; (case aR => repeat (first | exact HR0.out | (with_reducible refine Kd.C_alloc ?_ _) | (with_reducible refine Kd.C_drewN ?_ _) | (with_reducible refine Kd.C_drew ?_))); (case aB => exact hbw); (case aF => exact (fun _ _ => trivial)); (case aO => exact ((Kd.R_nil _ _ _ _ (fun _ => True)))); (case aS => exact (below_size hbw)); (case aL => have := LMc2.out; omega); intro v250 w3 ho hb hg hat; rw [← Ny249.out] at ho; have n0_ := asd (hb); have n1_ := asd (ho); clear HB; have HB := n0_; have HO251 := n1_; clear n0_ n1_; clear ho hb hg hat))
  go_ret
  exact ⟨_, eqC, by (with_reducible repeat (first | apply Kd.R_alloc | apply Kd.R_drewN | apply Kd.R_drew)); exact HO251.out, hbw⟩
 ·rw [if_neg c2] at H
  exact absurd H (by simp)
end Go.Proofs.YthmeocigliephaaGreatDoor.PSv
end
section
namespace Go.Proofs.YthmeocigliephaaGreatDoor.PSv
open Go.Proofs.YthmeocigliephaaGreatDoor.PSu Go.RowKit Go.Proofs.YthmeocigliephaaGreatDoorW.PrintWords Go.Proofs.YthmeocigliephaaGreatDoorW.PrintLast Go.Proofs.YthmeocigliephaaGreatDoorW.PrintMore
attribute [local go_sem] f64bits_run f64from_run run_float_some max2_int min2_int max_two min_two max_three min_three max_four min_four
def cuspref05_Row.l0 : Nat → List Nat → Nat → Int → Option (Nat)
 | 0, _, _, _ => none
 | k + 1, x0, x3, x4 => if x4 < (x0.length : Int) then (if x4 = 0 then (if 0 < (x0.length : Int) then (cuspref05_Row.l0 k x0 (rdOf (0 : Nat) x0 0) (wrap64 (x4 + 1))) else (none)) else (if 0 ≤ x4 then ((cuspref05_add.f k x3 (rdOf (0 : Nat) x0 x4)).bind fun t254 => (cuspref05_Row.l0 k x0 t254 (wrap64 (x4 + 1)))) else (none))) else (some x3)
def cuspref05_Row.f (k : Nat) (l0 : List Nat) : Option (Nat) := cuspref05_Row.l0 k l0 (0 : Nat) 0
theorem cuspref05_Row.calls (k : Nat) (A0 : Option Addr) (c0 : Nat) (l0 : List Nat) (r : Nat) (w : World) (hr0 : Kd.C Kd.float w A0 l0.length l0) (hc0 : l0.length ≤ c0) (h : cuspref05_Row.f k l0 = some r) :
  Calls Tryz.prog 13 #[.slice A0 l0.length c0] w fun e w' => e = .returned (.float .f64 r) ∧ Below w.heap.size w w' := by
 have HR0 := asd hr0
 have HC0 := asd hc0
 clear hr0 hc0
 have HB := asd (Below.refl w.heap.size w)
 have H : (cuspref05_Row.l0 k l0 (0 : Nat) 0) = some r := h
 clear h
 have H' := asd H
 clear H
 go_enter Tryz.func13, Tryz.ntmps13
 go_wp2
 go_loopg [3, 4] k (fun kq v3 v4 w' => ∃ (x3_1 : Nat) (x4_1 : Int), v3 = .float .f64 x3_1 ∧ v4 = .int .i64 x4_1 ∧ Aside0 (cuspref05_Row.l0 kq l0 x3_1 x4_1 = some r) ∧ Aside0 (kq ≤ k) ∧ Aside0 (Below w.heap.size w w'))
 case atStart => exact ⟨((0 : Nat)), (0), eqB, eqB, H', ⟨Nat.le_refl _⟩, ⟨hbw⟩⟩
 case round =>
  clear H'
  try clear c1
  obtain ⟨x3_1, x4_1, rfl, rfl, HA, HK1, HB⟩ := hrel
  cases gk with
  | zero => exact absurd HA.out (by simp [cuspref05_Row.l0])
  | succ k1 =>
   have H := HA.out
   clear HA
   simp only [cuspref05_Row.l0] at H
   by_cases c2 : x4_1 < (l0.length : Int)
   ·rw [if_pos c2] at H
    have c2b0 : decide (x4_1 < (l0.length : Int)) = true := decide_eq_true c2
    clear c2
    by_cases c3 : x4_1 = 0
    ·rw [if_pos c3] at H
     have c3b0 : (x4_1 == 0) = true := beq_iff_eq.mpr c3
     have c3b1 : (x4_1 != 0) = false := bne_eq_false_iff_eq.mpr c3
     clear c3
     by_cases c4 : 0 < (l0.length : Int)
     ·rw [if_pos c4] at H
      have c4b0 : decide (0 < (l0.length : Int)) = true := decide_eq_true c4
      have c4b1 : decide (0 < l0.length) = true := decide_eq_true (by omega)
      clear c4
      have H' := asd H
      clear H
      have p252 : 0 ≤ (0 : Int) := (by omega)
      have q252 : 0 < (l0.length : Int) := of_decide_eq_true (by first | (with_reducible assumption) | assumption)
      obtain ⟨ad252, e252, hx252_0⟩ := Kd.at_float HR0.out 0 p252 q252
      cases e252
      have qi252 : (0 < l0.length) = True := eq_true (by omega)
      (try rw [show ((0 : Int)).toNat = 0 from rfl] at hx252_0)
      (try rw [Addr.add_zero'] at hx252_0)
      replace hx252_0 := (HB.out.cell (World.block_lt_of_cell? w _ hx252_0)).trans hx252_0
      replace p252 := eq_true p252
      replace q252 := eq_true q252
      go_wp2
      go_roundg k1
      case measure => have := HK1.out; omega
      case rel => exact ⟨(rdOf (0 : Nat) l0 0), (wrap64 (x4_1 + 1)), eqB, eqB, H', ⟨by have := HK1.out; omega⟩, ⟨hbw⟩⟩
     ·rw [if_neg c4] at H
      exact absurd H (by simp)
    ·rw [if_neg c3] at H
     have c3b0 : (x4_1 == 0) = false := beq_eq_false_iff_ne.mpr c3
     have c3b1 : (x4_1 != 0) = true := bne_iff_ne.mpr c3
     by_cases c5 : 0 ≤ x4_1
     ·rw [if_pos c5] at H
      have c5b0 : decide (0 ≤ x4_1) = true := decide_eq_true c5
      clear c5
      replace H := Option.bind_eq_some_iff.mp H
      obtain ⟨t254, A60, H⟩ := H
      replace H : (cuspref05_Row.l0 k1 l0 t254 (wrap64 (x4_1 + 1))) = some r := H
      have A6 := asd A60
      clear A60
      have H' := asd H
      clear H
      have p253 : 0 ≤ (x4_1 : Int) := of_decide_eq_true (by first | (with_reducible assumption) | assumption)
      have q253 : x4_1 < (l0.length : Int) := of_decide_eq_true (by first | (with_reducible assumption) | assumption)
      obtain ⟨ad253, e253, hx253_0⟩ := Kd.at_float HR0.out x4_1 p253 q253
      cases e253
      replace hx253_0 := (HB.out.cell (World.block_lt_of_cell? w _ hx253_0)).trans hx253_0
      replace p253 := eq_true p253
      replace q253 := eq_true q253
      go_wp2_with (first | ((with_reducible refine gate_callee (f := 40) rfl ?_); refine goesL_ (some 21) rfl rfl Tryz.func40 (by kernel_rfl) rfl #[.float .f64 x3_1, .float .f64 (rdOf (0 : Nat) l0 x4_1)] rfl eqA ?_; (with_reducible refine (cuspref05_add.calls k1 x3_1 (rdOf (0 : Nat) l0 x4_1) t254 _ A6.out).mono ?_); rintro e w7 ⟨rfl, hb⟩; refine ⟨_, rfl, ?_⟩; have n0_ := asd (below_step hbw hb); clear HB; have HB := n0_; clear n0_; (try clear hb); (try clear hb2); (try clear hk); (try clear hi)))
      go_roundg k1
      case measure => have := HK1.out; omega
      case rel => exact ⟨(t254), (wrap64 (x4_1 + 1)), eqB, eqB, H', ⟨by have := HK1.out; omega⟩, ⟨hbw⟩⟩
     ·rw [if_neg c5] at H
      exact absurd H (by simp)
   ·rw [if_neg c2] at H
    have c2b0 : decide (x4_1 < (l0.length : Int)) = false := decide_eq_false c2
    clear c2
    obtain rfl := Option.some.inj H
    go_wp2
    go_ret
    exact ⟨eqC, hbw⟩
end Go.Proofs.YthmeocigliephaaGreatDoor.PSv
end
section
namespace Go.Proofs.YthmeocigliephaaGreatDoor.PSv
open Go.Proofs.YthmeocigliephaaGreatDoor.PSu Go.RowKit Go.Proofs.YthmeocigliephaaGreatDoorW.PrintWords Go.Proofs.YthmeocigliephaaGreatDoorW.PrintLast Go.Proofs.YthmeocigliephaaGreatDoorW.PrintMore
attribute [local go_sem] f64bits_run f64from_run run_float_some max2_int min2_int max_two min_two max_three min_three max_four min_four
def cuspref05_Halves.f : Nat → List Nat → Option (Nat)
 | 0, _ => none
 | k + 1, l0 => if (l0.length : Int) = 0 then (some (0 : Nat)) else (if (l0.length : Int) = 1 then (if 0 < (l0.length : Int) then (some (rdOf (0 : Nat) l0 0)) else (none)) else (if 0 ≤ (wrap64 ((l0.length : Int) / 2)) then (if (wrap64 ((l0.length : Int) / 2)) ≤ (l0.length : Int) then ((cuspref05_Halves.f k (l0.take ((wrap64 ((l0.length : Int) / 2)) : Int).toNat)).bind fun t257 => ((cuspref05_Halves.f k (l0.drop ((wrap64 ((l0.length : Int) / 2)) : Int).toNat)).bind fun t259 => ((cuspref05_add.f k t257 t259).bind fun t260 => (some t260)))) else (none)) else (none)))
def cuspref05_Halves.T6 : Bool × List (List Nat × List Nat) := (true, [([], []), ([], []), ([1], [1]), ([2], [2]), ([0, 3], [0, 3]), ([4], [4]), ([], []), ([], []), ([7], [7]), ([8], [8]), ([6, 9], [6, 9]), ([10, 5], [10]), ([5, 11, 11], [5, 11]), ([12, 12, 0, 1, 2, 3, 4, 5, 6, 7, 8, 9, 10, 11, 12], [12])])
def cuspref05_Halves.B6 : List Nat := [0, 0, 2, 6, 15, 31, 0, 0, 128, 384, 960, 2047, 4095, 8191]
theorem cuspref05_Halves.tab6 : rtab .any (opsOf Tryz.f15 6) = cuspref05_Halves.T6 := by kernel_rfl
theorem cuspref05_Halves.bits6 : waitsOk cuspref05_Halves.T6.2 cuspref05_Halves.B6 = true := by kernel_rfl
theorem cuspref05_Halves.calls (k : Nat) : ∀ (A0 : Option Addr) (c0 : Nat) (l0 : List Nat) (r : Nat) (w : World) (hr0 : Kd.C Kd.float w A0 l0.length l0) (hc0 : l0.length ≤ c0) (h : cuspref05_Halves.f k l0 = some r),
  Calls Tryz.prog 15 #[.slice A0 l0.length c0] w fun e w' => e = .returned (.float .f64 r) ∧ Below w.heap.size w w' := by
 induction k using Nat.strongRecOn with
 | _ k ih =>
 intro A0 c0 l0 r w hr0 hc0 h
 cases k with
 | zero => exact absurd h (by simp [cuspref05_Halves.f])
 | succ k =>
 simp only [cuspref05_Halves.f] at h
 have HR0 := asd hr0
 have HC0 := asd hc0
 clear hr0 hc0
 have HB := asd (Below.refl w.heap.size w)
 have H : (if (l0.length : Int) = 0 then (some (0 : Nat)) else (if (l0.length : Int) = 1 then (if 0 < (l0.length : Int) then (some (rdOf (0 : Nat) l0 0)) else (none)) else (if 0 ≤ (wrap64 ((l0.length : Int) / 2)) then (if (wrap64 ((l0.length : Int) / 2)) ≤ (l0.length : Int) then ((cuspref05_Halves.f k (l0.take ((wrap64 ((l0.length : Int) / 2)) : Int).toNat)).bind fun t257 => ((cuspref05_Halves.f k (l0.drop ((wrap64 ((l0.length : Int) / 2)) : Int).toNat)).bind fun t259 => ((cuspref05_add.f k t257 t259).bind fun t260 => (some t260)))) else (none)) else (none)))) = some r := h
 clear h
 by_cases c2 : (l0.length : Int) = 0
 ·rw [if_pos c2] at H
  have c2b0 : ((l0.length : Int) == 0) = true := beq_iff_eq.mpr c2
  have c2b1 : ((l0.length : Int) != 0) = false := bne_eq_false_iff_eq.mpr c2
  clear c2
  obtain rfl := Option.some.inj H
  go_enter Tryz.func15, Tryz.ntmps15
  go_wp2
  go_ret
  exact ⟨eqC, hbw⟩
 ·rw [if_neg c2] at H
  have c2b0 : ((l0.length : Int) == 0) = false := beq_eq_false_iff_ne.mpr c2
  have c2b1 : ((l0.length : Int) != 0) = true := bne_iff_ne.mpr c2
  have c2b2 : ¬ (l0 = []) := fun h_ => c2 (by rw [h_]; rfl)
  by_cases c3 : (l0.length : Int) = 1
  ·rw [if_pos c3] at H
   have c3b0 : ((l0.length : Int) == 1) = true := beq_iff_eq.mpr c3
   have c3b1 : ((l0.length : Int) != 1) = false := bne_eq_false_iff_eq.mpr c3
   clear c3
   by_cases c4 : 0 < (l0.length : Int)
   ·rw [if_pos c4] at H
    have c4b0 : decide (0 < (l0.length : Int)) = true := decide_eq_true c4
    have c4b1 : decide (0 < l0.length) = true := decide_eq_true (by omega)
    clear c4
    obtain rfl := Option.some.inj H
    have p255 : 0 ≤ (0 : Int) := (by omega)
    have q255 : 0 < (l0.length : Int) := of_decide_eq_true (by first | (with_reducible assumption) | assumption)
    obtain ⟨ad255, e255, hx255_0⟩ := Kd.at_float HR0.out 0 p255 q255
    cases e255
    have qi255 : (0 < l0.length) = True := eq_true (by omega)
    (try rw [show ((0 : Int)).toNat = 0 from rfl] at hx255_0)
    (try rw [Addr.add_zero'] at hx255_0)
    replace p255 := eq_true p255
    replace q255 := eq_true q255
    go_enter Tryz.func15, Tryz.ntmps15
    go_wp2
    go_ret
    exact ⟨eqC, hbw⟩
   ·rw [if_neg c4] at H
    exact absurd H (by simp)
  ·rw [if_neg c3] at H
   have c3b0 : ((l0.length : Int) == 1) = false := beq_eq_false_iff_ne.mpr c3
   have c3b1 : ((l0.length : Int) != 1) = true := bne_iff_ne.mpr c3
   obtain ⟨ji5, hji5⟩ : ∃ j_ : Int, (wrap64 ((l0.length : Int) / 2)) = j_ := ⟨_, rfl⟩
   replace H : (if 0 ≤ (ji5) then (if (ji5) ≤ (l0.length : Int) then ((cuspref05_Halves.f k (l0.take ((ji5) : Int).toNat)).bind fun t257 => ((cuspref05_Halves.f k (l0.drop ((ji5) : Int).toNat)).bind fun t259 => ((cuspref05_add.f k t257 t259).bind fun t260 => (some t260)))) else (none)) else (none)) = some r := by first | (rw [hji5] at H; exact H) | (simp only [hji5] at H ⊢; exact H)
   have hji5w : (IntKind.i64.wrap ((l0.length : Int) / 2)) = ji5 := (i64_w _).trans hji5
   by_cases c6 : 0 ≤ (ji5)
   ·rw [if_pos c6] at H
    have c6b0 := eq_true c6
    have c6b1 : decide (0 ≤ (ji5)) = true := decide_eq_true c6
    clear c6
    by_cases c7 : (ji5) ≤ (l0.length : Int)
    ·rw [if_pos c7] at H
     have c7b0 := eq_true c7
     have c7b1 : decide ((ji5) ≤ (l0.length : Int)) = true := decide_eq_true c7
     clear c7
     replace H := Option.bind_eq_some_iff.mp H
     obtain ⟨t257, A80, H⟩ := H
     replace H : ((cuspref05_Halves.f k (l0.drop ((ji5) : Int).toNat)).bind fun t259 => ((cuspref05_add.f k t257 t259).bind fun t260 => (some t260))) = some r := H
     have A8 := asd A80
     clear A80
     have c9b0 := eq_true (of_decide_eq_true (by first | (with_reducible assumption) | assumption) : 0 ≤ (ji5))
     have c10b0 := eq_true (of_decide_eq_true (by first | (with_reducible assumption) | assumption) : (ji5) ≤ (l0.length : Int))
     replace H := Option.bind_eq_some_iff.mp H
     obtain ⟨t259, A110, H⟩ := H
     replace H : ((cuspref05_add.f k t257 t259).bind fun t260 => (some t260)) = some r := H
     have A11 := asd A110
     clear A110
     replace H := Option.bind_eq_some_iff.mp H
     obtain ⟨t260, A120, H⟩ := H
     replace H : (some t260) = some r := H
     have A12 := asd A120
     clear A120
     obtain rfl := Option.some.inj H
     go_enter Tryz.func15, Tryz.ntmps15
     try go_wp2
     have n0_ := asd (below_drew1 HB.out)
     clear HB
     have HB := n0_
     clear n0_
     obtain ⟨i014, hi014, _, hsz14, _⟩ := info_parts info25
     obtain ⟨hcut14, hA14, hC14⟩ := print_take_of (P := Tryz.prog) (Value.float .f64) (0 : Nat) 22 25 .i64 Tryz.underlying22 hi014 hsz14 A0 c0 l0 (ji5) (of_decide_eq_true (by first | (with_reducible assumption) | assumption)) (of_decide_eq_true (by first | (with_reducible assumption) | assumption)) HC0.out
     have HR256 := asd (Kd.C_of_reads (h1 := fun _ => rfl) (hA14 _ (Kd.reads_of_C HR0.out)))
     have HC256 := asd hC14
     clear hA14 hC14 hi014 hsz14
     obtain ⟨i015, hi015, _, hsz15, _⟩ := info_parts info25
     obtain ⟨A15, hcut15, hA15, hC15⟩ := print_drop_of (P := Tryz.prog) (Value.float .f64) (0 : Nat) 22 25 .i64 Tryz.underlying22 hi015 hsz15 A0 c0 l0 (ji5) (of_decide_eq_true (by first | (with_reducible assumption) | assumption)) (of_decide_eq_true (by first | (with_reducible assumption) | assumption)) HC0.out
     have HR258 := asd (Kd.C_of_reads (h1 := fun _ => rfl) (hA15 _ (Kd.reads_of_C HR0.out)))
     have HC258 := asd hC15
     clear hA15 hC15 hi015 hsz15
     refine start_ (n := 14) (S := fun w' => True) (ds := []) #[false, false, false, false, false, false, false, false, false, false, false, false, false, false] (by kernel_rfl) rfl rfl trivial (fun hHeld => ?_); refine with_tabW cuspref05_Halves.tab6 cuspref05_Halves.bits6 (fun HT_ HW_ => ?_)
     generalize w.drew = w13 at HB HR256 HR258 hHeld ⊢
     refine pure_ (i := 0) (N := some 12) (v := ?_) (a' := ?_) #[true, false, false, false, false, false, false, false, false, false, false, false, false, false] rfl rfl (any_of HT_.out (by kernel_rfl)) (fun _ _ _ h => h) (Or.inl ⟨by rfl, ?_⟩) ?_ ?_
     rotate_left
     ·intro w'
      go_simp
      with_reducible rfl
     rotate_left
     ·simp only [Act.put, List.setIfInBounds_toArray, List.set_cons_zero, List.set_cons_succ, i64_w, i32_w]
      rfl
     refine pure_ (i := 1) (N := some 13) (v := ?_) (a' := ?_) #[true, true, false, false, false, false, false, false, false, false, false, false, false, false] rfl rfl (any_of HT_.out (by kernel_rfl)) (fun _ _ _ h => h) (Or.inl ⟨by rfl, ?_⟩) ?_ ?_
     rotate_left
     ·intro w'
      go_simp
      with_reducible rfl
     rotate_left
     ·simp only [Act.put, List.setIfInBounds_toArray, List.set_cons_zero, List.set_cons_succ, i64_w, i32_w]
      rfl
     refine pure_ (i := 2) (N := some 14) (v := ?_) (a' := ?_) #[true, true, true, false, false, false, false, false, false, false, false, false, false, false] rfl rfl (any_of HT_.out (by kernel_rfl)) (fun _ _ _ h => h) (Or.inl ⟨by rfl, ?_⟩) ?_ ?_
     rotate_left
     ·intro w'
      go_simp
      with_reducible rfl
     rotate_left
     ·simp only [Act.put, List.setIfInBounds_toArray, List.set_cons_zero, List.set_cons_succ, i64_w, i32_w]
      rfl
     refine pure_ (i := 3) (N := some 15) (v := ?_) (a' := ?_) #[true, true, true, true, false, false, false, false, false, false, false, false, false, false] rfl rfl (any_of HT_.out (by kernel_rfl)) (fun _ _ _ h => h) (Or.inl ⟨by rfl, ?_⟩) ?_ ?_
     rotate_left
     ·intro w'
      go_simp
      with_reducible rfl
     rotate_left
     ·simp only [Act.put, List.setIfInBounds_toArray, List.set_cons_zero, List.set_cons_succ, i64_w, i32_w]
      rfl
     refine pure_ (i := 4) (N := some 16) (v := ?_) (a' := ?_) #[true, true, true, true, true, false, false, false, false, false, false, false, false, false] rfl rfl (any_of HT_.out (by kernel_rfl)) (fun _ _ _ h => h) (Or.inl ⟨by rfl, ?_⟩) ?_ ?_
     rotate_left
     ·intro w'
      go_simp
      with_reducible rfl
     rotate_left
     ·simp only [Act.put, List.setIfInBounds_toArray, List.set_cons_zero, List.set_cons_succ, i64_w, i32_w]
      rfl
     refine pure_ (i := 6) (N := some 18) (v := ?_) (a' := ?_) #[true, true, true, true, true, false, true, false, false, false, false, false, false, false] rfl rfl (any_of HT_.out (by kernel_rfl)) (fun _ _ _ h => h) (Or.inl ⟨by rfl, ?_⟩) ?_ ?_
     rotate_left
     ·intro w'
      go_simp
      with_reducible rfl
     rotate_left
     ·simp only [Act.put, List.setIfInBounds_toArray, List.set_cons_zero, List.set_cons_succ, i64_w, i32_w]
      rfl
     refine pure_ (i := 7) (N := some 19) (v := ?_) (a' := ?_) #[true, true, true, true, true, false, true, true, false, false, false, false, false, false] rfl rfl (any_of HT_.out (by kernel_rfl)) (fun _ _ _ h => h) (Or.inl ⟨by rfl, ?_⟩) ?_ ?_
     rotate_left
     ·intro w'
      go_simp
      with_reducible rfl
     rotate_left
     ·simp only [Act.put, List.setIfInBounds_toArray, List.set_cons_zero, List.set_cons_succ, i64_w, i32_w]
      rfl
     refine pure_ (i := 8) (N := some 20) (v := ?_) (a' := ?_) #[true, true, true, true, true, false, true, true, true, false, false, false, false, false] rfl rfl (any_of HT_.out (by kernel_rfl)) (fun _ _ _ h => h) (Or.inl ⟨by rfl, ?_⟩) ?_ ?_
     rotate_left
     ·intro w'
      go_simp
      with_reducible rfl
     rotate_left
     ·simp only [Act.put, List.setIfInBounds_toArray, List.set_cons_zero, List.set_cons_succ, i64_w, i32_w]
      rfl
     refine pure_ (i := 9) (N := some 21) (v := ?_) (a' := ?_) #[true, true, true, true, true, false, true, true, true, true, false, false, false, false] rfl rfl (any_of HT_.out (by kernel_rfl)) (fun _ _ _ h => h) (Or.inl ⟨by rfl, ?_⟩) ?_ ?_
     rotate_left
     ·intro w'
      go_simp
      with_reducible rfl
     rotate_left
     ·simp only [Act.put, List.setIfInBounds_toArray, List.set_cons_zero, List.set_cons_succ, i64_w, i32_w]
      rfl
     refine pure_ (i := 10) (N := some 22) (v := ?_) (a' := ?_) #[true, true, true, true, true, false, true, true, true, true, true, false, false, false] rfl rfl (any_of HT_.out (by kernel_rfl)) (fun _ _ _ h => h) (Or.inl ⟨by rfl, ?_⟩) ?_ ?_
     rotate_left
     ·intro w'
      go_simp
      with_reducible rfl
     rotate_left
     ·simp only [Act.put, List.setIfInBounds_toArray, List.set_cons_zero, List.set_cons_succ, i64_w, i32_w]
      rfl
     refine one_ (i := 5) (N := some 17) #[true, true, true, true, true, true, true, true, true, true, true, false, false, false] rfl rfl (one_of HT_.out (by kernel_rfl)) (by decide) (fun K hK => ?_)
     refine goes_ Tryz.func15 (by kernel_rfl) rfl #[.slice A0 (l0.take ((ji5) : Int).toNat).length c0] (by rfl) rfl rfl (by (try simp only [List.map_toArray, List.map_cons, List.map_nil]); first | done | (rw [show (l0.take ((ji5) : Int).toNat).length = (ji5).toNat from (by rw [List.length_take]; have h_ : ((ji5) : Int) ≤ (l0.length : Int) := of_decide_eq_true (by first | (with_reducible assumption) | assumption); omega)] <;> rfl) | (simp only [hji5]; rfl) | rfl | (simp only [List.length_drop, List.length_take]; rfl)) ?_
     with_reducible refine (ih k (by omega) _ _ (l0.take ((ji5) : Int).toNat) t257 _ ?side1 ?side2 A8.out).mono ?_
     (case side1 => repeat (first | exact (Kd.C_below HR256.out HB.out) | (with_reducible refine Kd.C_alloc ?_ _) | (with_reducible refine Kd.C_drewN ?_ _) | (with_reducible refine Kd.C_drew ?_)))
     (case side2 => exact HC256.out)
     rintro e w16 ⟨rfl, hb⟩
     refine ⟨_, rfl, ?_⟩
     have n0_ := asd (below_step hbw hb)
     clear HB
     have HB := n0_
     clear n0_
     (try clear hb)
     (try clear hb2)
     (try clear hk)
     (try clear hi)
     refine hK.out _ _ trivial (fun hHeld => ?_)
     clear hK K
     refine norm_ (a' := ?_) ?_ ?_
     rotate_left
     ·show Act.put _ (some 17) _ = _
      simp only [Act.put, List.setIfInBounds_toArray, List.set_cons_zero, List.set_cons_succ, i64_w, i32_w]
      rfl
     refine one_ (i := 11) (N := some 23) #[true, true, true, true, true, true, true, true, true, true, true, true, false, false] rfl rfl (one_of HT_.out (by kernel_rfl)) (by decide) (fun K hK => ?_)
     refine goes_ Tryz.func15 (by kernel_rfl) rfl #[.slice A15 (l0.drop ((ji5) : Int).toNat).length (c0 - (ji5).toNat)] (by rfl) rfl rfl (by (try simp only [List.map_toArray, List.map_cons, List.map_nil]); first | done | (rw [show (l0.drop ((ji5) : Int).toNat).length = (l0.length - (ji5).toNat) from List.length_drop] <;> rfl) | (simp only [hji5]; rfl) | rfl | (simp only [List.length_drop, List.length_take]; rfl)) ?_
     with_reducible refine (ih k (by omega) _ _ (l0.drop ((ji5) : Int).toNat) t259 _ ?side1 ?side2 A11.out).mono ?_
     (case side1 => repeat (first | exact (Kd.C_below HR258.out HB.out) | (with_reducible refine Kd.C_alloc ?_ _) | (with_reducible refine Kd.C_drewN ?_ _) | (with_reducible refine Kd.C_drew ?_)))
     (case side2 => exact HC258.out)
     rintro e w17 ⟨rfl, hb⟩
     refine ⟨_, rfl, ?_⟩
     have n0_ := asd (below_step hbw hb)
     clear HB
     have HB := n0_
     clear n0_
     (try clear hb)
     (try clear hb2)
     (try clear hk)
     (try clear hi)
     refine hK.out _ _ trivial (fun hHeld => ?_)
     clear hK K
     refine norm_ (a' := ?_) ?_ ?_
     rotate_left
     ·show Act.put _ (some 23) _ = _
      simp only [Act.put, List.setIfInBounds_toArray, List.set_cons_zero, List.set_cons_succ, i64_w, i32_w]
      rfl
     refine one_ (i := 12) (N := some 24) #[true, true, true, true, true, true, true, true, true, true, true, true, true, false] rfl rfl (one_of HT_.out (by kernel_rfl)) (by decide) (fun K hK => ?_)
     refine goes_ Tryz.func40 (by kernel_rfl) rfl #[.float .f64 t257, .float .f64 t259] (by rfl) rfl rfl eqA ?_
     with_reducible refine (cuspref05_add.calls k t257 t259 t260 _ A12.out).mono ?_
     rintro e w18 ⟨rfl, hb⟩
     refine ⟨_, rfl, ?_⟩
     have n0_ := asd (below_step hbw hb)
     clear HB
     have HB := n0_
     clear n0_
     (try clear hb)
     (try clear hb2)
     (try clear hk)
     (try clear hi)
     refine hK.out _ _ trivial (fun hHeld => ?_)
     clear hK K
     refine norm_ (a' := ?_) ?_ ?_
     rotate_left
     ·show Act.put _ (some 24) _ = _
      simp only [Act.put, List.setIfInBounds_toArray, List.set_cons_zero, List.set_cons_succ, i64_w, i32_w]
      rfl
     refine pure_ (i := 13) (N := some 2) (v := ?_) (a' := ?_) #[true, true, true, true, true, true, true, true, true, true, true, true, true, true] rfl rfl (any_of HT_.out (by kernel_rfl)) (fun _ _ _ h => h) (Or.inl ⟨by rfl, ?_⟩) ?_ ?_
     rotate_left
     ·intro w'
      go_simp
      with_reducible rfl
     rotate_left
     ·simp only [Act.put, List.setIfInBounds_toArray, List.set_cons_zero, List.set_cons_succ, i64_w, i32_w]
      rfl
     refine done_ (done_of HT_.out (by kernel_rfl)) ?_
     try go_wp2
     go_ret
     exact ⟨by first | rfl | (simp [errW_none, errW_some] <;> rfl) | (simp only [← hji5]; first | rfl | (simp [errW_none, errW_some] <;> rfl)) | (simp [*, errW_none, errW_some] <;> rfl), hbw⟩
    ·rw [if_neg c7] at H
     exact absurd H (by simp)
   ·rw [if_neg c6] at H
    exact absurd H (by simp)
end Go.Proofs.YthmeocigliephaaGreatDoor.PSv
end
section
namespace Go.Proofs.YthmeocigliephaaGreatDoor.PSv
open Go.Proofs.YthmeocigliephaaGreatDoor.PSu Go.RowKit Go.Proofs.YthmeocigliephaaGreatDoorW.PrintWords Go.Proofs.YthmeocigliephaaGreatDoorW.PrintLast Go.Proofs.YthmeocigliephaaGreatDoorW.PrintMore
attribute [local go_sem] f64bits_run f64from_run run_float_some max2_int min2_int max_two min_two max_three min_three max_four min_four
def cuspref01_Abs.f (a0 : Nat) : Option (Nat) := (cuspref01_mag.f a0).bind fun t261 => ((cuspref01_Of.f t261).bind fun t262 => (some t262))
theorem cuspref01_Abs.calls (a0 : Nat) (r : Nat) (w : World) (h : cuspref01_Abs.f a0 = some r) :
  Calls Tryz.prog 29 #[.float .f64 a0] w fun e w' => e = .returned (.float .f64 r) ∧ Drawn0 w w' := by
 have H : ((cuspref01_mag.f a0).bind fun t261 => ((cuspref01_Of.f t261).bind fun t262 => (some t262))) = some r := h
 clear h
 replace H := Option.bind_eq_some_iff.mp H
 obtain ⟨t261, A20, H⟩ := H
 replace H : ((cuspref01_Of.f t261).bind fun t262 => (some t262)) = some r := H
 have A2 := asd A20
 clear A20
 replace H := Option.bind_eq_some_iff.mp H
 obtain ⟨t262, A30, H⟩ := H
 replace H : (some t262) = some r := H
 have A3 := asd A30
 clear A30
 obtain rfl := Option.some.inj H
 go_enter Tryz.func29, Tryz.ntmps29
 go_wp2_with (first | ((with_reducible refine gate_callee (f := 62) rfl ?_); refine goesL_ (some 4) rfl rfl Tryz.func62 (by kernel_rfl) rfl #[.float .f64 a0] rfl eqA ?_; (with_reducible refine (cuspref01_mag.calls a0 t261 _ A2.out).mono ?_); rintro e w' ⟨rfl, ⟨nd, rfl⟩⟩; refine ⟨_, rfl, ?_⟩) | ((with_reducible refine gate_callee (f := 72) rfl ?_); refine goesL_ (some 5) rfl rfl Tryz.func72 (by kernel_rfl) rfl #[.int .u64 t261] rfl eqA ?_; (with_reducible refine (cuspref01_Of.calls t261 t262 _ A3.out).mono ?_); rintro e w' ⟨rfl, ⟨nd, rfl⟩⟩; refine ⟨_, rfl, ?_⟩))
 go_ret
 exact ⟨eqB, dn0⟩
end Go.Proofs.YthmeocigliephaaGreatDoor.PSv
end
section
namespace Go.Proofs.YthmeocigliephaaGreatDoor.PSv
open Go.Proofs.YthmeocigliephaaGreatDoor.PSu Go.RowKit Go.Proofs.YthmeocigliephaaGreatDoorW.PrintWords Go.Proofs.YthmeocigliephaaGreatDoorW.PrintLast Go.Proofs.YthmeocigliephaaGreatDoorW.PrintMore
attribute [local go_sem] f64bits_run f64from_run run_float_some max2_int min2_int max_two min_two max_three min_three max_four min_four
def cuspref01_Turned.f (a0 : Nat) : Option (Nat) := (cuspref01_Bits.f a0).bind fun t263 => ((cuspref01_Of.f (Go.bits .xor .u64 t263 9223372036854775808)).bind fun t264 => (some t264))
theorem cuspref01_Turned.calls (a0 : Nat) (r : Nat) (w : World) (h : cuspref01_Turned.f a0 = some r) :
  Calls Tryz.prog 121 #[.float .f64 a0] w fun e w' => e = .returned (.float .f64 r) ∧ Drawn0 w w' := by
 have H : ((cuspref01_Bits.f a0).bind fun t263 => ((cuspref01_Of.f (Go.bits .xor .u64 t263 9223372036854775808)).bind fun t264 => (some t264))) = some r := h
 clear h
 replace H := Option.bind_eq_some_iff.mp H
 obtain ⟨t263, A20, H⟩ := H
 replace H : ((cuspref01_Of.f (Go.bits .xor .u64 t263 9223372036854775808)).bind fun t264 => (some t264)) = some r := H
 have A2 := asd A20
 clear A20
 replace H := Option.bind_eq_some_iff.mp H
 obtain ⟨t264, A30, H⟩ := H
 replace H : (some t264) = some r := H
 have A3 := asd A30
 clear A30
 obtain rfl := Option.some.inj H
 go_enter Tryz.func121, Tryz.ntmps121
 go_wp2_with (first | ((with_reducible refine gate_callee (f := 83) rfl ?_); refine goesL_ (some 4) rfl rfl Tryz.func83 (by kernel_rfl) rfl #[.float .f64 a0] rfl eqA ?_; (with_reducible refine (cuspref01_Bits.calls a0 t263 _ A2.out).mono ?_); rintro e w' ⟨rfl, ⟨nd, rfl⟩⟩; refine ⟨_, rfl, ?_⟩) | ((with_reducible refine gate_callee (f := 72) rfl ?_); refine goesL_ (some 6) rfl rfl Tryz.func72 (by kernel_rfl) rfl #[.int .u64 (Go.bits .xor .u64 t263 9223372036854775808)] rfl eqA ?_; (with_reducible refine (cuspref01_Of.calls (Go.bits .xor .u64 t263 9223372036854775808) t264 _ A3.out).mono ?_); rintro e w' ⟨rfl, ⟨nd, rfl⟩⟩; refine ⟨_, rfl, ?_⟩))
 go_ret
 exact ⟨eqB, dn0⟩
def cuspref03_Sub.f (k : Nat) (a0 : Nat) (a1 : Nat) (a2 : Int) : Option (Nat) := (cuspref01_IsNaN.f a1).bind fun t265 => (if t265 = true then ((cuspref01_Not.f).bind fun t266 => (some t266)) else ((cuspref01_Turned.f a1).bind fun t267 => ((cuspref03_Add.f k a0 t267 a2).bind fun t268 => (some t268))))
theorem cuspref03_Sub.calls (k : Nat) (a0 : Nat) (a1 : Nat) (a2 : Int) (r : Nat) (w : World) (h : cuspref03_Sub.f k a0 a1 a2 = some r) :
  Calls Tryz.prog 87 #[.float .f64 a0, .float .f64 a1, .int .i64 a2] w fun e w' => e = .returned (.float .f64 r) ∧ Below w.heap.size w w' := by
 have HB := asd (Below.refl w.heap.size w)
 have H : ((cuspref01_IsNaN.f a1).bind fun t265 => (if t265 = true then ((cuspref01_Not.f).bind fun t266 => (some t266)) else ((cuspref01_Turned.f a1).bind fun t267 => ((cuspref03_Add.f k a0 t267 a2).bind fun t268 => (some t268))))) = some r := h
 clear h
 replace H := Option.bind_eq_some_iff.mp H
 obtain ⟨t265, A40, H⟩ := H
 replace H : (if t265 = true then ((cuspref01_Not.f).bind fun t266 => (some t266)) else ((cuspref01_Turned.f a1).bind fun t267 => ((cuspref03_Add.f k a0 t267 a2).bind fun t268 => (some t268)))) = some r := H
 have A4 := asd A40
 clear A40
 by_cases c5 : t265 = true
 ·subst c5
  have H1 : ((cuspref01_Not.f).bind fun t266 => (some t266)) = some r := by rw [if_pos rfl] at H; exact H
  clear H
  have H := H1
  clear H1
  replace H := Option.bind_eq_some_iff.mp H
  obtain ⟨t266, A60, H⟩ := H
  replace H : (some t266) = some r := H
  have A6 := asd A60
  clear A60
  obtain rfl := Option.some.inj H
  go_enter Tryz.func87, Tryz.ntmps87
  go_wp2_with (first | ((with_reducible refine gate_callee (f := 73) rfl ?_); refine goesL_ (some 8) rfl rfl Tryz.func73 (by kernel_rfl) rfl #[.float .f64 a1] rfl eqA ?_; (with_reducible refine (cuspref01_IsNaN.calls a1 true _ A4.out).mono ?_); rintro e w' ⟨rfl, ⟨nd, rfl⟩⟩; refine ⟨_, rfl, ?_⟩) | ((with_reducible refine gate_callee (f := 118) rfl ?_); refine goesL_ (some 9) rfl rfl Tryz.func118 (by kernel_rfl) rfl #[] rfl eqA ?_; (with_reducible refine (cuspref01_Not.calls  t266 _ A6.out).mono ?_); rintro e w' ⟨rfl, ⟨nd, rfl⟩⟩; refine ⟨_, rfl, ?_⟩))
  go_ret
  exact ⟨eqC, hbw⟩
 ·replace c5 := Bool.eq_false_iff.mpr c5
  subst c5
  have H1 : ((cuspref01_Turned.f a1).bind fun t267 => ((cuspref03_Add.f k a0 t267 a2).bind fun t268 => (some t268))) = some r := by rw [if_neg (show ¬ (false = true) by decide)] at H; exact H
  clear H
  have H := H1
  clear H1
  replace H := Option.bind_eq_some_iff.mp H
  obtain ⟨t267, A70, H⟩ := H
  replace H : ((cuspref03_Add.f k a0 t267 a2).bind fun t268 => (some t268)) = some r := H
  have A7 := asd A70
  clear A70
  replace H := Option.bind_eq_some_iff.mp H
  obtain ⟨t268, A80, H⟩ := H
  replace H : (some t268) = some r := H
  have A8 := asd A80
  clear A80
  obtain rfl := Option.some.inj H
  go_enter Tryz.func87, Tryz.ntmps87
  go_wp2_with (first | ((with_reducible refine gate_callee (f := 73) rfl ?_); refine goesL_ (some 8) rfl rfl Tryz.func73 (by kernel_rfl) rfl #[.float .f64 a1] rfl eqA ?_; (with_reducible refine (cuspref01_IsNaN.calls a1 false _ A4.out).mono ?_); rintro e w' ⟨rfl, ⟨nd, rfl⟩⟩; refine ⟨_, rfl, ?_⟩) | ((with_reducible refine gate_callee (f := 121) rfl ?_); refine goesL_ (some 12) rfl rfl Tryz.func121 (by kernel_rfl) rfl #[.float .f64 a1] rfl eqA ?_; (with_reducible refine (cuspref01_Turned.calls a1 t267 _ A7.out).mono ?_); rintro e w' ⟨rfl, ⟨nd, rfl⟩⟩; refine ⟨_, rfl, ?_⟩) | ((with_reducible refine gate_callee (f := 85) rfl ?_); refine goesL_ (some 14) rfl rfl Tryz.func85 (by kernel_rfl) rfl #[.float .f64 a0, .float .f64 t267, .int .i64 a2] rfl eqA ?_; (with_reducible refine (cuspref03_Add.calls k a0 t267 a2 t268 _ A8.out).mono ?_); rintro e w9 ⟨rfl, hb⟩; refine ⟨_, rfl, ?_⟩; have n0_ := asd (below_step hbw hb); clear HB; have HB := n0_; clear n0_; (try clear hb); (try clear hb2); (try clear hk); (try clear hi)))
  go_ret
  exact ⟨eqC, hbw⟩
def cuspref05_sub.f (k : Nat) (a0 : Nat) (a1 : Nat) : Option (Nat) := (cuspref03_Sub.f k a0 a1 2).bind fun t269 => (some t269)
theorem cuspref05_sub.calls (k : Nat) (a0 : Nat) (a1 : Nat) (r : Nat) (w : World) (h : cuspref05_sub.f k a0 a1 = some r) :
  Calls Tryz.prog 42 #[.float .f64 a0, .float .f64 a1] w fun e w' => e = .returned (.float .f64 r) ∧ Below w.heap.size w w' := by
 have HB := asd (Below.refl w.heap.size w)
 have H : ((cuspref03_Sub.f k a0 a1 2).bind fun t269 => (some t269)) = some r := h
 clear h
 replace H := Option.bind_eq_some_iff.mp H
 obtain ⟨t269, A30, H⟩ := H
 replace H : (some t269) = some r := H
 have A3 := asd A30
 clear A30
 obtain rfl := Option.some.inj H
 go_enter Tryz.func42, Tryz.ntmps42
 go_wp2_with (first | ((with_reducible refine gate_callee (f := 87) rfl ?_); refine goesL_ (some 7) rfl rfl Tryz.func87 (by kernel_rfl) rfl #[.float .f64 a0, .float .f64 a1, .int .i64 2] rfl eqA ?_; (with_reducible refine (cuspref03_Sub.calls k a0 a1 2 t269 _ A3.out).mono ?_); rintro e w4 ⟨rfl, hb⟩; refine ⟨_, rfl, ?_⟩; have n0_ := asd (below_step hbw hb); clear HB; have HB := n0_; clear n0_; (try clear hb); (try clear hb2); (try clear hk); (try clear hi)))
 go_ret
 exact ⟨eqC, hbw⟩
def cuspref05_Kept.l0 : Nat → List Nat → Nat → Nat → Int → Option (Nat)
 | 0, _, _, _, _ => none
 | k + 1, x0, x3, x4, x5 => if x5 < (x0.length : Int) then (if 0 ≤ x5 then ((cuspref05_add.f k x3 (rdOf (0 : Nat) x0 x5)).bind fun t272 => ((cuspref01_Abs.f x3).bind fun t273 => ((cuspref01_Abs.f (rdOf (0 : Nat) x0 x5)).bind fun t274 => (if ((FloatKind.f64.format.order t273 t274) == some .gt || (FloatKind.f64.format.order t273 t274) == some .eq) = true then ((cuspref05_sub.f k x3 t272).bind fun t275 => ((cuspref05_add.f k t275 (rdOf (0 : Nat) x0 x5)).bind fun t276 => ((cuspref05_add.f k x4 t276).bind fun t277 => (cuspref05_Kept.l0 k x0 t272 t277 (wrap64 (x5 + 1)))))) else ((cuspref05_sub.f k (rdOf (0 : Nat) x0 x5) t272).bind fun t278 => ((cuspref05_add.f k t278 x3).bind fun t279 => ((cuspref05_add.f k x4 t279).bind fun t280 => (cuspref05_Kept.l0 k x0 t272 t280 (wrap64 (x5 + 1)))))))))) else (none)) else ((cuspref05_add.f k x3 x4).bind fun t270 => (some t270))
def cuspref05_Kept.f (k : Nat) (l0 : List Nat) : Option (Nat) := cuspref05_Kept.l0 k l0 (0 : Nat) (0 : Nat) 0
theorem cuspref05_Kept.calls (k : Nat) (A0 : Option Addr) (c0 : Nat) (l0 : List Nat) (r : Nat) (w : World) (hr0 : Kd.C Kd.float w A0 l0.length l0) (hc0 : l0.length ≤ c0) (h : cuspref05_Kept.f k l0 = some r) :
  Calls Tryz.prog 17 #[.slice A0 l0.length c0] w fun e w' => e = .returned (.float .f64 r) ∧ Below w.heap.size w w' := by
 have HR0 := asd hr0
 have HC0 := asd hc0
 clear hr0 hc0
 have HB := asd (Below.refl w.heap.size w)
 have H : (cuspref05_Kept.l0 k l0 (0 : Nat) (0 : Nat) 0) = some r := h
 clear h
 have H' := asd H
 clear H
 go_enter Tryz.func17, Tryz.ntmps17
 go_wp2
 go_loopg [3, 4, 5] k (fun kq v3 v4 v5 w' => ∃ (x3_1 : Nat) (x4_1 : Nat) (x5_1 : Int), v3 = .float .f64 x3_1 ∧ v4 = .float .f64 x4_1 ∧ v5 = .int .i64 x5_1 ∧ Aside0 (cuspref05_Kept.l0 kq l0 x3_1 x4_1 x5_1 = some r) ∧ Aside0 (kq ≤ k) ∧ Aside0 (Below w.heap.size w w'))
 case atStart => exact ⟨((0 : Nat)), ((0 : Nat)), (0), eqB, eqB, eqB, H', ⟨Nat.le_refl _⟩, ⟨hbw⟩⟩
 case round =>
  clear H'
  try clear c1
  obtain ⟨x3_1, x4_1, x5_1, rfl, rfl, rfl, HA, HK1, HB⟩ := hrel
  cases gk with
  | zero => exact absurd HA.out (by simp [cuspref05_Kept.l0])
  | succ k1 =>
   have H := HA.out
   clear HA
   simp only [cuspref05_Kept.l0] at H
   by_cases c2 : x5_1 < (l0.length : Int)
   ·rw [if_pos c2] at H
    have c2b0 : decide (x5_1 < (l0.length : Int)) = true := decide_eq_true c2
    clear c2
    by_cases c3 : 0 ≤ x5_1
    ·rw [if_pos c3] at H
     have c3b0 : decide (0 ≤ x5_1) = true := decide_eq_true c3
     clear c3
     replace H := Option.bind_eq_some_iff.mp H
     obtain ⟨t272, A40, H⟩ := H
     replace H : ((cuspref01_Abs.f x3_1).bind fun t273 => ((cuspref01_Abs.f (rdOf (0 : Nat) l0 x5_1)).bind fun t274 => (if ((FloatKind.f64.format.order t273 t274) == some .gt || (FloatKind.f64.format.order t273 t274) == some .eq) = true then ((cuspref05_sub.f k1 x3_1 t272).bind fun t275 => ((cuspref05_add.f k1 t275 (rdOf (0 : Nat) l0 x5_1)).bind fun t276 => ((cuspref05_add.f k1 x4_1 t276).bind fun t277 => (cuspref05_Kept.l0 k1 l0 t272 t277 (wrap64 (x5_1 + 1)))))) else ((cuspref05_sub.f k1 (rdOf (0 : Nat) l0 x5_1) t272).bind fun t278 => ((cuspref05_add.f k1 t278 x3_1).bind fun t279 => ((cuspref05_add.f k1 x4_1 t279).bind fun t280 => (cuspref05_Kept.l0 k1 l0 t272 t280 (wrap64 (x5_1 + 1))))))))) = some r := H
     have A4 := asd A40
     clear A40
     replace H := Option.bind_eq_some_iff.mp H
     obtain ⟨t273, A50, H⟩ := H
     replace H : ((cuspref01_Abs.f (rdOf (0 : Nat) l0 x5_1)).bind fun t274 => (if ((FloatKind.f64.format.order t273 t274) == some .gt || (FloatKind.f64.format.order t273 t274) == some .eq) = true then ((cuspref05_sub.f k1 x3_1 t272).bind fun t275 => ((cuspref05_add.f k1 t275 (rdOf (0 : Nat) l0 x5_1)).bind fun t276 => ((cuspref05_add.f k1 x4_1 t276).bind fun t277 => (cuspref05_Kept.l0 k1 l0 t272 t277 (wrap64 (x5_1 + 1)))))) else ((cuspref05_sub.f k1 (rdOf (0 : Nat) l0 x5_1) t272).bind fun t278 => ((cuspref05_add.f k1 t278 x3_1).bind fun t279 => ((cuspref05_add.f k1 x4_1 t279).bind fun t280 => (cuspref05_Kept.l0 k1 l0 t272 t280 (wrap64 (x5_1 + 1)))))))) = some r := H
     have A5 := asd A50
     clear A50
     replace H := Option.bind_eq_some_iff.mp H
     obtain ⟨t274, A60, H⟩ := H
     replace H : (if ((FloatKind.f64.format.order t273 t274) == some .gt || (FloatKind.f64.format.order t273 t274) == some .eq) = true then ((cuspref05_sub.f k1 x3_1 t272).bind fun t275 => ((cuspref05_add.f k1 t275 (rdOf (0 : Nat) l0 x5_1)).bind fun t276 => ((cuspref05_add.f k1 x4_1 t276).bind fun t277 => (cuspref05_Kept.l0 k1 l0 t272 t277 (wrap64 (x5_1 + 1)))))) else ((cuspref05_sub.f k1 (rdOf (0 : Nat) l0 x5_1) t272).bind fun t278 => ((cuspref05_add.f k1 t278 x3_1).bind fun t279 => ((cuspref05_add.f k1 x4_1 t279).bind fun t280 => (cuspref05_Kept.l0 k1 l0 t272 t280 (wrap64 (x5_1 + 1))))))) = some r := H
     have A6 := asd A60
     clear A60
     by_cases c7 : ((FloatKind.f64.format.order t273 t274) == some .gt || (FloatKind.f64.format.order t273 t274) == some .eq) = true
     ·rw [if_pos c7] at H
      have c7b0 : ((FloatKind.f64.format.order t273 t274) == some .gt || (FloatKind.f64.format.order t273 t274) == some .eq) = true := c7
      (try (have c7b1 : decide ((FloatKind.f64.format.order t273 t274) = some .gt || (FloatKind.f64.format.order t273 t274) == some .eq) = true := by simpa using c7))
      (try (have c7b2 : ((FloatKind.f64.format.order t273 t274) == some .gt || (FloatKind.f64.format.order t273 t274) == some .eq) = true := by simpa using c7))
      clear c7
      replace H := Option.bind_eq_some_iff.mp H
      obtain ⟨t275, A80, H⟩ := H
      replace H : ((cuspref05_add.f k1 t275 (rdOf (0 : Nat) l0 x5_1)).bind fun t276 => ((cuspref05_add.f k1 x4_1 t276).bind fun t277 => (cuspref05_Kept.l0 k1 l0 t272 t277 (wrap64 (x5_1 + 1))))) = some r := H
      have A8 := asd A80
      clear A80
      replace H := Option.bind_eq_some_iff.mp H
      obtain ⟨t276, A90, H⟩ := H
      replace H : ((cuspref05_add.f k1 x4_1 t276).bind fun t277 => (cuspref05_Kept.l0 k1 l0 t272 t277 (wrap64 (x5_1 + 1)))) = some r := H
      have A9 := asd A90
      clear A90
      replace H := Option.bind_eq_some_iff.mp H
      obtain ⟨t277, A100, H⟩ := H
      replace H : (cuspref05_Kept.l0 k1 l0 t272 t277 (wrap64 (x5_1 + 1))) = some r := H
      have A10 := asd A100
      clear A100
      have H' := asd H
      clear H
      have p271 : 0 ≤ (x5_1 : Int) := of_decide_eq_true (by first | (with_reducible assumption) | assumption)
      have q271 : x5_1 < (l0.length : Int) := of_decide_eq_true (by first | (with_reducible assumption) | assumption)
      obtain ⟨ad271, e271, hx271_0⟩ := Kd.at_float HR0.out x5_1 p271 q271
      cases e271
      replace hx271_0 := (HB.out.cell (World.block_lt_of_cell? w _ hx271_0)).trans hx271_0
      replace p271 := eq_true p271
      replace q271 := eq_true q271
      go_wp2_with (first | ((with_reducible refine gate_callee (f := 40) rfl ?_); refine goesL_ (some 20) rfl rfl Tryz.func40 (by kernel_rfl) rfl #[.float .f64 x3_1, .float .f64 (rdOf (0 : Nat) l0 x5_1)] rfl eqA ?_; (with_reducible refine (cuspref05_add.calls k1 x3_1 (rdOf (0 : Nat) l0 x5_1) t272 _ A4.out).mono ?_); rintro e w11 ⟨rfl, hb⟩; refine ⟨_, rfl, ?_⟩; have n0_ := asd (below_step hbw hb); clear HB; have HB := n0_; clear n0_; (try clear hb); (try clear hb2); (try clear hk); (try clear hi)) | ((with_reducible refine gate_callee (f := 29) rfl ?_); refine goesL_ (some 22) rfl rfl Tryz.func29 (by kernel_rfl) rfl #[.float .f64 x3_1] rfl eqA ?_; (with_reducible refine (cuspref01_Abs.calls x3_1 t273 _ A5.out).mono ?_); rintro e w' ⟨rfl, ⟨nd, rfl⟩⟩; refine ⟨_, rfl, ?_⟩) | ((with_reducible refine gate_callee (f := 29) rfl ?_); refine goesL_ (some 24) rfl rfl Tryz.func29 (by kernel_rfl) rfl #[.float .f64 (rdOf (0 : Nat) l0 x5_1)] rfl eqA ?_; (with_reducible refine (cuspref01_Abs.calls (rdOf (0 : Nat) l0 x5_1) t274 _ A6.out).mono ?_); rintro e w' ⟨rfl, ⟨nd, rfl⟩⟩; refine ⟨_, rfl, ?_⟩) | ((with_reducible refine gate_callee (f := 42) rfl ?_); refine goesL_ (some 29) rfl rfl Tryz.func42 (by kernel_rfl) rfl #[.float .f64 x3_1, .float .f64 t272] rfl eqA ?_; (with_reducible refine (cuspref05_sub.calls k1 x3_1 t272 t275 _ A8.out).mono ?_); rintro e w12 ⟨rfl, hb⟩; refine ⟨_, rfl, ?_⟩; have n0_ := asd (below_step hbw hb); clear HB; have HB := n0_; clear n0_; (try clear hb); (try clear hb2); (try clear hk); (try clear hi)) | ((with_reducible refine gate_callee (f := 40) rfl ?_); refine goesL_ (some 31) rfl rfl Tryz.func40 (by kernel_rfl) rfl #[.float .f64 t275, .float .f64 (rdOf (0 : Nat) l0 x5_1)] rfl eqA ?_; (with_reducible refine (cuspref05_add.calls k1 t275 (rdOf (0 : Nat) l0 x5_1) t276 _ A9.out).mono ?_); rintro e w13 ⟨rfl, hb⟩; refine ⟨_, rfl, ?_⟩; have n0_ := asd (below_step hbw hb); clear HB; have HB := n0_; clear n0_; (try clear hb); (try clear hb2); (try clear hk); (try clear hi)) | ((with_reducible refine gate_callee (f := 40) rfl ?_); refine goesL_ (some 32) rfl rfl Tryz.func40 (by kernel_rfl) rfl #[.float .f64 x4_1, .float .f64 t276] rfl eqA ?_; (with_reducible refine (cuspref05_add.calls k1 x4_1 t276 t277 _ A10.out).mono ?_); rintro e w14 ⟨rfl, hb⟩; refine ⟨_, rfl, ?_⟩; have n0_ := asd (below_step hbw hb); clear HB; have HB := n0_; clear n0_; (try clear hb); (try clear hb2); (try clear hk); (try clear hi)))
      go_roundg k1
      case measure => have := HK1.out; omega
      case rel => exact ⟨(t272), (t277), (wrap64 (x5_1 + 1)), eqB, eqB, eqB, H', ⟨by have := HK1.out; omega⟩, ⟨hbw⟩⟩
     ·rw [if_neg c7] at H
      have c7b0 : ((FloatKind.f64.format.order t273 t274) == some .gt || (FloatKind.f64.format.order t273 t274) == some .eq) = false := by simpa using c7
      (try (have c7b1 : decide ((FloatKind.f64.format.order t273 t274) = some .gt || (FloatKind.f64.format.order t273 t274) == some .eq) = false := by simpa using c7))
      (try (have c7b2 : ((FloatKind.f64.format.order t273 t274) == some .gt || (FloatKind.f64.format.order t273 t274) == some .eq) = false := by simpa using c7))
      (try (have c7b3 : ¬ ((FloatKind.f64.format.order t273 t274) = some .gt || (FloatKind.f64.format.order t273 t274) == some .eq) := by simpa using c7))
      clear c7
      replace H := Option.bind_eq_some_iff.mp H
      obtain ⟨t278, A150, H⟩ := H
      replace H : ((cuspref05_add.f k1 t278 x3_1).bind fun t279 => ((cuspref05_add.f k1 x4_1 t279).bind fun t280 => (cuspref05_Kept.l0 k1 l0 t272 t280 (wrap64 (x5_1 + 1))))) = some r := H
      have A15 := asd A150
      clear A150
      replace H := Option.bind_eq_some_iff.mp H
      obtain ⟨t279, A160, H⟩ := H
      replace H : ((cuspref05_add.f k1 x4_1 t279).bind fun t280 => (cuspref05_Kept.l0 k1 l0 t272 t280 (wrap64 (x5_1 + 1)))) = some r := H
      have A16 := asd A160
      clear A160
      replace H := Option.bind_eq_some_iff.mp H
      obtain ⟨t280, A170, H⟩ := H
      replace H : (cuspref05_Kept.l0 k1 l0 t272 t280 (wrap64 (x5_1 + 1))) = some r := H
      have A17 := asd A170
      clear A170
      have H' := asd H
      clear H
      have p271 : 0 ≤ (x5_1 : Int) := of_decide_eq_true (by first | (with_reducible assumption) | assumption)
      have q271 : x5_1 < (l0.length : Int) := of_decide_eq_true (by first | (with_reducible assumption) | assumption)
      obtain ⟨ad271, e271, hx271_0⟩ := Kd.at_float HR0.out x5_1 p271 q271
      cases e271
      replace hx271_0 := (HB.out.cell (World.block_lt_of_cell? w _ hx271_0)).trans hx271_0
      replace p271 := eq_true p271
      replace q271 := eq_true q271
      go_wp2_with (first | ((with_reducible refine gate_callee (f := 40) rfl ?_); refine goesL_ (some 20) rfl rfl Tryz.func40 (by kernel_rfl) rfl #[.float .f64 x3_1, .float .f64 (rdOf (0 : Nat) l0 x5_1)] rfl eqA ?_; (with_reducible refine (cuspref05_add.calls k1 x3_1 (rdOf (0 : Nat) l0 x5_1) t272 _ A4.out).mono ?_); rintro e w18 ⟨rfl, hb⟩; refine ⟨_, rfl, ?_⟩; have n0_ := asd (below_step hbw hb); clear HB; have HB := n0_; clear n0_; (try clear hb); (try clear hb2); (try clear hk); (try clear hi)) | ((with_reducible refine gate_callee (f := 29) rfl ?_); refine goesL_ (some 22) rfl rfl Tryz.func29 (by kernel_rfl) rfl #[.float .f64 x3_1] rfl eqA ?_; (with_reducible refine (cuspref01_Abs.calls x3_1 t273 _ A5.out).mono ?_); rintro e w' ⟨rfl, ⟨nd, rfl⟩⟩; refine ⟨_, rfl, ?_⟩) | ((with_reducible refine gate_callee (f := 29) rfl ?_); refine goesL_ (some 24) rfl rfl Tryz.func29 (by kernel_rfl) rfl #[.float .f64 (rdOf (0 : Nat) l0 x5_1)] rfl eqA ?_; (with_reducible refine (cuspref01_Abs.calls (rdOf (0 : Nat) l0 x5_1) t274 _ A6.out).mono ?_); rintro e w' ⟨rfl, ⟨nd, rfl⟩⟩; refine ⟨_, rfl, ?_⟩) | ((with_reducible refine gate_callee (f := 42) rfl ?_); refine goesL_ (some 36) rfl rfl Tryz.func42 (by kernel_rfl) rfl #[.float .f64 (rdOf (0 : Nat) l0 x5_1), .float .f64 t272] rfl eqA ?_; (with_reducible refine (cuspref05_sub.calls k1 (rdOf (0 : Nat) l0 x5_1) t272 t278 _ A15.out).mono ?_); rintro e w19 ⟨rfl, hb⟩; refine ⟨_, rfl, ?_⟩; have n0_ := asd (below_step hbw hb); clear HB; have HB := n0_; clear n0_; (try clear hb); (try clear hb2); (try clear hk); (try clear hi)) | ((with_reducible refine gate_callee (f := 40) rfl ?_); refine goesL_ (some 38) rfl rfl Tryz.func40 (by kernel_rfl) rfl #[.float .f64 t278, .float .f64 x3_1] rfl eqA ?_; (with_reducible refine (cuspref05_add.calls k1 t278 x3_1 t279 _ A16.out).mono ?_); rintro e w20 ⟨rfl, hb⟩; refine ⟨_, rfl, ?_⟩; have n0_ := asd (below_step hbw hb); clear HB; have HB := n0_; clear n0_; (try clear hb); (try clear hb2); (try clear hk); (try clear hi)) | ((with_reducible refine gate_callee (f := 40) rfl ?_); refine goesL_ (some 39) rfl rfl Tryz.func40 (by kernel_rfl) rfl #[.float .f64 x4_1, .float .f64 t279] rfl eqA ?_; (with_reducible refine (cuspref05_add.calls k1 x4_1 t279 t280 _ A17.out).mono ?_); rintro e w21 ⟨rfl, hb⟩; refine ⟨_, rfl, ?_⟩; have n0_ := asd (below_step hbw hb); clear HB; have HB := n0_; clear n0_; (try clear hb); (try clear hb2); (try clear hk); (try clear hi)))
      go_roundg k1
      case measure => have := HK1.out; omega
      case rel => exact ⟨(t272), (t280), (wrap64 (x5_1 + 1)), eqB, eqB, eqB, H', ⟨by have := HK1.out; omega⟩, ⟨hbw⟩⟩
    ·rw [if_neg c3] at H
     exact absurd H (by simp)
   ·rw [if_neg c2] at H
    have c2b0 : decide (x5_1 < (l0.length : Int)) = false := decide_eq_false c2
    clear c2
    replace H := Option.bind_eq_some_iff.mp H
    obtain ⟨t270, A220, H⟩ := H
    replace H : (some t270) = some r := H
    have A22 := asd A220
    clear A220
    obtain rfl := Option.some.inj H
    go_wp2_with (first | ((with_reducible refine gate_callee (f := 40) rfl ?_); refine goesL_ (some 43) rfl rfl Tryz.func40 (by kernel_rfl) rfl #[.float .f64 x3_1, .float .f64 x4_1] rfl eqA ?_; (with_reducible refine (cuspref05_add.calls k1 x3_1 x4_1 t270 _ A22.out).mono ?_); rintro e w23 ⟨rfl, hb⟩; refine ⟨_, rfl, ?_⟩; have n0_ := asd (below_step hbw hb); clear HB; have HB := n0_; clear n0_; (try clear hb); (try clear hb2); (try clear hk); (try clear hi)))
    go_ret
    exact ⟨eqC, hbw⟩
def cusplaw05_all.l0 : Nat → List Nat → List Nat → Int → Option (Bool)
 | 0, _, _, _ => none
 | k + 1, x0, x1, x5 => if x5 < (x0.length : Int) then (if 0 ≤ x5 then (if x5 < (x1.length : Int) then ((cusplaw05_same.f (rdOf (0 : Nat) x0 x5) (rdOf (0 : Nat) x1 x5)).bind fun t283 => (if t283 = true then (cusplaw05_all.l0 k x0 x1 (wrap64 (x5 + 1))) else (some false))) else (none)) else (none)) else (some true)
def cusplaw05_all.f (k : Nat) (l0 : List Nat) (l1 : List Nat) : Option (Bool) := if (l0.length : Int) = (l1.length : Int) then (cusplaw05_all.l0 k l0 l1 0) else (some false)
theorem cusplaw05_all.calls (k : Nat) (A0 : Option Addr) (c0 : Nat) (l0 : List Nat) (A1 : Option Addr) (c1 : Nat) (l1 : List Nat) (r : Bool) (w : World) (hr0 : Kd.C Kd.float w A0 l0.length l0) (hc0 : l0.length ≤ c0) (hr1 : Kd.C Kd.float w A1 l1.length l1) (hc1 : l1.length ≤ c1) (h : cusplaw05_all.f k l0 l1 = some r) :
  Calls Tryz.prog 18 #[.slice A0 l0.length c0, .slice A1 l1.length c1] w fun e w' => e = .returned (.bool r) ∧ Drawn0 w w' := by
 have HR0 := asd hr0
 have HC0 := asd hc0
 clear hr0 hc0
 have HR1 := asd hr1
 have HC1 := asd hc1
 clear hr1 hc1
 have H : (if (l0.length : Int) = (l1.length : Int) then (cusplaw05_all.l0 k l0 l1 0) else (some false)) = some r := h
 clear h
 by_cases c3 : (l0.length : Int) = (l1.length : Int)
 ·rw [if_pos c3] at H
  have c3b0 : ((l0.length : Int) == (l1.length : Int)) = true := beq_iff_eq.mpr c3
  have c3b1 : ((l0.length : Int) != (l1.length : Int)) = false := bne_eq_false_iff_eq.mpr c3
  have c3b2 : (l0.length == l1.length) = true := by first | simpa using c3 | (simp at c3 ⊢; omega)
  clear c3
  have H' := asd H
  clear H
  go_enter Tryz.func18, Tryz.ntmps18
  go_wp2
  repeat (go_quiet (fail); try go_wp2)
  go_loopg [5] k (fun kq v5 w' => ∃ (x5_1 : Int), v5 = .int .i64 x5_1 ∧ Aside0 (cusplaw05_all.l0 kq l0 l1 x5_1 = some r) ∧ Aside0 (kq ≤ k) ∧ Drawn0 w w')
  case atStart => exact ⟨(0), eqB, H', ⟨Nat.le_refl _⟩, dn0⟩
  case round =>
   clear H'
   try clear c1
   try clear p2
   try clear c3
   try clear c3b0
   try clear c3b1
   try clear c3b2
   obtain ⟨x5_1, rfl, HA, HK1, ⟨m1, rfl⟩⟩ := hrel
   cases gk with
   | zero => exact absurd HA.out (by simp [cusplaw05_all.l0])
   | succ k1 =>
    have H := HA.out
    clear HA
    simp only [cusplaw05_all.l0] at H
    by_cases c4 : x5_1 < (l0.length : Int)
    ·rw [if_pos c4] at H
     have c4b0 : decide (x5_1 < (l0.length : Int)) = true := decide_eq_true c4
     clear c4
     by_cases c5 : 0 ≤ x5_1
     ·rw [if_pos c5] at H
      have c5b0 : decide (0 ≤ x5_1) = true := decide_eq_true c5
      clear c5
      by_cases c6 : x5_1 < (l1.length : Int)
      ·rw [if_pos c6] at H
       have c6b0 : decide (x5_1 < (l1.length : Int)) = true := decide_eq_true c6
       clear c6
       replace H := Option.bind_eq_some_iff.mp H
       obtain ⟨t283, A70, H⟩ := H
       replace H : (if t283 = true then (cusplaw05_all.l0 k1 l0 l1 (wrap64 (x5_1 + 1))) else (some false)) = some r := H
       have A7 := asd A70
       clear A70
       by_cases c8 : t283 = true
       ·subst c8
        have H1 : (cusplaw05_all.l0 k1 l0 l1 (wrap64 (x5_1 + 1))) = some r := by rw [if_pos rfl] at H; exact H
        clear H
        have H := H1
        clear H1
        have H' := asd H
        clear H
        have p281 : 0 ≤ (x5_1 : Int) := of_decide_eq_true (by first | (with_reducible assumption) | assumption)
        have q281 : x5_1 < (l0.length : Int) := of_decide_eq_true (by first | (with_reducible assumption) | assumption)
        obtain ⟨ad281, e281, hx281_0⟩ := Kd.at_float HR0.out x5_1 p281 q281
        cases e281
        replace p281 := eq_true p281
        replace q281 := eq_true q281
        have p282 : 0 ≤ (x5_1 : Int) := of_decide_eq_true (by first | (with_reducible assumption) | assumption)
        have q282 : x5_1 < (l1.length : Int) := of_decide_eq_true (by first | (with_reducible assumption) | assumption)
        obtain ⟨ad282, e282, hx282_0⟩ := Kd.at_float HR1.out x5_1 p282 q282
        cases e282
        replace p282 := eq_true p282
        replace q282 := eq_true q282
        go_wp2_with (first | (go_at_call 11; (with_reducible refine (cusplaw05_same.calls (rdOf (0 : Nat) l0 x5_1) (rdOf (0 : Nat) l1 x5_1) true _ A7.out).mono ?_); rintro e w' ⟨rfl, ⟨nd, rfl⟩⟩; (try first | exact ⟨rfl, _, World.drewN_drewN _ _ _⟩ | exact ⟨rfl, _, Eq.trans (World.drewN_drewN _ _ _) (congrArg (World.drewN _) (Nat.add_assoc _ _ _))⟩)))
        repeat (go_quiet (first | (go_at_call 11; (with_reducible refine (cusplaw05_same.calls (rdOf (0 : Nat) l0 x5_1) (rdOf (0 : Nat) l1 x5_1) true _ A7.out).mono ?_); rintro e w' ⟨rfl, ⟨nd, rfl⟩⟩; (try first | exact ⟨rfl, _, World.drewN_drewN _ _ _⟩ | exact ⟨rfl, _, Eq.trans (World.drewN_drewN _ _ _) (congrArg (World.drewN _) (Nat.add_assoc _ _ _))⟩))); try go_wp2_with (first | (go_at_call 11; (with_reducible refine (cusplaw05_same.calls (rdOf (0 : Nat) l0 x5_1) (rdOf (0 : Nat) l1 x5_1) true _ A7.out).mono ?_); rintro e w' ⟨rfl, ⟨nd, rfl⟩⟩; (try first | exact ⟨rfl, _, World.drewN_drewN _ _ _⟩ | exact ⟨rfl, _, Eq.trans (World.drewN_drewN _ _ _) (congrArg (World.drewN _) (Nat.add_assoc _ _ _))⟩))))
        go_roundg k1
        case measure => have := HK1.out; omega
        case rel => exact ⟨(wrap64 (x5_1 + 1)), eqB, H', ⟨by have := HK1.out; omega⟩, dn0⟩
       ·replace c8 := Bool.eq_false_iff.mpr c8
        subst c8
        have H1 : (some false) = some r := by rw [if_neg (show ¬ (false = true) by decide)] at H; exact H
        clear H
        have H := H1
        clear H1
        obtain rfl := Option.some.inj H
        have p281 : 0 ≤ (x5_1 : Int) := of_decide_eq_true (by first | (with_reducible assumption) | assumption)
        have q281 : x5_1 < (l0.length : Int) := of_decide_eq_true (by first | (with_reducible assumption) | assumption)
        obtain ⟨ad281, e281, hx281_0⟩ := Kd.at_float HR0.out x5_1 p281 q281
        cases e281
        replace p281 := eq_true p281
        replace q281 := eq_true q281
        have p282 : 0 ≤ (x5_1 : Int) := of_decide_eq_true (by first | (with_reducible assumption) | assumption)
        have q282 : x5_1 < (l1.length : Int) := of_decide_eq_true (by first | (with_reducible assumption) | assumption)
        obtain ⟨ad282, e282, hx282_0⟩ := Kd.at_float HR1.out x5_1 p282 q282
        cases e282
        replace p282 := eq_true p282
        replace q282 := eq_true q282
        go_wp2_with (first | (go_at_call 11; (with_reducible refine (cusplaw05_same.calls (rdOf (0 : Nat) l0 x5_1) (rdOf (0 : Nat) l1 x5_1) false _ A7.out).mono ?_); rintro e w' ⟨rfl, ⟨nd, rfl⟩⟩; (try first | exact ⟨rfl, _, World.drewN_drewN _ _ _⟩ | exact ⟨rfl, _, Eq.trans (World.drewN_drewN _ _ _) (congrArg (World.drewN _) (Nat.add_assoc _ _ _))⟩)))
        repeat (go_quiet (first | (go_at_call 11; (with_reducible refine (cusplaw05_same.calls (rdOf (0 : Nat) l0 x5_1) (rdOf (0 : Nat) l1 x5_1) false _ A7.out).mono ?_); rintro e w' ⟨rfl, ⟨nd, rfl⟩⟩; (try first | exact ⟨rfl, _, World.drewN_drewN _ _ _⟩ | exact ⟨rfl, _, Eq.trans (World.drewN_drewN _ _ _) (congrArg (World.drewN _) (Nat.add_assoc _ _ _))⟩))); try go_wp2_with (first | (go_at_call 11; (with_reducible refine (cusplaw05_same.calls (rdOf (0 : Nat) l0 x5_1) (rdOf (0 : Nat) l1 x5_1) false _ A7.out).mono ?_); rintro e w' ⟨rfl, ⟨nd, rfl⟩⟩; (try first | exact ⟨rfl, _, World.drewN_drewN _ _ _⟩ | exact ⟨rfl, _, Eq.trans (World.drewN_drewN _ _ _) (congrArg (World.drewN _) (Nat.add_assoc _ _ _))⟩))))
        go_ret
        exact ⟨eqB, dn0⟩
      ·rw [if_neg c6] at H
       exact absurd H (by simp)
     ·rw [if_neg c5] at H
      exact absurd H (by simp)
    ·rw [if_neg c4] at H
     have c4b0 : decide (x5_1 < (l0.length : Int)) = false := decide_eq_false c4
     clear c4
     obtain rfl := Option.some.inj H
     go_wp2
     repeat (go_quiet (fail); try go_wp2)
     go_ret
     exact ⟨eqB, dn0⟩
 ·rw [if_neg c3] at H
  have c3b0 : ((l0.length : Int) == (l1.length : Int)) = false := beq_eq_false_iff_ne.mpr c3
  have c3b1 : ((l0.length : Int) != (l1.length : Int)) = true := bne_iff_ne.mpr c3
  have c3b2 : (l0.length == l1.length) = false := by first | simpa using c3 | (simp at c3 ⊢; omega)
  obtain rfl := Option.some.inj H
  go_enter Tryz.func18, Tryz.ntmps18
  go_wp2
  repeat (go_quiet (fail); try go_wp2)
  go_ret
  exact ⟨eqB, dn0⟩
def cusplaw05_SumsRows.f (k : Nat) (l0 : List Nat) : Option (Bool) := (cusplaw05_twin.f l0).bind fun t284 => ((sums_Row.f k t284).bind fun t287 => ((cuspref05_Row.f k l0).bind fun t288 => ((cusplaw05_same.f t287 t288).bind fun t289 => (if t289 = true then ((sums_Halves.f k t284).bind fun t290 => ((cuspref05_Halves.f k l0).bind fun t291 => ((cusplaw05_same.f t290 t291).bind fun t292 => (if t292 = true then ((sums_Kept.f k t284).bind fun t293 => ((cuspref05_Kept.f k l0).bind fun t294 => ((cusplaw05_same.f t293 t294).bind fun t295 => (if t295 = true then ((cusplaw05_all.f k t284 l0).bind fun t296 => (if t296 = true then ((cusplaw05_sure.f).bind fun t297 => (some t297)) else (some false))) else (some false))))) else (some false))))) else (some false)))))
end Go.Proofs.YthmeocigliephaaGreatDoor.PSv
end
section
namespace Go.Proofs.YthmeocigliephaaGreatDoor.Big
open Go.Proofs.YthmeocigliephaaGreatDoor.PSv Go.Proofs.YthmeocigliephaaGreatDoor.PSu Go.Proofs.YthmeocigliephaaGreatDoor.Plain Ieee
abbrev Wd (b : Nat) : Prop := b < 18446744073709551616
theorem relN_step {s s' : Nat} (hs : Wd s) (hs' : Wd s') {x x' : Nat} (hx : Wd x) (hx' : Wd x') (h : relN s s') (h2 : relN x x') : relN (sumT s x) (sumD s' x') :=
  relN_trans (relN_sum hs hx hs' hx' h h2) (sumD_rel s' x')
def rowD : List Nat → Nat
  | [] => 0
  | a :: l => l.foldl sumD a
theorem fold_rel : ∀ (l : List Nat) (s s' : Nat), (∀ b ∈ l, Wd b) → Wd s → Wd s' → relN s s' → relN (l.foldl sumT s) (l.foldl sumD s') ∧ Wd (l.foldl sumD s')
  | [], _, _, _, _, hs', h => ⟨h, hs'⟩
  | x :: l, s, s', hl, hs, hs', h => by
    have hx := hl x (List.mem_cons_self ..)
    exact fold_rel l (sumT s x) (sumD s' x) (fun b hb => hl b (List.mem_cons_of_mem _ hb)) (sumT_lt hs hx) (sumD_lt hs' hx) (relN_step hs hs' hx hx h (relN_self x))
theorem row_same (l : List Nat) (hl : ∀ b ∈ l, Wd b) : relN (rowT l) (rowD l) ∧ Wd (rowD l) := by
  cases l with
  | nil => exact ⟨.inl rfl, by show (0 : Nat) < _; omega⟩
  | cons a l => exact fold_rel l a a (fun b hb => hl b (List.mem_cons_of_mem _ hb)) (hl a (List.mem_cons_self ..)) (hl a (List.mem_cons_self ..)) (.inl rfl)
theorem rrow_go (l : List Nat) (hl : ∀ b ∈ l, Wd b) (hn : l.length < 4611686018427387904) : ∀ (m i s : Nat), i + m = l.length → 1 ≤ i → Wd s → Ev (fun k => cuspref05_Row.l0 k l s (i : Int)) ((l.drop i).foldl sumD s)
  | 0, i, s, hi, h1, hs => by
    rw [List.drop_eq_nil_of_le (by omega)]
    refine Ev.step (f := fun _ => some s) (fun k => ?_) (Ev.now _)
    rw [cuspref05_Row.l0, if_neg (by omega)]
  | m + 1, i, s, hi, h1, hs => by
    have hx := rd_lt hl (i : Int)
    rw [drop_rd l i (by omega), List.foldl_cons]
    refine Ev.step (f := fun k => (cuspref05_add.f k s (rdOf (0 : Nat) l (i : Int))).bind fun t => cuspref05_Row.l0 k l t ((i + 1 : Nat) : Int)) (fun k => ?_) ?_
    · rw [cuspref05_Row.l0, if_pos (by omega), if_neg (by omega), if_pos (by omega), w64_of (by omega) (by omega)]; rfl
    · exact Ev.bind (radd_all hs hx) (rrow_go l hl hn m (i + 1) _ (by omega) (by omega) (sumD_lt hs hx))
theorem rrow_law (l : List Nat) (hl : ∀ b ∈ l, Wd b) (hn : l.length < 4611686018427387904) : Ev (fun k => cuspref05_Row.f k l) (rowD l) := by
  unfold cuspref05_Row.f
  cases l with
  | nil =>
    refine Ev.step (f := fun _ => some 0) (fun k => ?_) (Ev.now _)
    rw [cuspref05_Row.l0, if_neg (by simp)]
  | cons a l =>
    refine Ev.step (f := fun k => cuspref05_Row.l0 k (a :: l) a ((1 : Nat) : Int)) (fun k => ?_) ?_
    · rw [cuspref05_Row.l0, if_pos (by simp only [List.length_cons]; omega), if_pos rfl, if_pos (by simp only [List.length_cons]; omega), w64_of (by omega) (by omega)]; rfl
    · exact rrow_go (a :: l) hl hn l.length 1 a (by simp; omega) (by omega) (hl a (List.mem_cons_self ..))
def halvesD : Nat → List Nat → Nat
  | 0, _ => 0
  | n + 1, l => if l.length = 0 then 0 else if l.length = 1 then rdOf (0 : Nat) l 0 else sumD (halvesD n (l.take (l.length / 2))) (halvesD n (l.drop (l.length / 2)))
theorem halves_same : ∀ (n : Nat) (l : List Nat), (∀ b ∈ l, Wd b) → relN (halvesT n l) (halvesD n l) ∧ Wd (halvesD n l)
  | 0, _, _ => ⟨.inl rfl, by show (0 : Nat) < _; omega⟩
  | n + 1, l, hl => by
    unfold halvesT halvesD
    by_cases h0 : l.length = 0
    · rw [if_pos h0, if_pos h0]; exact ⟨.inl rfl, by show (0 : Nat) < _; omega⟩
    · rw [if_neg h0, if_neg h0]
      by_cases h1 : l.length = 1
      · rw [if_pos h1, if_pos h1]; exact ⟨.inl rfl, rd_lt hl 0⟩
      · rw [if_neg h1, if_neg h1]
        have ha : ∀ b ∈ l.take (l.length / 2), Wd b := fun b hb => hl b (List.mem_of_mem_take hb)
        have hb : ∀ b ∈ l.drop (l.length / 2), Wd b := fun b hb => hl b (List.mem_of_mem_drop hb)
        obtain ⟨r1, w1⟩ := halves_same n _ ha
        obtain ⟨r2, w2⟩ := halves_same n _ hb
        exact ⟨relN_step (halvesT_lt n _ ha) w1 (halvesT_lt n _ hb) w2 r1 r2, sumD_lt w1 w2⟩
theorem rhalves_law : ∀ (n : Nat) (l : List Nat), l.length ≤ n → l.length < 4611686018427387904 → (∀ b ∈ l, Wd b) → Ev (fun k => cuspref05_Halves.f k l) (halvesD n l)
  | 0, l, h, _, _ => by
    obtain rfl : l = [] := List.length_eq_zero_iff.1 (by omega)
    refine Ev.step (f := fun _ => some 0) (fun k => ?_) (Ev.now _)
    rw [cuspref05_Halves.f, if_pos (by simp)]
  | n + 1, l, h, hn, hl => by
    unfold halvesD
    by_cases h0 : l.length = 0
    · rw [if_pos h0]
      refine Ev.step (f := fun _ => some 0) (fun k => ?_) (Ev.now _)
      rw [cuspref05_Halves.f, if_pos (by omega)]
    · rw [if_neg h0]
      by_cases h1 : l.length = 1
      · rw [if_pos h1]
        refine Ev.step (f := fun _ => some (rdOf (0 : Nat) l 0)) (fun k => ?_) (Ev.now _)
        rw [cuspref05_Halves.f, if_neg (by omega), if_pos (by omega), if_pos (by omega)]
      · rw [if_neg h1]
        have ha : ∀ b ∈ l.take (l.length / 2), Wd b := fun b hb => hl b (List.mem_of_mem_take hb)
        have hb : ∀ b ∈ l.drop (l.length / 2), Wd b := fun b hb => hl b (List.mem_of_mem_drop hb)
        have e1 := rhalves_law n (l.take (l.length / 2)) (by rw [List.length_take]; omega) (by rw [List.length_take]; omega) ha
        have e2 := rhalves_law n (l.drop (l.length / 2)) (by rw [List.length_drop]; omega) (by rw [List.length_drop]; omega) hb
        have hw : wrap64 ((l.length : Int) / 2) = ((l.length / 2 : Nat) : Int) := (w64_of (by omega) (by omega)).trans (by omega)
        refine Ev.step (f := fun k => (cuspref05_Halves.f k (l.take (l.length / 2))).bind fun t => (cuspref05_Halves.f k (l.drop (l.length / 2))).bind fun u => (cuspref05_add.f k t u).bind fun v => some v) (fun k => ?_) ?_
        · rw [cuspref05_Halves.f, if_neg (by omega), if_neg (by omega), hw, if_pos (by omega), if_pos (by omega), Int.toNat_natCast]
        · exact Ev.bind e1 (Ev.bind e2 (Ev.bind (radd_all (halves_same n _ ha).2 (halves_same n _ hb).2) (Ev.now _)))
theorem rabs_law {b : Nat} (h : Wd b) : cuspref01_Abs.f b = some (absN b) := by
  unfold cuspref01_Abs.f
  rw [mag_law h, Option.bind_some]
  unfold cuspref01_Of.f
  rw [Option.bind_some, Int.toNat_natCast, absN_law h]
theorem rturned_law {b : Nat} (h : Wd b) : cuspref01_Turned.f b = some (negN b) := by
  unfold cuspref01_Turned.f cuspref01_Bits.f cuspref01_Of.f
  rw [Option.bind_some, Option.bind_some]
  congr 1
  have h1 : (BitVec.ofInt 64 (b : Int)).toNat = b := by
    rw [BitVec.ofInt_natCast, BitVec.toNat_ofNat]; exact Nat.mod_eq_of_lt (by omega)
  have h2 : (BitVec.ofInt 64 (9223372036854775808 : Int) : BitVec 64).toNat = 2 ^ 63 := by decide
  have h3 : b ^^^ 2 ^ 63 < 2 ^ 64 := Nat.xor_lt_two_pow (n := 64) h (by decide)
  show (IntKind.u64.wrap ((BitVec.ofInt 64 (b : Int) ^^^ (BitVec.ofInt 64 (9223372036854775808 : Int))).toNat : Int)).toNat = b ^^^ 2 ^ 63
  rw [BitVec.toNat_xor, h1, h2, u64_of (by omega) (by omega), Int.toNat_natCast]
def subD (a b : Nat) : Nat := if nanB b = true then 9221120237041090560 else sumD a (negN b)
theorem subD_lt {a b : Nat} (ha : Wd a) (hb : Wd b) : Wd (subD a b) := by
  unfold subD
  split
  · show (9221120237041090560 : Nat) < _; omega
  · exact sumD_lt ha (negN_lt hb)
theorem rsub_law {a b : Nat} (ha : Wd a) (hb : Wd b) : Ev (fun k => cuspref05_sub.f k a b) (subD a b) := by
  have hA : Ev (fun k => cuspref03_Add.f k a (negN b) 2) (sumD a (negN b)) := by
    have := radd_all ha (negN_lt hb)
    obtain ⟨K, hK⟩ := this
    refine ⟨K, fun k hk => ?_⟩
    have := hK k hk
    unfold cuspref05_add.f at this
    obtain ⟨t, h1, h2⟩ := Option.bind_eq_some_iff.1 this
    rw [← Option.some.inj h2]; exact h1
  unfold cuspref05_sub.f cuspref03_Sub.f subD
  by_cases hn : nanB b = true
  · rw [if_pos hn]
    refine Ev.congr (f := fun _ => some 9221120237041090560) (fun k => ?_) (Ev.now _)
    rw [risnan_law hb, Option.bind_some, if_pos hn, rnot_law]; rfl
  · rw [if_neg hn]
    refine Ev.congr (f := fun k => ((cuspref03_Add.f k a (negN b) 2).bind fun t => some t).bind fun t => some t) (fun k => ?_) (Ev.bind (Ev.bind hA (Ev.now _)) (Ev.now _))
    rw [risnan_law hb, Option.bind_some, if_neg hn, rturned_law hb, Option.bind_some]
def lossD (s x t : Nat) : Nat := if geN s x = true then sumD (subD s t) x else sumD (subD x t) s
theorem lossD_lt {s x t : Nat} (hs : Wd s) (hx : Wd x) (ht : Wd t) : Wd (lossD s x t) := by
  unfold lossD
  split
  · exact sumD_lt (subD_lt hs ht) hx
  · exact sumD_lt (subD_lt hx ht) hs
def keptD : List Nat → Nat → Nat → Nat
  | [], s, c => sumD s c
  | x :: l, s, c => keptD l (sumD s x) (sumD c (lossD s x (sumD s x)))
theorem relN_sub {s s' t t' : Nat} (hs : Wd s) (hs' : Wd s') (ht : Wd t) (ht' : Wd t') (h : relN s s') (h2 : relN t t') : relN (sumT s (negN t)) (subD s' t') := by
  unfold subD
  by_cases hn : nanB t' = true
  · rw [if_pos hn]
    have : nanB t = true := by
      rcases h2 with rfl | ⟨h, _⟩
      · exact hn
      · exact h
    exact .inr ⟨sumT_nan hs (negN_lt ht) (.inr (by rw [negN_nan ht, this])), by decide +kernel⟩
  · rw [if_neg hn]
    exact relN_step hs hs' (negN_lt ht) (negN_lt ht') h (relN_neg ht ht' h2)
theorem relN_loss {s s' x t t' : Nat} (hs : Wd s) (hs' : Wd s') (hx : Wd x) (ht : Wd t) (ht' : Wd t') (h : relN s s') (h2 : relN t t') : relN (lossT s x t) (lossD s' x t') := by
  unfold lossT lossD
  rw [relN_ge hs hs' x h]
  by_cases hg : geN s' x = true
  · rw [if_pos hg, if_pos hg]
    exact relN_step (sumT_lt hs (negN_lt ht)) (subD_lt hs' ht') hx hx (relN_sub hs hs' ht ht' h h2) (relN_self x)
  · rw [if_neg hg, if_neg hg]
    exact relN_step (sumT_lt hx (negN_lt ht)) (subD_lt hx ht') hs hs' (relN_sub hx hx ht ht' (relN_self x) h2) h
theorem kept_same : ∀ (l : List Nat) (s s' c c' : Nat), (∀ b ∈ l, Wd b) → Wd s → Wd s' → Wd c → Wd c' → relN s s' → relN c c' → relN (keptT l s c) (keptD l s' c') ∧ Wd (keptD l s' c')
  | [], s, s', c, c', _, hs, hs', hc, hc', h, h2 => ⟨relN_step hs hs' hc hc' h h2, sumD_lt hs' hc'⟩
  | x :: l, s, s', c, c', hl, hs, hs', hc, hc', h, h2 => by
    have hx := hl x (List.mem_cons_self ..)
    have t1 := relN_step hs hs' hx hx h (relN_self x)
    have l1 := sumT_lt hs hx
    have l1' := sumD_lt hs' hx
    exact kept_same l _ _ _ _ (fun b hb => hl b (List.mem_cons_of_mem _ hb)) l1 l1' (sumT_lt hc (lossT_lt hs hx l1)) (sumD_lt hc' (lossD_lt hs' hx l1')) t1
      (relN_step hc hc' (lossT_lt hs hx l1) (lossD_lt hs' hx l1') h2 (relN_loss hs hs' hx l1 l1' h t1))
theorem rkept_go (l : List Nat) (hl : ∀ b ∈ l, Wd b) (hn : l.length < 4611686018427387904) : ∀ (m i s c : Nat), i + m = l.length → Wd s → Wd c → Ev (fun k => cuspref05_Kept.l0 k l s c (i : Int)) (keptD (l.drop i) s c)
  | 0, i, s, c, hi, hs, hc => by
    rw [List.drop_eq_nil_of_le (by omega)]
    refine Ev.step (f := fun k => (cuspref05_add.f k s c).bind fun t => some t) (fun k => ?_) (Ev.bind (radd_all hs hc) (Ev.now _))
    rw [cuspref05_Kept.l0, if_neg (by omega)]
  | m + 1, i, s, c, hi, hs, hc => by
    have hx := rd_lt hl (i : Int)
    rw [drop_rd l i (by omega)]
    obtain ⟨x, hx0⟩ : ∃ x, rdOf (0 : Nat) l (i : Int) = x := ⟨_, rfl⟩
    rw [hx0] at hx ⊢
    have l1 := sumD_lt hs hx
    have ih := rkept_go l hl hn m (i + 1) (sumD s x) (sumD c (lossD s x (sumD s x))) (by omega) l1 (sumD_lt hc (lossD_lt hs hx l1))
    have hw : wrap64 ((i : Int) + 1) = ((i + 1 : Nat) : Int) := (w64_of (by omega) (by omega)).trans (by omega)
    show Ev _ (keptD (l.drop (i + 1)) (sumD s x) (sumD c (lossD s x (sumD s x))))
    by_cases hg : geN s x = true
    · refine Ev.step (f := fun k => (cuspref05_add.f k s x).bind fun t => (cuspref05_sub.f k s t).bind fun u => (cuspref05_add.f k u x).bind fun v => (cuspref05_add.f k c v).bind fun y => cuspref05_Kept.l0 k l t y ((i + 1 : Nat) : Int)) (fun k => ?_) ?_
      · have hg' : ((FloatKind.f64.format.order (absN s) (absN x)) == some .gt || (FloatKind.f64.format.order (absN s) (absN x)) == some .eq) = true := hg
        rw [cuspref05_Kept.l0, if_pos (by omega), if_pos (by omega), hx0, hw]
        congr 1
        funext t
        rw [rabs_law hs, Option.bind_some, rabs_law hx, Option.bind_some, if_pos hg']
      · unfold lossD at ih ⊢
        rw [if_pos hg] at ih ⊢
        exact Ev.bind (radd_all hs hx) (Ev.bind (rsub_law hs l1) (Ev.bind (radd_all (subD_lt hs l1) hx) (Ev.bind (radd_all hc (sumD_lt (subD_lt hs l1) hx)) ih)))
    · refine Ev.step (f := fun k => (cuspref05_add.f k s x).bind fun t => (cuspref05_sub.f k x t).bind fun u => (cuspref05_add.f k u s).bind fun v => (cuspref05_add.f k c v).bind fun y => cuspref05_Kept.l0 k l t y ((i + 1 : Nat) : Int)) (fun k => ?_) ?_
      · have hg' : ¬ ((FloatKind.f64.format.order (absN s) (absN x)) == some .gt || (FloatKind.f64.format.order (absN s) (absN x)) == some .eq) = true := hg
        rw [cuspref05_Kept.l0, if_pos (by omega), if_pos (by omega), hx0, hw]
        congr 1
        funext t
        rw [rabs_law hs, Option.bind_some, rabs_law hx, Option.bind_some, if_neg hg']
      · unfold lossD at ih ⊢
        rw [if_neg hg] at ih ⊢
        exact Ev.bind (radd_all hs hx) (Ev.bind (rsub_law hx l1) (Ev.bind (radd_all (subD_lt hx l1) hs) (Ev.bind (radd_all hc (sumD_lt (subD_lt hx l1) hs)) ih)))
theorem rkept_law (l : List Nat) (hl : ∀ b ∈ l, Wd b) (hn : l.length < 4611686018427387904) : Ev (fun k => cuspref05_Kept.f k l) (keptD l 0 0) := by
  have h0 : Wd 0 := by show (0 : Nat) < _; omega
  exact rkept_go l hl hn l.length 0 0 0 (by omega) h0 h0
theorem all_go (l : List Nat) (hn : l.length < 4611686018427387904) : ∀ (m i : Nat), i + m = l.length → Ev (fun k => cusplaw05_all.l0 k l l (i : Int)) true
  | 0, i, hi => by
    refine Ev.step (f := fun _ => some true) (fun k => ?_) (Ev.now _)
    rw [cusplaw05_all.l0, if_neg (by omega)]
  | m + 1, i, hi => by
    have hw : wrap64 ((i : Int) + 1) = ((i + 1 : Nat) : Int) := (w64_of (by omega) (by omega)).trans (by omega)
    refine Ev.step (f := fun k => cusplaw05_all.l0 k l l ((i + 1 : Nat) : Int)) (fun k => ?_) (all_go l hn m (i + 1) (by omega))
    rw [cusplaw05_all.l0, if_pos (by omega), if_pos (by omega), if_pos (by omega), same_law, Option.bind_some, if_pos rfl, hw]
theorem all_law (l : List Nat) (hn : l.length < 4611686018427387904) : Ev (fun k => cusplaw05_all.f k l l) true := by
  unfold cusplaw05_all.f
  exact Ev.congr (fun k => if_pos rfl) (all_go l hn l.length 0 (by omega))
end Go.Proofs.YthmeocigliephaaGreatDoor.Big
end
section
namespace Go.Proofs.YthmeocigliephaaGreatDoor.Big
open Go.Proofs.YthmeocigliephaaGreatDoor.PSu Go.Proofs.YthmeocigliephaaGreatDoor.Plain
def sureM : List Nat := [4607182418800017408, 6103021453049119613, 4607182418800017408, 15326393489903895421]
theorem sureM_row : rowT sureM = 0 := by decide +kernel
theorem sureM_kept : keptT sureM 0 0 = 4611686018427387904 := by decide +kernel
theorem sureM_halves : halvesT 4 sureM = 0 := by decide +kernel
theorem sureM_sum : sumT 4846369599423283200 4607182418800017408 = 4846369599423283200 := by decide +kernel
theorem sureM_lost : lostT 4846369599423283200 4607182418800017408 = 4607182418800017408 := by decide +kernel
theorem sureM_exact : exactW sureM 2 (canN (sumZ sureM) (-1074)) = (4611686018427387904, 0) := by decide +kernel
theorem sureM_arg : exactW sureM 0 (canN (sumZ sureM) (-1074)) = (0, 1) := by decide +kernel
theorem sureM_fin : ∀ b ∈ sureM, b < 18446744073709551616 := by decide +kernel
theorem sureM_lit (w : World) : Kd.C Kd.float (w.alloc (.cells #[.float .f64 4607182418800017408, .float .f64 6103021453049119613, .float .f64 4607182418800017408, .float .f64 15326393489903895421] 25 (0, 0))) (some ⟨w.heap.size, 0, none⟩) sureM.length sureM := by
  refine Kd.C_of_reads (d := (0 : Nat)) ⟨rfl, by decide, fun _ => ⟨_, rfl, fun j hj => ?_⟩⟩
  have hb := blk_new w (.cells #[.float .f64 4607182418800017408, .float .f64 6103021453049119613, .float .f64 4607182418800017408, .float .f64 15326393489903895421] 25 (0, 0))
  have h4 : j < 4 := hj
  have hc := blk_cell hb
  have : j = 0 ∨ j = 1 ∨ j = 2 ∨ j = 3 := by omega
  rcases this with rfl | rfl | rfl | rfl
  · exact hc 0
  · exact hc 1
  · exact hc 2
  · exact hc 3
theorem sure_rel (w : World) (hL : Laid w) : Calls Tryz.prog 19 #[] w fun e w' => e = .returned (.bool true) ∧ Below w.heap.size w w' := by
  have HL := asd hL
  have B1 := asd ((Below.refl w.heap.size w).alloc (Nat.le_refl _) (.cells #[.float .f64 4607182418800017408, .float .f64 6103021453049119613, .float .f64 4607182418800017408, .float .f64 15326393489903895421] 25 (0, 0)))
  have C1 := asd (sureM_lit w)
  have E1 := asd sureM_exact
  have E2 := asd sureM_arg
  have V1 : (FloatKind.f64.format.order 0 0 == some .eq) = true := by decide +kernel
  have V2 : (FloatKind.f64.format.order 4611686018427387904 4611686018427387904 == some .eq) = true := by decide +kernel
  have V3 : (FloatKind.f64.format.order 4846369599423283200 4846369599423283200 == some .eq) = true := by decide +kernel
  have V4 : (FloatKind.f64.format.order 4607182418800017408 4607182418800017408 == some .eq) = true := by decide +kernel
  have N0 := asd (show nanB (rowT sureM) = false by rw [sureM_row]; decide +kernel)
  have N1 := asd (show nanB (keptT sureM 0 0) = false by rw [sureM_kept]; decide +kernel)
  have N2 := asd (show nanB (halvesT 4 sureM) = false by rw [sureM_halves]; decide +kernel)
  have N3 := asd (show nanB (sumT 4846369599423283200 4607182418800017408) = false by rw [sureM_sum]; decide +kernel)
  have tok1 : True := trivial
  clear hL
  go_enter Tryz.func19, Tryz.ntmps19
  go_wp2_with (first
    | (go_at_call 22; have _t := tok1; refine (exact_list (some ⟨w.heap.size, 0, none⟩) 4 sureM 2 _ C1.out (by decide) (by decide) sureM_fin (HL.out.step B1.out)).mono ?_; rw [E1.out]; rintro e w2 ⟨rfl, d⟩; have B2 := asd (below_post d B1.out); have C2 := asd (Kd.C_below C1.out d); clear d _t tok1)
    | (go_at_call 22; refine (exact_list (some ⟨w.heap.size, 0, none⟩) 4 sureM 0 _ C2.out (by decide) (by decide) sureM_fin (HL.out.step B2.out)).mono ?_; rw [E2.out]; rintro e w3 ⟨rfl, d⟩; have B3 := asd (below_post d B2.out); have C3 := asd (Kd.C_below C2.out d); clear d)
    | (go_at_call 20; refine (two_rel _ _ _ (by decide) (by decide) (HL.out.step B3.out)).mono ?_; rw [sureM_lost]; rintro e w4 ⟨r, h1, _, rfl, d⟩; obtain rfl := (relN_eq h1 N3.out).trans sureM_sum; have B4 := asd (below_post d B3.out); have C4 := asd (Kd.C_below C3.out d); clear d h1)
    | (go_at_call 12; refine (row_rel (some ⟨w.heap.size, 0, none⟩) 4 sureM _ C4.out (by decide) (by decide) sureM_fin (HL.out.step B4.out)).mono ?_; rintro e w5 ⟨r, h1, _, rfl, d⟩; obtain rfl := (relN_eq h1 N0.out).trans sureM_row; have B5 := asd (below_post d B4.out); have C5 := asd (Kd.C_below C4.out d); clear d h1)
    | (go_at_call 16; refine (kept_rel (some ⟨w.heap.size, 0, none⟩) 4 sureM _ C5.out (by decide) (by decide) sureM_fin (HL.out.step B5.out)).mono ?_; rintro e w6 ⟨r, h1, _, rfl, d⟩; obtain rfl := (relN_eq h1 N1.out).trans sureM_kept; have B6 := asd (below_post d B5.out); have C6 := asd (Kd.C_below C5.out d); clear d h1)
    | (go_at_call 14; refine (halves_rel 4 (some ⟨w.heap.size, 0, none⟩) 4 sureM _ ⟨by decide, by decide⟩ C6.out (by decide) sureM_fin (HL.out.step B6.out)).mono ?_; rintro e w7 ⟨r, h1, _, rfl, d⟩; obtain rfl := (relN_eq h1 N2.out).trans sureM_halves; have B7 := asd (below_post d B6.out); clear d h1))
  go_ret
  exact ⟨rfl, B7.out⟩
end Go.Proofs.YthmeocigliephaaGreatDoor.Big
end
section
namespace Go.Proofs.YthmeocigliephaaGreatDoor.Big
open Go.Proofs.YthmeocigliephaaGreatDoor.PSv Go.Proofs.YthmeocigliephaaGreatDoor.PSu Go.Proofs.YthmeocigliephaaGreatDoor.Plain
theorem twin_law (l : List Nat) (hl : l.length < 17592186044416) : cusplaw05_twin.f l = some l := by
  unfold cusplaw05_twin.f
  rw [if_pos (by simpa using hl)]; rfl
theorem rows_any (A : Option Addr) (c : Nat) (l : List Nat) (w : World) (hr : Kd.C Kd.float w A l.length l) (hc : l.length ≤ c) (hn : l.length < 17592186044416) (hw : ∀ b ∈ l, b < 18446744073709551616) (hL : Laid w) :
    Calls Tryz.prog 3 #[.slice A l.length c] w fun e w' => e = .returned (.bool true) ∧ Below w.heap.size w w' := by
  have hn2 : l.length < 4611686018427387904 := by omega
  obtain ⟨k1, e1⟩ := Ev.rounds (rrow_law l hw hn2)
  obtain ⟨k2, e2⟩ := Ev.rounds (rhalves_law l.length l (Nat.le_refl _) hn2 hw)
  obtain ⟨k3, e3⟩ := Ev.rounds (rkept_law l hw hn2)
  obtain ⟨k4, e4⟩ := Ev.rounds (all_law l hn2)
  have E1 := asd e1
  have E2 := asd e2
  have E3 := asd e3
  have E4 := asd e4
  have ET := asd (twin_law l hn)
  have z0 : Wd 0 := by show (0 : Nat) < _; omega
  have D1 := asd (row_same l hw)
  have D2 := asd (halves_same l.length l hw)
  have D3 := asd (kept_same l 0 0 0 0 hw z0 z0 z0 z0 (.inl rfl) (.inl rfl))
  have HL := asd hL
  have HR := asd hr
  have HC := asd hc
  have HN := asd hn2
  have HW := asd hw
  have tok1 : True := trivial
  clear e1 e2 e3 e4 hn hn2 hw hr hc hL z0
  go_enter Tryz.func3, Tryz.ntmps3
  go_wp2_with (first
    | (go_at_call 10; refine (cusplaw05_twin.calls A c l l _ HR.out HC.out ET.out).mono ?_; rintro e w1 ⟨v1, rfl, r1, d⟩; obtain ⟨A1, c1, hv1⟩ := Kd.R_slice r1; subst hv1; have R1 := asd (Kd.R_reads' r1); have B1 := asd d; clear d r1)
    | (go_at_call 12; refine (row_rel A1 c1 l _ R1.out.2.2 R1.out.2.1 HN.out HW.out (HL.out.step B1.out)).mono ?_; rintro e w2 ⟨t1, n1, n2, rfl, d⟩; have S1 := asd (same_nan n2 D1.out.2 (relN_trans n1 D1.out.1)); have B2 := asd (below_post d B1.out); have C2 := asd (Kd.C_below R1.out.2.2 d); clear d n1 n2)
    | (go_at_call 13; refine (cuspref05_Row.calls k1 A c l _ _ (Kd.C_below HR.out B2.out) HC.out E1.out).mono ?_; rintro e w3 ⟨rfl, d⟩; have B3 := asd (below_post d B2.out); have C3 := asd (Kd.C_below C2.out d); clear d)
    | (go_at_call 11; have _t := tok1; refine (cusplaw05_same.calls _ _ true _ S1.out).mono ?_; rintro e w4 ⟨rfl, d⟩; have B4 := asd (below_post d.below B3.out); have C4 := asd (Kd.C_below C3.out d.below); have tok2 : True := trivial; clear d _t tok1)
    | (go_at_call 14; refine (halves_rel l.length A1 c1 l _ ⟨Nat.le_refl _, HN.out⟩ C4.out R1.out.2.1 HW.out (HL.out.step B4.out)).mono ?_; rintro e w5 ⟨t2, n1, n2, rfl, d⟩; have S2 := asd (same_nan n2 D2.out.2 (relN_trans n1 D2.out.1)); have B5 := asd (below_post d B4.out); have C5 := asd (Kd.C_below C4.out d); clear d n1 n2)
    | (go_at_call 15; refine (cuspref05_Halves.calls k2 A c l _ _ (Kd.C_below HR.out B5.out) HC.out E2.out).mono ?_; rintro e w6 ⟨rfl, d⟩; have B6 := asd (below_post d B5.out); have C6 := asd (Kd.C_below C5.out d); clear d)
    | (go_at_call 11; have _t := tok2; refine (cusplaw05_same.calls _ _ true _ S2.out).mono ?_; rintro e w7 ⟨rfl, d⟩; have B7 := asd (below_post d.below B6.out); have C7 := asd (Kd.C_below C6.out d.below); clear d _t tok2)
    | (go_at_call 16; refine (kept_rel A1 c1 l _ C7.out R1.out.2.1 HN.out HW.out (HL.out.step B7.out)).mono ?_; rintro e w8 ⟨t3, n1, n2, rfl, d⟩; have S3 := asd (same_nan n2 D3.out.2 (relN_trans n1 D3.out.1)); have B8 := asd (below_post d B7.out); have C8 := asd (Kd.C_below C7.out d); clear d n1 n2)
    | (go_at_call 17; refine (cuspref05_Kept.calls k3 A c l _ _ (Kd.C_below HR.out B8.out) HC.out E3.out).mono ?_; rintro e w9 ⟨rfl, d⟩; have B9 := asd (below_post d B8.out); have C9 := asd (Kd.C_below C8.out d); clear d)
    | (go_at_call 11; refine (cusplaw05_same.calls _ _ true _ S3.out).mono ?_; rintro e w10 ⟨rfl, d⟩; have B10 := asd (below_post d.below B9.out); have C10 := asd (Kd.C_below C9.out d.below); clear d)
    | (go_at_call 18; refine (cusplaw05_all.calls k4 A1 c1 l A c l true _ C10.out R1.out.2.1 (Kd.C_below HR.out B10.out) HC.out E4.out).mono ?_; rintro e w11 ⟨rfl, d⟩; have B11 := asd (below_post d.below B10.out); clear d)
    | (go_at_call 19; refine (sure_rel _ (HL.out.step B11.out)).mono ?_; rintro e w12 ⟨rfl, d⟩; have B12 := asd (below_post d B11.out); clear d))
  go_ret
  exact ⟨rfl, B12.out⟩
end Go.Proofs.YthmeocigliephaaGreatDoor.Big
end
