/- Parts of the proof, behind one another; unused words are left out. -/
import Derived.Test.YthmeocigliephaaGreatDoorXs01
import Derived.Deep.DeepCutAuto
import Derived.Laws.Bits64b
import Derived.Laws.FloatArith
set_option linter.unusedVariables false
set_option linter.unusedSimpArgs false
set_option linter.unusedSectionVars false
set_option exponentiation.threshold 100000
set_option maxRecDepth 100000
set_option maxHeartbeats 8000000
open Go.RowKit Go.Proofs.YthmeocigliephaaGreatDoorW.PrintWords Go.Proofs.YthmeocigliephaaGreatDoorW.PrintLast Go.Proofs.YthmeocigliephaaGreatDoorW.PrintMore
section
namespace Go.Proofs.YthmeocigliephaaGreatDoor.PNl
attribute [local go_sem] f64bits_run f64from_run run_float_some max2_int min2_int max_two min_two max_three min_three max_four min_four
def math_Abs.f (a0 : Nat) : Option (Nat) := some ((Go.bits .andNot .u64 ((a0 : Nat) : Int) 9223372036854775808 : Int).toNat)
theorem math_Abs.calls (a0 : Nat) (r : Nat) (w : World) (h : math_Abs.f a0 = some r) :
  Calls Tryz.prog 41 #[.float .f64 a0] w fun e w' => e = .returned (.float .f64 r) ∧ Drawn0 w w' := by
 have H : (some ((Go.bits .andNot .u64 ((a0 : Nat) : Int) 9223372036854775808 : Int).toNat)) = some r := h
 clear h
 obtain rfl := Option.some.inj H
 go_enter Tryz.func41, Tryz.ntmps41
 go_wp2
 go_ret
 exact ⟨eqB, dn0⟩
def math_IsInf.f (a0 : Nat) (a1 : Int) : Option (Bool) := if a1 = 0 then ((math_Abs.f a0).bind fun t101 => (some ((FloatKind.f64.format.order t101 (9218868437227405311 : Nat)) == some .gt))) else (none)
theorem math_IsInf.calls (a0 : Nat) (a1 : Int) (r : Bool) (w : World) (h : math_IsInf.f a0 a1 = some r) :
  Calls Tryz.prog 43 #[.float .f64 a0, .int .i64 a1] w fun e w' => e = .returned (.bool r) ∧ Drawn0 w w' := by
 have H : (if a1 = 0 then ((math_Abs.f a0).bind fun t101 => (some ((FloatKind.f64.format.order t101 (9218868437227405311 : Nat)) == some .gt))) else (none)) = some r := h
 clear h
 by_cases c3 : a1 = 0
 ·rw [if_pos c3] at H
  have c3b0 : (a1 == 0) = true := beq_iff_eq.mpr c3
  have c3b1 : (a1 != 0) = false := bne_eq_false_iff_eq.mpr c3
  clear c3
  replace H := Option.bind_eq_some_iff.mp H
  obtain ⟨t101, A40, H⟩ := H
  replace H : (some ((FloatKind.f64.format.order t101 (9218868437227405311 : Nat)) == some .gt)) = some r := H
  have A4 := asd A40
  clear A40
  obtain rfl := Option.some.inj H
  go_enter Tryz.func43, Tryz.ntmps43
  go_wp2_with (first | ((with_reducible refine gate_callee (f := 41) rfl ?_); refine goesL_ (some 8) rfl rfl Tryz.func41 (by kernel_rfl) rfl #[.float .f64 a0] rfl eqA ?_; (with_reducible refine (math_Abs.calls a0 t101 _ A4.out).mono ?_); rintro e w' ⟨rfl, ⟨nd, rfl⟩⟩; refine ⟨_, rfl, ?_⟩))
  go_ret
  exact ⟨eqB, dn0⟩
 ·rw [if_neg c3] at H
  exact absurd H (by simp)
def math_Copysign.f (a0 : Nat) (a1 : Nat) : Option (Nat) := some ((Go.bits .or .u64 (Go.bits .andNot .u64 ((a0 : Nat) : Int) 9223372036854775808) (Go.bits .and .u64 ((a1 : Nat) : Int) 9223372036854775808) : Int).toNat)
theorem math_Copysign.calls (a0 : Nat) (a1 : Nat) (r : Nat) (w : World) (h : math_Copysign.f a0 a1 = some r) :
  Calls Tryz.prog 55 #[.float .f64 a0, .float .f64 a1] w fun e w' => e = .returned (.float .f64 r) ∧ Drawn0 w w' := by
 have H : (some ((Go.bits .or .u64 (Go.bits .andNot .u64 ((a0 : Nat) : Int) 9223372036854775808) (Go.bits .and .u64 ((a1 : Nat) : Int) 9223372036854775808) : Int).toNat)) = some r := h
 clear h
 obtain rfl := Option.some.inj H
 go_enter Tryz.func55, Tryz.ntmps55
 go_wp2
 go_ret
 exact ⟨eqB, dn0⟩
def math_Inf.f (a0 : Int) : Option (Nat) := if a0 ≥ 0 then (some ((9218868437227405312 : Int).toNat)) else (some ((18442240474082181120 : Int).toNat))
theorem math_Inf.calls (a0 : Int) (r : Nat) (w : World) (h : math_Inf.f a0 = some r) :
  Calls Tryz.prog 109 #[.int .i64 a0] w fun e w' => e = .returned (.float .f64 r) ∧ Drawn0 w w' := by
 have H : (if a0 ≥ 0 then (some ((9218868437227405312 : Int).toNat)) else (some ((18442240474082181120 : Int).toNat))) = some r := h
 clear h
 by_cases c2 : a0 ≥ 0
 ·rw [if_pos c2] at H
  have c2b0 : decide (0 ≤ a0) = true := decide_eq_true c2
  clear c2
  obtain rfl := Option.some.inj H
  go_enter Tryz.func109, Tryz.ntmps109
  go_wp2
  go_ret
  exact ⟨eqB, dn0⟩
 ·rw [if_neg c2] at H
  have c2b0 : decide (0 ≤ a0) = false := decide_eq_false c2
  clear c2
  obtain rfl := Option.some.inj H
  go_enter Tryz.func109, Tryz.ntmps109
  go_wp2
  go_ret
  exact ⟨eqB, dn0⟩
def math_IsNaN.f (a0 : Nat) : Option (Bool) := some ((FloatKind.f64.format.order a0 a0) != some .eq)
theorem math_IsNaN.calls (a0 : Nat) (r : Bool) (w : World) (h : math_IsNaN.f a0 = some r) :
  Calls Tryz.prog 122 #[.float .f64 a0] w fun e w' => e = .returned (.bool r) ∧ Drawn0 w w' := by
 have H : (some ((FloatKind.f64.format.order a0 a0) != some .eq)) = some r := h
 clear h
 obtain rfl := Option.some.inj H
 go_enter Tryz.func122, Tryz.ntmps122
 go_wp2
 go_ret
 exact ⟨eqB, dn0⟩
def math_normalize.f (a0 : Nat) : Option (Nat × Int) := (math_Abs.f a0).bind fun t102 => (if ((FloatKind.f64.format.order t102 (4503599627370496 : Nat)) == some .lt) = true then (if ((floatBits .mul .f64 a0 (4841369599423283200 : Nat)).isSome) = true then (some (((floatBits .mul .f64 a0 (4841369599423283200 : Nat)).getD 0), (-52))) else (none)) else (some (a0, 0)))
theorem math_normalize.calls (a0 : Nat) (r1 : Nat) (r2 : Int) (w : World) (h : math_normalize.f a0 = some (r1, r2)) :
  Calls Tryz.prog 160 #[.float .f64 a0] w fun e w' => e = .returned (.tuple #[.float .f64 r1, .int .i64 r2]) ∧ Drawn0 w w' := by
 have H : ((math_Abs.f a0).bind fun t102 => (if ((FloatKind.f64.format.order t102 (4503599627370496 : Nat)) == some .lt) = true then (if ((floatBits .mul .f64 a0 (4841369599423283200 : Nat)).isSome) = true then (some (((floatBits .mul .f64 a0 (4841369599423283200 : Nat)).getD 0), (-52))) else (none)) else (some (a0, 0)))) = some (r1, r2) := h
 clear h
 replace H := Option.bind_eq_some_iff.mp H
 obtain ⟨t102, A20, H⟩ := H
 replace H : (if ((FloatKind.f64.format.order t102 (4503599627370496 : Nat)) == some .lt) = true then (if ((floatBits .mul .f64 a0 (4841369599423283200 : Nat)).isSome) = true then (some (((floatBits .mul .f64 a0 (4841369599423283200 : Nat)).getD 0), (-52))) else (none)) else (some (a0, 0))) = some (r1, r2) := H
 have A2 := asd A20
 clear A20
 by_cases c3 : ((FloatKind.f64.format.order t102 (4503599627370496 : Nat)) == some .lt) = true
 ·rw [if_pos c3] at H
  have c3b0 : ((FloatKind.f64.format.order t102 (4503599627370496 : Nat)) == some .lt) = true := c3
  (try (have c3b1 : decide ((FloatKind.f64.format.order t102 (4503599627370496 : Nat)) = some .lt) = true := by simpa using c3))
  (try (have c3b2 : ((FloatKind.f64.format.order t102 (4503599627370496 : Nat)) == some .lt) = true := by simpa using c3))
  clear c3
  by_cases c4 : ((floatBits .mul .f64 a0 (4841369599423283200 : Nat)).isSome) = true
  ·rw [if_pos c4] at H
   have c4b0 := eq_true c4
   have c4b1 : decide (((floatBits .mul .f64 a0 (4841369599423283200 : Nat)).isSome) = true) = true := decide_eq_true c4
   clear c4
   simp only [Option.some.injEq, Prod.mk.injEq] at H
   obtain ⟨rfl, rfl⟩ := H
   go_enter Tryz.func160, Tryz.ntmps160
   go_wp2_with (first | ((with_reducible refine gate_callee (f := 41) rfl ?_); refine goesL_ (some 5) rfl rfl Tryz.func41 (by kernel_rfl) rfl #[.float .f64 a0] rfl eqA ?_; (with_reducible refine (math_Abs.calls a0 t102 _ A2.out).mono ?_); rintro e w' ⟨rfl, ⟨nd, rfl⟩⟩; refine ⟨_, rfl, ?_⟩))
   go_ret2
   exact ⟨eqB, dn0⟩
  ·rw [if_neg c4] at H
   exact absurd H (by simp)
 ·rw [if_neg c3] at H
  have c3b0 : ((FloatKind.f64.format.order t102 (4503599627370496 : Nat)) == some .lt) = false := by simpa using c3
  (try (have c3b1 : decide ((FloatKind.f64.format.order t102 (4503599627370496 : Nat)) = some .lt) = false := by simpa using c3))
  (try (have c3b2 : ((FloatKind.f64.format.order t102 (4503599627370496 : Nat)) == some .lt) = false := by simpa using c3))
  (try (have c3b3 : ¬ ((FloatKind.f64.format.order t102 (4503599627370496 : Nat)) = some .lt) := by simpa using c3))
  clear c3
  simp only [Option.some.injEq, Prod.mk.injEq] at H
  obtain ⟨rfl, rfl⟩ := H
  go_enter Tryz.func160, Tryz.ntmps160
  go_wp2_with (first | ((with_reducible refine gate_callee (f := 41) rfl ?_); refine goesL_ (some 5) rfl rfl Tryz.func41 (by kernel_rfl) rfl #[.float .f64 a0] rfl eqA ?_; (with_reducible refine (math_Abs.calls a0 t102 _ A2.out).mono ?_); rintro e w' ⟨rfl, ⟨nd, rfl⟩⟩; refine ⟨_, rfl, ?_⟩))
  go_ret2
  exact ⟨eqB, dn0⟩
def math_ldexp.f (a0 : Nat) (a1 : Int) : Option (Nat) := if ((FloatKind.f64.format.order a0 (0 : Nat)) == some .eq) = true then (some a0) else ((math_IsInf.f a0 0).bind fun t103 => (if t103 = true then (some a0) else ((math_IsNaN.f a0).bind fun t104 => (if t104 = true then (some a0) else ((math_normalize.f a0).bind fun bt105 => (if (wrap64 ((wrap64 (a1 + bt105.2)) + (wrap64 ((Go.bits .and .i64 (wrap64 (((bt105.1 : Nat) : Int) / 4503599627370496)) 2047) - 1023)))) < (-1075) then ((math_Copysign.f (0 : Nat) bt105.1).bind fun t107 => (some t107)) else (if (wrap64 ((wrap64 (a1 + bt105.2)) + (wrap64 ((Go.bits .and .i64 (wrap64 (((bt105.1 : Nat) : Int) / 4503599627370496)) 2047) - 1023)))) > 1023 then (if ((FloatKind.f64.format.order bt105.1 (0 : Nat)) == some .lt) = true then ((math_Inf.f (-1)).bind fun t108 => (some t108)) else ((math_Inf.f 1).bind fun t109 => (some t109))) else (if (wrap64 ((wrap64 (a1 + bt105.2)) + (wrap64 ((Go.bits .and .i64 (wrap64 (((bt105.1 : Nat) : Int) / 4503599627370496)) 2047) - 1023)))) < (-1022) then (if ((floatBits .mul .f64 (4368491638549381120 : Nat) ((Go.bits .or .u64 (Go.bits .andNot .u64 ((bt105.1 : Nat) : Int) 9218868437227405312) (IntKind.u64.wrap ((IntKind.u64.wrap (wrap64 ((wrap64 ((wrap64 ((wrap64 (a1 + bt105.2)) + (wrap64 ((Go.bits .and .i64 (wrap64 (((bt105.1 : Nat) : Int) / 4503599627370496)) 2047) - 1023)))) + 53)) + 1023))) * 4503599627370496)) : Int).toNat)).isSome) = true then (some ((floatBits .mul .f64 (4368491638549381120 : Nat) ((Go.bits .or .u64 (Go.bits .andNot .u64 ((bt105.1 : Nat) : Int) 9218868437227405312) (IntKind.u64.wrap ((IntKind.u64.wrap (wrap64 ((wrap64 ((wrap64 ((wrap64 (a1 + bt105.2)) + (wrap64 ((Go.bits .and .i64 (wrap64 (((bt105.1 : Nat) : Int) / 4503599627370496)) 2047) - 1023)))) + 53)) + 1023))) * 4503599627370496)) : Int).toNat)).getD 0)) else (none)) else (if ((floatBits .mul .f64 (4607182418800017408 : Nat) ((Go.bits .or .u64 (Go.bits .andNot .u64 ((bt105.1 : Nat) : Int) 9218868437227405312) (IntKind.u64.wrap ((IntKind.u64.wrap (wrap64 ((wrap64 ((wrap64 (a1 + bt105.2)) + (wrap64 ((Go.bits .and .i64 (wrap64 (((bt105.1 : Nat) : Int) / 4503599627370496)) 2047) - 1023)))) + 1023))) * 4503599627370496)) : Int).toNat)).isSome) = true then (some ((floatBits .mul .f64 (4607182418800017408 : Nat) ((Go.bits .or .u64 (Go.bits .andNot .u64 ((bt105.1 : Nat) : Int) 9218868437227405312) (IntKind.u64.wrap ((IntKind.u64.wrap (wrap64 ((wrap64 ((wrap64 (a1 + bt105.2)) + (wrap64 ((Go.bits .and .i64 (wrap64 (((bt105.1 : Nat) : Int) / 4503599627370496)) 2047) - 1023)))) + 1023))) * 4503599627370496)) : Int).toNat)).getD 0)) else (none))))))))))
theorem math_ldexp.calls (a0 : Nat) (a1 : Int) (r : Nat) (w : World) (h : math_ldexp.f a0 a1 = some r) :
  Calls Tryz.prog 158 #[.float .f64 a0, .int .i64 a1] w fun e w' => e = .returned (.float .f64 r) ∧ Drawn0 w w' := by
 have H : (if ((FloatKind.f64.format.order a0 (0 : Nat)) == some .eq) = true then (some a0) else ((math_IsInf.f a0 0).bind fun t103 => (if t103 = true then (some a0) else ((math_IsNaN.f a0).bind fun t104 => (if t104 = true then (some a0) else ((math_normalize.f a0).bind fun bt105 => (if (wrap64 ((wrap64 (a1 + bt105.2)) + (wrap64 ((Go.bits .and .i64 (wrap64 (((bt105.1 : Nat) : Int) / 4503599627370496)) 2047) - 1023)))) < (-1075) then ((math_Copysign.f (0 : Nat) bt105.1).bind fun t107 => (some t107)) else (if (wrap64 ((wrap64 (a1 + bt105.2)) + (wrap64 ((Go.bits .and .i64 (wrap64 (((bt105.1 : Nat) : Int) / 4503599627370496)) 2047) - 1023)))) > 1023 then (if ((FloatKind.f64.format.order bt105.1 (0 : Nat)) == some .lt) = true then ((math_Inf.f (-1)).bind fun t108 => (some t108)) else ((math_Inf.f 1).bind fun t109 => (some t109))) else (if (wrap64 ((wrap64 (a1 + bt105.2)) + (wrap64 ((Go.bits .and .i64 (wrap64 (((bt105.1 : Nat) : Int) / 4503599627370496)) 2047) - 1023)))) < (-1022) then (if ((floatBits .mul .f64 (4368491638549381120 : Nat) ((Go.bits .or .u64 (Go.bits .andNot .u64 ((bt105.1 : Nat) : Int) 9218868437227405312) (IntKind.u64.wrap ((IntKind.u64.wrap (wrap64 ((wrap64 ((wrap64 ((wrap64 (a1 + bt105.2)) + (wrap64 ((Go.bits .and .i64 (wrap64 (((bt105.1 : Nat) : Int) / 4503599627370496)) 2047) - 1023)))) + 53)) + 1023))) * 4503599627370496)) : Int).toNat)).isSome) = true then (some ((floatBits .mul .f64 (4368491638549381120 : Nat) ((Go.bits .or .u64 (Go.bits .andNot .u64 ((bt105.1 : Nat) : Int) 9218868437227405312) (IntKind.u64.wrap ((IntKind.u64.wrap (wrap64 ((wrap64 ((wrap64 ((wrap64 (a1 + bt105.2)) + (wrap64 ((Go.bits .and .i64 (wrap64 (((bt105.1 : Nat) : Int) / 4503599627370496)) 2047) - 1023)))) + 53)) + 1023))) * 4503599627370496)) : Int).toNat)).getD 0)) else (none)) else (if ((floatBits .mul .f64 (4607182418800017408 : Nat) ((Go.bits .or .u64 (Go.bits .andNot .u64 ((bt105.1 : Nat) : Int) 9218868437227405312) (IntKind.u64.wrap ((IntKind.u64.wrap (wrap64 ((wrap64 ((wrap64 (a1 + bt105.2)) + (wrap64 ((Go.bits .and .i64 (wrap64 (((bt105.1 : Nat) : Int) / 4503599627370496)) 2047) - 1023)))) + 1023))) * 4503599627370496)) : Int).toNat)).isSome) = true then (some ((floatBits .mul .f64 (4607182418800017408 : Nat) ((Go.bits .or .u64 (Go.bits .andNot .u64 ((bt105.1 : Nat) : Int) 9218868437227405312) (IntKind.u64.wrap ((IntKind.u64.wrap (wrap64 ((wrap64 ((wrap64 (a1 + bt105.2)) + (wrap64 ((Go.bits .and .i64 (wrap64 (((bt105.1 : Nat) : Int) / 4503599627370496)) 2047) - 1023)))) + 1023))) * 4503599627370496)) : Int).toNat)).getD 0)) else (none))))))))))) = some r := h
 clear h
 by_cases c3 : ((FloatKind.f64.format.order a0 (0 : Nat)) == some .eq) = true
 ·rw [if_pos c3] at H
  have c3b0 : ((FloatKind.f64.format.order a0 (0 : Nat)) == some .eq) = true := c3
  (try (have c3b1 : decide ((FloatKind.f64.format.order a0 (0 : Nat)) = some .eq) = true := by simpa using c3))
  (try (have c3b2 : ((FloatKind.f64.format.order a0 (0 : Nat)) == some .eq) = true := by simpa using c3))
  clear c3
  obtain rfl := Option.some.inj H
  go_enter Tryz.func158, Tryz.ntmps158
  go_wp2
  go_ret
  exact ⟨eqB, dn0⟩
 ·rw [if_neg c3] at H
  have c3b0 : ((FloatKind.f64.format.order a0 (0 : Nat)) == some .eq) = false := by simpa using c3
  (try (have c3b1 : decide ((FloatKind.f64.format.order a0 (0 : Nat)) = some .eq) = false := by simpa using c3))
  (try (have c3b2 : ((FloatKind.f64.format.order a0 (0 : Nat)) == some .eq) = false := by simpa using c3))
  (try (have c3b3 : ¬ ((FloatKind.f64.format.order a0 (0 : Nat)) = some .eq) := by simpa using c3))
  clear c3
  replace H := Option.bind_eq_some_iff.mp H
  obtain ⟨t103, A40, H⟩ := H
  replace H : (if t103 = true then (some a0) else ((math_IsNaN.f a0).bind fun t104 => (if t104 = true then (some a0) else ((math_normalize.f a0).bind fun bt105 => (if (wrap64 ((wrap64 (a1 + bt105.2)) + (wrap64 ((Go.bits .and .i64 (wrap64 (((bt105.1 : Nat) : Int) / 4503599627370496)) 2047) - 1023)))) < (-1075) then ((math_Copysign.f (0 : Nat) bt105.1).bind fun t107 => (some t107)) else (if (wrap64 ((wrap64 (a1 + bt105.2)) + (wrap64 ((Go.bits .and .i64 (wrap64 (((bt105.1 : Nat) : Int) / 4503599627370496)) 2047) - 1023)))) > 1023 then (if ((FloatKind.f64.format.order bt105.1 (0 : Nat)) == some .lt) = true then ((math_Inf.f (-1)).bind fun t108 => (some t108)) else ((math_Inf.f 1).bind fun t109 => (some t109))) else (if (wrap64 ((wrap64 (a1 + bt105.2)) + (wrap64 ((Go.bits .and .i64 (wrap64 (((bt105.1 : Nat) : Int) / 4503599627370496)) 2047) - 1023)))) < (-1022) then (if ((floatBits .mul .f64 (4368491638549381120 : Nat) ((Go.bits .or .u64 (Go.bits .andNot .u64 ((bt105.1 : Nat) : Int) 9218868437227405312) (IntKind.u64.wrap ((IntKind.u64.wrap (wrap64 ((wrap64 ((wrap64 ((wrap64 (a1 + bt105.2)) + (wrap64 ((Go.bits .and .i64 (wrap64 (((bt105.1 : Nat) : Int) / 4503599627370496)) 2047) - 1023)))) + 53)) + 1023))) * 4503599627370496)) : Int).toNat)).isSome) = true then (some ((floatBits .mul .f64 (4368491638549381120 : Nat) ((Go.bits .or .u64 (Go.bits .andNot .u64 ((bt105.1 : Nat) : Int) 9218868437227405312) (IntKind.u64.wrap ((IntKind.u64.wrap (wrap64 ((wrap64 ((wrap64 ((wrap64 (a1 + bt105.2)) + (wrap64 ((Go.bits .and .i64 (wrap64 (((bt105.1 : Nat) : Int) / 4503599627370496)) 2047) - 1023)))) + 53)) + 1023))) * 4503599627370496)) : Int).toNat)).getD 0)) else (none)) else (if ((floatBits .mul .f64 (4607182418800017408 : Nat) ((Go.bits .or .u64 (Go.bits .andNot .u64 ((bt105.1 : Nat) : Int) 9218868437227405312) (IntKind.u64.wrap ((IntKind.u64.wrap (wrap64 ((wrap64 ((wrap64 (a1 + bt105.2)) + (wrap64 ((Go.bits .and .i64 (wrap64 (((bt105.1 : Nat) : Int) / 4503599627370496)) 2047) - 1023)))) + 1023))) * 4503599627370496)) : Int).toNat)).isSome) = true then (some ((floatBits .mul .f64 (4607182418800017408 : Nat) ((Go.bits .or .u64 (Go.bits .andNot .u64 ((bt105.1 : Nat) : Int) 9218868437227405312) (IntKind.u64.wrap ((IntKind.u64.wrap (wrap64 ((wrap64 ((wrap64 (a1 + bt105.2)) + (wrap64 ((Go.bits .and .i64 (wrap64 (((bt105.1 : Nat) : Int) / 4503599627370496)) 2047) - 1023)))) + 1023))) * 4503599627370496)) : Int).toNat)).getD 0)) else (none))))))))) = some r := H
  have A4 := asd A40
  clear A40
  by_cases c5 : t103 = true
  ·subst c5
   have H1 : (some a0) = some r := by rw [if_pos rfl] at H; exact H
   clear H
   have H := H1
   clear H1
   obtain rfl := Option.some.inj H
   go_enter Tryz.func158, Tryz.ntmps158
   go_wp2_with (first | ((with_reducible refine gate_callee (f := 43) rfl ?_); refine goesL_ (some 14) rfl rfl Tryz.func43 (by kernel_rfl) rfl #[.float .f64 a0, .int .i64 0] rfl eqA ?_; (with_reducible refine (math_IsInf.calls a0 0 true _ A4.out).mono ?_); rintro e w' ⟨rfl, ⟨nd, rfl⟩⟩; refine ⟨_, rfl, ?_⟩))
   go_ret
   exact ⟨eqB, dn0⟩
  ·replace c5 := Bool.eq_false_iff.mpr c5
   subst c5
   have H1 : ((math_IsNaN.f a0).bind fun t104 => (if t104 = true then (some a0) else ((math_normalize.f a0).bind fun bt105 => (if (wrap64 ((wrap64 (a1 + bt105.2)) + (wrap64 ((Go.bits .and .i64 (wrap64 (((bt105.1 : Nat) : Int) / 4503599627370496)) 2047) - 1023)))) < (-1075) then ((math_Copysign.f (0 : Nat) bt105.1).bind fun t107 => (some t107)) else (if (wrap64 ((wrap64 (a1 + bt105.2)) + (wrap64 ((Go.bits .and .i64 (wrap64 (((bt105.1 : Nat) : Int) / 4503599627370496)) 2047) - 1023)))) > 1023 then (if ((FloatKind.f64.format.order bt105.1 (0 : Nat)) == some .lt) = true then ((math_Inf.f (-1)).bind fun t108 => (some t108)) else ((math_Inf.f 1).bind fun t109 => (some t109))) else (if (wrap64 ((wrap64 (a1 + bt105.2)) + (wrap64 ((Go.bits .and .i64 (wrap64 (((bt105.1 : Nat) : Int) / 4503599627370496)) 2047) - 1023)))) < (-1022) then (if ((floatBits .mul .f64 (4368491638549381120 : Nat) ((Go.bits .or .u64 (Go.bits .andNot .u64 ((bt105.1 : Nat) : Int) 9218868437227405312) (IntKind.u64.wrap ((IntKind.u64.wrap (wrap64 ((wrap64 ((wrap64 ((wrap64 (a1 + bt105.2)) + (wrap64 ((Go.bits .and .i64 (wrap64 (((bt105.1 : Nat) : Int) / 4503599627370496)) 2047) - 1023)))) + 53)) + 1023))) * 4503599627370496)) : Int).toNat)).isSome) = true then (some ((floatBits .mul .f64 (4368491638549381120 : Nat) ((Go.bits .or .u64 (Go.bits .andNot .u64 ((bt105.1 : Nat) : Int) 9218868437227405312) (IntKind.u64.wrap ((IntKind.u64.wrap (wrap64 ((wrap64 ((wrap64 ((wrap64 (a1 + bt105.2)) + (wrap64 ((Go.bits .and .i64 (wrap64 (((bt105.1 : Nat) : Int) / 4503599627370496)) 2047) - 1023)))) + 53)) + 1023))) * 4503599627370496)) : Int).toNat)).getD 0)) else (none)) else (if ((floatBits .mul .f64 (4607182418800017408 : Nat) ((Go.bits .or .u64 (Go.bits .andNot .u64 ((bt105.1 : Nat) : Int) 9218868437227405312) (IntKind.u64.wrap ((IntKind.u64.wrap (wrap64 ((wrap64 ((wrap64 (a1 + bt105.2)) + (wrap64 ((Go.bits .and .i64 (wrap64 (((bt105.1 : Nat) : Int) / 4503599627370496)) 2047) - 1023)))) + 1023))) * 4503599627370496)) : Int).toNat)).isSome) = true then (some ((floatBits .mul .f64 (4607182418800017408 : Nat) ((Go.bits .or .u64 (Go.bits .andNot .u64 ((bt105.1 : Nat) : Int) 9218868437227405312) (IntKind.u64.wrap ((IntKind.u64.wrap (wrap64 ((wrap64 ((wrap64 (a1 + bt105.2)) + (wrap64 ((Go.bits .and .i64 (wrap64 (((bt105.1 : Nat) : Int) / 4503599627370496)) 2047) - 1023)))) + 1023))) * 4503599627370496)) : Int).toNat)).getD 0)) else (none)))))))) = some r := by rw [if_neg (show ¬ (false = true) by decide)] at H; exact H
   clear H
   have H := H1
   clear H1
   replace H := Option.bind_eq_some_iff.mp H
   obtain ⟨t104, A60, H⟩ := H
   replace H : (if t104 = true then (some a0) else ((math_normalize.f a0).bind fun bt105 => (if (wrap64 ((wrap64 (a1 + bt105.2)) + (wrap64 ((Go.bits .and .i64 (wrap64 (((bt105.1 : Nat) : Int) / 4503599627370496)) 2047) - 1023)))) < (-1075) then ((math_Copysign.f (0 : Nat) bt105.1).bind fun t107 => (some t107)) else (if (wrap64 ((wrap64 (a1 + bt105.2)) + (wrap64 ((Go.bits .and .i64 (wrap64 (((bt105.1 : Nat) : Int) / 4503599627370496)) 2047) - 1023)))) > 1023 then (if ((FloatKind.f64.format.order bt105.1 (0 : Nat)) == some .lt) = true then ((math_Inf.f (-1)).bind fun t108 => (some t108)) else ((math_Inf.f 1).bind fun t109 => (some t109))) else (if (wrap64 ((wrap64 (a1 + bt105.2)) + (wrap64 ((Go.bits .and .i64 (wrap64 (((bt105.1 : Nat) : Int) / 4503599627370496)) 2047) - 1023)))) < (-1022) then (if ((floatBits .mul .f64 (4368491638549381120 : Nat) ((Go.bits .or .u64 (Go.bits .andNot .u64 ((bt105.1 : Nat) : Int) 9218868437227405312) (IntKind.u64.wrap ((IntKind.u64.wrap (wrap64 ((wrap64 ((wrap64 ((wrap64 (a1 + bt105.2)) + (wrap64 ((Go.bits .and .i64 (wrap64 (((bt105.1 : Nat) : Int) / 4503599627370496)) 2047) - 1023)))) + 53)) + 1023))) * 4503599627370496)) : Int).toNat)).isSome) = true then (some ((floatBits .mul .f64 (4368491638549381120 : Nat) ((Go.bits .or .u64 (Go.bits .andNot .u64 ((bt105.1 : Nat) : Int) 9218868437227405312) (IntKind.u64.wrap ((IntKind.u64.wrap (wrap64 ((wrap64 ((wrap64 ((wrap64 (a1 + bt105.2)) + (wrap64 ((Go.bits .and .i64 (wrap64 (((bt105.1 : Nat) : Int) / 4503599627370496)) 2047) - 1023)))) + 53)) + 1023))) * 4503599627370496)) : Int).toNat)).getD 0)) else (none)) else (if ((floatBits .mul .f64 (4607182418800017408 : Nat) ((Go.bits .or .u64 (Go.bits .andNot .u64 ((bt105.1 : Nat) : Int) 9218868437227405312) (IntKind.u64.wrap ((IntKind.u64.wrap (wrap64 ((wrap64 ((wrap64 (a1 + bt105.2)) + (wrap64 ((Go.bits .and .i64 (wrap64 (((bt105.1 : Nat) : Int) / 4503599627370496)) 2047) - 1023)))) + 1023))) * 4503599627370496)) : Int).toNat)).isSome) = true then (some ((floatBits .mul .f64 (4607182418800017408 : Nat) ((Go.bits .or .u64 (Go.bits .andNot .u64 ((bt105.1 : Nat) : Int) 9218868437227405312) (IntKind.u64.wrap ((IntKind.u64.wrap (wrap64 ((wrap64 ((wrap64 (a1 + bt105.2)) + (wrap64 ((Go.bits .and .i64 (wrap64 (((bt105.1 : Nat) : Int) / 4503599627370496)) 2047) - 1023)))) + 1023))) * 4503599627370496)) : Int).toNat)).getD 0)) else (none))))))) = some r := H
   have A6 := asd A60
   clear A60
   by_cases c7 : t104 = true
   ·subst c7
    have H1 : (some a0) = some r := by rw [if_pos rfl] at H; exact H
    clear H
    have H := H1
    clear H1
    obtain rfl := Option.some.inj H
    go_enter Tryz.func158, Tryz.ntmps158
    go_wp2_with (first | ((with_reducible refine gate_callee (f := 43) rfl ?_); refine goesL_ (some 14) rfl rfl Tryz.func43 (by kernel_rfl) rfl #[.float .f64 a0, .int .i64 0] rfl eqA ?_; (with_reducible refine (math_IsInf.calls a0 0 false _ A4.out).mono ?_); rintro e w' ⟨rfl, ⟨nd, rfl⟩⟩; refine ⟨_, rfl, ?_⟩) | (go_at_call 122; (with_reducible refine (math_IsNaN.calls a0 true _ A6.out).mono ?_); rintro e w' ⟨rfl, ⟨nd, rfl⟩⟩))
    go_ret
    exact ⟨eqB, dn0⟩
   ·replace c7 := Bool.eq_false_iff.mpr c7
    subst c7
    have H1 : ((math_normalize.f a0).bind fun bt105 => (if (wrap64 ((wrap64 (a1 + bt105.2)) + (wrap64 ((Go.bits .and .i64 (wrap64 (((bt105.1 : Nat) : Int) / 4503599627370496)) 2047) - 1023)))) < (-1075) then ((math_Copysign.f (0 : Nat) bt105.1).bind fun t107 => (some t107)) else (if (wrap64 ((wrap64 (a1 + bt105.2)) + (wrap64 ((Go.bits .and .i64 (wrap64 (((bt105.1 : Nat) : Int) / 4503599627370496)) 2047) - 1023)))) > 1023 then (if ((FloatKind.f64.format.order bt105.1 (0 : Nat)) == some .lt) = true then ((math_Inf.f (-1)).bind fun t108 => (some t108)) else ((math_Inf.f 1).bind fun t109 => (some t109))) else (if (wrap64 ((wrap64 (a1 + bt105.2)) + (wrap64 ((Go.bits .and .i64 (wrap64 (((bt105.1 : Nat) : Int) / 4503599627370496)) 2047) - 1023)))) < (-1022) then (if ((floatBits .mul .f64 (4368491638549381120 : Nat) ((Go.bits .or .u64 (Go.bits .andNot .u64 ((bt105.1 : Nat) : Int) 9218868437227405312) (IntKind.u64.wrap ((IntKind.u64.wrap (wrap64 ((wrap64 ((wrap64 ((wrap64 (a1 + bt105.2)) + (wrap64 ((Go.bits .and .i64 (wrap64 (((bt105.1 : Nat) : Int) / 4503599627370496)) 2047) - 1023)))) + 53)) + 1023))) * 4503599627370496)) : Int).toNat)).isSome) = true then (some ((floatBits .mul .f64 (4368491638549381120 : Nat) ((Go.bits .or .u64 (Go.bits .andNot .u64 ((bt105.1 : Nat) : Int) 9218868437227405312) (IntKind.u64.wrap ((IntKind.u64.wrap (wrap64 ((wrap64 ((wrap64 ((wrap64 (a1 + bt105.2)) + (wrap64 ((Go.bits .and .i64 (wrap64 (((bt105.1 : Nat) : Int) / 4503599627370496)) 2047) - 1023)))) + 53)) + 1023))) * 4503599627370496)) : Int).toNat)).getD 0)) else (none)) else (if ((floatBits .mul .f64 (4607182418800017408 : Nat) ((Go.bits .or .u64 (Go.bits .andNot .u64 ((bt105.1 : Nat) : Int) 9218868437227405312) (IntKind.u64.wrap ((IntKind.u64.wrap (wrap64 ((wrap64 ((wrap64 (a1 + bt105.2)) + (wrap64 ((Go.bits .and .i64 (wrap64 (((bt105.1 : Nat) : Int) / 4503599627370496)) 2047) - 1023)))) + 1023))) * 4503599627370496)) : Int).toNat)).isSome) = true then (some ((floatBits .mul .f64 (4607182418800017408 : Nat) ((Go.bits .or .u64 (Go.bits .andNot .u64 ((bt105.1 : Nat) : Int) 9218868437227405312) (IntKind.u64.wrap ((IntKind.u64.wrap (wrap64 ((wrap64 ((wrap64 (a1 + bt105.2)) + (wrap64 ((Go.bits .and .i64 (wrap64 (((bt105.1 : Nat) : Int) / 4503599627370496)) 2047) - 1023)))) + 1023))) * 4503599627370496)) : Int).toNat)).getD 0)) else (none)))))) = some r := by rw [if_neg (show ¬ (false = true) by decide)] at H; exact H
    clear H
    have H := H1
    clear H1
    replace H := Option.bind_eq_some_iff.mp H
    obtain ⟨⟨t105, t106⟩, A80, H⟩ := H
    replace H : (if (wrap64 ((wrap64 (a1 + t106)) + (wrap64 ((Go.bits .and .i64 (wrap64 (((t105 : Nat) : Int) / 4503599627370496)) 2047) - 1023)))) < (-1075) then ((math_Copysign.f (0 : Nat) t105).bind fun t107 => (some t107)) else (if (wrap64 ((wrap64 (a1 + t106)) + (wrap64 ((Go.bits .and .i64 (wrap64 (((t105 : Nat) : Int) / 4503599627370496)) 2047) - 1023)))) > 1023 then (if ((FloatKind.f64.format.order t105 (0 : Nat)) == some .lt) = true then ((math_Inf.f (-1)).bind fun t108 => (some t108)) else ((math_Inf.f 1).bind fun t109 => (some t109))) else (if (wrap64 ((wrap64 (a1 + t106)) + (wrap64 ((Go.bits .and .i64 (wrap64 (((t105 : Nat) : Int) / 4503599627370496)) 2047) - 1023)))) < (-1022) then (if ((floatBits .mul .f64 (4368491638549381120 : Nat) ((Go.bits .or .u64 (Go.bits .andNot .u64 ((t105 : Nat) : Int) 9218868437227405312) (IntKind.u64.wrap ((IntKind.u64.wrap (wrap64 ((wrap64 ((wrap64 ((wrap64 (a1 + t106)) + (wrap64 ((Go.bits .and .i64 (wrap64 (((t105 : Nat) : Int) / 4503599627370496)) 2047) - 1023)))) + 53)) + 1023))) * 4503599627370496)) : Int).toNat)).isSome) = true then (some ((floatBits .mul .f64 (4368491638549381120 : Nat) ((Go.bits .or .u64 (Go.bits .andNot .u64 ((t105 : Nat) : Int) 9218868437227405312) (IntKind.u64.wrap ((IntKind.u64.wrap (wrap64 ((wrap64 ((wrap64 ((wrap64 (a1 + t106)) + (wrap64 ((Go.bits .and .i64 (wrap64 (((t105 : Nat) : Int) / 4503599627370496)) 2047) - 1023)))) + 53)) + 1023))) * 4503599627370496)) : Int).toNat)).getD 0)) else (none)) else (if ((floatBits .mul .f64 (4607182418800017408 : Nat) ((Go.bits .or .u64 (Go.bits .andNot .u64 ((t105 : Nat) : Int) 9218868437227405312) (IntKind.u64.wrap ((IntKind.u64.wrap (wrap64 ((wrap64 ((wrap64 (a1 + t106)) + (wrap64 ((Go.bits .and .i64 (wrap64 (((t105 : Nat) : Int) / 4503599627370496)) 2047) - 1023)))) + 1023))) * 4503599627370496)) : Int).toNat)).isSome) = true then (some ((floatBits .mul .f64 (4607182418800017408 : Nat) ((Go.bits .or .u64 (Go.bits .andNot .u64 ((t105 : Nat) : Int) 9218868437227405312) (IntKind.u64.wrap ((IntKind.u64.wrap (wrap64 ((wrap64 ((wrap64 (a1 + t106)) + (wrap64 ((Go.bits .and .i64 (wrap64 (((t105 : Nat) : Int) / 4503599627370496)) 2047) - 1023)))) + 1023))) * 4503599627370496)) : Int).toNat)).getD 0)) else (none))))) = some r := H
    have A8 := asd A80
    clear A80
    by_cases c9 : (wrap64 ((wrap64 (a1 + t106)) + (wrap64 ((Go.bits .and .i64 (wrap64 (((t105 : Nat) : Int) / 4503599627370496)) 2047) - 1023)))) < (-1075)
    ·rw [if_pos c9] at H
     have c9b0 : decide ((wrap64 ((wrap64 (a1 + t106)) + (wrap64 ((Go.bits .and .i64 (wrap64 (((t105 : Nat) : Int) / 4503599627370496)) 2047) - 1023)))) < (-1075)) = true := decide_eq_true c9
     clear c9
     replace H := Option.bind_eq_some_iff.mp H
     obtain ⟨t107, A100, H⟩ := H
     replace H : (some t107) = some r := H
     have A10 := asd A100
     clear A100
     obtain rfl := Option.some.inj H
     go_enter Tryz.func158, Tryz.ntmps158
     go_wp2_with (first | ((with_reducible refine gate_callee (f := 43) rfl ?_); refine goesL_ (some 14) rfl rfl Tryz.func43 (by kernel_rfl) rfl #[.float .f64 a0, .int .i64 0] rfl eqA ?_; (with_reducible refine (math_IsInf.calls a0 0 false _ A4.out).mono ?_); rintro e w' ⟨rfl, ⟨nd, rfl⟩⟩; refine ⟨_, rfl, ?_⟩) | (go_at_call 122; (with_reducible refine (math_IsNaN.calls a0 false _ A6.out).mono ?_); rintro e w' ⟨rfl, ⟨nd, rfl⟩⟩) | ((with_reducible refine gate_callee (f := 160) rfl ?_); refine goesL_ (some 22) rfl rfl Tryz.func160 (by kernel_rfl) rfl #[.float .f64 a0] rfl eqA ?_; (with_reducible refine (math_normalize.calls a0 t105 t106 _ A8.out).mono ?_); rintro e w' ⟨rfl, ⟨nd, rfl⟩⟩; refine ⟨_, rfl, ?_⟩) | ((with_reducible refine gate_callee (f := 55) rfl ?_); refine goesL_ (some 40) rfl rfl Tryz.func55 (by kernel_rfl) rfl #[.float .f64 (0 : Nat), .float .f64 t105] rfl eqA ?_; (with_reducible refine (math_Copysign.calls (0 : Nat) t105 t107 _ A10.out).mono ?_); rintro e w' ⟨rfl, ⟨nd, rfl⟩⟩; refine ⟨_, rfl, ?_⟩))
     go_ret
     exact ⟨eqB, dn0⟩
    ·rw [if_neg c9] at H
     have c9b0 : decide ((wrap64 ((wrap64 (a1 + t106)) + (wrap64 ((Go.bits .and .i64 (wrap64 (((t105 : Nat) : Int) / 4503599627370496)) 2047) - 1023)))) < (-1075)) = false := decide_eq_false c9
     clear c9
     by_cases c11 : (wrap64 ((wrap64 (a1 + t106)) + (wrap64 ((Go.bits .and .i64 (wrap64 (((t105 : Nat) : Int) / 4503599627370496)) 2047) - 1023)))) > 1023
     ·rw [if_pos c11] at H
      have c11b0 : decide (1023 < (wrap64 ((wrap64 (a1 + t106)) + (wrap64 ((Go.bits .and .i64 (wrap64 (((t105 : Nat) : Int) / 4503599627370496)) 2047) - 1023))))) = true := decide_eq_true c11
      clear c11
      by_cases c12 : ((FloatKind.f64.format.order t105 (0 : Nat)) == some .lt) = true
      ·rw [if_pos c12] at H
       have c12b0 : ((FloatKind.f64.format.order t105 (0 : Nat)) == some .lt) = true := c12
       (try (have c12b1 : decide ((FloatKind.f64.format.order t105 (0 : Nat)) = some .lt) = true := by simpa using c12))
       (try (have c12b2 : ((FloatKind.f64.format.order t105 (0 : Nat)) == some .lt) = true := by simpa using c12))
       clear c12
       replace H := Option.bind_eq_some_iff.mp H
       obtain ⟨t108, A130, H⟩ := H
       replace H : (some t108) = some r := H
       have A13 := asd A130
       clear A130
       obtain rfl := Option.some.inj H
       go_enter Tryz.func158, Tryz.ntmps158
       go_wp2_with (first | ((with_reducible refine gate_callee (f := 43) rfl ?_); refine goesL_ (some 14) rfl rfl Tryz.func43 (by kernel_rfl) rfl #[.float .f64 a0, .int .i64 0] rfl eqA ?_; (with_reducible refine (math_IsInf.calls a0 0 false _ A4.out).mono ?_); rintro e w' ⟨rfl, ⟨nd, rfl⟩⟩; refine ⟨_, rfl, ?_⟩) | (go_at_call 122; (with_reducible refine (math_IsNaN.calls a0 false _ A6.out).mono ?_); rintro e w' ⟨rfl, ⟨nd, rfl⟩⟩) | ((with_reducible refine gate_callee (f := 160) rfl ?_); refine goesL_ (some 22) rfl rfl Tryz.func160 (by kernel_rfl) rfl #[.float .f64 a0] rfl eqA ?_; (with_reducible refine (math_normalize.calls a0 t105 t106 _ A8.out).mono ?_); rintro e w' ⟨rfl, ⟨nd, rfl⟩⟩; refine ⟨_, rfl, ?_⟩) | ((with_reducible refine gate_callee (f := 109) rfl ?_); refine goesL_ (some 45) rfl rfl Tryz.func109 (by kernel_rfl) rfl #[.int .i64 (-1)] rfl eqA ?_; (with_reducible refine (math_Inf.calls (-1) t108 _ A13.out).mono ?_); rintro e w' ⟨rfl, ⟨nd, rfl⟩⟩; refine ⟨_, rfl, ?_⟩))
       go_ret
       exact ⟨eqB, dn0⟩
      ·rw [if_neg c12] at H
       have c12b0 : ((FloatKind.f64.format.order t105 (0 : Nat)) == some .lt) = false := by simpa using c12
       (try (have c12b1 : decide ((FloatKind.f64.format.order t105 (0 : Nat)) = some .lt) = false := by simpa using c12))
       (try (have c12b2 : ((FloatKind.f64.format.order t105 (0 : Nat)) == some .lt) = false := by simpa using c12))
       (try (have c12b3 : ¬ ((FloatKind.f64.format.order t105 (0 : Nat)) = some .lt) := by simpa using c12))
       clear c12
       replace H := Option.bind_eq_some_iff.mp H
       obtain ⟨t109, A140, H⟩ := H
       replace H : (some t109) = some r := H
       have A14 := asd A140
       clear A140
       obtain rfl := Option.some.inj H
       go_enter Tryz.func158, Tryz.ntmps158
       go_wp2_with (first | ((with_reducible refine gate_callee (f := 43) rfl ?_); refine goesL_ (some 14) rfl rfl Tryz.func43 (by kernel_rfl) rfl #[.float .f64 a0, .int .i64 0] rfl eqA ?_; (with_reducible refine (math_IsInf.calls a0 0 false _ A4.out).mono ?_); rintro e w' ⟨rfl, ⟨nd, rfl⟩⟩; refine ⟨_, rfl, ?_⟩) | (go_at_call 122; (with_reducible refine (math_IsNaN.calls a0 false _ A6.out).mono ?_); rintro e w' ⟨rfl, ⟨nd, rfl⟩⟩) | ((with_reducible refine gate_callee (f := 160) rfl ?_); refine goesL_ (some 22) rfl rfl Tryz.func160 (by kernel_rfl) rfl #[.float .f64 a0] rfl eqA ?_; (with_reducible refine (math_normalize.calls a0 t105 t106 _ A8.out).mono ?_); rintro e w' ⟨rfl, ⟨nd, rfl⟩⟩; refine ⟨_, rfl, ?_⟩) | ((with_reducible refine gate_callee (f := 109) rfl ?_); refine goesL_ (some 46) rfl rfl Tryz.func109 (by kernel_rfl) rfl #[.int .i64 1] rfl eqA ?_; (with_reducible refine (math_Inf.calls 1 t109 _ A14.out).mono ?_); rintro e w' ⟨rfl, ⟨nd, rfl⟩⟩; refine ⟨_, rfl, ?_⟩))
       go_ret
       exact ⟨eqB, dn0⟩
     ·rw [if_neg c11] at H
      have c11b0 : decide (1023 < (wrap64 ((wrap64 (a1 + t106)) + (wrap64 ((Go.bits .and .i64 (wrap64 (((t105 : Nat) : Int) / 4503599627370496)) 2047) - 1023))))) = false := decide_eq_false c11
      clear c11
      by_cases c15 : (wrap64 ((wrap64 (a1 + t106)) + (wrap64 ((Go.bits .and .i64 (wrap64 (((t105 : Nat) : Int) / 4503599627370496)) 2047) - 1023)))) < (-1022)
      ·rw [if_pos c15] at H
       have c15b0 : decide ((wrap64 ((wrap64 (a1 + t106)) + (wrap64 ((Go.bits .and .i64 (wrap64 (((t105 : Nat) : Int) / 4503599627370496)) 2047) - 1023)))) < (-1022)) = true := decide_eq_true c15
       clear c15
       by_cases c16 : ((floatBits .mul .f64 (4368491638549381120 : Nat) ((Go.bits .or .u64 (Go.bits .andNot .u64 ((t105 : Nat) : Int) 9218868437227405312) (IntKind.u64.wrap ((IntKind.u64.wrap (wrap64 ((wrap64 ((wrap64 ((wrap64 (a1 + t106)) + (wrap64 ((Go.bits .and .i64 (wrap64 (((t105 : Nat) : Int) / 4503599627370496)) 2047) - 1023)))) + 53)) + 1023))) * 4503599627370496)) : Int).toNat)).isSome) = true
       ·rw [if_pos c16] at H
        have c16b0 := eq_true c16
        have c16b1 : decide (((floatBits .mul .f64 (4368491638549381120 : Nat) ((Go.bits .or .u64 (Go.bits .andNot .u64 ((t105 : Nat) : Int) 9218868437227405312) (IntKind.u64.wrap ((IntKind.u64.wrap (wrap64 ((wrap64 ((wrap64 ((wrap64 (a1 + t106)) + (wrap64 ((Go.bits .and .i64 (wrap64 (((t105 : Nat) : Int) / 4503599627370496)) 2047) - 1023)))) + 53)) + 1023))) * 4503599627370496)) : Int).toNat)).isSome) = true) = true := decide_eq_true c16
        obtain rfl := Option.some.inj H
        go_enter Tryz.func158, Tryz.ntmps158
        go_wp2_with (first | ((with_reducible refine gate_callee (f := 43) rfl ?_); refine goesL_ (some 14) rfl rfl Tryz.func43 (by kernel_rfl) rfl #[.float .f64 a0, .int .i64 0] rfl eqA ?_; (with_reducible refine (math_IsInf.calls a0 0 false _ A4.out).mono ?_); rintro e w' ⟨rfl, ⟨nd, rfl⟩⟩; refine ⟨_, rfl, ?_⟩) | (go_at_call 122; (with_reducible refine (math_IsNaN.calls a0 false _ A6.out).mono ?_); rintro e w' ⟨rfl, ⟨nd, rfl⟩⟩) | ((with_reducible refine gate_callee (f := 160) rfl ?_); refine goesL_ (some 22) rfl rfl Tryz.func160 (by kernel_rfl) rfl #[.float .f64 a0] rfl eqA ?_; (with_reducible refine (math_normalize.calls a0 t105 t106 _ A8.out).mono ?_); rintro e w' ⟨rfl, ⟨nd, rfl⟩⟩; refine ⟨_, rfl, ?_⟩))
        go_ret
        exact ⟨eqB, dn0⟩
       ·rw [if_neg c16] at H
        exact absurd H (by simp)
      ·rw [if_neg c15] at H
       have c15b0 : decide ((wrap64 ((wrap64 (a1 + t106)) + (wrap64 ((Go.bits .and .i64 (wrap64 (((t105 : Nat) : Int) / 4503599627370496)) 2047) - 1023)))) < (-1022)) = false := decide_eq_false c15
       clear c15
       by_cases c17 : ((floatBits .mul .f64 (4607182418800017408 : Nat) ((Go.bits .or .u64 (Go.bits .andNot .u64 ((t105 : Nat) : Int) 9218868437227405312) (IntKind.u64.wrap ((IntKind.u64.wrap (wrap64 ((wrap64 ((wrap64 (a1 + t106)) + (wrap64 ((Go.bits .and .i64 (wrap64 (((t105 : Nat) : Int) / 4503599627370496)) 2047) - 1023)))) + 1023))) * 4503599627370496)) : Int).toNat)).isSome) = true
       ·rw [if_pos c17] at H
        have c17b0 := eq_true c17
        have c17b1 : decide (((floatBits .mul .f64 (4607182418800017408 : Nat) ((Go.bits .or .u64 (Go.bits .andNot .u64 ((t105 : Nat) : Int) 9218868437227405312) (IntKind.u64.wrap ((IntKind.u64.wrap (wrap64 ((wrap64 ((wrap64 (a1 + t106)) + (wrap64 ((Go.bits .and .i64 (wrap64 (((t105 : Nat) : Int) / 4503599627370496)) 2047) - 1023)))) + 1023))) * 4503599627370496)) : Int).toNat)).isSome) = true) = true := decide_eq_true c17
        obtain rfl := Option.some.inj H
        go_enter Tryz.func158, Tryz.ntmps158
        go_wp2_with (first | ((with_reducible refine gate_callee (f := 43) rfl ?_); refine goesL_ (some 14) rfl rfl Tryz.func43 (by kernel_rfl) rfl #[.float .f64 a0, .int .i64 0] rfl eqA ?_; (with_reducible refine (math_IsInf.calls a0 0 false _ A4.out).mono ?_); rintro e w' ⟨rfl, ⟨nd, rfl⟩⟩; refine ⟨_, rfl, ?_⟩) | (go_at_call 122; (with_reducible refine (math_IsNaN.calls a0 false _ A6.out).mono ?_); rintro e w' ⟨rfl, ⟨nd, rfl⟩⟩) | ((with_reducible refine gate_callee (f := 160) rfl ?_); refine goesL_ (some 22) rfl rfl Tryz.func160 (by kernel_rfl) rfl #[.float .f64 a0] rfl eqA ?_; (with_reducible refine (math_normalize.calls a0 t105 t106 _ A8.out).mono ?_); rintro e w' ⟨rfl, ⟨nd, rfl⟩⟩; refine ⟨_, rfl, ?_⟩))
        go_ret
        exact ⟨eqB, dn0⟩
       ·rw [if_neg c17] at H
        exact absurd H (by simp)
def math_Ldexp.f (a0 : Nat) (a1 : Int) : Option (Nat) := (math_ldexp.f a0 a1).bind fun t110 => (some t110)
theorem math_Ldexp.calls (a0 : Nat) (a1 : Int) (r : Nat) (w : World) (h : math_Ldexp.f a0 a1 = some r) :
  Calls Tryz.prog 146 #[.float .f64 a0, .int .i64 a1] w fun e w' => e = .returned (.float .f64 r) ∧ Drawn0 w w' := by
 have H : ((math_ldexp.f a0 a1).bind fun t110 => (some t110)) = some r := h
 clear h
 replace H := Option.bind_eq_some_iff.mp H
 obtain ⟨t110, A30, H⟩ := H
 replace H : (some t110) = some r := H
 have A3 := asd A30
 clear A30
 obtain rfl := Option.some.inj H
 go_enter Tryz.func146, Tryz.ntmps146
 go_wp2_with (first | ((with_reducible refine gate_callee (f := 158) rfl ?_); refine goesL_ (some 10) rfl rfl Tryz.func158 (by kernel_rfl) rfl #[.float .f64 a0, .int .i64 a1] rfl eqA ?_; (with_reducible refine (math_ldexp.calls a0 a1 t110 _ A3.out).mono ?_); rintro e w' ⟨rfl, ⟨nd, rfl⟩⟩; refine ⟨_, rfl, ?_⟩))
 go_ret
 exact ⟨eqB, dn0⟩
end Go.Proofs.YthmeocigliephaaGreatDoor.PNl
end
section
namespace Go.Proofs.YthmeocigliephaaGreatDoor.Plain
open Go.RowKit Go.Proofs.YthmeocigliephaaGreatDoorW.PrintWords
open Ieee
def Fin64 (b : Nat) : Prop := b < 18446744073709551616 ∧ b % 9223372036854775808 < 9218868437227405312
instance instDecFin64 (b : Nat) : Decidable (Fin64 b) := inferInstanceAs (Decidable (_ ∧ _))
def frac (b : Nat) : Nat := b % 4503599627370496
def expo (b : Nat) : Nat := b / 4503599627370496 % 2048
def sgn (b : Nat) : Bool := decide (9223372036854775808 ≤ b)
def manti (b : Nat) : Nat := if expo b = 0 then frac b else frac b + 4503599627370496
def expoV (b : Nat) : Int := (if expo b = 0 then 1 else (expo b : Int)) - 1075
theorem manti_lt (b : Nat) : manti b < 9007199254740992 := by unfold manti frac; split <;> omega
theorem sw : double.signWeight = 9223372036854775808 := by decide
theorem bn : double.binade = 4503599627370496 := by decide
theorem ir : double.infRung = 9218868437227405312 := by decide
theorem lp : double.leastPlace = -1074 := by decide
theorem read_fin {b : Nat} (h : Fin64 b) : double.read b = .number (sgn b) (manti b) (expoV b) := by
  obtain ⟨h1, h2⟩ := h
  unfold Format.read
  simp only [sw, bn, ir, lp]
  have hs : (b / 9223372036854775808 % 2 == 1) = sgn b := by
    unfold sgn
    by_cases h : 9223372036854775808 ≤ b
    · rw [decide_eq_true h]; simp; omega
    · rw [decide_eq_false h]; simp; omega
  rw [hs]
  have hf : b % 9223372036854775808 % 4503599627370496 = frac b := by unfold frac; omega
  have he : b % 9223372036854775808 / 4503599627370496 = expo b := by unfold expo; omega
  by_cases h0 : b % 9223372036854775808 < 4503599627370496
  · rw [if_pos h0]
    have e0 : expo b = 0 := by rw [← he]; omega
    unfold manti expoV
    rw [if_pos e0, if_pos e0]
    congr 1
    unfold frac; omega
  · rw [if_neg h0, if_pos h2, hf, he]
    have e0 : expo b ≠ 0 := by rw [← he]; omega
    unfold manti expoV
    rw [if_neg e0, if_neg e0]
    congr 1
    · omega
    · omega
theorem order_self {b : Nat} (h : Fin64 b) : FloatKind.f64.format.order b b = some .eq := by
  show double.order b b = _
  unfold Format.order
  rw [read_fin h]
  unfold Datum.order
  simp
theorem fin_abs {b : Nat} (h : Fin64 b) : Fin64 (b % 9223372036854775808) := ⟨by have := h.2; omega, by have := h.2; omega⟩
theorem sgn_abs (b : Nat) : sgn (b % 9223372036854775808) = false := by unfold sgn; rw [decide_eq_false (by omega)]
theorem expo_le {b : Nat} (h : Fin64 b) : expo b ≤ 2046 := by have := h.2; unfold expo; omega
theorem order_max {b : Nat} (h : Fin64 b) : (FloatKind.f64.format.order (b % 9223372036854775808) 9218868437227405311 == some .gt) = false := by
  have hm : Fin64 9218868437227405311 := ⟨by omega, by omega⟩
  show (double.order _ _ == _) = _
  unfold Format.order
  rw [read_fin (fin_abs h), read_fin hm, sgn_abs, show sgn 9218868437227405311 = false by decide, show manti 9218868437227405311 = 9007199254740991 by decide, show expoV 9218868437227405311 = 971 by decide]
  unfold Datum.order
  have he := expo_le (fin_abs h)
  have hmt := manti_lt (b % 9223372036854775808)
  generalize manti (b % 9223372036854775808) = m at hmt
  have hp : expoV (b % 9223372036854775808) ≤ 971 := by unfold expoV; split <;> omega
  generalize expoV (b % 9223372036854775808) = p at hp
  simp only
  rw [show min p 971 = p by omega, Int.sub_self]
  obtain ⟨k, hk⟩ : ∃ k : Nat, 971 - p = (k : Int) := ⟨(971 - p).toNat, by omega⟩
  rw [hk, Int.toNat_natCast]
  unfold signed
  simp only [Bool.false_eq_true, if_false, Int.toNat_zero, Nat.shiftLeft_zero]
  have h1 : 9007199254740991 <<< k = 9007199254740991 * 2 ^ k := Nat.shiftLeft_eq _ _
  have h2 : 0 < 2 ^ k := Nat.pow_pos (by omega)
  have h3 : (m : Int) ≤ ((9007199254740991 <<< k : Nat) : Int) := by
    rw [h1]
    have : 9007199254740991 * 1 ≤ 9007199254740991 * 2 ^ k := Nat.mul_le_mul_left _ h2
    omega
  rw [beq_eq_false_iff_ne]
  intro hc
  have hc := Option.some.inj hc
  rw [Int.compare_eq_gt] at hc
  omega
end Go.Proofs.YthmeocigliephaaGreatDoor.Plain
end
section
namespace Go.Proofs.YthmeocigliephaaGreatDoor.Plain
open Go.RowKit Go.Proofs.YthmeocigliephaaGreatDoorW.PrintWords
theorem bits_abs (b : Nat) (h : b < 18446744073709551616) : bits .andNot .u64 (b : Int) 9223372036854775808 = ((b % 9223372036854775808 : Nat) : Int) := by
  have h1 : (BitVec.ofInt 64 (b : Int)).toNat = b := by
    rw [BitVec.ofInt_natCast, BitVec.toNat_ofNat]; exact Nat.mod_eq_of_lt (by omega)
  have h2 : ((~~~(BitVec.ofInt 64 (9223372036854775808 : Int)) : BitVec 64)).toNat = 9223372036854775807 := by decide
  show IntKind.u64.wrap ((BitVec.ofInt 64 (b : Int) &&& ~~~(BitVec.ofInt 64 (9223372036854775808 : Int))).toNat : Int) = _
  rw [BitVec.toNat_and, h1, h2, show (9223372036854775807 : Nat) = 2 ^ 63 - 1 by decide, Nat.and_two_pow_sub_one_eq_mod, IntKind.wrap_u64]
  omega
theorem abs_law (b : Nat) (h : b < 18446744073709551616) : PNl.math_Abs.f b = some (b % 9223372036854775808) := by
  unfold PNl.math_Abs.f
  rw [bits_abs b h, Int.toNat_natCast]
theorem isInf_fin {b : Nat} (h : Fin64 b) : PNl.math_IsInf.f b 0 = some false := by
  unfold PNl.math_IsInf.f
  rw [if_pos rfl, abs_law b h.1, Option.bind_some, order_max h]
theorem isNaN_fin {b : Nat} (h : Fin64 b) : PNl.math_IsNaN.f b = some false := by
  unfold PNl.math_IsNaN.f
  rw [order_self h]; rfl
theorem bits_frac (b : Nat) (h : b < 18446744073709551616) : bits .and .u64 (b : Int) 4503599627370495 = (frac b : Int) := by
  rw [show (4503599627370495 : Int) = ((4503599627370495 : Nat) : Int) from rfl, bits_and_u64_nat b _ h (by omega), show (4503599627370495 : Nat) = 2 ^ 52 - 1 by decide, Nat.and_two_pow_sub_one_eq_mod]; rfl
theorem bits_expo (b : Nat) (h : b < 18446744073709551616) : bits .and .u64 ((b : Int) / 4503599627370496) 2047 = (expo b : Int) := by
  rw [show ((b : Int) / 4503599627370496) = ((b / 4503599627370496 : Nat) : Int) by omega, show (2047 : Int) = ((2047 : Nat) : Int) from rfl, bits_and_u64_nat _ _ (by omega) (by omega), show (2047 : Nat) = 2 ^ 11 - 1 by decide, Nat.and_two_pow_sub_one_eq_mod]; rfl
theorem bits_one (b : Nat) : bits .or .u64 (frac b : Int) 4503599627370496 = ((frac b + 4503599627370496 : Nat) : Int) := by
  have hf : frac b < 4503599627370496 := by unfold frac; omega
  rw [show (4503599627370496 : Int) = ((2 ^ 52 * 1 : Nat) : Int) from rfl, bits_or_u64_nat _ _ (by omega) (by omega), Nat.or_comm, or_add (by omega)]; omega
end Go.Proofs.YthmeocigliephaaGreatDoor.Plain
namespace Go.Proofs.YthmeocigliephaaGreatDoor.Big
open Go.Proofs.YthmeocigliephaaGreatDoor.PNa Go.Proofs.YthmeocigliephaaGreatDoor.Plain
attribute [local go_sem] f64bits_run f64from_run
def floV (b : Nat) : Int := if sgn b then -(manti b : Int) else manti b
theorem floV_natAbs (b : Nat) : (floV b).natAbs = manti b := by unfold floV; cases sgn b <;> simp
theorem of_num (b : Nat) (w : World) (hb : Fin64 b) (hL : Laid w) :
    Calls Tryz.prog 90 #[.float .f64 b] w (RetNum (mkN (floV b) (expoV b)) w) := by
  have H1 := asd (isNaN_fin hb)
  have H2 := asd (isInf_fin hb)
  have q1 := bits_frac b hb.1
  have q2 := bits_expo b hb.1
  have q3 := bits_one b
  have hex := expo_le hb
  have hml := manti_lt b
  have HV := asd (floV_natAbs b)
  have hsg : (((b : Int) / 9223372036854775808) == 1) = sgn b := by
    have := hb.1
    unfold sgn
    by_cases h : 9223372036854775808 ≤ b
    · rw [decide_eq_true h]; simp; omega
    · rw [decide_eq_false h]; simp; omega
  have HM := asd (show manti b < 18446744073709551616 by omega)
  have HSM := asd (show Short (manti b) from Short.of (k := 2) (Nat.lt_of_lt_of_le hml (by decide)) (by omega))
  have HB := asd hb
  have HL := asd hL
  have hE : -1074 ≤ expoV b ∧ expoV b ≤ 971 := by unfold expoV; split <;> omega
  have F3 := asd (show (-1000000 : Int) ≤ expoV b by omega)
  have F4 := asd (show expoV b ≤ (1000000 : Int) by omega)
  obtain ⟨s, hs⟩ : ∃ s, sgn b = s := ⟨_, rfl⟩
  rw [hs] at hsg
  obtain ⟨m, hm⟩ : ∃ m, manti b = m := ⟨_, rfl⟩
  obtain ⟨E, hEE⟩ : ∃ E, expoV b = E := ⟨_, rfl⟩
  have hfv : floV b = if s then -(m : Int) else m := by unfold floV; rw [hs, hm]
  rw [hm] at HM HSM HV hml
  rw [hEE] at F3 F4 ⊢
  rw [hfv] at HV ⊢
  by_cases h0 : expo b = 0
  · have em : frac b = m := by rw [← hm]; unfold manti; rw [if_pos h0]
    rw [em] at q1 q3
    obtain rfl : E = -1074 := by rw [← hEE]; unfold expoV; rw [if_pos h0]; rfl
    rw [h0] at q2
    clear hb hL hm hEE hfv h0 em hE hex q3 hs
    cases s
    · go_enter Tryz.func90, Tryz.ntmps90
      go_wp2_with (first
        | (go_at_call 122; refine (PNl.math_IsNaN.calls b false _ H1.out).mono ?_; rintro e1 w2 ⟨rfl, d2⟩; have B2 := asd (below_post d2.below ((Below.refl _ _).alloc (Nat.le_refl _) _)); have N2 := asd (show NumB w2 w.heap.size false (.slice none 0 0) 0 from NumB.below (blk_new _ _) d2.below); clear d2)
        | (go_at_call 43; refine (PNl.math_IsInf.calls b 0 false _ H2.out).mono ?_; rintro e1 w3 ⟨rfl, d3⟩; have B3 := asd (below_post d3.below B2.out); have N3 := asd (N2.out.below d3.below); have Z3 := asd (ZB.new' w3 false none 0 0); have lt3 := asd (blk_lt N3.out); clear d3)
        | (go_at_call 123; refine (setUint64_any _ m _ Z3.out HM.out).mono ?_; rintro e1 w4 ⟨rfl, o4, i4⟩; have N4 := asd ((N3.out.below ((Below.refl _ _).alloc (Nat.le_refl _) _)).only o4 (by have := lt3.out; omega)); have B4 := asd (below_only (B3.out.alloc B3.out.size _) o4 (B3.out.alloc B3.out.size _).size B3.out.size); have I4 := asd i4; clear o4 i4)
        | (go_at_call 124; refine (neg_any _ _ m _ I4.out.z I4.out).mono ?_; rintro e1 w5 ⟨rfl, o5, i5⟩; have N5 := N4.out.only o5 (by have := lt3.out; omega); have B5 := below_only B4.out o5 B4.out.size B3.out.size; clear N4 B4 I4; have N4 := asd N5; have B4 := asd B5; have I4 := asd i5; clear o5 i5 N5 B5)
        | (go_at_call 103; refine (num_any _ _ _ _ I4.out (by have := HV.out; simpa using HSM.out) (HL.out.step B4.out) F3.out F4.out).mono ?_; rintro e1 w9 ⟨u, rfl, r9, b9⟩; obtain ⟨Au, cu, hu⟩ := Kd.R_slice r9; subst hu; have N9 := N4.out.below b9; have p0 := N9.c0; have p1 := N9.c1; have p2 := N9.c2; have p3 := N9.fr 0; have p4 := N9.fr 1; have p5 := N9.fr 2; have R9 := asd r9; have B9 := asd (below_post b9 B4.out); have lt9 := asd (blk_lt N4.out); clear b9 r9 N9))
      refine bodyPost_ret (v := .tuple #[.agg #[.bool (mkN (m : Int) (-1074)).1, .slice Au (mkN (m : Int) (-1074)).2.1.length cu, .int .i64 (mkN (m : Int) (-1074)).2.2.1], .int .i64 (mkN (m : Int) (-1074)).2.2.2]) (by simp [results, Tryz.results90, go_sem, p0, p1, p2, p3, p4, p5]) rfl ?_
      have l9 := lt9.out
      exact ⟨_, rfl, Kd.R_lower (r_set (r_set (r_set R9.out _ (by simpa using l9) _) _ (by simpa using l9) _) _ (by simpa using l9) _) B4.out.size, ((B9.out.setCell (by simp) _).setCell (by simp) _).setCell (by simp) _⟩
    · go_enter Tryz.func90, Tryz.ntmps90
      go_wp2_with (first
        | (go_at_call 122; refine (PNl.math_IsNaN.calls b false _ H1.out).mono ?_; rintro e1 w2 ⟨rfl, d2⟩; have B2 := asd (below_post d2.below ((Below.refl _ _).alloc (Nat.le_refl _) _)); have N2 := asd (show NumB w2 w.heap.size false (.slice none 0 0) 0 from NumB.below (blk_new _ _) d2.below); clear d2)
        | (go_at_call 43; refine (PNl.math_IsInf.calls b 0 false _ H2.out).mono ?_; rintro e1 w3 ⟨rfl, d3⟩; have B3 := asd (below_post d3.below B2.out); have N3 := asd (N2.out.below d3.below); have Z3 := asd (ZB.new' w3 false none 0 0); have lt3 := asd (blk_lt N3.out); clear d3)
        | (go_at_call 123; refine (setUint64_any _ m _ Z3.out HM.out).mono ?_; rintro e1 w4 ⟨rfl, o4, i4⟩; have N4 := asd ((N3.out.below ((Below.refl _ _).alloc (Nat.le_refl _) _)).only o4 (by have := lt3.out; omega)); have B4 := asd (below_only (B3.out.alloc B3.out.size _) o4 (B3.out.alloc B3.out.size _).size B3.out.size); have I4 := asd i4; clear o4 i4)
        | (go_at_call 124; refine (neg_any _ _ m _ I4.out.z I4.out).mono ?_; rintro e1 w5 ⟨rfl, o5, i5⟩; have N5 := N4.out.only o5 (by have := lt3.out; omega); have B5 := below_only B4.out o5 B4.out.size B3.out.size; clear N4 B4 I4; have N4 := asd N5; have B4 := asd B5; have I4 := asd i5; clear o5 i5 N5 B5)
        | (go_at_call 103; refine (num_any _ _ _ _ I4.out (by have := HV.out; simpa using HSM.out) (HL.out.step B4.out) F3.out F4.out).mono ?_; rintro e1 w9 ⟨u, rfl, r9, b9⟩; obtain ⟨Au, cu, hu⟩ := Kd.R_slice r9; subst hu; have N9 := N4.out.below b9; have p0 := N9.c0; have p1 := N9.c1; have p2 := N9.c2; have p3 := N9.fr 0; have p4 := N9.fr 1; have p5 := N9.fr 2; have R9 := asd r9; have B9 := asd (below_post b9 B4.out); have lt9 := asd (blk_lt N4.out); clear b9 r9 N9))
      refine bodyPost_ret (v := .tuple #[.agg #[.bool (mkN (-(m : Int)) (-1074)).1, .slice Au (mkN (-(m : Int)) (-1074)).2.1.length cu, .int .i64 (mkN (-(m : Int)) (-1074)).2.2.1], .int .i64 (mkN (-(m : Int)) (-1074)).2.2.2]) (by simp [results, Tryz.results90, go_sem, p0, p1, p2, p3, p4, p5]) rfl ?_
      have l9 := lt9.out
      exact ⟨_, rfl, Kd.R_lower (r_set (r_set (r_set R9.out _ (by simpa using l9) _) _ (by simpa using l9) _) _ (by simpa using l9) _) B4.out.size, ((B9.out.setCell (by simp) _).setCell (by simp) _).setCell (by simp) _⟩
  · have em : frac b + 4503599627370496 = m := by rw [← hm]; unfold manti; rw [if_neg h0]
    rw [em] at q3
    have eE : (expo b : Int) - 1075 = E := by rw [← hEE]; unfold expoV; rw [if_neg h0]
    have ex0 : (expo b : Int) ≤ 2046 := by omega
    have ex1 : (0 : Int) ≤ (expo b : Int) := by omega
    have ext : ((expo b : Int) == 0) = false := by simp; omega
    clear hb hL hm hEE hfv h0 em hE hex hs
    cases s
    · go_enter Tryz.func90, Tryz.ntmps90
      go_wp2_with (first
        | (go_at_call 122; refine (PNl.math_IsNaN.calls b false _ H1.out).mono ?_; rintro e1 w2 ⟨rfl, d2⟩; have B2 := asd (below_post d2.below ((Below.refl _ _).alloc (Nat.le_refl _) _)); have N2 := asd (show NumB w2 w.heap.size false (.slice none 0 0) 0 from NumB.below (blk_new _ _) d2.below); clear d2)
        | (go_at_call 43; refine (PNl.math_IsInf.calls b 0 false _ H2.out).mono ?_; rintro e1 w3 ⟨rfl, d3⟩; have B3 := asd (below_post d3.below B2.out); have N3 := asd (N2.out.below d3.below); have Z3 := asd (ZB.new' w3 false none 0 0); have lt3 := asd (blk_lt N3.out); clear d3)
        | (go_at_call 123; refine (setUint64_any _ m _ Z3.out HM.out).mono ?_; rintro e1 w4 ⟨rfl, o4, i4⟩; have N4 := asd ((N3.out.below ((Below.refl _ _).alloc (Nat.le_refl _) _)).only o4 (by have := lt3.out; omega)); have B4 := asd (below_only (B3.out.alloc B3.out.size _) o4 (B3.out.alloc B3.out.size _).size B3.out.size); have I4 := asd i4; clear o4 i4)
        | (go_at_call 124; refine (neg_any _ _ m _ I4.out.z I4.out).mono ?_; rintro e1 w5 ⟨rfl, o5, i5⟩; have N5 := N4.out.only o5 (by have := lt3.out; omega); have B5 := below_only B4.out o5 B4.out.size B3.out.size; clear N4 B4 I4; have N4 := asd N5; have B4 := asd B5; have I4 := asd i5; clear o5 i5 N5 B5)
        | (go_at_call 103; refine (num_any _ _ _ _ I4.out (by have := HV.out; simpa using HSM.out) (HL.out.step B4.out) F3.out F4.out).mono ?_; rintro e1 w9 ⟨u, rfl, r9, b9⟩; obtain ⟨Au, cu, hu⟩ := Kd.R_slice r9; subst hu; have N9 := N4.out.below b9; have p0 := N9.c0; have p1 := N9.c1; have p2 := N9.c2; have p3 := N9.fr 0; have p4 := N9.fr 1; have p5 := N9.fr 2; have R9 := asd r9; have B9 := asd (below_post b9 B4.out); have lt9 := asd (blk_lt N4.out); clear b9 r9 N9))
      refine bodyPost_ret (v := .tuple #[.agg #[.bool (mkN (m : Int) E).1, .slice Au (mkN (m : Int) E).2.1.length cu, .int .i64 (mkN (m : Int) E).2.2.1], .int .i64 (mkN (m : Int) E).2.2.2]) (by simp [results, Tryz.results90, go_sem, p0, p1, p2, p3, p4, p5]) rfl ?_
      have l9 := lt9.out
      exact ⟨_, rfl, Kd.R_lower (r_set (r_set (r_set R9.out _ (by simpa using l9) _) _ (by simpa using l9) _) _ (by simpa using l9) _) B4.out.size, ((B9.out.setCell (by simp) _).setCell (by simp) _).setCell (by simp) _⟩
    · go_enter Tryz.func90, Tryz.ntmps90
      go_wp2_with (first
        | (go_at_call 122; refine (PNl.math_IsNaN.calls b false _ H1.out).mono ?_; rintro e1 w2 ⟨rfl, d2⟩; have B2 := asd (below_post d2.below ((Below.refl _ _).alloc (Nat.le_refl _) _)); have N2 := asd (show NumB w2 w.heap.size false (.slice none 0 0) 0 from NumB.below (blk_new _ _) d2.below); clear d2)
        | (go_at_call 43; refine (PNl.math_IsInf.calls b 0 false _ H2.out).mono ?_; rintro e1 w3 ⟨rfl, d3⟩; have B3 := asd (below_post d3.below B2.out); have N3 := asd (N2.out.below d3.below); have Z3 := asd (ZB.new' w3 false none 0 0); have lt3 := asd (blk_lt N3.out); clear d3)
        | (go_at_call 123; refine (setUint64_any _ m _ Z3.out HM.out).mono ?_; rintro e1 w4 ⟨rfl, o4, i4⟩; have N4 := asd ((N3.out.below ((Below.refl _ _).alloc (Nat.le_refl _) _)).only o4 (by have := lt3.out; omega)); have B4 := asd (below_only (B3.out.alloc B3.out.size _) o4 (B3.out.alloc B3.out.size _).size B3.out.size); have I4 := asd i4; clear o4 i4)
        | (go_at_call 124; refine (neg_any _ _ m _ I4.out.z I4.out).mono ?_; rintro e1 w5 ⟨rfl, o5, i5⟩; have N5 := N4.out.only o5 (by have := lt3.out; omega); have B5 := below_only B4.out o5 B4.out.size B3.out.size; clear N4 B4 I4; have N4 := asd N5; have B4 := asd B5; have I4 := asd i5; clear o5 i5 N5 B5)
        | (go_at_call 103; refine (num_any _ _ _ _ I4.out (by have := HV.out; simpa using HSM.out) (HL.out.step B4.out) F3.out F4.out).mono ?_; rintro e1 w9 ⟨u, rfl, r9, b9⟩; obtain ⟨Au, cu, hu⟩ := Kd.R_slice r9; subst hu; have N9 := N4.out.below b9; have p0 := N9.c0; have p1 := N9.c1; have p2 := N9.c2; have p3 := N9.fr 0; have p4 := N9.fr 1; have p5 := N9.fr 2; have R9 := asd r9; have B9 := asd (below_post b9 B4.out); have lt9 := asd (blk_lt N4.out); clear b9 r9 N9))
      refine bodyPost_ret (v := .tuple #[.agg #[.bool (mkN (-(m : Int)) E).1, .slice Au (mkN (-(m : Int)) E).2.1.length cu, .int .i64 (mkN (-(m : Int)) E).2.2.1], .int .i64 (mkN (-(m : Int)) E).2.2.2]) (by simp [results, Tryz.results90, go_sem, p0, p1, p2, p3, p4, p5]) rfl ?_
      have l9 := lt9.out
      exact ⟨_, rfl, Kd.R_lower (r_set (r_set (r_set R9.out _ (by simpa using l9) _) _ (by simpa using l9) _) _ (by simpa using l9) _) B4.out.size, ((B9.out.setCell (by simp) _).setCell (by simp) _).setCell (by simp) _⟩
end Go.Proofs.YthmeocigliephaaGreatDoor.Big
end
section
namespace Go.Proofs.YthmeocigliephaaGreatDoor.Plain
open Go.RowKit Go.Proofs.YthmeocigliephaaGreatDoorW.PrintWords
open Ieee
theorem infle (A M : Nat) (h : A ≤ 2045) (hM : M < 9007199254740992) : A * 4503599627370496 + M ≤ 9218868437227405312 := by omega
theorem cut_zero (n : Nat) : Toward.even.cut false n 0 = n := by
  unfold Toward.cut
  simp [Nat.mod_one]
theorem cut_exact (m j : Nat) (hj : j ≤ (m * 2 ^ j).log2 + 2) : Toward.even.cut false (m * 2 ^ j) j = m := by
  unfold Toward.cut
  simp only
  rw [Nat.min_eq_left hj, Nat.one_shiftLeft, Nat.mul_div_cancel _ (Nat.pow_pos (by omega)), Nat.mul_mod_left]
  have : 0 < 2 ^ j := Nat.pow_pos (by omega)
  have h1 : decide (2 ^ j < 2 * 0) = false := by simp
  have h2 : (2 ^ j == 2 * 0) = false := by simp
  rw [h1, h2]; rfl
theorem log2_eq {n k : Nat} (h1 : 2 ^ k ≤ n) (h2 : n < 2 ^ (k + 1)) : n.log2 = k := by
  have h := bl_unique h1 h2
  have : n ≠ 0 := by have := Nat.pow_pos (n := k) (show 0 < 2 by omega); omega
  rw [bl_pos this] at h; omega
theorem nearest_norm (M : Nat) (p : Int) (k : Nat) (hM : 2 ^ 52 ≤ M) (hM2 : M < 2 ^ 53) (hp : -1074 ≤ p) (hp2 : p ≤ 971) : double.nearest false (M * 2 ^ k) (p - k) = (p + 1074).toNat * 4503599627370496 + M := by
  unfold Format.nearest
  have hk : 0 < 2 ^ k := Nat.pow_pos (by omega)
  have hne : M * 2 ^ k ≠ 0 := by have := Nat.mul_pos (show 0 < M by omega) hk; omega
  have hl : (M * 2 ^ k).log2 = 52 + k := log2_eq (by rw [Nat.pow_add]; exact Nat.mul_le_mul_right _ hM) (by rw [show 52 + k + 1 = 53 + k by omega, Nat.pow_add]; exact Nat.mul_lt_mul_of_pos_right hM2 hk)
  rw [if_neg hne]
  simp only [hl, lp, bn]
  have e1 : max (p - (k : Int) + ((52 + k : Nat) : Int) - (double.fractionBits : Int)) (-1074) = p := by
    have : (double.fractionBits : Int) = 52 := rfl
    rw [this]; omega
  rw [e1, show (p - (k : Int) - p).toNat = 0 by omega, show (p - (p - (k : Int))).toNat = k by omega, Nat.shiftLeft_zero, cut_exact M k (by rw [hl]; omega)]
  unfold Format.word
  simp only [Bool.false_eq_true, if_false]
  rw [show (p - -1074).toNat = (p + 1074).toNat by congr 1]
  exact Nat.min_eq_left (by rw [ir]; exact infle _ _ (by omega) hM2)
theorem floatOf_pos {m : Nat} (h0 : m ≠ 0) (h1 : m < 2 ^ 53) : floatOfInt .f64 (m : Int) = (m.log2 + 1022) * 4503599627370496 + m * 2 ^ (52 - m.log2) := by
  have hL : m.log2 ≤ 52 := by have := (Nat.log2_lt h0).2 h1; omega
  have hl1 := Nat.log2_self_le h0
  have hl2 := Nat.lt_log2_self (n := m)
  show double.nearest (decide ((m : Int) < 0)) (m : Int).natAbs 0 = _
  rw [decide_eq_false (by omega), Int.natAbs_natCast]
  unfold Format.nearest
  rw [if_neg h0]
  simp only [lp, bn]
  have e1 : max (0 + (m.log2 : Int) - (double.fractionBits : Int)) (-1074) = (m.log2 : Int) - 52 := by
    have : (double.fractionBits : Int) = 52 := rfl
    rw [this]; omega
  rw [e1, show (0 - ((m.log2 : Int) - 52)).toNat = 52 - m.log2 by omega, show (((m.log2 : Int) - 52) - 0).toNat = 0 by omega, cut_zero, Nat.shiftLeft_eq]
  unfold Format.word
  simp only [Bool.false_eq_true, if_false]
  rw [show ((m.log2 : Int) - 52 - -1074).toNat = m.log2 + 1022 by omega]
  have h3 : m * 2 ^ (52 - m.log2) < 2 ^ (m.log2 + 1) * 2 ^ (52 - m.log2) := Nat.mul_lt_mul_of_pos_right hl2 (Nat.pow_pos (by omega))
  rw [← Nat.pow_add, show m.log2 + 1 + (52 - m.log2) = 53 by omega] at h3
  exact Nat.min_eq_left (by rw [ir]; exact infle _ _ (by omega) h3)
theorem norm_range {m : Nat} (h0 : m ≠ 0) (h1 : m < 2 ^ 53) : 2 ^ 52 ≤ m * 2 ^ (52 - m.log2) ∧ m * 2 ^ (52 - m.log2) < 2 ^ 53 := by
  have hL : m.log2 ≤ 52 := by have := (Nat.log2_lt h0).2 h1; omega
  have hl1 := Nat.log2_self_le h0
  have hl2 := Nat.lt_log2_self (n := m)
  constructor
  · have := Nat.mul_le_mul_right (2 ^ (52 - m.log2)) hl1
    rwa [← Nat.pow_add, show m.log2 + (52 - m.log2) = 52 by omega] at this
  · have h3 : m * 2 ^ (52 - m.log2) < 2 ^ (m.log2 + 1) * 2 ^ (52 - m.log2) := Nat.mul_lt_mul_of_pos_right hl2 (Nat.pow_pos (by omega))
    rwa [← Nat.pow_add, show m.log2 + 1 + (52 - m.log2) = 53 by omega] at h3
theorem word_facts (E M : Nat) (hE : 1 ≤ E) (hE2 : E ≤ 2046) (hM : 2 ^ 52 ≤ M) (hM2 : M < 2 ^ 53) :
    Fin64 ((E - 1) * 4503599627370496 + M) ∧ expo ((E - 1) * 4503599627370496 + M) = E ∧ manti ((E - 1) * 4503599627370496 + M) = M ∧ sgn ((E - 1) * 4503599627370496 + M) = false ∧ expoV ((E - 1) * 4503599627370496 + M) = E - 1075 := by
  have hb : (E - 1) * 4503599627370496 ≤ 2045 * 4503599627370496 := Nat.mul_le_mul_right _ (by omega)
  have he : expo ((E - 1) * 4503599627370496 + M) = E := by unfold expo; omega
  refine ⟨⟨by omega, by omega⟩, he, ?_, ?_, ?_⟩
  · unfold manti frac; rw [he, if_neg (by omega)]; omega
  · unfold sgn; exact decide_eq_false (by omega)
  · unfold expoV; rw [he, if_neg (by omega)]
theorem mul_words (a b : Nat) (ha : Fin64 a) (hb : Fin64 b) (hsa : sgn a = false) (hsb : sgn b = false) : floatBits .mul .f64 a b = some (double.nearest false (manti a * manti b) (expoV a + expoV b)) := by
  show double.mul a b = _
  unfold Format.mul
  rw [read_fin ha, read_fin hb, hsa, hsb]
  rfl
theorem order_pos (a b : Nat) (ha : Fin64 a) (hb : Fin64 b) (hsa : sgn a = false) (hsb : sgn b = false) :
    FloatKind.f64.format.order a b = some (compare ((manti a * 2 ^ (expoV a - min (expoV a) (expoV b)).toNat : Nat) : Int) ((manti b * 2 ^ (expoV b - min (expoV a) (expoV b)).toNat : Nat) : Int)) := by
  show double.order a b = _
  unfold Format.order
  rw [read_fin ha, read_fin hb, hsa, hsb]
  unfold Datum.order
  simp only
  unfold signed
  simp only [Bool.false_eq_true, if_false, Nat.shiftLeft_eq]
theorem bits_and_i64_2047 (e : Nat) (h : e < 2048) : bits .and .i64 (e : Int) 2047 = (e : Int) := by
  have h1 : (BitVec.ofInt 64 (e : Int)).toNat = e := by
    rw [BitVec.ofInt_natCast, BitVec.toNat_ofNat]; exact Nat.mod_eq_of_lt (by omega)
  have h2 : (BitVec.ofInt 64 (2047 : Int)).toNat = 2047 := by decide
  show IntKind.i64.wrap ((BitVec.ofInt 64 (e : Int) &&& BitVec.ofInt 64 (2047 : Int)).toNat : Int) = _
  rw [BitVec.toNat_and, h1, h2, show (2047 : Nat) = 2 ^ 11 - 1 by decide, Nat.and_two_pow_sub_one_eq_mod, IntKind.wrap_i64]
  omega
theorem bits_mask (E M : Nat) (hE : E ≤ 2047) (hM : 2 ^ 52 ≤ M) (hM2 : M < 2 ^ 53) (hE1 : 1 ≤ E) : bits .andNot .u64 ((((E - 1) * 4503599627370496 + M : Nat)) : Int) 9218868437227405312 = ((M - 4503599627370496 : Nat) : Int) := by
  generalize hb : (E - 1) * 4503599627370496 + M = b
  have hlt : b < 9223372036854775808 := by omega
  have h1 : (BitVec.ofInt 64 (b : Int)).toNat = b := by
    rw [BitVec.ofInt_natCast, BitVec.toNat_ofNat]; exact Nat.mod_eq_of_lt (by omega)
  have hx : (~~~(BitVec.ofInt 64 (9218868437227405312 : Int)) : BitVec 64) = BitVec.ofNat 64 (2 ^ 63) ||| BitVec.ofNat 64 (2 ^ 52 - 1) := by decide
  show IntKind.u64.wrap ((BitVec.ofInt 64 (b : Int) &&& ~~~(BitVec.ofInt 64 (9218868437227405312 : Int))).toNat : Int) = _
  rw [hx, BitVec.toNat_and, h1, BitVec.toNat_or, Nat.and_or_distrib_left]
  have e1 : (BitVec.ofNat 64 (2 ^ 63)).toNat = 2 ^ 63 := by decide
  have e2 : (BitVec.ofNat 64 (2 ^ 52 - 1)).toNat = 2 ^ 52 - 1 := by decide
  rw [e1, e2, Nat.and_two_pow_sub_one_eq_mod]
  have e3 : b &&& 2 ^ 63 = 0 := by
    have h63 : b = b &&& (2 ^ 63 - 1) := by rw [Nat.and_two_pow_sub_one_eq_mod, Nat.mod_eq_of_lt (by omega)]
    rw [h63, Nat.and_assoc, show ((2 ^ 63 - 1) &&& 2 ^ 63 : Nat) = 0 by decide, Nat.and_zero]
  rw [e3, Nat.zero_or, IntKind.wrap_u64]
  omega
def bitsOf (m : Nat) (last : Int) : Nat := (last + 1074).toNat * 4503599627370496 + m
theorem normalize_pos (b : Nat) (E M : Nat) (hb : b = (E - 1) * 4503599627370496 + M) (hE : 1 ≤ E) (hE2 : E ≤ 2046) (hM : 2 ^ 52 ≤ M) (hM2 : M < 2 ^ 53) : PNl.math_normalize.f b = some (b, 0) := by
  obtain ⟨f1, f2, f3, f4, f5⟩ := word_facts E M hE hE2 hM hM2
  rw [← hb] at f1 f2 f3 f4 f5
  have hlt : b < 9223372036854775808 := by unfold sgn at f4; have := of_decide_eq_false f4; omega
  unfold PNl.math_normalize.f
  rw [abs_law b f1.1, Option.bind_some, Nat.mod_eq_of_lt hlt]
  have ho := order_pos b 4503599627370496 f1 ⟨by omega, by omega⟩ f4 (by decide)
  have hc : (FloatKind.f64.format.order b 4503599627370496 == some .lt) = false := by
    rw [ho, f3, f5, show manti 4503599627370496 = 4503599627370496 by decide, show expoV 4503599627370496 = -1074 by decide, show min ((E : Int) - 1075) (-1074) = -1074 by omega]
    rw [beq_eq_false_iff_ne]
    intro h
    have h := Option.some.inj h
    rw [Int.compare_eq_lt] at h
    have hp : 0 < 2 ^ ((E : Int) - 1075 - -1074).toNat := Nat.pow_pos (by omega)
    have hle : M * 1 ≤ M * 2 ^ ((E : Int) - 1075 - -1074).toNat := Nat.mul_le_mul_left _ hp
    rw [show (-1074 - -1074 : Int).toNat = 0 from rfl, Nat.pow_zero, Nat.mul_one] at h
    have h52 : (2 : Nat) ^ 52 = 4503599627370496 := by decide
    generalize M * 2 ^ ((E : Int) - 1075 - -1074).toNat = Q at h hle
    omega
  rw [if_neg (by rw [hc]; decide)]
theorem order_zero_pos (b : Nat) (hb : Fin64 b) (hs : sgn b = false) (hm : manti b ≠ 0) : (FloatKind.f64.format.order b 0 == some .eq) = false := by
  rw [order_pos b 0 hb ⟨by omega, by omega⟩ hs (by decide), beq_eq_false_iff_ne]
  intro h
  have h := Option.some.inj h
  rw [Int.compare_eq_eq, show manti 0 = 0 by decide] at h
  have hp : 0 < 2 ^ (expoV b - min (expoV b) (expoV 0)).toNat := Nat.pow_pos (by omega)
  have := Nat.mul_pos (show 0 < manti b by omega) hp
  omega
theorem nearest_sub (m k : Nat) (h0 : m ≠ 0) (hm : m < 2 ^ 52) : double.nearest false (m * 2 ^ k) (-1074 - k) = m := by
  unfold Format.nearest
  have hk : 0 < 2 ^ k := Nat.pow_pos (by omega)
  have hL : m.log2 < 52 := (Nat.log2_lt h0).2 hm
  have hl1 := Nat.log2_self_le h0
  have hl2 := Nat.lt_log2_self (n := m)
  have hne : m * 2 ^ k ≠ 0 := by have := Nat.mul_pos (show 0 < m by omega) hk; omega
  have hl : (m * 2 ^ k).log2 = m.log2 + k := log2_eq (by rw [Nat.pow_add]; exact Nat.mul_le_mul_right _ hl1) (by rw [show m.log2 + k + 1 = m.log2 + 1 + k by omega, Nat.pow_add]; exact Nat.mul_lt_mul_of_pos_right hl2 hk)
  rw [if_neg hne]
  simp only [hl, lp, bn]
  have e1 : max (-1074 - (k : Int) + ((m.log2 + k : Nat) : Int) - (double.fractionBits : Int)) (-1074) = -1074 := by
    have : (double.fractionBits : Int) = 52 := rfl
    rw [this]; omega
  rw [e1, show (-1074 - (k : Int) - -1074).toNat = 0 by omega, show (-1074 - (-1074 - (k : Int))).toNat = k by omega, Nat.shiftLeft_zero, cut_exact m k (by rw [hl]; omega)]
  unfold Format.word
  simp only [Bool.false_eq_true, if_false]
  rw [show (-1074 - -1074 : Int).toNat = 0 from rfl, Nat.zero_mul, Nat.zero_add]
  exact Nat.min_eq_left (by rw [ir]; omega)
theorem join_word (b E M : Nat) (hmask : bits .andNot .u64 (b : Int) 9218868437227405312 = ((M - 4503599627370496 : Nat) : Int)) (hE : 1 ≤ E) (hE2 : E ≤ 2046) (hM : 2 ^ 52 ≤ M) (hM2 : M < 2 ^ 53) (t : Int) (ht : t = E) :
    (bits .or .u64 (bits .andNot .u64 (b : Int) 9218868437227405312) (IntKind.u64.wrap (IntKind.u64.wrap t * 4503599627370496)) : Int).toNat = (E - 1) * 4503599627370496 + M := by
  subst ht
  have h52 : (2 : Nat) ^ 52 = 4503599627370496 := by decide
  rw [hmask, u64_of (x := (E : Int)) (by omega) (by omega), u64_of (by omega) (by omega), show (E : Int) * 4503599627370496 = ((2 ^ 52 * E : Nat) : Int) by rw [h52]; omega, bits_or_u64_nat _ _ (by omega) (by omega), Nat.or_comm, or_add (by omega), Int.toNat_natCast]
  omega
structure Hide (p : Prop) : Prop where mk :: (out : p)
theorem up_104 (m M L : Nat) (hM : m * 2 ^ (52 - L) = M) (hL : L ≤ 52) : 4503599627370496 * M = m * 2 ^ (104 - L) := by
  have hp : 2 ^ (52 - L) * 2 ^ 52 = 2 ^ (104 - L) := by rw [← Nat.pow_add, show 52 - L + 52 = 104 - L by omega]
  have h52 : (2 : Nat) ^ 52 = 4503599627370496 := by decide
  rw [← hM, ← hp, h52, Nat.mul_comm 4503599627370496, Nat.mul_assoc]
theorem ldexp_law (m : Nat) (last : Int) (hm : m < 2 ^ 53) (hc : 2 ^ 52 ≤ m ∨ last = -1074) (h1 : -1074 ≤ last) (h2 : (bl m : Int) + last ≤ 1024) :
    PNl.math_Ldexp.f (floatOfInt .f64 (m : Int)) last = some (bitsOf m last) := by
  unfold PNl.math_Ldexp.f PNl.math_ldexp.f
  by_cases h0 : m = 0
  · subst h0
    obtain rfl : last = -1074 := by omega
    have e : floatOfInt .f64 ((0 : Nat) : Int) = 0 := by decide
    rw [e]
    have ho : (FloatKind.f64.format.order 0 0 == some .eq) = true := by rw [order_self ⟨by omega, by omega⟩]; rfl
    rw [if_pos ho]; rfl
  · have hL : m.log2 ≤ 52 := by have := (Nat.log2_lt h0).2 hm; omega
    obtain ⟨n1, n2⟩ := norm_range h0 hm
    rw [bl_pos h0] at h2
    rw [floatOf_pos h0 hm]
    obtain ⟨M, hM⟩ : ∃ M, m * 2 ^ (52 - m.log2) = M := ⟨_, rfl⟩
    rw [hM] at n1 n2 ⊢
    obtain ⟨L, hLL⟩ : ∃ L, m.log2 = L := ⟨_, rfl⟩
    rw [hLL] at hL h2 hM ⊢
    obtain ⟨b, hb⟩ : ∃ b, (L + 1022) * 4503599627370496 + M = b := ⟨_, rfl⟩
    rw [hb]
    have hb' : b = (L + 1023 - 1) * 4503599627370496 + M := by rw [← hb, show L + 1023 - 1 = L + 1022 from rfl]
    obtain ⟨f1, f2, f3, f4, f5⟩ := word_facts (L + 1023) M (by omega) (by omega) n1 n2
    rw [← hb'] at f1 f2 f3 f4 f5
    have hlt : b < 9223372036854775808 := by unfold sgn at f4; have := of_decide_eq_false f4; omega
    have hdiv : b / 4503599627370496 = L + 1023 := by unfold expo at f2; omega
    have kl1 : L + 1023 ≤ 2047 := by omega
    have kl2 : 1 ≤ L + 1023 := by omega
    have ez := order_zero_pos b f1 f4 (by rw [f3]; have h52 : (2 : Nat) ^ 52 = 4503599627370496 := (by decide); omega)
    rw [if_neg (by rw [ez]; decide), isInf_fin f1, Option.bind_some, if_neg (by decide), isNaN_fin f1, Option.bind_some, if_neg (by decide), normalize_pos b (L + 1023) M hb' (by omega) (by omega) n1 n2, Option.bind_some]
    simp only []
    have k1 : ¬ (last + (L : Int) < -1075) := by omega
    have k2 : ¬ (last + (L : Int) > 1023) := by omega
    have ex : wrap64 (wrap64 (last + 0) + wrap64 (bits .and .i64 (wrap64 ((b : Int) / 4503599627370496)) 2047 - 1023)) = last + L := by
      rw [show ((b : Int) / 4503599627370496) = ((L + 1023 : Nat) : Int) by omega, w64_nat (by omega), bits_and_i64_2047 _ (by omega), w64_of (x := last + 0) (by omega) (by omega), w64_of (x := ((L + 1023 : Nat) : Int) - 1023) (by omega) (by omega), w64_of (by omega) (by omega)]
      omega
    rw [ex, if_neg k1, if_neg k2]
    clear ex k1 k2
    have h52 : (2 : Nat) ^ 52 = 4503599627370496 := by decide
    by_cases hsub : last + L < -1022
    · rw [if_pos hsub]
      obtain ⟨E1, hE1⟩ : ∃ E1 : Nat, last + L + 1076 = (E1 : Int) := ⟨(last + L + 1076).toNat, by omega⟩
      have j1 : 1 ≤ E1 := by omega
      have j2 : E1 ≤ 2046 := by omega
      have ew : wrap64 (wrap64 (last + L + 53) + 1023) = (E1 : Int) := by rw [w64_of (x := last + L + 53) (by omega) (by omega), w64_of (by omega) (by omega)]; omega
      rw [join_word b E1 M (by rw [hb']; exact bits_mask (L + 1023) M kl1 n1 n2 kl2) j1 j2 n1 n2 _ ew]
      clear ew
      obtain ⟨g1, g2, g3, g4, g5⟩ := word_facts E1 M j1 j2 n1 n2
      have hml := mul_words 4368491638549381120 _ ⟨by decide, by decide⟩ g1 (by decide) g4
      rw [show manti 4368491638549381120 = 4503599627370496 by decide, show expoV 4368491638549381120 = -105 by decide, g3, g5] at hml
      replace hml := Hide.mk hml
      clear g1 g2 g3 g4 g5 f1 f2 f3 f4 f5 ez hb'
      have hlast : last = -1074 := by
        rcases hc with h | h
        · have : 52 ≤ m.log2 := (Nat.le_log2 h0).2 h
          omega
        · exact h
      have hm52 : m < 2 ^ 52 := by
        have : m.log2 < 52 := by omega
        exact (Nat.log2_lt h0).1 this
      have hn : double.nearest false (4503599627370496 * M) (-105 + ((E1 : Int) - 1075)) = m := by
        have e2 : (-105 + ((E1 : Int) - 1075)) = -1074 - ((104 - L : Nat) : Int) := by omega
        rw [up_104 m M L hM hL, e2]
        exact nearest_sub m _ h0 hm52
      have hml := hml.out
      rw [hn] at hml
      rw [hml]
      simp only [Option.isSome_some, if_true, Option.getD_some, Option.bind_some]
      unfold bitsOf
      rw [hlast]; simp
    · rw [if_neg hsub]
      have hL52 : L = 52 := by
        rcases hc with h | h
        · have : 52 ≤ m.log2 := (Nat.le_log2 h0).2 h
          omega
        · omega
      obtain ⟨E2, hE2⟩ : ∃ E2 : Nat, last + L + 1023 = (E2 : Int) := ⟨(last + L + 1023).toNat, by omega⟩
      have j1 : 1 ≤ E2 := by omega
      have j2 : E2 ≤ 2046 := by omega
      have ew : wrap64 (last + L + 1023) = (E2 : Int) := by rw [w64_of (by omega) (by omega)]; omega
      rw [join_word b E2 M (by rw [hb']; exact bits_mask (L + 1023) M kl1 n1 n2 kl2) j1 j2 n1 n2 _ ew]
      clear ew
      obtain ⟨g1, g2, g3, g4, g5⟩ := word_facts E2 M j1 j2 n1 n2
      have hml := mul_words 4607182418800017408 _ ⟨by decide, by decide⟩ g1 (by decide) g4
      rw [show manti 4607182418800017408 = 4503599627370496 by decide, show expoV 4607182418800017408 = -52 by decide, g3, g5] at hml
      replace hml := Hide.mk hml
      clear g1 g2 g3 g4 g5 f1 f2 f3 f4 f5 ez hb'
      have hMm : M = m := by rw [← hM, hL52]; simp
      have hn : double.nearest false (4503599627370496 * M) (-52 + ((E2 : Int) - 1075)) = bitsOf m last := by
        have := nearest_norm M last 52 n1 n2 h1 (by omega)
        rw [h52] at this
        rw [Nat.mul_comm, show (-52 + ((E2 : Int) - 1075)) = last - ((52 : Nat) : Int) by omega, this, hMm]; rfl
      have hml := hml.out
      rw [hn] at hml
      rw [hml]
      simp only [Option.isSome_some, if_true, Option.getD_some, Option.bind_some]
end Go.Proofs.YthmeocigliephaaGreatDoor.Plain
end
section
namespace Go.Proofs.YthmeocigliephaaGreatDoor.Plain
open Go.RowKit
def infB : Nat := 9218868437227405312
def tailV (m : Nat) (l : Int) : Nat :=
  if 53 < bl m then (if 1024 < (bl (m / 2) : Int) + (l + 1) then infB else bitsOf (m / 2) (l + 1))
  else if 1024 < (bl m : Int) + l then infB else bitsOf m l
def incV (n K : Nat) (up near : Bool) : Bool :=
  (up && decide (n % 2 ^ K ≠ 0)) || (near && (decide (2 ^ (K - 1) < n % 2 ^ K) || (decide (n % 2 ^ K = 2 ^ (K - 1)) && decide (n / 2 ^ K % 2 = 1))))
def lastV (t : Int) : Int := if t - 53 < -1074 then -1074 else t - 53
def magV (n : Nat) (e : Int) (up near : Bool) : Nat :=
  if 1024 < (bl n : Int) + e then (if (up || near) = true then infB else 9218868437227405311)
  else if (bl n : Int) + e < -1075 then (if up = true then 1 else 0)
  else if lastV (bl n + e) ≤ e then tailV (n * 2 ^ (e - lastV (bl n + e)).toNat) (lastV (bl n + e))
  else tailV (n / 2 ^ (lastV (bl n + e) - e).toNat + if incV n (lastV (bl n + e) - e).toNat up near = true then 1 else 0) (lastV (bl n + e))
theorem cmp3 (u v : Nat) : Big.cmpI (u : Int) (v : Int) = if v < u then 1 else if u = v then 0 else -1 := by
  unfold Big.cmpI
  split <;> split <;> (try split) <;> omega
theorem inc_law (n K1 : Nat) (up near : Bool) : ((up && (((n % 2 ^ (K1 + 1) : Nat) : Int).sign != 0)) || (near && (decide (Big.cmpI ((n % 2 ^ (K1 + 1) : Nat) : Int) ((2 ^ K1 : Nat) : Int) > 0) || ((Big.cmpI ((n % 2 ^ (K1 + 1) : Nat) : Int) ((2 ^ K1 : Nat) : Int) == 0) && (((n / 2 ^ (K1 + 1) % 2 : Nat) : Int) == 1))))) = incV n (K1 + 1) up near := by
  unfold incV
  rw [Nat.add_sub_cancel, cmp3]
  generalize n % 2 ^ (K1 + 1) = r
  generalize 2 ^ K1 = h
  generalize n / 2 ^ (K1 + 1) = q
  have e1 : ((r : Int).sign != 0) = decide (r ≠ 0) := by
    rcases Nat.eq_zero_or_pos r with h | h
    · subst h; rfl
    · rw [Int.sign_eq_one_of_pos (by omega), decide_eq_true (by omega)]; rfl
  have e2 : decide ((if h < r then (1 : Int) else if r = h then 0 else -1) > 0) = decide (h < r) := by
    split
    · next h1 => simp [h1]
    · next h1 => split <;> simp [h1]
  have e3 : ((if h < r then (1 : Int) else if r = h then 0 else -1) == 0) = decide (r = h) := by
    split
    · next h1 => rw [decide_eq_false (by omega)]; rfl
    · next h1 => split
                 · next h2 => rw [decide_eq_true h2]; rfl
                 · next h2 => rw [decide_eq_false h2]; rfl
  have e4 : (((q % 2 : Nat) : Int) == 1) = decide (q % 2 = 1) := by
    rcases Nat.mod_two_eq_zero_or_one q with h | h <;> rw [h] <;> rfl
  rw [e1, e2, e3, e4]
end Go.Proofs.YthmeocigliephaaGreatDoor.Plain
namespace Go.Proofs.YthmeocigliephaaGreatDoor.Big
open Go.Proofs.YthmeocigliephaaGreatDoor.PNa Go.Proofs.YthmeocigliephaaGreatDoor.Plain
attribute [local go_sem] f64bits_run f64from_run max2_int min2_int max_two min_two
theorem ZB.new2 (w : World) (n : Bool) (A : Option Addr) (m c : Nat) (o : Obj) : ZB ((w.alloc o).alloc (.cells #[.bool n, .slice A m c] 109 (0, 0))) (w.heap.size + 1) := by
  have := ZB.new' (w.alloc o) n A m c
  simpa using this
theorem inf_one : PNl.math_Inf.f 1 = some infB := by unfold PNl.math_Inf.f; rw [if_pos (by omega)]; rfl
theorem Rsh1_calls (z x n : Nat) (w : World) (hz : ZB w z) (hx : IntV w x n) (hs : Short n) :
    Calls Tryz.prog 132 #[.pointer (some ⟨z, 0, none⟩), .pointer (some ⟨x, 0, none⟩), .int .u64 1] w (Gave z ((n / 2 : Nat) : Int) w) := by
  have := rsh_any z x 1 n w hz hx hs (by omega)
  rwa [Nat.pow_one] at this
theorem tail_one (m : Nat) (L : Int) (B1 B2 m2 : Nat) (h1 : m ≤ 9007199254740992) (h2 : 4503599627370496 ≤ m ∨ L = -1074) (hl : -1074 ≤ L) (hB1 : bl m = B1) (hm2 : m / 2 = m2) (hB2 : bl m2 = B2) (hb : 53 < B1) (ho : ¬ 1024 < (B2 : Int) + (L + 1)) :
    PNl.math_Ldexp.f (floatOfInt .f64 (m2 : Int)) (L + 1) = some (tailV m L) := by
  have hm : m = 9007199254740992 := by
    have : ¬ m < 2 ^ 53 := fun h => by have := bl_le.2 h; omega
    have h3 : (2 : Nat) ^ 53 = 9007199254740992 := by decide
    omega
  have e : tailV m L = bitsOf m2 (L + 1) := by unfold tailV; rw [hB1, if_pos hb, hm2, hB2, if_neg ho]
  rw [e]
  have h3 : (2 : Nat) ^ 53 = 9007199254740992 := by decide
  have h4 : (2 : Nat) ^ 52 = 4503599627370496 := by decide
  exact ldexp_law m2 (L + 1) (by omega) (.inl (by omega)) (by omega) (by rw [hB2]; omega)
theorem tail_two (m : Nat) (L : Int) (B1 : Nat) (h1 : m ≤ 9007199254740992) (h2 : 4503599627370496 ≤ m ∨ L = -1074) (hl : -1074 ≤ L) (hB1 : bl m = B1) (hb : ¬ 53 < B1) (ho : ¬ 1024 < (B1 : Int) + L) :
    PNl.math_Ldexp.f (floatOfInt .f64 (m : Int)) L = some (tailV m L) := by
  have hm : m < 2 ^ 53 := bl_le.1 (by omega)
  have e : tailV m L = bitsOf m L := by unfold tailV; rw [hB1, if_neg hb, if_neg ho]
  rw [e]
  have h4 : (2 : Nat) ^ 52 = 4503599627370496 := by decide
  exact ldexp_law m L hm (h2.imp (by omega) id) hl (by rw [hB1]; omega)
section
variable (b n : Nat) (e top : Int) (up near : Bool) (w : World)
  (hx : IntV w b n) (hs : Short n)
include hx hs
theorem mag_cut (K1 : Nat) (L : Int) (q r h m1 : Nat) (c s : Int) (inc : Bool) (he0 : -200000 ≤ e) (he1 : e ≤ 200000)
    (ht0 : -1075 ≤ top) (ht1 : top ≤ 1024) (hL : lastV top = L) (hK : L - e = (K1 : Int) + 1)
    (hq : n / 2 ^ (K1 + 1) = q) (hr : n % 2 ^ (K1 + 1) = r) (hh : 2 ^ K1 = h) (hc : cmpI (r : Int) (h : Int) = c) (hsg : ((r : Nat) : Int).sign = s)
    (hm1 : q + (if inc = true then 1 else 0) = m1)
    (hinc : incV n (K1 + 1) up near = inc) (hsh : Short (2 ^ K1)) (ht53 : m1 ≤ 9007199254740992) (ht52 : 4503599627370496 ≤ m1 ∨ L = -1074) :
    Calls Tryz.prog 127 #[.pointer (some ⟨b, 0, none⟩), .int .i64 e, .int .i64 top, .bool false, .bool up, .bool near] w
      (fun rr w' => rr = .returned (.float .f64 (tailV m1 L)) ∧ Below w.heap.size w w') := by
  have hl0 : -1074 ≤ L := by rw [← hL]; unfold lastV; split <;> omega
  have hl1 : L ≤ 971 := by rw [← hL]; unfold lastV; split <;> omega
  have g1 : decide (top > 1024) = false := by simp; omega
  have g2 : decide (top < -1075) = false := by simp; omega
  unfold lastV at hL
  have hk0 : (0 : Int) ≤ (K1 : Int) := by omega
  have hk1 : (K1 : Int) ≤ 210000 := by omega
  have HX := asd hx
  have HS := asd hs
  have HC := asd hc
  have HM := asd hm1
  have HSG := asd hsg
  have HH := asd hh
  have HSH := asd hsh
  have HINC := asd hinc
  have HINC2 := asd (show ((up && (s != 0)) || (near && (decide (c > 0) || ((c == 0) && (((q % 2 : Nat) : Int) == 1))))) = inc by
    rw [← hinc, ← hsg, ← hc, ← hh, ← hr, ← hq]
    exact inc_law n K1 up near)
  have HT1 := asd ht53
  have HT2 := asd ht52
  have SM1 := asd (show Short m1 from Short.of (k := 2) (Nat.lt_of_le_of_lt ht53 (by decide)) (by omega))
  clear ht53 ht52
  have HQ := asd hq
  have HR := asd hr
  have hdm := Nat.div_add_mod n (2 ^ (K1 + 1))
  rw [hq, hr, Nat.mul_comm] at hdm
  have SUB := asd (show (n : Int) - (q : Int) * 2 ^ (K1 + 1) = (r : Int) by
    have : ((q * 2 ^ (K1 + 1) : Nat) : Int) = (q : Int) * 2 ^ (K1 + 1) := by simp
    omega)
  have SQ := asd (show Short ((q : Int) * 2 ^ (K1 + 1)).natAbs by
    rw [show (q : Int) * 2 ^ (K1 + 1) = ((q * 2 ^ (K1 + 1) : Nat) : Int) by simp, Int.natAbs_natCast]
    exact hs.mono (by omega))
  have POW := asd (show (1 : Int) * 2 ^ K1 = (h : Int) by rw [← hh]; simp)
  have S1 := asd (show Short (1 : Int).natAbs from Short.of (k := 1) (by simp) (by omega))
  have SR := asd (show Short r from hs.mono (by omega))
  have SQ1 := asd (show Short q by rw [← hq]; exact hs.mono (Nat.div_le_self _ _))
  have SH := asd (show Short h by rw [← hh]; exact hsh)
  clear hdm hinc hx hs hc hm1 hsg hh hsh hq hr
  have tok1 : True := trivial
  go_enter Tryz.func127, Tryz.ntmps127
  go_upto_region 16 with (first
    | (go_at_call 132; refine (rsh_any _ b (K1 + 1) n _ (ZB.new' _ _ _ _ _) (HX.out.below (by exact (Below.refl _ _).alloc (Nat.le_refl _) _)) HS.out (by omega)).mono ?_; rintro e1 w4 ⟨rfl, o4, i4⟩; rw [HQ.out] at i4; have B4 := asd (below_only ((Below.refl w.heap.size w).alloc (Nat.le_refl _) _) o4 (by simp) (Nat.le_refl _)); have X4 := asd (HX.out.below B4.out); have I4 := asd i4; have lt4 := asd i4.lt; clear o4 i4)
    | (go_at_call 136; have _t := tok1; refine (Lsh_calls _ w.heap.size (K1 + 1) q _ (ZB.new2 _ _ _ _ _ _) (I4.out.below (by exact ((Below.refl _ _).alloc (Nat.le_refl _) _).alloc (by simp) _)) (by have := HS.out.mono (m := q) (by rw [← HQ.out]; exact Nat.div_le_self _ _); simpa using this) (by omega)).mono ?_; rintro e1 w5 ⟨rfl, o5, j5⟩; have B5 := asd (below_only (((B4.out.alloc B4.out.size _).alloc (by have := lt4.out; simp; omega) _)) o5 (by have := lt4.out; simp; omega) (by have := lt4.out; omega)); have bb5 := below_only (((Below.refl w4.heap.size w4).alloc (Nat.le_refl _) (.cells #[.bool false, .slice none 0 0] 109 (0, 0))).alloc (by simp) (.cells #[.bool false, .slice none 0 0] 109 (0, 0))) o5 (by simp; omega) (by omega); have I5 := asd (I4.out.below bb5); have X5 := asd (HX.out.below B5.out); have Z5 := asd (show ZB w5 w4.heap.size from ZB.only (ZB.below (ZB.new' w4 false none 0 0) ((Below.refl _ _).alloc (Nat.le_refl _) _)) o5 (by omega)); have J5 := asd j5; clear bb5 o5 j5 _t tok1)
    | (go_at_call 142; refine (sub_any w4.heap.size b (w4.heap.size + 1) n (q * 2 ^ (K1 + 1)) _ Z5.out X5.out J5.out (by have := HS.out; simpa using this) SQ.out).mono ?_; rintro e1 w6 ⟨rfl, o6, i6⟩; rw [SUB.out] at i6; have I6 := asd (I5.out.only o6 (.inl Z5.out) (by have := lt4.out; omega)); have B6 := asd (below_only B5.out o6 B5.out.size (by have := lt4.out; omega)); have J6 := asd i6; have lt6 := asd i6.lt; have mt6 := asd I6.out.lt; clear o6 i6)
    | (go_at_call 144; refine (newInt_any 1 _ (by omega) (by omega)).mono ?_; rintro e1 w7 ⟨b7, rfl, i7, b7', n7⟩; have B7 := asd (below_post b7' (B6.out.alloc B6.out.size _)); have bb7 := below_post b7' ((Below.refl w6.heap.size w6).alloc (Nat.le_refl _) _); have I7 := asd (I6.out.below bb7); have J7 := asd (J6.out.below bb7); have K7 := asd i7; have Z7 := asd (ZB.below (ZB.new' w6 false none 0 0) b7'); have N7 := asd (show w6.heap.size + 1 ≤ b7 by simpa using n7); clear i7 b7' n7 bb7)
    | (go_at_call 136; refine (Lsh_calls w6.heap.size b7 K1 1 _ Z7.out K7.out S1.out (by omega)).mono ?_; rintro e1 w8 ⟨rfl, o8, i8⟩; rw [POW.out] at i8; have I8 := asd (I7.out.only o8 (.inl Z7.out) (by have := mt6.out; omega)); have J8 := asd (J7.out.only o8 (.inl Z7.out) (by have := lt6.out; omega)); have B8 := asd (below_only B7.out o8 B7.out.size B6.out.size); have K8 := asd i8; clear o8 i8)
    | (go_at_call 143; refine (cmp_any w4.heap.size w6.heap.size r h _ J8.out K8.out (by simpa using SR.out) (by simpa using SH.out)).mono ?_; rw [HC.out]; rintro e1 w9 ⟨rfl, d9⟩; have I9 := asd (I8.out.below d9.below); have J9 := asd (J8.out.below d9.below); have B9 := asd (below_post d9.below B8.out); clear d9))
  go_cut [60] (fun v60 wc => v60 = .bool false ∧ wc = w9)
  case first =>
    have hcc : (c == 0) = true ∨ (c == 0) = false := by cases (c == 0) <;> simp
    rcases hcc with hcc | hcc
    · go_wp2
      go_meet
      exact ⟨rfl, rfl⟩
    · go_wp2
      go_meet
      exact ⟨rfl, rfl⟩
  case rest =>
    obtain ⟨rfl, rfl⟩ := hcut
    go_upto_region 21 with (go_at_call 130; refine (sign_any' _ r s _ J9.out HSG.out).mono ?_; rintro e1 w1 ⟨rfl, rfl⟩)
    go_cut [3, 95] (fun v3 v95 wd => v95 = .bool inc ∧ wd = wc)
    case first =>
      have h1 : (s != 0) = true ∨ (s != 0) = false := by cases (s != 0) <;> simp
      have h2 : decide (c > 0) = true ∨ decide (c > 0) = false := by cases decide (c > 0) <;> simp
      have h3 : (c == 0) = true ∨ (c == 0) = false := by cases (c == 0) <;> simp
      rcases h1 with h1 | h1 <;> rcases h2 with h2 | h2 <;> rcases h3 with h3 | h3 <;> cases up <;> cases near
      all_goals
        go_wp2_with (go_at_call 145; refine (bit0_any _ q _ I9.out).mono ?_; rintro e1 w1 ⟨rfl, rfl⟩)
        go_meet
        refine ⟨congrArg Value.bool ?_, rfl⟩
        have hi := HINC2.out
        rw [h1, h2, h3] at hi
        simpa using hi
    case rest =>
      obtain ⟨rfl, rfl⟩ := hcut
      go_upto_if 95 with (fail)
      go_cut [3] (fun v3 we => Aside0 (IntV we w.heap.size m1 ∧ Below w.heap.size w we))
      case first =>
        cases inc
        · go_wp2
          go_meet
          have hm : q = m1 := by simpa using HM.out
          subst hm
          exact asd ⟨I9.out, B9.out⟩
        · go_wp2_with (first
            | (go_at_call 144; refine (newInt_any 1 _ (by omega) (by omega)).mono ?_; rintro e1 wx ⟨bx, rfl, ix, bx', nx⟩; have BX := asd (below_post bx' B9.out); have IX := asd (I9.out.below bx'); have JX := asd ix; clear ix bx' nx)
            | (go_at_call 107; refine (add_any w.heap.size w.heap.size bx q 1 _ IX.out.z IX.out JX.out (by simpa using SQ1.out) S1.out).mono ?_; rintro e1 wy ⟨rfl, oy, iy⟩; have BY := asd (below_only BX.out oy BX.out.size (Nat.le_refl _)); have IY := asd iy; clear oy iy))
          go_meet
          have hm : q + 1 = m1 := by simpa using HM.out
          subst hm
          exact asd ⟨by simpa using IY.out, BY.out⟩
      case rest =>
        have IM := asd hcut.out.1
        have BM := asd hcut.out.2
        clear hcut
        have tok1 : True := trivial
        obtain ⟨B1, hB1⟩ : ∃ B1, bl m1 = B1 := ⟨_, rfl⟩
        have HB1 := asd hB1
        have hs1 := SM1.out.bl
        rw [hB1] at hs1
        have hp1 : (0 : Int) ≤ (B1 : Int) := by omega
        have hp2 : (B1 : Int) ≤ 562949953421280 := by omega
        by_cases hb : 53 < B1
        · have d1 : decide ((B1 : Int) > 53) = true := by simp; omega
          obtain ⟨m2, hm2⟩ : ∃ m2, m1 / 2 = m2 := ⟨_, rfl⟩
          have HM2 := asd hm2
          have SM2 := asd (show Short m2 by rw [← hm2]; exact SM1.out.mono (Nat.div_le_self _ _))
          obtain ⟨B2, hB2⟩ : ∃ B2, bl m2 = B2 := ⟨_, rfl⟩
          have HB2 := asd hB2
          have hs2 := SM2.out.bl
          rw [hB2] at hs2
          have hp3 : (0 : Int) ≤ (B2 : Int) := by omega
          have hp4 : (B2 : Int) ≤ 562949953421280 := by omega
          by_cases ho : 1024 < (B2 : Int) + (L + 1)
          · have d2 : decide ((B2 : Int) + (L + 1) > 1024) = true := by simp; omega
            have hT : tailV m1 L = infB := by unfold tailV; rw [hB1, if_pos hb, hm2, hB2, if_pos ho]
            have HTT := asd hT
            clear hB1 hm2 hB2 hs1 hs2 hb ho hT
            go_wp2_with (first
              | (go_at_call 126; have _t := tok1; refine (bitLen_any' _ m1 B1 _ IM.out SM1.out HB1.out).mono ?_; rintro e1 wf ⟨rfl, df⟩; have IF := asd (IM.out.below df.below); have BF := asd (below_post df.below BM.out); clear df _t tok1)
              | (go_at_call 132; refine (Rsh1_calls _ _ m1 _ IF.out.z IF.out SM1.out).mono ?_; rintro e1 wg ⟨rfl, og, ig⟩; rw [HM2.out] at ig; have IG := asd ig; have BG := asd (below_only BF.out og BF.out.size (Nat.le_refl _)); clear og ig)
              | (go_at_call 126; refine (bitLen_any' _ m2 B2 _ IG.out SM2.out HB2.out).mono ?_; rintro e1 wh ⟨rfl, dh⟩; have IH := asd (IG.out.below dh.below); have BH := asd (below_post dh.below BG.out); clear dh)
              | (go_at_call 109; refine (PNl.math_Inf.calls 1 infB _ inf_one).mono ?_; rintro e1 wi ⟨rfl, di⟩; have BI := asd (below_post di.below BH.out); clear di))
            go_ret
            exact ⟨by rw [HTT.out]; rfl, BI.out⟩
          · have d2 : decide ((B2 : Int) + (L + 1) > 1024) = false := by simp; omega
            have LD := asd (tail_one m1 L B1 B2 m2 HT1.out HT2.out hl0 hB1 hm2 hB2 hb ho)
            have LT := asd (show m2 ≤ 9007199254740992 by have := HT1.out; omega)
            clear hB1 hm2 hB2 hs1 hs2 hb ho
            go_wp2_with (first
              | (go_at_call 126; have _t := tok1; refine (bitLen_any' _ m1 B1 _ IM.out SM1.out HB1.out).mono ?_; rintro e1 wf ⟨rfl, df⟩; have IF := asd (IM.out.below df.below); have BF := asd (below_post df.below BM.out); clear df _t tok1)
              | (go_at_call 132; refine (Rsh1_calls _ _ m1 _ IF.out.z IF.out SM1.out).mono ?_; rintro e1 wg ⟨rfl, og, ig⟩; rw [HM2.out] at ig; have IG := asd ig; have BG := asd (below_only BF.out og BF.out.size (Nat.le_refl _)); clear og ig)
              | (go_at_call 126; refine (bitLen_any' _ m2 B2 _ IG.out SM2.out HB2.out).mono ?_; rintro e1 wh ⟨rfl, dh⟩; have IH := asd (IG.out.below dh.below); have BH := asd (below_post dh.below BG.out); clear dh)
              | (go_at_call 147; refine (uint64_any _ m2 _ IH.out (by have := LT.out; omega)).mono ?_; rintro e1 wi ⟨rfl, rfl⟩)
              | (go_at_call 146; refine (PNl.math_Ldexp.calls _ _ (tailV m1 L) _ LD.out).mono ?_; rintro e1 wj ⟨rfl, dj⟩; have BI := asd (below_post dj.below BH.out); clear dj))
            go_ret
            exact ⟨rfl, BI.out⟩
        · have d1 : decide ((B1 : Int) > 53) = false := by simp; omega
          by_cases ho : 1024 < (B1 : Int) + L
          · have d2 : decide ((B1 : Int) + L > 1024) = true := by simp; omega
            have hT : tailV m1 L = infB := by unfold tailV; rw [hB1, if_neg hb, if_pos ho]
            have HTT := asd hT
            clear hB1 hs1 hb ho hT
            go_wp2_with (first
              | (go_at_call 126; have _t := tok1; refine (bitLen_any' _ m1 B1 _ IM.out SM1.out HB1.out).mono ?_; rintro e1 wf ⟨rfl, df⟩; have IF := asd (IM.out.below df.below); have BF := asd (below_post df.below BM.out); clear df _t tok1)
              | (go_at_call 126; refine (bitLen_any' _ m1 B1 _ IF.out SM1.out HB1.out).mono ?_; rintro e1 wh ⟨rfl, dh⟩; have IH := asd (IF.out.below dh.below); have BH := asd (below_post dh.below BF.out); clear dh)
              | (go_at_call 109; refine (PNl.math_Inf.calls 1 infB _ inf_one).mono ?_; rintro e1 wi ⟨rfl, di⟩; have BI := asd (below_post di.below BH.out); clear di))
            go_ret
            exact ⟨by rw [HTT.out]; rfl, BI.out⟩
          · have d2 : decide ((B1 : Int) + L > 1024) = false := by simp; omega
            have LD := asd (tail_two m1 L B1 HT1.out HT2.out hl0 hB1 hb ho)
            have LT := asd (show m1 ≤ 9007199254740992 by have := HT1.out; omega)
            clear hB1 hs1 hb ho
            go_wp2_with (first
              | (go_at_call 126; have _t := tok1; refine (bitLen_any' _ m1 B1 _ IM.out SM1.out HB1.out).mono ?_; rintro e1 wf ⟨rfl, df⟩; have IF := asd (IM.out.below df.below); have BF := asd (below_post df.below BM.out); clear df _t tok1)
              | (go_at_call 126; refine (bitLen_any' _ m1 B1 _ IF.out SM1.out HB1.out).mono ?_; rintro e1 wh ⟨rfl, dh⟩; have IH := asd (IF.out.below dh.below); have BH := asd (below_post dh.below BF.out); clear dh)
              | (go_at_call 147; refine (uint64_any _ m1 _ IH.out (by have := LT.out; omega)).mono ?_; rintro e1 wi ⟨rfl, rfl⟩)
              | (go_at_call 146; refine (PNl.math_Ldexp.calls _ _ (tailV m1 L) _ LD.out).mono ?_; rintro e1 wj ⟨rfl, dj⟩; have BI := asd (below_post dj.below BH.out); clear dj))
            go_ret
            exact ⟨rfl, BI.out⟩
end
end Go.Proofs.YthmeocigliephaaGreatDoor.Big
end
section
namespace Go.Proofs.YthmeocigliephaaGreatDoor.Big
open Go.Proofs.YthmeocigliephaaGreatDoor.PNa Go.Proofs.YthmeocigliephaaGreatDoor.Plain
attribute [local go_sem] f64bits_run f64from_run max2_int min2_int max_two min_two
section
variable (b n : Nat) (e top : Int) (up near : Bool) (w : World)
  (hx : IntV w b n) (hs : Short n)
include hx hs
theorem mag_left (K : Nat) (L : Int) (m1 : Nat) (he0 : -200000 ≤ e) (he1 : e ≤ 200000)
    (ht0 : -1075 ≤ top) (ht1 : top ≤ 1024) (hL : lastV top = L) (hK : L - e = -(K : Int))
    (hm1 : n * 2 ^ K = m1) (ht53 : m1 ≤ 9007199254740992) (ht52 : 4503599627370496 ≤ m1 ∨ L = -1074) :
    Calls Tryz.prog 127 #[.pointer (some ⟨b, 0, none⟩), .int .i64 e, .int .i64 top, .bool false, .bool up, .bool near] w
      (fun rr w' => rr = .returned (.float .f64 (tailV m1 L)) ∧ Below w.heap.size w w') := by
  have hl0 : -1074 ≤ L := by rw [← hL]; unfold lastV; split <;> omega
  have hl1 : L ≤ 971 := by rw [← hL]; unfold lastV; split <;> omega
  have g1 : decide (top > 1024) = false := by simp; omega
  have g2 : decide (top < -1075) = false := by simp; omega
  unfold lastV at hL
  have hk0 : (0 : Int) ≤ (K : Int) := by omega
  have hk1 : (K : Int) ≤ 210000 := by omega
  have HX := asd hx
  have HS := asd hs
  have HM := asd hm1
  have HT1 := asd ht53
  have HT2 := asd ht52
  have SM1 := asd (show Short m1 from Short.of (k := 2) (Nat.lt_of_le_of_lt ht53 (by decide)) (by omega))
  clear hx hs hm1 ht53 ht52
  go_enter Tryz.func127, Tryz.ntmps127
  go_upto_region 21 with (go_at_call 136; refine (Lsh_calls _ b K n _ (ZB.new' _ _ _ _ _) (HX.out.below (by exact (Below.refl _ _).alloc (Nat.le_refl _) _)) (by simpa using HS.out) (by omega)).mono ?_; rintro e1 w4 ⟨rfl, o4, i4⟩; have B4 := asd (below_only ((Below.refl w.heap.size w).alloc (Nat.le_refl _) _) o4 (by simp) (Nat.le_refl _)); have I4 := asd (show IntV w4 w.heap.size m1 by rw [← HM.out]; simpa using i4); clear o4 i4)
  go_cut [95] (fun v95 wc => v95 = .bool false ∧ Aside0 (IntV wc w.heap.size m1 ∧ Below w.heap.size w wc))
  case first =>
    cases up <;> cases near
    all_goals
      go_wp2
      go_meet
      exact ⟨rfl, ⟨I4.out, B4.out⟩⟩
  case rest =>
    obtain ⟨rfl, hcut⟩ := hcut
    have IM := asd hcut.out.1
    have BM := asd hcut.out.2
    clear hcut
    have tok1 : True := trivial
    obtain ⟨B1, hB1⟩ : ∃ B1, bl m1 = B1 := ⟨_, rfl⟩
    have HB1 := asd hB1
    have hs1 := SM1.out.bl
    rw [hB1] at hs1
    have hp1 : (0 : Int) ≤ (B1 : Int) := by omega
    have hp2 : (B1 : Int) ≤ 562949953421280 := by omega
    by_cases hb : 53 < B1
    · have d1 : decide ((B1 : Int) > 53) = true := by simp; omega
      obtain ⟨m2, hm2⟩ : ∃ m2, m1 / 2 = m2 := ⟨_, rfl⟩
      have HM2 := asd hm2
      have SM2 := asd (show Short m2 by rw [← hm2]; exact SM1.out.mono (Nat.div_le_self _ _))
      obtain ⟨B2, hB2⟩ : ∃ B2, bl m2 = B2 := ⟨_, rfl⟩
      have HB2 := asd hB2
      have hs2 := SM2.out.bl
      rw [hB2] at hs2
      have hp3 : (0 : Int) ≤ (B2 : Int) := by omega
      have hp4 : (B2 : Int) ≤ 562949953421280 := by omega
      by_cases ho : 1024 < (B2 : Int) + (L + 1)
      · have d2 : decide ((B2 : Int) + (L + 1) > 1024) = true := by simp; omega
        have hT : tailV m1 L = infB := by unfold tailV; rw [hB1, if_pos hb, hm2, hB2, if_pos ho]
        have HTT := asd hT
        clear hB1 hm2 hB2 hs1 hs2 hb ho hT
        go_wp2_with (first
          | (go_at_call 126; have _t := tok1; refine (bitLen_any' _ m1 B1 _ IM.out SM1.out HB1.out).mono ?_; rintro e1 wf ⟨rfl, df⟩; have IF := asd (IM.out.below df.below); have BF := asd (below_post df.below BM.out); clear df _t tok1)
          | (go_at_call 132; refine (Rsh1_calls _ _ m1 _ IF.out.z IF.out SM1.out).mono ?_; rintro e1 wg ⟨rfl, og, ig⟩; rw [HM2.out] at ig; have IG := asd ig; have BG := asd (below_only BF.out og BF.out.size (Nat.le_refl _)); clear og ig)
          | (go_at_call 126; refine (bitLen_any' _ m2 B2 _ IG.out SM2.out HB2.out).mono ?_; rintro e1 wh ⟨rfl, dh⟩; have IH := asd (IG.out.below dh.below); have BH := asd (below_post dh.below BG.out); clear dh)
          | (go_at_call 109; refine (PNl.math_Inf.calls 1 infB _ inf_one).mono ?_; rintro e1 wi ⟨rfl, di⟩; have BI := asd (below_post di.below BH.out); clear di))
        go_ret
        exact ⟨by rw [HTT.out]; rfl, BI.out⟩
      · have d2 : decide ((B2 : Int) + (L + 1) > 1024) = false := by simp; omega
        have LD := asd (tail_one m1 L B1 B2 m2 HT1.out HT2.out hl0 hB1 hm2 hB2 hb ho)
        have LT := asd (show m2 ≤ 9007199254740992 by have := HT1.out; omega)
        clear hB1 hm2 hB2 hs1 hs2 hb ho
        go_wp2_with (first
          | (go_at_call 126; have _t := tok1; refine (bitLen_any' _ m1 B1 _ IM.out SM1.out HB1.out).mono ?_; rintro e1 wf ⟨rfl, df⟩; have IF := asd (IM.out.below df.below); have BF := asd (below_post df.below BM.out); clear df _t tok1)
          | (go_at_call 132; refine (Rsh1_calls _ _ m1 _ IF.out.z IF.out SM1.out).mono ?_; rintro e1 wg ⟨rfl, og, ig⟩; rw [HM2.out] at ig; have IG := asd ig; have BG := asd (below_only BF.out og BF.out.size (Nat.le_refl _)); clear og ig)
          | (go_at_call 126; refine (bitLen_any' _ m2 B2 _ IG.out SM2.out HB2.out).mono ?_; rintro e1 wh ⟨rfl, dh⟩; have IH := asd (IG.out.below dh.below); have BH := asd (below_post dh.below BG.out); clear dh)
          | (go_at_call 147; refine (uint64_any _ m2 _ IH.out (by have := LT.out; omega)).mono ?_; rintro e1 wi ⟨rfl, rfl⟩)
          | (go_at_call 146; refine (PNl.math_Ldexp.calls _ _ (tailV m1 L) _ LD.out).mono ?_; rintro e1 wj ⟨rfl, dj⟩; have BI := asd (below_post dj.below BH.out); clear dj))
        go_ret
        exact ⟨rfl, BI.out⟩
    · have d1 : decide ((B1 : Int) > 53) = false := by simp; omega
      by_cases ho : 1024 < (B1 : Int) + L
      · have d2 : decide ((B1 : Int) + L > 1024) = true := by simp; omega
        have hT : tailV m1 L = infB := by unfold tailV; rw [hB1, if_neg hb, if_pos ho]
        have HTT := asd hT
        clear hB1 hs1 hb ho hT
        go_wp2_with (first
          | (go_at_call 126; have _t := tok1; refine (bitLen_any' _ m1 B1 _ IM.out SM1.out HB1.out).mono ?_; rintro e1 wf ⟨rfl, df⟩; have IF := asd (IM.out.below df.below); have BF := asd (below_post df.below BM.out); clear df _t tok1)
          | (go_at_call 126; refine (bitLen_any' _ m1 B1 _ IF.out SM1.out HB1.out).mono ?_; rintro e1 wh ⟨rfl, dh⟩; have IH := asd (IF.out.below dh.below); have BH := asd (below_post dh.below BF.out); clear dh)
          | (go_at_call 109; refine (PNl.math_Inf.calls 1 infB _ inf_one).mono ?_; rintro e1 wi ⟨rfl, di⟩; have BI := asd (below_post di.below BH.out); clear di))
        go_ret
        exact ⟨by rw [HTT.out]; rfl, BI.out⟩
      · have d2 : decide ((B1 : Int) + L > 1024) = false := by simp; omega
        have LD := asd (tail_two m1 L B1 HT1.out HT2.out hl0 hB1 hb ho)
        have LT := asd (show m1 ≤ 9007199254740992 by have := HT1.out; omega)
        clear hB1 hs1 hb ho
        go_wp2_with (first
          | (go_at_call 126; have _t := tok1; refine (bitLen_any' _ m1 B1 _ IM.out SM1.out HB1.out).mono ?_; rintro e1 wf ⟨rfl, df⟩; have IF := asd (IM.out.below df.below); have BF := asd (below_post df.below BM.out); clear df _t tok1)
          | (go_at_call 126; refine (bitLen_any' _ m1 B1 _ IF.out SM1.out HB1.out).mono ?_; rintro e1 wh ⟨rfl, dh⟩; have IH := asd (IF.out.below dh.below); have BH := asd (below_post dh.below BF.out); clear dh)
          | (go_at_call 147; refine (uint64_any _ m1 _ IH.out (by have := LT.out; omega)).mono ?_; rintro e1 wi ⟨rfl, rfl⟩)
          | (go_at_call 146; refine (PNl.math_Ldexp.calls _ _ (tailV m1 L) _ LD.out).mono ?_; rintro e1 wj ⟨rfl, dj⟩; have BI := asd (below_post dj.below BH.out); clear dj))
        go_ret
        exact ⟨rfl, BI.out⟩
end
section
variable (b : Nat) (e top : Int) (up near : Bool) (w : World)
theorem mag_over (he0 : -200000 ≤ e) (he1 : e ≤ 200000) (ht0 : 1024 < top) (ht1 : top ≤ 1000000) :
    Calls Tryz.prog 127 #[.pointer (some ⟨b, 0, none⟩), .int .i64 e, .int .i64 top, .bool false, .bool up, .bool near] w
      (fun rr w' => rr = .returned (.float .f64 (if (up || near) = true then infB else 9218868437227405311)) ∧ Below w.heap.size w w') := by
  have g1 : decide (top > 1024) = true := by simp; omega
  obtain ⟨L, hL⟩ : ∃ L, lastV top = L := ⟨_, rfl⟩
  unfold lastV at hL
  cases up <;> cases near
  all_goals
    go_enter Tryz.func127, Tryz.ntmps127
    go_wp2_with (go_at_call 109; refine (PNl.math_Inf.calls 1 infB _ inf_one).mono ?_; rintro e1 wi ⟨rfl, di⟩; have BI := asd di.below; clear di)
    go_ret
    exact ⟨rfl, by first | exact BI.out | exact Below.refl _ _⟩
theorem mag_under (he0 : -200000 ≤ e) (he1 : e ≤ 200000) (ht0 : top < -1075) (ht1 : -1000000 ≤ top) :
    Calls Tryz.prog 127 #[.pointer (some ⟨b, 0, none⟩), .int .i64 e, .int .i64 top, .bool false, .bool up, .bool near] w
      (fun rr w' => rr = .returned (.float .f64 (if up = true then 1 else 0)) ∧ Below w.heap.size w w') := by
  have g1 : decide (top > 1024) = false := by simp; omega
  have g2 : decide (top < -1075) = true := by simp; omega
  obtain ⟨L, hL⟩ : ∃ L, lastV top = L := ⟨_, rfl⟩
  unfold lastV at hL
  cases up
  all_goals
    go_enter Tryz.func127, Tryz.ntmps127
    go_wp2_with fail
    go_ret
    exact ⟨rfl, Below.refl _ _⟩
end
theorem magnitude_any (b n : Nat) (e : Int) (up near : Bool) (w : World) (hx : IntV w b n) (hs : Short n) (hn : n ≠ 0) (he0 : -100000 ≤ e) (he1 : e ≤ 100000) (hb : bl n ≤ 100000) :
    Calls Tryz.prog 127 #[.pointer (some ⟨b, 0, none⟩), .int .i64 e, .int .i64 ((bl n : Int) + e), .bool false, .bool up, .bool near] w
      (fun rr w' => rr = .returned (.float .f64 (magV n e up near)) ∧ Below w.heap.size w w') := by
  unfold magV
  obtain ⟨top, ht⟩ : ∃ top, (bl n : Int) + e = top := ⟨_, rfl⟩
  rw [ht]
  by_cases h1 : 1024 < top
  · simp only [if_pos h1]; exact mag_over b e top up near w (by omega) (by omega) h1 (by omega)
  · simp only [if_neg h1]
    by_cases h2 : top < -1075
    · simp only [if_pos h2]; exact mag_under b e top up near w (by omega) (by omega) h2 (by omega)
    · simp only [if_neg h2]
      obtain ⟨L, hL⟩ : ∃ L, lastV top = L := ⟨_, rfl⟩
      have hl0 : -1074 ≤ L := by rw [← hL]; unfold lastV; split <;> omega
      have hl1 : top - L ≤ 53 := by rw [← hL]; unfold lastV; split <;> omega
      have hl2 : L = -1074 ∨ L = top - 53 := by rw [← hL]; unfold lastV; split <;> omega
      rw [hL]
      by_cases h3 : L ≤ e
      · simp only [if_pos h3]
        obtain ⟨K, hK⟩ : ∃ K : Nat, e - L = (K : Int) := ⟨(e - L).toNat, by omega⟩
        rw [hK, Int.toNat_natCast]
        have hbm := bl_mul_pow hn K
        have h53 : (2 : Nat) ^ 53 = 9007199254740992 := by decide
        have h52 : (2 : Nat) ^ 52 = 4503599627370496 := by decide
        have m1 : n * 2 ^ K < 2 ^ 53 := bl_le.1 (by omega)
        refine mag_left b n e top up near w hx hs K L (n * 2 ^ K) (by omega) (by omega) (by omega) (by omega) hL (by omega) rfl (by omega) ?_
        rcases hl2 with h | h
        · exact .inr h
        · left
          have hne : n * 2 ^ K ≠ 0 := by have := Nat.mul_pos (Nat.pos_of_ne_zero hn) (Nat.pow_pos (n := K) (show 0 < 2 by omega)); omega
          have h5 := le_bl hne
          rw [hbm, show bl n + K - 1 = 52 by omega] at h5
          omega
      · simp only [if_neg h3]
        obtain ⟨K, hK⟩ : ∃ K : Nat, L - e = (K : Int) + 1 := ⟨(L - e - 1).toNat, by omega⟩
        rw [hK, show ((K : Int) + 1).toNat = K + 1 by omega]
        have h53 : (2 : Nat) ^ 53 = 9007199254740992 := by decide
        have h52 : (2 : Nat) ^ 52 = 4503599627370496 := by decide
        have hq : n / 2 ^ (K + 1) < 2 ^ 53 := by
          refine Nat.div_lt_of_lt_mul ?_
          rw [← Nat.pow_add]
          exact bl_le.1 (by omega)
        refine mag_cut b n e top up near w hx hs K L _ _ _ _ _ _ (incV n (K + 1) up near) (by omega) (by omega) (by omega) (by omega) hL hK rfl rfl rfl rfl rfl rfl rfl ?_ (by split <;> omega) ?_
        · exact short_bl (k := K + 1) (bl_le.2 (Nat.pow_lt_pow_right (by omega) (by omega))) (by omega)
        · rcases hl2 with h | h
          · exact .inr h
          · left
            have h5 := le_bl hn
            have h6 : 2 ^ 52 ≤ n / 2 ^ (K + 1) := by
              rw [Nat.le_div_iff_mul_le (Nat.pow_pos (by omega)), ← Nat.pow_add]
              exact Nat.le_trans (Nat.pow_le_pow_right (by omega) (by omega)) h5
            omega
end Go.Proofs.YthmeocigliephaaGreatDoor.Big
end
section
namespace Go.Proofs.YthmeocigliephaaGreatDoor.Plain
open Go.RowKit
def signV (neg : Bool) (f : Nat) : Nat := if neg = true then f + 9223372036854775808 else f
def roundV (neg : Bool) (n : Nat) (e mode : Int) : Nat :=
  if neg = true then magV n e (mode == 1) (mode == 2) + 9223372036854775808 else magV n e (mode == 3) (mode == 2)
def roundN (neg : Bool) (l : List Int) (e mode : Int) : Nat × Int :=
  if 1 ≤ mode ∧ mode ≤ 3 then (if l.length = 0 then (0, 0) else (roundV neg (val l) e mode, 0)) else (0, 1)
theorem copysign_neg (f : Nat) (h : f < 9223372036854775808) : PNl.math_Copysign.f f 13830554455654793216 = some (f + 9223372036854775808) := by
  unfold PNl.math_Copysign.f
  rw [bits_abs f (by omega), Nat.mod_eq_of_lt h, show bits .and .u64 ((13830554455654793216 : Nat) : Int) 9223372036854775808 = ((2 ^ 63 * 1 : Nat) : Int) by decide, bits_or_u64_nat _ _ (by omega) (by omega), Nat.or_comm, or_add (by omega), Int.toNat_natCast]
  congr 1
  omega
theorem tailV_le (m : Nat) (L : Int) (h1 : m ≤ 9007199254740992) (h2 : -1074 ≤ L) (h3 : 4503599627370496 ≤ m ∨ L = -1074) : tailV m L ≤ infB := by
  unfold tailV
  have h53 : (2 : Nat) ^ 53 = 9007199254740992 := by decide
  have h52 : (2 : Nat) ^ 52 = 4503599627370496 := by decide
  split
  · next hb =>
    have hm : m = 9007199254740992 := by
      have : ¬ m < 2 ^ 53 := fun h => by have := bl_le.2 h; omega
      omega
    subst hm
    have hb2 : bl (9007199254740992 / 2) = 53 := by decide
    rw [hb2]
    split
    · exact Nat.le_refl _
    · unfold bitsOf infB; omega
  · next hb =>
    have hm : m < 2 ^ 53 := bl_le.1 (by omega)
    split
    · exact Nat.le_refl _
    · next ho =>
      unfold bitsOf infB
      rcases h3 with h | h
      · have : bl m = 53 := bl_unique (k := 52) (by omega) (by omega)
        rw [this] at ho
        omega
      · subst h; simp; omega
theorem magV_le (n : Nat) (e : Int) (up near : Bool) (hn : n ≠ 0) : magV n e up near ≤ infB := by
  unfold magV
  obtain ⟨top, ht⟩ : ∃ top, (bl n : Int) + e = top := ⟨_, rfl⟩
  rw [ht]
  have h53 : (2 : Nat) ^ 53 = 9007199254740992 := by decide
  have h52 : (2 : Nat) ^ 52 = 4503599627370496 := by decide
  by_cases h1 : 1024 < top
  · rw [if_pos h1]; unfold infB; split <;> omega
  · rw [if_neg h1]
    by_cases h2 : top < -1075
    · rw [if_pos h2]; unfold infB; split <;> omega
    · rw [if_neg h2]
      obtain ⟨L, hL⟩ : ∃ L, lastV top = L := ⟨_, rfl⟩
      have hl0 : -1074 ≤ L := by rw [← hL]; unfold lastV; split <;> omega
      have hl1 : top - L ≤ 53 := by rw [← hL]; unfold lastV; split <;> omega
      have hl2 : L = -1074 ∨ L = top - 53 := by rw [← hL]; unfold lastV; split <;> omega
      rw [hL]
      by_cases h3 : L ≤ e
      · rw [if_pos h3]
        obtain ⟨K, hK⟩ : ∃ K : Nat, e - L = (K : Int) := ⟨(e - L).toNat, by omega⟩
        rw [hK, Int.toNat_natCast]
        have hbm := bl_mul_pow hn K
        have m1 : n * 2 ^ K < 2 ^ 53 := bl_le.1 (by omega)
        refine tailV_le _ _ (by omega) hl0 ?_
        rcases hl2 with h | h
        · exact .inr h
        · left
          have hne : n * 2 ^ K ≠ 0 := by have := Nat.mul_pos (Nat.pos_of_ne_zero hn) (Nat.pow_pos (n := K) (show 0 < 2 by omega)); omega
          have h5 := le_bl hne
          rw [hbm, show bl n + K - 1 = 52 by omega] at h5
          omega
      · rw [if_neg h3]
        obtain ⟨K, hK⟩ : ∃ K : Nat, L - e = (K : Int) + 1 := ⟨(L - e - 1).toNat, by omega⟩
        rw [hK, show ((K : Int) + 1).toNat = K + 1 by omega]
        have hq : n / 2 ^ (K + 1) < 2 ^ 53 := by
          refine Nat.div_lt_of_lt_mul ?_
          rw [← Nat.pow_add]
          exact bl_le.1 (by omega)
        refine tailV_le _ _ (by split <;> omega) hl0 ?_
        rcases hl2 with h | h
        · exact .inr h
        · left
          have h5 := le_bl hn
          have h6 : 2 ^ 52 ≤ n / 2 ^ (K + 1) := by
            rw [Nat.le_div_iff_mul_le (Nat.pow_pos (by omega)), ← Nat.pow_add]
            exact Nat.le_trans (Nat.pow_le_pow_right (by omega) (by omega)) h5
          omega
end Go.Proofs.YthmeocigliephaaGreatDoor.Plain
namespace Go.Proofs.YthmeocigliephaaGreatDoor.Big
open Go.Proofs.YthmeocigliephaaGreatDoor.PNa Go.Proofs.YthmeocigliephaaGreatDoor.Plain
attribute [local go_sem] f64bits_run f64from_run max2_int min2_int max_two min_two
section
variable (b n : Nat) (e mode : Int) (w : World)
  (hx : IntV w b n) (hs : Short n)
include hx hs
theorem float_any (neg : Bool) (hn : n ≠ 0) (he0 : -100000 ≤ e) (he1 : e ≤ 100000) (hb : bl n ≤ 100000) :
    Calls Tryz.prog 94 #[.bool neg, .pointer (some ⟨b, 0, none⟩), .int .i64 e, .bool false, .int .i64 mode] w
      (fun rr w' => rr = .returned (.float .f64 (roundV neg n e mode)) ∧ Below w.heap.size w w') := by
  have HX := asd hx
  have HS := asd hs
  have HN := asd hn
  have HMAG := asd (fun up near (w : World) (hx : IntV w b n) => magnitude_any b n e up near w hx hs hn he0 he1 hb)
  obtain ⟨B1, hB1⟩ : ∃ B1, bl n = B1 := ⟨_, rfl⟩
  have HB1 := asd hB1
  rw [hB1] at hb HMAG
  have hp1 : (0 : Int) ≤ (B1 : Int) := by omega
  have hp2 : (B1 : Int) ≤ 100000 := by omega
  have HLT := asd (fun up near => show magV n e up near < 9223372036854775808 from Nat.lt_of_le_of_lt (magV_le n e up near hn) (by decide))
  clear hx hs hn hB1 hb
  unfold roundV
  cases neg
  · go_enter Tryz.func94, Tryz.ntmps94
    go_wp2_with (first
      | (go_at_call 126; refine (bitLen_any' _ n B1 _ HX.out HS.out HB1.out).mono ?_; rintro e1 wf ⟨rfl, df⟩; have IF := asd (HX.out.below df.below); have BF := asd df.below; clear df)
      | (go_at_call 127; refine (HMAG.out (mode == 3) (mode == 2) _ IF.out).mono ?_; rintro e1 wg ⟨rfl, dg⟩; have BG := asd (below_post dg BF.out); clear dg))
    go_ret
    exact ⟨rfl, BG.out⟩
  · go_enter Tryz.func94, Tryz.ntmps94
    go_wp2_with (first
      | (go_at_call 126; refine (bitLen_any' _ n B1 _ HX.out HS.out HB1.out).mono ?_; rintro e1 wf ⟨rfl, df⟩; have IF := asd (HX.out.below df.below); have BF := asd df.below; clear df)
      | (go_at_call 127; refine (HMAG.out (mode == 1) (mode == 2) _ IF.out).mono ?_; rintro e1 wg ⟨rfl, dg⟩; have BG := asd (below_post dg BF.out); clear dg)
      | (go_at_call 55; refine (PNl.math_Copysign.calls _ _ _ _ (copysign_neg _ (HLT.out _ _))).mono ?_; rintro e1 wh ⟨rfl, dh⟩; have BH := asd (below_post dh.below BG.out); clear dh))
    go_ret
    exact ⟨rfl, BH.out⟩
end
theorem val_ne {n : Bool} {l : List Int} {e : Int} (h : IsN n l e) (hl : l.length ≠ 0) : val l ≠ 0 := by
  have h1 := h.1
  unfold dyad_Valid.f at h1
  rw [if_neg (by omega)] at h1
  split at h1 <;> try (first | cases h1 | skip)
  split at h1 <;> try (first | cases h1 | skip)
  split at h1 <;> try (first | cases h1 | skip)
  split at h1 <;> try (first | cases h1 | skip)
  split at h1 <;> try (first | cases h1 | skip)
  split at h1 <;> try (first | cases h1 | skip)
  rename_i hb
  intro hv
  cases l with
  | nil => exact hl rfl
  | cons d l =>
    rw [val_cons] at hv
    have hd := h.2 d (by simp)
    have : d = 0 := by omega
    subst this
    have hr : rd (0 :: l) 0 = 0 := rfl
    rw [hr] at hb
    revert hb
    decide
theorem known_yes {m : Int} (h : 1 ≤ m ∧ m ≤ 3) : dyad_known.f m = some true := by
  unfold dyad_known.f; rw [if_pos h.1, decide_eq_true h.2]
theorem known_no {m : Int} (h : ¬ (1 ≤ m ∧ m ≤ 3)) : dyad_known.f m = some false := by
  unfold dyad_known.f; split
  · rw [decide_eq_false (by omega)]
  · rfl
def RetF (r : Nat × Int) (w : World) (e : Ending) (w' : World) : Prop := e = .returned (.tuple #[.float .f64 r.1, .int .i64 r.2]) ∧ Below w.heap.size w w'
section
variable (na : Bool) (la : List Int) (ea mode : Int) (A : Option Addr) (c : Nat) (w : World) (hda : DigS w la A c) (ha : IsN na la ea)
include hda ha
theorem round_num : Calls Tryz.prog 47 #[.agg #[.bool na, .slice A la.length c, .int .i64 ea], .int .i64 mode] w (RetF (roundN na la ea mode) w) := by
  obtain ⟨a1, a2, a3⟩ := ha.facts
  have D := asd hda
  have V := asd ha
  have HB := asd ((Below.refl w.heap.size w).alloc (Nat.le_refl _) (.cells #[.bool na, .slice A la.length c, .int .i64 ea] 60 (0, 0)))
  have N1 := asd (show NumB (w.alloc (.cells #[.bool na, .slice A la.length c, .int .i64 ea] 60 (0, 0))) w.heap.size na (.slice A la.length c) ea from blk_new _ _)
  have n0 := N1.out.c0
  have n1 := N1.out.c1
  have n2 := N1.out.c2
  by_cases hm : 1 ≤ mode ∧ mode ≤ 3
  · have KN := asd (known_yes hm)
    by_cases hl : la.length = 0
    · have hT : roundN na la ea mode = (0, 0) := by unfold roundN; rw [if_pos hm, if_pos hl]
      rw [hT]
      have hl' : ((la.length : Int) == 0) = true := by simp; exact List.length_eq_zero_iff.1 hl
      clear hda ha hm hl hT
      go_enter Tryz.func47, Tryz.ntmps47
      go_wp2_with (first
        | (go_at_call 91; refine (dyad_Valid.calls na A c la ea true _ (Kd.C_below D.out.rd HB.out) D.out.cap V.out.1).mono ?_; rintro e w2 ⟨rfl, b2⟩; have B2 := asd (below_post b2 HB.out); have N2 := asd (N1.out.below b2); have q0 := N2.out.c0; have q1 := N2.out.c1; have q2 := N2.out.c2; clear b2)
        | (go_at_call 92; refine (dyad_known.calls mode true _ KN.out).mono ?_; rintro e w3 ⟨rfl, b3⟩; have B3 := asd (below_post b3.below B2.out); have N3 := asd (N2.out.below b3.below); have q0 := N3.out.c0; have q1 := N3.out.c1; have q2 := N3.out.c2; clear b3))
      go_ret2
      exact ⟨rfl, B3.out⟩
    · obtain ⟨RV, hRV⟩ : ∃ r, roundV na (val la) ea mode = r := ⟨_, rfl⟩
      have hT : roundN na la ea mode = (RV, 0) := by unfold roundN; rw [if_pos hm, if_neg hl, hRV]
      rw [hT]
      have hl' : ((la.length : Int) == 0) = false := by simp; intro h; exact hl (by rw [h]; rfl)
      have HV0 := asd (val_ne ha hl)
      have HSH := asd (val_words_short ha)
      have HBL := asd (bl_words ha.2 a1)
      have HLL := asd (show la.length < 17592186044415 by omega)
      have HRV := asd hRV
      have HNA := asd (zv_natAbs na la)
      have e0 := asd (show (-100000 : Int) ≤ ea by omega)
      have e1 := asd (show ea ≤ (100000 : Int) by omega)
      clear hda ha hm hl hT hRV
      go_enter Tryz.func47, Tryz.ntmps47
      go_upto_region 6 with (first
        | (go_at_call 91; refine (dyad_Valid.calls na A c la ea true _ (Kd.C_below D.out.rd HB.out) D.out.cap V.out.1).mono ?_; rintro e w2 ⟨rfl, b2⟩; have B2 := asd (below_post b2 HB.out); have N2 := asd (N1.out.below b2); have q0 := N2.out.c0; have q1 := N2.out.c1; have q2 := N2.out.c2; clear b2)
        | (go_at_call 92; refine (dyad_known.calls mode true _ KN.out).mono ?_; rintro e w3 ⟨rfl, b3⟩; have B3 := asd (below_post b3.below B2.out); have N3 := asd (N2.out.below b3.below); clear q0 q1 q2; have q0 := N3.out.c0; have q1 := N3.out.c1; have q2 := N3.out.c2; clear b3)
        | (go_at_call 93; refine (value_any na la ea A c _ ⟨D.out.cap, Kd.C_below D.out.rd B3.out⟩ V.out.2 HLL.out).mono ?_; rintro e1 w4 ⟨b, rfl, i4, b4, n4⟩; have N4 := asd (N3.out.below b4); have B4 := asd (below_post b4 B3.out); have I4 := asd i4; have G4 := asd (show w.heap.size < b from Nat.lt_of_lt_of_le (blk_lt N3.out) n4); clear q0 q1 q2; have q0 := N4.out.c0; have q1 := N4.out.c1; have q2 := N4.out.c2; clear i4 b4 n4))
      go_region_held3 (fun w' => w'.cell? ⟨w.heap.size, 0, none⟩ = some (.bool na) ∧ w'.cell? ⟨w.heap.size, 1, none⟩ = some (.slice A la.length c) ∧ w'.cell? ⟨w.heap.size, 2, none⟩ = some (.int .i64 ea))
        (first | exact ⟨q0, q1, q2⟩ | exact S5.out | exact S6.out | go_keep)
        ((first
          | (go_at_call 95; refine (abs_any b b (zv na la) _ (IntV.z (I4.out.below (by exact (Below.refl _ _).drew))) (I4.out.below (by exact (Below.refl _ _).drew))).mono ?_; rw [HNA.out]; rintro e1 w5 ⟨rfl, o5, i5⟩; have S5 := asd (show w5.cell? ⟨w.heap.size, 0, none⟩ = some (.bool na) ∧ w5.cell? ⟨w.heap.size, 1, none⟩ = some (.slice A la.length c) ∧ w5.cell? ⟨w.heap.size, 2, none⟩ = some (.int .i64 ea) from ⟨(only_cell o5 (by have := G4.out; omega) (by have := G4.out; have := I4.out.lt; simp; omega) 0).trans q0, (only_cell o5 (by have := G4.out; omega) (by have := G4.out; have := I4.out.lt; simp; omega) 1).trans q1, (only_cell o5 (by have := G4.out; omega) (by have := G4.out; have := I4.out.lt; simp; omega) 2).trans q2⟩); have B5 := asd (below_only (by exact B4.out.drew) o5 (by exact B4.out.size) (by have := G4.out; omega)); have I5 := asd i5; have lt5 := asd (show w.heap.size < w5.heap.size from Nat.lt_trans G4.out i5.lt); clear o5 i5)
          | (go_at_call 94; refine (float_any b (val la) ea mode _ I5.out HSH.out na HV0.out e0.out e1.out (by have := HBL.out; omega)).mono ?_; rw [HRV.out]; rintro e1 w6 ⟨rfl, b6⟩; have B6 := asd (below_post b6 B5.out); have S6 := asd (show w6.cell? ⟨w.heap.size, 0, none⟩ = some (.bool na) ∧ w6.cell? ⟨w.heap.size, 1, none⟩ = some (.slice A la.length c) ∧ w6.cell? ⟨w.heap.size, 2, none⟩ = some (.int .i64 ea) from ⟨(b6.cell (p := ⟨w.heap.size, 0, none⟩) lt5.out).trans S5.out.1, (b6.cell (p := ⟨w.heap.size, 1, none⟩) lt5.out).trans S5.out.2.1, (b6.cell (p := ⟨w.heap.size, 2, none⟩) lt5.out).trans S5.out.2.2⟩); clear b6)))
      all_goals
        go_wp2
        go_ret2
        exact ⟨rfl, B6.out⟩
  · have KN := asd (known_no hm)
    have hT : roundN na la ea mode = (0, 1) := by unfold roundN; rw [if_neg hm]
    rw [hT]
    clear hda ha hm hT
    go_enter Tryz.func47, Tryz.ntmps47
    go_wp2_with (first
      | (go_at_call 91; refine (dyad_Valid.calls na A c la ea true _ (Kd.C_below D.out.rd HB.out) D.out.cap V.out.1).mono ?_; rintro e w2 ⟨rfl, b2⟩; have B2 := asd (below_post b2 HB.out); have N2 := asd (N1.out.below b2); have q0 := N2.out.c0; have q1 := N2.out.c1; have q2 := N2.out.c2; clear b2)
      | (go_at_call 92; refine (dyad_known.calls mode false _ KN.out).mono ?_; rintro e w3 ⟨rfl, b3⟩; have B3 := asd (below_post b3.below B2.out); have N3 := asd (N2.out.below b3.below); clear b3))
    go_ret2
    exact ⟨rfl, B3.out⟩
end
end Go.Proofs.YthmeocigliephaaGreatDoor.Big
end
section
namespace Go.Proofs.YthmeocigliephaaGreatDoor
open Go.Proofs.YthmeocigliephaaGreatDoor.Plain Go.Proofs.YthmeocigliephaaGreatDoor.Big
theorem neg_float (k : FloatKind) (b : Nat) : Op.unary .neg (.float k b) = pure (.float k (Op.negFloat k b)) := rfl
def dyad_Of.f (a0 : Nat) : Option (Bool × List Int × Int × Int) := if Fin64 a0 then some (mkN (floV a0) (expoV a0)) else none
theorem dyad_Of.calls (a0 : Nat) (r1 : Bool) (r2 : List Int) (r3 : Int) (r4 : Int) (w : World) (h : dyad_Of.f a0 = some (r1, r2, r3, r4)) (hL : Laid w := by exact Go.Proofs.YthmeocigliephaaGreatDoor.Big.Laid.step HL.out hbw) :
    Calls Tryz.prog 90 #[.float .f64 a0] w fun e w' => ∃ v1_ : Value, e = .returned (.tuple #[.agg #[.bool r1, v1_, .int .i64 r3], .int .i64 r4]) ∧ Kd.R (Kd.int .u32) 83 w' w.heap.size (fun _ => True) v1_ r2 ∧ Below w.heap.size w w' := by
  unfold dyad_Of.f at h
  split at h
  · rename_i hf
    have := of_num a0 w hf hL
    rw [Option.some.inj h] at this
    exact this
  · cases h
def dyad_Add.f (a0_0 : Bool) (l0_1 : List Int) (a0_2 : Int) (a1_0 : Bool) (l1_1 : List Int) (a1_2 : Int) : Option (Bool × List Int × Int × Int) :=
  if IsN a0_0 l0_1 a0_2 ∧ IsN a1_0 l1_1 a1_2 then some (addV a0_0 l0_1 a0_2 a1_0 l1_1 a1_2) else none
theorem dyad_Add.calls (a0_0 : Bool) (A0_1 : Option Addr) (c0_1 : Nat) (l0_1 : List Int) (a0_2 : Int) (a1_0 : Bool) (A1_1 : Option Addr) (c1_1 : Nat) (l1_1 : List Int) (a1_2 : Int) (r1 : Bool) (r2 : List Int) (r3 : Int) (r4 : Int) (w : World)
    (hr0_1 : Kd.C (Kd.int .u32) w A0_1 l0_1.length l0_1) (hc0_1 : l0_1.length ≤ c0_1) (hr1_1 : Kd.C (Kd.int .u32) w A1_1 l1_1.length l1_1) (hc1_1 : l1_1.length ≤ c1_1)
    (h : dyad_Add.f a0_0 l0_1 a0_2 a1_0 l1_1 a1_2 = some (r1, r2, r3, r4)) (hL : Laid w := by exact Go.Proofs.YthmeocigliephaaGreatDoor.Big.Laid.step HL.out hbw) :
    Calls Tryz.prog 79 #[.agg #[.bool a0_0, .slice A0_1 l0_1.length c0_1, .int .i64 a0_2], .agg #[.bool a1_0, .slice A1_1 l1_1.length c1_1, .int .i64 a1_2]] w fun e w' => ∃ v1_ : Value, e = .returned (.tuple #[.agg #[.bool r1, v1_, .int .i64 r3], .int .i64 r4]) ∧ Kd.R (Kd.int .u32) 83 w' w.heap.size (fun _ => True) v1_ r2 ∧ Below w.heap.size w w' := by
  unfold dyad_Add.f at h
  split at h
  · rename_i hf
    have := add_num a0_0 l0_1 a0_2 A0_1 c0_1 a1_0 l1_1 a1_2 A1_1 c1_1 w ⟨hc0_1, hr0_1⟩ hf.1 ⟨hc1_1, hr1_1⟩ hf.2 hL
    rw [Option.some.inj h] at this
    exact this
  · cases h
def dyad_Mul.f (a0_0 : Bool) (l0_1 : List Int) (a0_2 : Int) (a1_0 : Bool) (l1_1 : List Int) (a1_2 : Int) : Option (Bool × List Int × Int × Int) :=
  if IsN a0_0 l0_1 a0_2 ∧ IsN a1_0 l1_1 a1_2 then some (mkN (zv a0_0 l0_1 * zv a1_0 l1_1) (a0_2 + a1_2)) else none
def dyad_Round.f (a0_0 : Bool) (l0_1 : List Int) (a0_2 : Int) (a1 : Int) : Option (Nat × Int) := if IsN a0_0 l0_1 a0_2 then some (roundN a0_0 l0_1 a0_2 a1) else none
theorem dyad_Round.calls (a0_0 : Bool) (A0_1 : Option Addr) (c0_1 : Nat) (l0_1 : List Int) (a0_2 : Int) (a1 : Int) (r1 : Nat) (r2 : Int) (w : World)
    (hr0_1 : Kd.C (Kd.int .u32) w A0_1 l0_1.length l0_1) (hc0_1 : l0_1.length ≤ c0_1) (h : dyad_Round.f a0_0 l0_1 a0_2 a1 = some (r1, r2)) :
    Calls Tryz.prog 47 #[.agg #[.bool a0_0, .slice A0_1 l0_1.length c0_1, .int .i64 a0_2], .int .i64 a1] w fun e w' => e = .returned (.tuple #[.float .f64 r1, .int .i64 r2]) ∧ Below w.heap.size w w' := by
  unfold dyad_Round.f at h
  split at h
  · rename_i hf
    have := round_num a0_0 l0_1 a0_2 a1 A0_1 c0_1 w ⟨hc0_1, hr0_1⟩ hf
    rw [Option.some.inj h] at this
    exact this
  · cases h
end Go.Proofs.YthmeocigliephaaGreatDoor
end
section
namespace Go.Proofs.YthmeocigliephaaGreatDoor.PSu
attribute [local go_sem] f64bits_run f64from_run run_float_some max2_int min2_int max_two min_two max_three min_three max_four min_four
def round_num.f (a0 : Nat) : Option (Bool × List Int × Int) := (dyad_Of.f a0).bind fun bt116 => (some (bt116.1, bt116.2.1, bt116.2.2.1))
theorem round_num.calls (a0 : Nat) (r1 : Bool) (r2 : List Int) (r3 : Int) (w : World) (h : round_num.f a0 = some (r1, r2, r3)) (hL : Big.Laid w := by exact Big.Laid.step HL.out hbw) :
  Calls Tryz.prog 115 #[.float .f64 a0] w fun e w' => ∃ v1_ : Value, e = .returned (.agg #[.bool r1, v1_, .int .i64 r3]) ∧ Kd.R (Kd.int .u32) 83 w' w.heap.size (fun _ => True) v1_ r2 ∧ Below w.heap.size w w' := by
 have HL := asd hL
 clear hL
 have hu60 := Tryz.underlying60
 have HB := asd (Below.refl w.heap.size w)
 have H : ((dyad_Of.f a0).bind fun bt116 => (some (bt116.1, bt116.2.1, bt116.2.2.1))) = some (r1, r2, r3) := h
 clear h
 replace H := Option.bind_eq_some_iff.mp H
 obtain ⟨⟨t116, t117, t120, t121⟩, A20, H⟩ := H
 replace H : (some (t116, t117, t120)) = some (r1, r2, r3) := H
 have A2 := asd A20
 clear A20
 simp only [Option.some.injEq, Prod.mk.injEq] at H
 obtain ⟨rfl, rfl, rfl⟩ := H
 go_enter Tryz.func115, Tryz.ntmps115
 go_wp2_with (first | ((with_reducible refine gate_dst (N := 2) rfl ?_); refine box_event ?hg (N := 2) ?hd (cs := #[.bool false, .slice none 0 0, .int .i64 0]) (t := 60) ?hr ?_; (case hd => rfl); (case hg => rfl); (case hr => first | (go_simp; done) | (go_simp; rfl)); intro gb115 hg w3 hbox hb; have n0_ := asd (below_step hbw hb); have n1_ := asd (hbox); have n2_ := asd ((by rw [hg]; exact (below_size hbw) : w.heap.size ≤ gb115)); have n3_ := asd ((by rw [hg]; exact (below_size hbw) : w.heap.size ≤ gb115)); clear HB; have HB := n0_; have BK115 := n1_; have GW115 := n2_; have GE115 := n3_; clear n0_ n1_ n2_ n3_; clear hb hbox hg) | ((with_reducible refine gate_callee (f := 90) rfl ?_); refine goesL_ (some 7) rfl rfl Tryz.func90 (by kernel_rfl) rfl #[.float .f64 a0] rfl eqA ?_; (with_reducible refine (dyad_Of.calls a0 t116 t117 t120 t121 _ A2.out).mono ?_); rintro e w4 ⟨v118, rfl, ho0, hb⟩; refine ⟨_, rfl, ?_⟩; have n0_ := asd (Kd.R_lower ho0 (below_size (by repeat (first | (with_reducible first | exact HB.out | apply below_alloc | apply pw_below_drewN | apply below_drew1 | refine below_set ?_ GE115.out) | exact HB.out)))); have n1_ := asd (blk_below (g := gb115) (o := .cells #[.bool false, .slice none 0 0, .int .i64 0] 60 (0, 0)) (blkU BK115.out) hb); have n2_ := asd (below_step (by repeat (first | (with_reducible first | exact HB.out | apply below_alloc | apply pw_below_drewN | apply below_drew1 | refine below_set ?_ GE115.out) | exact HB.out)) hb); clear BK115; clear HB; have HO119 := n0_; have BK115 := n1_; have HB := n2_; clear n0_ n1_ n2_; (try clear hb); (try clear hb2); (try clear hk); (try clear hi); (try clear ho0)) | ((with_reducible refine gate_dst (N := 3) rfl ?_); refine box_event ?hg (N := 3) ?hd (cs := #[.bool false, .slice none 0 0, .int .i64 0]) (t := 60) ?hr ?_; (case hd => rfl); (case hg => rfl); (case hr => first | (go_simp; done) | (go_simp; rfl)); intro gb122 hg w5 hbox hb; have n0_ := asd (Kd.R_below (rUp HO119.out) hb); have n1_ := asd (blk_below (g := gb115) (o := .cells #[.bool false, .slice none 0 0, .int .i64 0] 60 (0, 0)) (blkU BK115.out) hb); have n2_ := asd (below_step (by repeat (first | (with_reducible first | exact HB.out | apply below_alloc | apply pw_below_drewN | apply below_drew1 | refine below_set ?_ GE115.out) | exact HB.out)) hb); have n3_ := asd (hbox); have n4_ := asd ((by rw [hg]; exact (below_size (by repeat (first | (with_reducible first | exact HB.out | apply below_alloc | apply pw_below_drewN | apply below_drew1 | refine below_set ?_ GE115.out) | exact HB.out))) : w.heap.size ≤ gb122)); have n5_ := asd ((by rw [hg]; exact (below_size (by repeat (first | (with_reducible first | exact HB.out | apply below_alloc | apply pw_below_drewN | apply below_drew1 | refine below_set ?_ GE115.out) | exact HB.out))) : w.heap.size ≤ gb122)); have n6_ := asd ((by rw [hg]; exact Nat.ne_of_lt (blk_lt (g := gb115) (o := .cells #[.bool false, .slice none 0 0, .int .i64 0] 60 (0, 0)) (blkU BK115.out)) : gb115 ≠ gb122)); have n7_ := asd ((by rw [hg]; exact Nat.ne_of_gt (blk_lt (g := gb115) (o := .cells #[.bool false, .slice none 0 0, .int .i64 0] 60 (0, 0)) (blkU BK115.out)) : gb122 ≠ gb115)); clear HO119; clear BK115; clear HB; have HO119 := n0_; have BK115 := n1_; have HB := n2_; have BK122 := n3_; have GW122 := n4_; have GE122 := n5_; have NB115_122 := n6_; have NB122_115 := n7_; clear n0_ n1_ n2_ n3_ n4_ n5_ n6_ n7_; clear hb hbox hg; have hnb6 := NB122_115.out; have hnc6 := NB115_122.out; have hcz7_0 : w5.cell? ⟨gb122, 0, none⟩ = some (.bool false) := (blk_cell BK122.out 0).trans rfl; have hcz7_1 : w5.cell? ⟨gb122, 1, none⟩ = some (.slice none 0 0) := (blk_cell BK122.out 1).trans rfl; have hcz7_2 : w5.cell? ⟨gb122, 2, none⟩ = some (.int .i64 0) := (blk_cell BK122.out 2).trans rfl; have hfz7_0 := blk_frozen BK122.out 0; have hfz7_1 := blk_frozen BK122.out 1; have hfz7_2 := blk_frozen BK122.out 2; obtain ⟨Ao8, co8, eo8⟩ := Kd.R_slice HO119.out; subst eo8; have hcz9_0 : w5.cell? ⟨gb115, 0, none⟩ = some (.bool false) := (blk_cell BK115.out 0).trans rfl; have hcz9_1 : w5.cell? ⟨gb115, 1, none⟩ = some (.slice none 0 0) := (blk_cell BK115.out 1).trans rfl; have hcz9_2 : w5.cell? ⟨gb115, 2, none⟩ = some (.int .i64 0) := (blk_cell BK115.out 2).trans rfl; have hfz9_0 := blk_frozen BK115.out 0; have hfz9_1 := blk_frozen BK115.out 1; have hfz9_2 := blk_frozen BK115.out 2))
 refine bodyPost_ret (results_cell_row rfl _ _ gb115 60 #[.bool t116, .slice Ao8 t117.length co8, .int .i64 t120] (0, 0) _ rfl (by (with_reducible repeat (first | refine blk_drewN ?_ _ | refine blk_drew ?_ | refine blk_alloc ?_ _)); refine blk_put (cs := #[.bool t116, .slice Ao8 t117.length co8, .int .i64 0]) ?_ 2 _ rfl; (with_reducible repeat (first | refine blk_drewN ?_ _ | refine blk_drew ?_ | refine blk_alloc ?_ _)); refine blk_put (cs := #[.bool t116, .slice none 0 0, .int .i64 0]) ?_ 1 _ rfl; (with_reducible repeat (first | refine blk_drewN ?_ _ | refine blk_drew ?_ | refine blk_alloc ?_ _)); refine blk_put (cs := #[.bool false, .slice none 0 0, .int .i64 0]) ?_ 0 _ rfl; (with_reducible repeat (first | refine blk_drewN ?_ _ | refine blk_drew ?_ | refine blk_alloc ?_ _)); refine blk_far ?_ NB115_122.out _; (with_reducible repeat (first | refine blk_drewN ?_ _ | refine blk_drew ?_ | refine blk_alloc ?_ _)); refine blk_far ?_ NB115_122.out _; (with_reducible repeat (first | refine blk_drewN ?_ _ | refine blk_drew ?_ | refine blk_alloc ?_ _)); refine blk_far ?_ NB115_122.out _; (with_reducible repeat (first | refine blk_drewN ?_ _ | refine blk_drew ?_ | refine blk_alloc ?_ _)); exact BK115.out) Tryz.underlying60 rfl (by kernel_rfl)) rfl ?_
 exact ⟨_, eqC, by (with_reducible repeat (first | apply Kd.R_alloc | apply Kd.R_drewN | apply Kd.R_drew)); exact Kd.R_mono (Kd.R_far (p := ⟨gb115, 2, none⟩) (Kd.R_far (p := ⟨gb115, 1, none⟩) (Kd.R_far (p := ⟨gb115, 0, none⟩) (Kd.R_far (p := ⟨gb122, 2, none⟩) (Kd.R_far (p := ⟨gb122, 1, none⟩) (Kd.R_far (p := ⟨gb122, 0, none⟩) (Kd.R_types (Kd.R_types HO119.out BK122.out (by decide)) BK115.out (by decide)) (fun _ hk => hk.1.2) (.bool t116)) (fun _ hk => hk.1.2) (.slice Ao8 t117.length co8)) (fun _ hk => hk.1.2) (.int .i64 t120)) (fun _ hk => hk.2) (.bool t116)) (fun _ hk => hk.2) (.slice Ao8 t117.length co8)) (fun _ hk => hk.2) (.int .i64 t120)) (fun _ hk => trivial), by repeat (first | (with_reducible first | exact HB.out | apply below_alloc | apply pw_below_drewN | apply below_drew1 | refine below_set ?_ GE115.out | refine below_set ?_ GE122.out) | exact HB.out)⟩
def math_Signbit.f (a0 : Nat) : Option (Bool) := some (decide ((wrap64 (((a0 : Nat) : Int))) < 0))
theorem math_Signbit.calls (a0 : Nat) (r : Bool) (w : World) (h : math_Signbit.f a0 = some r) :
  Calls Tryz.prog 54 #[.float .f64 a0] w fun e w' => e = .returned (.bool r) ∧ Drawn0 w w' := by
 have H : (some (decide ((wrap64 (((a0 : Nat) : Int))) < 0))) = some r := h
 clear h
 obtain rfl := Option.some.inj H
 go_enter Tryz.func54, Tryz.ntmps54
 go_wp2
 go_ret
 exact ⟨eqB, dn0⟩
def math_Copysign.f (a0 : Nat) (a1 : Nat) : Option (Nat) := some ((Go.bits .or .u64 (Go.bits .andNot .u64 ((a0 : Nat) : Int) 9223372036854775808) (Go.bits .and .u64 ((a1 : Nat) : Int) 9223372036854775808) : Int).toNat)
theorem math_Copysign.calls (a0 : Nat) (a1 : Nat) (r : Nat) (w : World) (h : math_Copysign.f a0 a1 = some r) :
  Calls Tryz.prog 55 #[.float .f64 a0, .float .f64 a1] w fun e w' => e = .returned (.float .f64 r) ∧ Drawn0 w w' := by
 have H : (some ((Go.bits .or .u64 (Go.bits .andNot .u64 ((a0 : Nat) : Int) 9223372036854775808) (Go.bits .and .u64 ((a1 : Nat) : Int) 9223372036854775808) : Int).toNat)) = some r := h
 clear h
 obtain rfl := Option.some.inj H
 go_enter Tryz.func55, Tryz.ntmps55
 go_wp2
 go_ret
 exact ⟨eqB, dn0⟩
def round_nought.j0 : Nat → Nat → Nat → Int → Bool → Option (Nat)
 | 0, _, _, _, _ => none
 | k + 1, x0, x1, x2, x7 => (math_Signbit.f x0).bind fun t123 => ((math_Signbit.f x1).bind fun t124 => (if x7 = true then (if t123 = true then (if t124 = true then ((math_Copysign.f (0 : Nat) (13830554455654793216 : Nat)).bind fun t125 => (some t125)) else (if x2 = 1 then ((math_Copysign.f (0 : Nat) (13830554455654793216 : Nat)).bind fun t126 => (some t126)) else (some (0 : Nat)))) else (if x2 = 1 then (if t124 = true then ((math_Copysign.f (0 : Nat) (13830554455654793216 : Nat)).bind fun t127 => (some t127)) else (some (0 : Nat))) else (some (0 : Nat)))) else (if x2 = 1 then ((math_Copysign.f (0 : Nat) (13830554455654793216 : Nat)).bind fun t128 => (some t128)) else (some (0 : Nat)))))
def round_nought.f (k : Nat) (a0 : Nat) (a1 : Nat) (a2 : Int) : Option (Nat) := if ((FloatKind.f64.format.order a0 (0 : Nat)) == some .eq) = true then (round_nought.j0 k a0 a1 a2 ((FloatKind.f64.format.order a1 (0 : Nat)) == some .eq)) else (round_nought.j0 k a0 a1 a2 false)
end Go.Proofs.YthmeocigliephaaGreatDoor.PSu
end
section
namespace Go.Proofs.YthmeocigliephaaGreatDoor.PSu
attribute [local go_sem] f64bits_run f64from_run run_float_some max2_int min2_int max_two min_two max_three min_three max_four min_four
def math_NaN.f  : Option (Nat) := some ((9221120237041090561 : Int).toNat)
theorem math_NaN.calls  (r : Nat) (w : World) (h : math_NaN.f  = some r) :
  Calls Tryz.prog 113 #[] w fun e w' => e = .returned (.float .f64 r) ∧ Drawn0 w w' := by
 have H : (some ((9221120237041090561 : Int).toNat)) = some r := h
 clear h
 obtain rfl := Option.some.inj H
 go_enter Tryz.func113, Tryz.ntmps113
 go_wp2
 go_ret
 exact ⟨eqB, dn0⟩
def math_Abs.f (a0 : Nat) : Option (Nat) := some ((Go.bits .andNot .u64 ((a0 : Nat) : Int) 9223372036854775808 : Int).toNat)
theorem math_Abs.calls (a0 : Nat) (r : Nat) (w : World) (h : math_Abs.f a0 = some r) :
  Calls Tryz.prog 41 #[.float .f64 a0] w fun e w' => e = .returned (.float .f64 r) ∧ Drawn0 w w' := by
 have H : (some ((Go.bits .andNot .u64 ((a0 : Nat) : Int) 9223372036854775808 : Int).toNat)) = some r := h
 clear h
 obtain rfl := Option.some.inj H
 go_enter Tryz.func41, Tryz.ntmps41
 go_wp2
 go_ret
 exact ⟨eqB, dn0⟩
def math_IsInf.f (a0 : Nat) (a1 : Int) : Option (Bool) := if a1 = 0 then ((math_Abs.f a0).bind fun t113 => (some ((FloatKind.f64.format.order t113 (9218868437227405311 : Nat)) == some .gt))) else (none)
theorem math_IsInf.calls (a0 : Nat) (a1 : Int) (r : Bool) (w : World) (h : math_IsInf.f a0 a1 = some r) :
  Calls Tryz.prog 43 #[.float .f64 a0, .int .i64 a1] w fun e w' => e = .returned (.bool r) ∧ Drawn0 w w' := by
 have H : (if a1 = 0 then ((math_Abs.f a0).bind fun t113 => (some ((FloatKind.f64.format.order t113 (9218868437227405311 : Nat)) == some .gt))) else (none)) = some r := h
 clear h
 by_cases c3 : a1 = 0
 ·rw [if_pos c3] at H
  have c3b0 : (a1 == 0) = true := beq_iff_eq.mpr c3
  have c3b1 : (a1 != 0) = false := bne_eq_false_iff_eq.mpr c3
  clear c3
  replace H := Option.bind_eq_some_iff.mp H
  obtain ⟨t113, A40, H⟩ := H
  replace H : (some ((FloatKind.f64.format.order t113 (9218868437227405311 : Nat)) == some .gt)) = some r := H
  have A4 := asd A40
  clear A40
  obtain rfl := Option.some.inj H
  go_enter Tryz.func43, Tryz.ntmps43
  go_wp2_with (first | ((with_reducible refine gate_callee (f := 41) rfl ?_); refine goesL_ (some 8) rfl rfl Tryz.func41 (by kernel_rfl) rfl #[.float .f64 a0] rfl eqA ?_; (with_reducible refine (math_Abs.calls a0 t113 _ A4.out).mono ?_); rintro e w' ⟨rfl, ⟨nd, rfl⟩⟩; refine ⟨_, rfl, ?_⟩))
  go_ret
  exact ⟨eqB, dn0⟩
 ·rw [if_neg c3] at H
  exact absurd H (by simp)
def round_infinite.f (a0 : Nat) : Option (Bool) := (math_IsInf.f a0 0).bind fun t114 => (some t114)
theorem round_infinite.calls (a0 : Nat) (r : Bool) (w : World) (h : round_infinite.f a0 = some r) :
  Calls Tryz.prog 114 #[.float .f64 a0] w fun e w' => e = .returned (.bool r) ∧ Drawn0 w w' := by
 have H : ((math_IsInf.f a0 0).bind fun t114 => (some t114)) = some r := h
 clear h
 replace H := Option.bind_eq_some_iff.mp H
 obtain ⟨t114, A20, H⟩ := H
 replace H : (some t114) = some r := H
 have A2 := asd A20
 clear A20
 obtain rfl := Option.some.inj H
 go_enter Tryz.func114, Tryz.ntmps114
 go_wp2_with (first | ((with_reducible refine gate_callee (f := 43) rfl ?_); refine goesL_ (some 4) rfl rfl Tryz.func43 (by kernel_rfl) rfl #[.float .f64 a0, .int .i64 0] rfl eqA ?_; (with_reducible refine (math_IsInf.calls a0 0 t114 _ A2.out).mono ?_); rintro e w' ⟨rfl, ⟨nd, rfl⟩⟩; refine ⟨_, rfl, ?_⟩))
 go_ret
 exact ⟨eqB, dn0⟩
end Go.Proofs.YthmeocigliephaaGreatDoor.PSu
end
section
namespace Go.Proofs.YthmeocigliephaaGreatDoor.Big
open Go.Proofs.YthmeocigliephaaGreatDoor.PSu Go.Proofs.YthmeocigliephaaGreatDoor.Plain
attribute [local go_sem] f64bits_run f64from_run
def nanB (b : Nat) : Bool := (FloatKind.f64.format.order b b) != some .eq
def infB? (b : Nat) : Bool := (math_IsInf.f b 0).getD false
def oneB (b : Nat) : Bool := ((FloatKind.f64.format.order b 0) != some .eq) || !((math_Signbit.f b).getD false)
def idxF (p : Nat → Bool) : List Nat → Int → Int
  | [], _ => -1
  | b :: l, i => if p b = true then i else idxF p l (i + 1)
theorem idxF_lt (p : Nat → Bool) : ∀ (l : List Nat) (i : Int), 0 ≤ i → (decide (idxF p l i ≥ 0) = l.any p)
  | [], i, _ => by simp [idxF]
  | b :: l, i, h => by
    unfold idxF
    rw [List.any_cons]
    split
    · next hb => rw [hb]; simpa using h
    · next hb =>
      have : p b = false := by simpa using hb
      rw [this, Bool.false_or]; exact idxF_lt p l (i + 1) (by omega)
theorem drop_rd (l : List Nat) (i : Nat) (h : i < l.length) : l.drop i = rdOf (0 : Nat) l (i : Int) :: l.drop (i + 1) := by
  rw [List.drop_eq_getElem_cons h]
  congr 1
  simp [rdOf, List.getD, h]
theorem inf_some (b : Nat) : math_IsInf.f b 0 = some (infB? b) := by
  unfold infB? math_IsInf.f
  rw [if_pos rfl]
  unfold math_Abs.f
  rfl
theorem fn_nan (b : Nat) (w : World) : Calls Tryz.prog 96 #[.float .f64 b] w fun e w' => e = .returned (.bool (nanB b)) ∧ Drawn0 w w' := by
  go_enter Tryz.func96, Tryz.ntmps96
  go_wp2
  go_ret
  exact ⟨rfl, ⟨0, rfl⟩⟩
theorem fn_inf (b : Nat) (w : World) : Calls Tryz.prog 97 #[.float .f64 b] w fun e w' => e = .returned (.bool (infB? b)) ∧ Drawn0 w w' := by
  go_enter Tryz.func97, Tryz.ntmps97
  go_wp2_with (go_at_call 43; refine (math_IsInf.calls b 0 _ _ (inf_some b)).mono ?_; rintro e w1 ⟨rfl, d⟩; have D := asd d; clear d)
  go_ret
  exact ⟨rfl, D.out⟩
theorem fn_one (b : Nat) (w : World) : Calls Tryz.prog 53 #[.float .f64 b] w fun e w' => e = .returned (.bool (oneB b)) ∧ Drawn0 w w' := by
  obtain ⟨t, ht⟩ : ∃ t, math_Signbit.f b = some t := ⟨_, rfl⟩
  have hb : oneB b = (((FloatKind.f64.format.order b 0) != some .eq) || !t) := by unfold oneB; rw [ht]; rfl
  rw [hb]
  have HT := asd ht
  clear ht hb
  have hcc : ((FloatKind.f64.format.order b 0) != some .eq) = true ∨ ((FloatKind.f64.format.order b 0) != some .eq) = false := by cases ((FloatKind.f64.format.order b 0) != some .eq) <;> simp
  rcases hcc with h | h
  · go_enter Tryz.func53, Tryz.ntmps53
    go_wp2
    go_ret
    exact ⟨by rw [h]; rfl, ⟨0, rfl⟩⟩
  · go_enter Tryz.func53, Tryz.ntmps53
    go_wp2_with (go_at_call 54; refine (math_Signbit.calls b t _ HT.out).mono ?_; rintro e w1 ⟨rfl, d⟩; have D := asd d; clear d)
    go_ret
    exact ⟨by rw [h]; rfl, D.out⟩
section
variable (A : Option Addr) (c : Nat) (l : List Nat) (w : World) (hr : Kd.C Kd.float w A l.length l) (hc : l.length ≤ c) (hn : l.length < 4611686018427387904)
include hr hc hn
theorem index_nan : Calls Tryz.prog 98 #[.slice A l.length c, .func (.func 96) #[] #[]] w fun e w' => e = .returned (.int .i64 (idxF nanB l 0)) ∧ Below w.heap.size w w' := by
  obtain ⟨R, hR⟩ : ∃ R, idxF nanB l 0 = R := ⟨_, rfl⟩
  rw [hR]
  have HR := asd hr
  have H' := asd (show idxF nanB (l.drop 0) ((0 : Nat) : Int) = R from hR)
  have hlen : (0 : Int) ≤ (l.length : Int) := by omega
  clear hr hc hR
  go_enter Tryz.func98, Tryz.ntmps98
  go_wp2
  go_loopg [5, 8] l.length (fun kq v5 v8 w' => ∃ i : Nat, v8 = .int .i64 (i : Int) ∧ Aside0 (kq + i = l.length) ∧ Aside0 (idxF nanB (l.drop i) (i : Int) = R) ∧ Aside0 (Below w.heap.size w w'))
  case atStart => exact ⟨0, rfl, ⟨by omega⟩, H', ⟨Below.refl _ _⟩⟩
  case round =>
    clear H'
    obtain ⟨i, rfl, HK, HA, HB⟩ := hrel
    have hi0 : (0 : Int) ≤ (i : Int) := by omega
    cases gk with
    | zero =>
      have hi : i = l.length := by have := HK.out; omega
      have c1 : decide ((i : Int) < (l.length : Int)) = false := by simp; omega
      have hR : R = -1 := by have := HA.out; rw [hi, List.drop_length] at this; exact this.symm
      subst hR
      have c2 : decide (i < l.length) = false := by simp; omega
      clear hi
      go_wp2
      go_ret
      exact ⟨rfl, HB.out⟩
    | succ k1 =>
      have hi : i < l.length := by have := HK.out; omega
      have c1 : decide ((i : Int) < (l.length : Int)) = true := by simp; omega
      have p1 : 0 ≤ (i : Int) := hi0
      have q1 : (i : Int) < (l.length : Int) := by omega
      obtain ⟨ad, rfl, hx⟩ := Kd.at_float HR.out (i : Int) p1 q1
      replace hx := (HB.out.cell (World.block_lt_of_cell? w _ hx)).trans hx
      rw [Int.toNat_natCast] at hx
      have hA := HA.out
      rw [drop_rd l i hi] at hA
      unfold idxF at hA
      replace p1 := eq_true p1
      replace q1 := eq_true q1
      have HI := asd hi
      clear HA hi
      by_cases hp : nanB (rdOf (0 : Nat) l (i : Int)) = true
      · rw [if_pos hp] at hA
        subst hA
        go_wp2_with (go_at_call 96; refine (fn_nan _ _).mono ?_; rw [hp]; rintro e w1 ⟨rfl, d⟩; have HB2 := asd (below_post d.below HB.out); clear d)
        go_ret
        exact ⟨rfl, HB2.out⟩
      · rw [if_neg hp] at hA
        have hp' : nanB (rdOf (0 : Nat) l (i : Int)) = false := by simpa using hp
        have HA := asd hA
        clear hA hp
        go_wp2_with (go_at_call 96; refine (fn_nan _ _).mono ?_; rw [hp']; rintro e w1 ⟨rfl, d⟩; have HB2 := asd (below_post d.below HB.out); clear d)
        go_roundg k1
        case measure => omega
        case rel => exact ⟨i + 1, by congr 1; have := HI.out; exact (w64_of (by omega) (by omega)).trans (by omega), ⟨by have := HK.out; omega⟩, HA, ⟨HB2.out⟩⟩
theorem contains_nan : Calls Tryz.prog 52 #[.slice A l.length c, .func (.func 96) #[] #[]] w fun e w' => e = .returned (.bool (l.any nanB)) ∧ Below w.heap.size w w' := by
  obtain ⟨R, hR⟩ : ∃ R, idxF nanB l 0 = R := ⟨_, rfl⟩
  have hb := idxF_lt nanB l 0 (by omega)
  rw [hR] at hb
  rw [← hb]
  have HI := asd (fun (w : World) (hr : Kd.C Kd.float w A l.length l) => index_nan A c l w hr hc hn)
  rw [hR] at HI
  have HR := asd hr
  clear hr hc hb hR
  go_enter Tryz.func52, Tryz.ntmps52
  go_wp2_with (go_at_call 98; refine (HI.out _ HR.out).mono ?_; rintro e w1 ⟨rfl, d⟩; have HB := asd d; clear d)
  go_ret
  exact ⟨rfl, HB.out⟩
theorem index_inf : Calls Tryz.prog 98 #[.slice A l.length c, .func (.func 97) #[] #[]] w fun e w' => e = .returned (.int .i64 (idxF infB? l 0)) ∧ Below w.heap.size w w' := by
  obtain ⟨R, hR⟩ : ∃ R, idxF infB? l 0 = R := ⟨_, rfl⟩
  rw [hR]
  have HR := asd hr
  have H' := asd (show idxF infB? (l.drop 0) ((0 : Nat) : Int) = R from hR)
  have hlen : (0 : Int) ≤ (l.length : Int) := by omega
  clear hr hc hR
  go_enter Tryz.func98, Tryz.ntmps98
  go_wp2
  go_loopg [5, 8] l.length (fun kq v5 v8 w' => ∃ i : Nat, v8 = .int .i64 (i : Int) ∧ Aside0 (kq + i = l.length) ∧ Aside0 (idxF infB? (l.drop i) (i : Int) = R) ∧ Aside0 (Below w.heap.size w w'))
  case atStart => exact ⟨0, rfl, ⟨by omega⟩, H', ⟨Below.refl _ _⟩⟩
  case round =>
    clear H'
    obtain ⟨i, rfl, HK, HA, HB⟩ := hrel
    have hi0 : (0 : Int) ≤ (i : Int) := by omega
    cases gk with
    | zero =>
      have hi : i = l.length := by have := HK.out; omega
      have c1 : decide ((i : Int) < (l.length : Int)) = false := by simp; omega
      have hR : R = -1 := by have := HA.out; rw [hi, List.drop_length] at this; exact this.symm
      subst hR
      have c2 : decide (i < l.length) = false := by simp; omega
      clear hi
      go_wp2
      go_ret
      exact ⟨rfl, HB.out⟩
    | succ k1 =>
      have hi : i < l.length := by have := HK.out; omega
      have c1 : decide ((i : Int) < (l.length : Int)) = true := by simp; omega
      have p1 : 0 ≤ (i : Int) := hi0
      have q1 : (i : Int) < (l.length : Int) := by omega
      obtain ⟨ad, rfl, hx⟩ := Kd.at_float HR.out (i : Int) p1 q1
      replace hx := (HB.out.cell (World.block_lt_of_cell? w _ hx)).trans hx
      rw [Int.toNat_natCast] at hx
      have hA := HA.out
      rw [drop_rd l i hi] at hA
      unfold idxF at hA
      replace p1 := eq_true p1
      replace q1 := eq_true q1
      have HI := asd hi
      clear HA hi
      by_cases hp : infB? (rdOf (0 : Nat) l (i : Int)) = true
      · rw [if_pos hp] at hA
        subst hA
        go_wp2_with (go_at_call 97; refine (fn_inf _ _).mono ?_; rw [hp]; rintro e w1 ⟨rfl, d⟩; have HB2 := asd (below_post d.below HB.out); clear d)
        go_ret
        exact ⟨rfl, HB2.out⟩
      · rw [if_neg hp] at hA
        have hp' : infB? (rdOf (0 : Nat) l (i : Int)) = false := by simpa using hp
        have HA := asd hA
        clear hA hp
        go_wp2_with (go_at_call 97; refine (fn_inf _ _).mono ?_; rw [hp']; rintro e w1 ⟨rfl, d⟩; have HB2 := asd (below_post d.below HB.out); clear d)
        go_roundg k1
        case measure => omega
        case rel => exact ⟨i + 1, by congr 1; have := HI.out; exact (w64_of (by omega) (by omega)).trans (by omega), ⟨by have := HK.out; omega⟩, HA, ⟨HB2.out⟩⟩
theorem contains_inf : Calls Tryz.prog 52 #[.slice A l.length c, .func (.func 97) #[] #[]] w fun e w' => e = .returned (.bool (l.any infB?)) ∧ Below w.heap.size w w' := by
  obtain ⟨R, hR⟩ : ∃ R, idxF infB? l 0 = R := ⟨_, rfl⟩
  have hb := idxF_lt infB? l 0 (by omega)
  rw [hR] at hb
  rw [← hb]
  have HI := asd (fun (w : World) (hr : Kd.C Kd.float w A l.length l) => index_inf A c l w hr hc hn)
  rw [hR] at HI
  have HR := asd hr
  clear hr hc hb hR
  go_enter Tryz.func52, Tryz.ntmps52
  go_wp2_with (go_at_call 98; refine (HI.out _ HR.out).mono ?_; rintro e w1 ⟨rfl, d⟩; have HB := asd d; clear d)
  go_ret
  exact ⟨rfl, HB.out⟩
theorem index_one : Calls Tryz.prog 98 #[.slice A l.length c, .func (.func 53) #[] #[]] w fun e w' => e = .returned (.int .i64 (idxF oneB l 0)) ∧ Below w.heap.size w w' := by
  obtain ⟨R, hR⟩ : ∃ R, idxF oneB l 0 = R := ⟨_, rfl⟩
  rw [hR]
  have HR := asd hr
  have H' := asd (show idxF oneB (l.drop 0) ((0 : Nat) : Int) = R from hR)
  have hlen : (0 : Int) ≤ (l.length : Int) := by omega
  clear hr hc hR
  go_enter Tryz.func98, Tryz.ntmps98
  go_wp2
  go_loopg [5, 8] l.length (fun kq v5 v8 w' => ∃ i : Nat, v8 = .int .i64 (i : Int) ∧ Aside0 (kq + i = l.length) ∧ Aside0 (idxF oneB (l.drop i) (i : Int) = R) ∧ Aside0 (Below w.heap.size w w'))
  case atStart => exact ⟨0, rfl, ⟨by omega⟩, H', ⟨Below.refl _ _⟩⟩
  case round =>
    clear H'
    obtain ⟨i, rfl, HK, HA, HB⟩ := hrel
    have hi0 : (0 : Int) ≤ (i : Int) := by omega
    cases gk with
    | zero =>
      have hi : i = l.length := by have := HK.out; omega
      have c1 : decide ((i : Int) < (l.length : Int)) = false := by simp; omega
      have hR : R = -1 := by have := HA.out; rw [hi, List.drop_length] at this; exact this.symm
      subst hR
      have c2 : decide (i < l.length) = false := by simp; omega
      clear hi
      go_wp2
      go_ret
      exact ⟨rfl, HB.out⟩
    | succ k1 =>
      have hi : i < l.length := by have := HK.out; omega
      have c1 : decide ((i : Int) < (l.length : Int)) = true := by simp; omega
      have p1 : 0 ≤ (i : Int) := hi0
      have q1 : (i : Int) < (l.length : Int) := by omega
      obtain ⟨ad, rfl, hx⟩ := Kd.at_float HR.out (i : Int) p1 q1
      replace hx := (HB.out.cell (World.block_lt_of_cell? w _ hx)).trans hx
      rw [Int.toNat_natCast] at hx
      have hA := HA.out
      rw [drop_rd l i hi] at hA
      unfold idxF at hA
      replace p1 := eq_true p1
      replace q1 := eq_true q1
      have HI := asd hi
      clear HA hi
      by_cases hp : oneB (rdOf (0 : Nat) l (i : Int)) = true
      · rw [if_pos hp] at hA
        subst hA
        go_wp2_with (go_at_call 53; refine (fn_one _ _).mono ?_; rw [hp]; rintro e w1 ⟨rfl, d⟩; have HB2 := asd (below_post d.below HB.out); clear d)
        go_ret
        exact ⟨rfl, HB2.out⟩
      · rw [if_neg hp] at hA
        have hp' : oneB (rdOf (0 : Nat) l (i : Int)) = false := by simpa using hp
        have HA := asd hA
        clear hA hp
        go_wp2_with (go_at_call 53; refine (fn_one _ _).mono ?_; rw [hp']; rintro e w1 ⟨rfl, d⟩; have HB2 := asd (below_post d.below HB.out); clear d)
        go_roundg k1
        case measure => omega
        case rel => exact ⟨i + 1, by congr 1; have := HI.out; exact (w64_of (by omega) (by omega)).trans (by omega), ⟨by have := HK.out; omega⟩, HA, ⟨HB2.out⟩⟩
theorem contains_one : Calls Tryz.prog 52 #[.slice A l.length c, .func (.func 53) #[] #[]] w fun e w' => e = .returned (.bool (l.any oneB)) ∧ Below w.heap.size w w' := by
  obtain ⟨R, hR⟩ : ∃ R, idxF oneB l 0 = R := ⟨_, rfl⟩
  have hb := idxF_lt oneB l 0 (by omega)
  rw [hR] at hb
  rw [← hb]
  have HI := asd (fun (w : World) (hr : Kd.C Kd.float w A l.length l) => index_one A c l w hr hc hn)
  rw [hR] at HI
  have HR := asd hr
  clear hr hc hb hR
  go_enter Tryz.func52, Tryz.ntmps52
  go_wp2_with (go_at_call 98; refine (HI.out _ HR.out).mono ?_; rintro e w1 ⟨rfl, d⟩; have HB := asd d; clear d)
  go_ret
  exact ⟨rfl, HB.out⟩
end
end Go.Proofs.YthmeocigliephaaGreatDoor.Big
end
section
namespace Go.Proofs.YthmeocigliephaaGreatDoor.Big
open Go.Proofs.YthmeocigliephaaGreatDoor.PSu Go.Proofs.YthmeocigliephaaGreatDoor.Plain
abbrev Lst := Option Addr × Nat × List Nat
def longB (x : Lst) : Bool := decide (65536 < x.2.2.length)
def scanF : List Lst → Bool → Int
  | [], inf => if inf = true then 5 else 0
  | x :: ls, inf => if x.2.2.any nanB = true then 4 else scanF ls (inf || x.2.2.any infB?)
def faultF (ls : List Lst) : Int := if ls.any longB = true then 2 else scanF ls false
theorem drop_lst (ls : List Lst) (i : Nat) (h : i < ls.length) : ls.drop i = ls.getD i (none, 0, []) :: ls.drop (i + 1) := by
  rw [List.drop_eq_getElem_cons h]
  congr 1
  simp [List.getD, h]
section
variable (g : Nat) (ls : List Lst) (w : World) (hg : ∀ i, i < ls.length → w.cell? ⟨g, i, none⟩ = some (.slice (ls.getD i (none, 0, [])).1 (ls.getD i (none, 0, [])).2.2.length (ls.getD i (none, 0, [])).2.1))
  (hl : ∀ i, i < ls.length → Kd.C Kd.float w (ls.getD i (none, 0, [])).1 (ls.getD i (none, 0, [])).2.2.length (ls.getD i (none, 0, [])).2.2 ∧ (ls.getD i (none, 0, [])).2.2.length ≤ (ls.getD i (none, 0, [])).2.1 ∧ (ls.getD i (none, 0, [])).2.2.length < 4611686018427387904) (hn : ls.length < 4611686018427387904)
include hg hl hn
theorem fault_any : Calls Tryz.prog 50 #[.slice (some ⟨g, 0, none⟩) ls.length ls.length] w fun e w' => e = .returned (.int .i64 (faultF ls)) ∧ Below w.heap.size w w' := by
  obtain ⟨R, hR⟩ : ∃ R, faultF ls = R := ⟨_, rfl⟩
  rw [hR]
  unfold faultF at hR
  have G := asd hg
  have C := asd hl
  have H' := asd (show (if (ls.drop 0).any longB = true then 2 else scanF ls false) = R from hR)
  have hlen : (0 : Int) ≤ (ls.length : Int) := by omega
  clear hg hl hR
  go_enter Tryz.func50, Tryz.ntmps50
  go_wp2
  go_loopg [5, 10] ls.length (fun kq v5 v10 w' => ∃ i : Nat, v10 = .int .i64 (i : Int) ∧ Aside0 (kq + i = ls.length) ∧ Aside0 ((if (ls.drop i).any longB = true then 2 else scanF ls false) = R) ∧ Aside0 (Below w.heap.size w w'))
  case atStart => exact ⟨0, rfl, ⟨by omega⟩, H', ⟨Below.refl _ _⟩⟩
  case round =>
    clear H'
    obtain ⟨i, rfl, HK, HA, HB⟩ := hrel
    have hi0 : (0 : Int) ≤ (i : Int) := by omega
    cases gk with
    | zero =>
      have hi : i = ls.length := by have := HK.out; omega
      have c1 : decide ((i : Int) < (ls.length : Int)) = false := by simp; omega
      have c2 : decide (i < ls.length) = false := by simp; omega
      have H' := asd (show scanF (ls.drop 0) false = R by have := HA.out; rw [hi, List.drop_length] at this; simpa using this)
      clear hi HA
      go_wp2
      go_loopg [3, 7, 20] ls.length (fun kq v3 v7 v20 w' => ∃ (j : Nat) (b : Bool), v3 = .bool b ∧ v20 = .int .i64 (j : Int) ∧ Aside0 (kq + j = ls.length) ∧ Aside0 (scanF (ls.drop j) b = R) ∧ Aside0 (Below w.heap.size w w'))
      case atStart => exact ⟨0, false, rfl, rfl, ⟨by omega⟩, H', HB⟩
      case round =>
        clear H' HB HK hi0 c1 c2
        obtain ⟨j, b, rfl, rfl, HK, HA, HB⟩ := hrel
        have hi0 : (0 : Int) ≤ (j : Int) := by omega
        cases gk with
        | zero =>
          have hi : j = ls.length := by have := HK.out; omega
          have c1 : decide ((j : Int) < (ls.length : Int)) = false := by simp; omega
          have c2 : decide (j < ls.length) = false := by simp; omega
          have hA := HA.out
          rw [hi, List.drop_length] at hA
          unfold scanF at hA
          clear hi HA
          cases b
          · have hA' : R = 0 := by simpa using hA.symm
            subst hA'
            clear hA
            go_wp2
            go_ret
            exact ⟨rfl, HB.out⟩
          · have hA' : R = 5 := by simpa using hA.symm
            subst hA'
            clear hA
            go_wp2
            go_ret
            exact ⟨rfl, HB.out⟩
        | succ k1 =>
          have hi : j < ls.length := by have := HK.out; omega
          have c1 : decide ((j : Int) < (ls.length : Int)) = true := by simp; omega
          have c2 : decide (j < ls.length) = true := by simp; omega
          have hA := HA.out
          rw [drop_lst ls j hi] at hA
          have hx := G.out j hi
          obtain ⟨hC, hcc, hll⟩ := C.out j hi
          obtain ⟨⟨A, c, l⟩, hx1⟩ : ∃ x, ls.getD j (none, 0, []) = x := ⟨_, rfl⟩
          rw [hx1] at hx hC hcc hll hA
          simp only at hx hC hcc hll
          unfold scanF at hA
          simp only at hA
          replace hx := (HB.out.cell (World.block_lt_of_cell? w _ hx)).trans hx
          have CC := asd hC
          have HCC := asd hcc
          have HLL := asd hll
          have q1 := eq_true (show (j : Int) < (ls.length : Int) by omega)
          have HI := asd hi
          clear hi hC hcc hll hx1 HA
          by_cases hp : l.any nanB = true
          · rw [if_pos hp] at hA
            subst hA
            have HP := asd hp
            clear hp
            go_wp2_with (go_at_call 52; refine (contains_nan A c l _ (Kd.C_below CC.out HB.out) HCC.out HLL.out).mono ?_; rw [HP.out]; rintro e w1 ⟨rfl, d⟩; have HB2 := asd (below_post d HB.out); clear d)
            go_ret
            exact ⟨rfl, HB2.out⟩
          · rw [if_neg hp] at hA
            have HP := asd (show l.any nanB = false by simpa using hp)
            have HA := asd hA
            clear hp hA
            cases b
            · go_wp2_with (first
                | (go_at_call 52; (with_reducible refine (contains_nan A c l _ (Kd.C_below CC.out HB.out) HCC.out HLL.out).mono ?_); rw [HP.out]; rintro e w1 ⟨rfl, d⟩; have HB2 := asd (below_post d HB.out); clear d)
                | (go_at_call 52; (with_reducible refine (contains_inf A c l _ (Kd.C_below CC.out HB2.out) HCC.out HLL.out).mono ?_); rintro e w1 ⟨rfl, d⟩; have HB3 := asd (below_post d HB2.out); clear d))
              go_roundg k1
              case measure => omega
              case rel => exact ⟨j + 1, l.any infB?, by first | rfl | simp, by congr 1; have := HI.out; exact (w64_of (by omega) (by omega)).trans (by omega), ⟨by have := HK.out; omega⟩, ⟨by simpa using HA.out⟩, ⟨HB3.out⟩⟩
            · go_wp2_with (go_at_call 52; (with_reducible refine (contains_nan A c l _ (Kd.C_below CC.out HB.out) HCC.out HLL.out).mono ?_); rw [HP.out]; rintro e w1 ⟨rfl, d⟩; have HB2 := asd (below_post d HB.out); clear d)
              go_roundg k1
              case measure => omega
              case rel => exact ⟨j + 1, true, by first | rfl | simp, by congr 1; have := HI.out; exact (w64_of (by omega) (by omega)).trans (by omega), ⟨by have := HK.out; omega⟩, ⟨by simpa using HA.out⟩, ⟨HB2.out⟩⟩
    | succ k1 =>
      have hi : i < ls.length := by have := HK.out; omega
      have c1 : decide ((i : Int) < (ls.length : Int)) = true := by simp; omega
      have c2 : decide (i < ls.length) = true := by simp; omega
      have hA := HA.out
      rw [drop_lst ls i hi] at hA
      have hx := G.out i hi
      obtain ⟨⟨A, c, l⟩, hx1⟩ : ∃ x, ls.getD i (none, 0, []) = x := ⟨_, rfl⟩
      rw [hx1] at hx hA
      simp only at hx
      rw [List.any_cons] at hA
      replace hx := (HB.out.cell (World.block_lt_of_cell? w _ hx)).trans hx
      have q1 := eq_true (show (i : Int) < (ls.length : Int) by omega)
      have HI := asd hi
      clear hi hx1 HA
      by_cases hp : 65536 < l.length
      · have c3 : decide ((l.length : Int) > 65536) = true := by simp; omega
        have hb : longB (A, c, l) = true := decide_eq_true hp
        rw [hb] at hA
        simp only [Bool.true_or, if_true] at hA
        subst hA
        clear hp hb
        go_wp2
        go_ret
        exact ⟨rfl, HB.out⟩
      · have c3 : decide ((l.length : Int) > 65536) = false := by simp; omega
        have hb : longB (A, c, l) = false := decide_eq_false hp
        rw [hb, Bool.false_or] at hA
        have HA := asd hA
        clear hp hb hA
        go_wp2
        go_roundg k1
        case measure => omega
        case rel => exact ⟨i + 1, by congr 1; have := HI.out; exact (w64_of (by omega) (by omega)).trans (by omega), ⟨by have := HK.out; omega⟩, HA, HB⟩
end
end Go.Proofs.YthmeocigliephaaGreatDoor.Big
end
section
namespace Go.Proofs.YthmeocigliephaaGreatDoor.PSu
attribute [local go_sem] f64bits_run f64from_run run_float_some max2_int min2_int max_two min_two max_three min_three max_four min_four
def cuspref01_Bits.f (a0 : Nat) : Option (Int) := some ((a0 : Nat) : Int)
theorem cuspref01_Bits.calls (a0 : Nat) (r : Int) (w : World) (h : cuspref01_Bits.f a0 = some r) :
  Calls Tryz.prog 83 #[.float .f64 a0] w fun e w' => e = .returned (.int .u64 r) ∧ Drawn0 w w' := by
 have H : (some ((a0 : Nat) : Int)) = some r := h
 clear h
 obtain rfl := Option.some.inj H
 go_enter Tryz.func83, Tryz.ntmps83
 go_wp2
 go_ret
 exact ⟨eqB, dn0⟩
def cuspref01_mag.f (a0 : Nat) : Option (Int) := (cuspref01_Bits.f a0).bind fun t101 => (some (Go.bits .andNot .u64 t101 9223372036854775808))
theorem cuspref01_mag.calls (a0 : Nat) (r : Int) (w : World) (h : cuspref01_mag.f a0 = some r) :
  Calls Tryz.prog 62 #[.float .f64 a0] w fun e w' => e = .returned (.int .u64 r) ∧ Drawn0 w w' := by
 have H : ((cuspref01_Bits.f a0).bind fun t101 => (some (Go.bits .andNot .u64 t101 9223372036854775808))) = some r := h
 clear h
 replace H := Option.bind_eq_some_iff.mp H
 obtain ⟨t101, A20, H⟩ := H
 replace H : (some (Go.bits .andNot .u64 t101 9223372036854775808)) = some r := H
 have A2 := asd A20
 clear A20
 obtain rfl := Option.some.inj H
 go_enter Tryz.func62, Tryz.ntmps62
 go_wp2_with (first | ((with_reducible refine gate_callee (f := 83) rfl ?_); refine goesL_ (some 4) rfl rfl Tryz.func83 (by kernel_rfl) rfl #[.float .f64 a0] rfl eqA ?_; (with_reducible refine (cuspref01_Bits.calls a0 t101 _ A2.out).mono ?_); rintro e w' ⟨rfl, ⟨nd, rfl⟩⟩; refine ⟨_, rfl, ?_⟩))
 go_ret
 exact ⟨eqB, dn0⟩
def cuspref01_IsNaN.f (a0 : Nat) : Option (Bool) := (cuspref01_mag.f a0).bind fun t102 => (some (decide (t102 > 9218868437227405312)))
theorem cuspref01_IsNaN.calls (a0 : Nat) (r : Bool) (w : World) (h : cuspref01_IsNaN.f a0 = some r) :
  Calls Tryz.prog 73 #[.float .f64 a0] w fun e w' => e = .returned (.bool r) ∧ Drawn0 w w' := by
 have H : ((cuspref01_mag.f a0).bind fun t102 => (some (decide (t102 > 9218868437227405312)))) = some r := h
 clear h
 replace H := Option.bind_eq_some_iff.mp H
 obtain ⟨t102, A20, H⟩ := H
 replace H : (some (decide (t102 > 9218868437227405312))) = some r := H
 have A2 := asd A20
 clear A20
 obtain rfl := Option.some.inj H
 go_enter Tryz.func73, Tryz.ntmps73
 go_wp2_with (first | ((with_reducible refine gate_callee (f := 62) rfl ?_); refine goesL_ (some 4) rfl rfl Tryz.func62 (by kernel_rfl) rfl #[.float .f64 a0] rfl eqA ?_; (with_reducible refine (cuspref01_mag.calls a0 t102 _ A2.out).mono ?_); rintro e w' ⟨rfl, ⟨nd, rfl⟩⟩; refine ⟨_, rfl, ?_⟩))
 go_ret
 exact ⟨eqB, dn0⟩
def cuspref01_Same.f (a0 : Nat) (a1 : Nat) : Option (Bool) := (cuspref01_Bits.f a0).bind fun t103 => ((cuspref01_Bits.f a1).bind fun t104 => (if t103 = t104 then (some true) else ((cuspref01_IsNaN.f a0).bind fun t105 => (if t105 = true then ((cuspref01_IsNaN.f a1).bind fun t106 => (some t106)) else (some false)))))
theorem cuspref01_Same.calls (a0 : Nat) (a1 : Nat) (r : Bool) (w : World) (h : cuspref01_Same.f a0 a1 = some r) :
  Calls Tryz.prog 38 #[.float .f64 a0, .float .f64 a1] w fun e w' => e = .returned (.bool r) ∧ Drawn0 w w' := by
 have H : ((cuspref01_Bits.f a0).bind fun t103 => ((cuspref01_Bits.f a1).bind fun t104 => (if t103 = t104 then (some true) else ((cuspref01_IsNaN.f a0).bind fun t105 => (if t105 = true then ((cuspref01_IsNaN.f a1).bind fun t106 => (some t106)) else (some false)))))) = some r := h
 clear h
 replace H := Option.bind_eq_some_iff.mp H
 obtain ⟨t103, A30, H⟩ := H
 replace H : ((cuspref01_Bits.f a1).bind fun t104 => (if t103 = t104 then (some true) else ((cuspref01_IsNaN.f a0).bind fun t105 => (if t105 = true then ((cuspref01_IsNaN.f a1).bind fun t106 => (some t106)) else (some false))))) = some r := H
 have A3 := asd A30
 clear A30
 replace H := Option.bind_eq_some_iff.mp H
 obtain ⟨t104, A40, H⟩ := H
 replace H : (if t103 = t104 then (some true) else ((cuspref01_IsNaN.f a0).bind fun t105 => (if t105 = true then ((cuspref01_IsNaN.f a1).bind fun t106 => (some t106)) else (some false)))) = some r := H
 have A4 := asd A40
 clear A40
 by_cases c5 : t103 = t104
 ·rw [if_pos c5] at H
  have c5b0 : (t103 == t104) = true := beq_iff_eq.mpr c5
  have c5b1 : (t103 != t104) = false := bne_eq_false_iff_eq.mpr c5
  clear c5
  obtain rfl := Option.some.inj H
  go_enter Tryz.func38, Tryz.ntmps38
  go_wp2_with (first | ((with_reducible refine gate_callee (f := 83) rfl ?_); refine goesL_ (some 6) rfl rfl Tryz.func83 (by kernel_rfl) rfl #[.float .f64 a0] rfl eqA ?_; (with_reducible refine (cuspref01_Bits.calls a0 t103 _ A3.out).mono ?_); rintro e w' ⟨rfl, ⟨nd, rfl⟩⟩; refine ⟨_, rfl, ?_⟩) | ((with_reducible refine gate_callee (f := 83) rfl ?_); refine goesL_ (some 8) rfl rfl Tryz.func83 (by kernel_rfl) rfl #[.float .f64 a1] rfl eqA ?_; (with_reducible refine (cuspref01_Bits.calls a1 t104 _ A4.out).mono ?_); rintro e w' ⟨rfl, ⟨nd, rfl⟩⟩; refine ⟨_, rfl, ?_⟩))
  go_ret
  exact ⟨eqB, dn0⟩
 ·rw [if_neg c5] at H
  have c5b0 : (t103 == t104) = false := beq_eq_false_iff_ne.mpr c5
  have c5b1 : (t103 != t104) = true := bne_iff_ne.mpr c5
  replace H := Option.bind_eq_some_iff.mp H
  obtain ⟨t105, A60, H⟩ := H
  replace H : (if t105 = true then ((cuspref01_IsNaN.f a1).bind fun t106 => (some t106)) else (some false)) = some r := H
  have A6 := asd A60
  clear A60
  by_cases c7 : t105 = true
  ·subst c7
   have H1 : ((cuspref01_IsNaN.f a1).bind fun t106 => (some t106)) = some r := by rw [if_pos rfl] at H; exact H
   clear H
   have H := H1
   clear H1
   replace H := Option.bind_eq_some_iff.mp H
   obtain ⟨t106, A80, H⟩ := H
   replace H : (some t106) = some r := H
   have A8 := asd A80
   clear A80
   obtain rfl := Option.some.inj H
   go_enter Tryz.func38, Tryz.ntmps38
   go_wp2_with (first | ((with_reducible refine gate_callee (f := 83) rfl ?_); refine goesL_ (some 6) rfl rfl Tryz.func83 (by kernel_rfl) rfl #[.float .f64 a0] rfl eqA ?_; (with_reducible refine (cuspref01_Bits.calls a0 t103 _ A3.out).mono ?_); rintro e w' ⟨rfl, ⟨nd, rfl⟩⟩; refine ⟨_, rfl, ?_⟩) | ((with_reducible refine gate_callee (f := 83) rfl ?_); refine goesL_ (some 8) rfl rfl Tryz.func83 (by kernel_rfl) rfl #[.float .f64 a1] rfl eqA ?_; (with_reducible refine (cuspref01_Bits.calls a1 t104 _ A4.out).mono ?_); rintro e w' ⟨rfl, ⟨nd, rfl⟩⟩; refine ⟨_, rfl, ?_⟩) | (go_at_call 73; (with_reducible refine (cuspref01_IsNaN.calls a0 true _ A6.out).mono ?_); rintro e w' ⟨rfl, ⟨nd, rfl⟩⟩) | (go_at_call 73; (with_reducible refine (cuspref01_IsNaN.calls a1 t106 _ A8.out).mono ?_); rintro e w' ⟨rfl, ⟨nd, rfl⟩⟩))
   go_ret
   exact ⟨eqB, dn0⟩
  ·replace c7 := Bool.eq_false_iff.mpr c7
   subst c7
   have H1 : (some false) = some r := by rw [if_neg (show ¬ (false = true) by decide)] at H; exact H
   clear H
   have H := H1
   clear H1
   obtain rfl := Option.some.inj H
   go_enter Tryz.func38, Tryz.ntmps38
   go_wp2_with (first | ((with_reducible refine gate_callee (f := 83) rfl ?_); refine goesL_ (some 6) rfl rfl Tryz.func83 (by kernel_rfl) rfl #[.float .f64 a0] rfl eqA ?_; (with_reducible refine (cuspref01_Bits.calls a0 t103 _ A3.out).mono ?_); rintro e w' ⟨rfl, ⟨nd, rfl⟩⟩; refine ⟨_, rfl, ?_⟩) | ((with_reducible refine gate_callee (f := 83) rfl ?_); refine goesL_ (some 8) rfl rfl Tryz.func83 (by kernel_rfl) rfl #[.float .f64 a1] rfl eqA ?_; (with_reducible refine (cuspref01_Bits.calls a1 t104 _ A4.out).mono ?_); rintro e w' ⟨rfl, ⟨nd, rfl⟩⟩; refine ⟨_, rfl, ?_⟩) | (go_at_call 73; (with_reducible refine (cuspref01_IsNaN.calls a0 false _ A6.out).mono ?_); rintro e w' ⟨rfl, ⟨nd, rfl⟩⟩))
   go_ret
   exact ⟨eqB, dn0⟩
def cusplaw05_same.f (a0 : Nat) (a1 : Nat) : Option (Bool) := (cuspref01_Same.f a0 a1).bind fun t107 => (some t107)
theorem cusplaw05_same.calls (a0 : Nat) (a1 : Nat) (r : Bool) (w : World) (h : cusplaw05_same.f a0 a1 = some r) :
  Calls Tryz.prog 11 #[.float .f64 a0, .float .f64 a1] w fun e w' => e = .returned (.bool r) ∧ Drawn0 w w' := by
 have H : ((cuspref01_Same.f a0 a1).bind fun t107 => (some t107)) = some r := h
 clear h
 replace H := Option.bind_eq_some_iff.mp H
 obtain ⟨t107, A30, H⟩ := H
 replace H : (some t107) = some r := H
 have A3 := asd A30
 clear A30
 obtain rfl := Option.some.inj H
 go_enter Tryz.func11, Tryz.ntmps11
 go_wp2_with (first | ((with_reducible refine gate_callee (f := 38) rfl ?_); refine goesL_ (some 7) rfl rfl Tryz.func38 (by kernel_rfl) rfl #[.float .f64 a0, .float .f64 a1] rfl eqA ?_; (with_reducible refine (cuspref01_Same.calls a0 a1 t107 _ A3.out).mono ?_); rintro e w' ⟨rfl, ⟨nd, rfl⟩⟩; refine ⟨_, rfl, ?_⟩))
 go_ret
 exact ⟨eqB, dn0⟩
def round_Valid.f (a0 : Int) : Option (Int) := if a0 = 1 then (some 0) else (if a0 = 2 then (some 0) else (if a0 = 3 then (some 0) else (some 1)))
theorem round_Valid.calls (a0 : Int) (r : Int) (w : World) (h : round_Valid.f a0 = some r) :
  Calls Tryz.prog 49 #[.int .i64 a0] w fun e w' => e = .returned (.int .i64 r) ∧ Drawn0 w w' := by
 have H : (if a0 = 1 then (some 0) else (if a0 = 2 then (some 0) else (if a0 = 3 then (some 0) else (some 1)))) = some r := h
 clear h
 by_cases c2 : a0 = 1
 ·rw [if_pos c2] at H
  have c2b0 : (a0 == 1) = true := beq_iff_eq.mpr c2
  have c2b1 : (a0 != 1) = false := bne_eq_false_iff_eq.mpr c2
  clear c2
  obtain rfl := Option.some.inj H
  go_enter Tryz.func49, Tryz.ntmps49
  go_wp2
  go_ret
  exact ⟨eqB, dn0⟩
 ·rw [if_neg c2] at H
  have c2b0 : (a0 == 1) = false := beq_eq_false_iff_ne.mpr c2
  have c2b1 : (a0 != 1) = true := bne_iff_ne.mpr c2
  by_cases c3 : a0 = 2
  ·rw [if_pos c3] at H
   have c3b0 : (a0 == 2) = true := beq_iff_eq.mpr c3
   have c3b1 : (a0 != 2) = false := bne_eq_false_iff_eq.mpr c3
   clear c3
   obtain rfl := Option.some.inj H
   go_enter Tryz.func49, Tryz.ntmps49
   go_wp2
   go_ret
   exact ⟨eqB, dn0⟩
  ·rw [if_neg c3] at H
   have c3b0 : (a0 == 2) = false := beq_eq_false_iff_ne.mpr c3
   have c3b1 : (a0 != 2) = true := bne_iff_ne.mpr c3
   by_cases c4 : a0 = 3
   ·rw [if_pos c4] at H
    have c4b0 : (a0 == 3) = true := beq_iff_eq.mpr c4
    have c4b1 : (a0 != 3) = false := bne_eq_false_iff_eq.mpr c4
    clear c4
    obtain rfl := Option.some.inj H
    go_enter Tryz.func49, Tryz.ntmps49
    go_wp2
    go_ret
    exact ⟨eqB, dn0⟩
   ·rw [if_neg c4] at H
    have c4b0 : (a0 == 3) = false := beq_eq_false_iff_ne.mpr c4
    have c4b1 : (a0 != 3) = true := bne_iff_ne.mpr c4
    obtain rfl := Option.some.inj H
    go_enter Tryz.func49, Tryz.ntmps49
    go_wp2
    go_ret
    exact ⟨eqB, dn0⟩
def dyad_Valid.f (a0_0 : Bool) (l0_1 : List Int) (a0_2 : Int) : Option (Bool) := if (l0_1.length : Int) = 0 then (if a0_2 = 0 then (some (!a0_0)) else (some false)) else (if (l0_1.length : Int) ≤ 2048 then (if 0 ≤ (wrap64 ((l0_1.length : Int) - 1)) then (if (wrap64 ((l0_1.length : Int) - 1)) < (l0_1.length : Int) then (if (rd l0_1 (wrap64 ((l0_1.length : Int) - 1))) = 0 then (some false) else (if 0 < (l0_1.length : Int) then (if (Go.bits .and .u32 (rd l0_1 0) 1) = 1 then (if a0_2 ≥ (-65536) then (some (decide (a0_2 ≤ 65536))) else (some false)) else (some false)) else (none))) else (none)) else (none)) else (some false))
theorem dyad_Valid.calls (a0_0 : Bool) (A0_1 : Option Addr) (c0_1 : Nat) (l0_1 : List Int) (a0_2 : Int) (r : Bool) (w : World) (hr0_1 : Kd.C (Kd.int .u32) w A0_1 l0_1.length l0_1) (hc0_1 : l0_1.length ≤ c0_1) (h : dyad_Valid.f a0_0 l0_1 a0_2 = some r) :
  Calls Tryz.prog 91 #[.agg #[.bool a0_0, .slice A0_1 l0_1.length c0_1, .int .i64 a0_2]] w fun e w' => e = .returned (.bool r) ∧ Below w.heap.size w w' := by
 have hu60 := Tryz.underlying60
 have HR0_1 := asd hr0_1
 have HC0_1 := asd hc0_1
 clear hr0_1 hc0_1
 have HB := asd (Below.refl w.heap.size w)
 have H : (if (l0_1.length : Int) = 0 then (if a0_2 = 0 then (some (!a0_0)) else (some false)) else (if (l0_1.length : Int) ≤ 2048 then (if 0 ≤ (wrap64 ((l0_1.length : Int) - 1)) then (if (wrap64 ((l0_1.length : Int) - 1)) < (l0_1.length : Int) then (if (rd l0_1 (wrap64 ((l0_1.length : Int) - 1))) = 0 then (some false) else (if 0 < (l0_1.length : Int) then (if (Go.bits .and .u32 (rd l0_1 0) 1) = 1 then (if a0_2 ≥ (-65536) then (some (decide (a0_2 ≤ 65536))) else (some false)) else (some false)) else (none))) else (none)) else (none)) else (some false))) = some r := h
 clear h
 by_cases c2 : (l0_1.length : Int) = 0
 ·rw [if_pos c2] at H
  have c2b0 : ((l0_1.length : Int) == 0) = true := beq_iff_eq.mpr c2
  have c2b1 : ((l0_1.length : Int) != 0) = false := bne_eq_false_iff_eq.mpr c2
  clear c2
  by_cases c3 : a0_2 = 0
  ·rw [if_pos c3] at H
   have c3b0 : (a0_2 == 0) = true := beq_iff_eq.mpr c3
   have c3b1 : (a0_2 != 0) = false := bne_eq_false_iff_eq.mpr c3
   clear c3
   obtain rfl := Option.some.inj H
   go_enter Tryz.func91, Tryz.ntmps91
   go_wp2_with (first | ((with_reducible refine gate_dst (N := 1) rfl ?_); refine box_event ?hg (N := 1) ?hd (cs := #[.bool a0_0, .slice A0_1 l0_1.length c0_1, .int .i64 a0_2]) (t := 60) ?hr ?_; (case hd => rfl); (case hg => rfl); (case hr => first | (go_simp; done) | (go_simp; rfl)); intro gb108 hg w4 hbox hb; have n0_ := asd (below_step hbw hb); have n1_ := asd (hbox); have n2_ := asd ((by rw [hg]; exact (below_size hbw) : w.heap.size ≤ gb108)); have n3_ := asd ((by rw [hg]; exact (below_size hbw) : w.heap.size ≤ gb108)); clear HB; have HB := n0_; have BK108 := n1_; have GW108 := n2_; have GE108 := n3_; clear n0_ n1_ n2_ n3_; clear hb hbox hg; have hcz5_0 : w4.cell? ⟨gb108, 0, none⟩ = some (.bool a0_0) := (blk_cell BK108.out 0).trans rfl; have hcz5_1 : w4.cell? ⟨gb108, 1, none⟩ = some (.slice A0_1 l0_1.length c0_1) := (blk_cell BK108.out 1).trans rfl; have hcz5_2 : w4.cell? ⟨gb108, 2, none⟩ = some (.int .i64 a0_2) := (blk_cell BK108.out 2).trans rfl; have hfz5_0 := blk_frozen BK108.out 0; have hfz5_1 := blk_frozen BK108.out 1; have hfz5_2 := blk_frozen BK108.out 2))
   go_ret
   exact ⟨eqC, by repeat (first | (with_reducible first | exact HB.out | apply below_alloc | apply pw_below_drewN | apply below_drew1 | refine below_set ?_ GE108.out) | exact HB.out)⟩
  ·rw [if_neg c3] at H
   have c3b0 : (a0_2 == 0) = false := beq_eq_false_iff_ne.mpr c3
   have c3b1 : (a0_2 != 0) = true := bne_iff_ne.mpr c3
   obtain rfl := Option.some.inj H
   go_enter Tryz.func91, Tryz.ntmps91
   go_wp2_with (first | ((with_reducible refine gate_dst (N := 1) rfl ?_); refine box_event ?hg (N := 1) ?hd (cs := #[.bool a0_0, .slice A0_1 l0_1.length c0_1, .int .i64 a0_2]) (t := 60) ?hr ?_; (case hd => rfl); (case hg => rfl); (case hr => first | (go_simp; done) | (go_simp; rfl)); intro gb108 hg w6 hbox hb; have n0_ := asd (below_step hbw hb); have n1_ := asd (hbox); have n2_ := asd ((by rw [hg]; exact (below_size hbw) : w.heap.size ≤ gb108)); have n3_ := asd ((by rw [hg]; exact (below_size hbw) : w.heap.size ≤ gb108)); clear HB; have HB := n0_; have BK108 := n1_; have GW108 := n2_; have GE108 := n3_; clear n0_ n1_ n2_ n3_; clear hb hbox hg; have hcz7_0 : w6.cell? ⟨gb108, 0, none⟩ = some (.bool a0_0) := (blk_cell BK108.out 0).trans rfl; have hcz7_1 : w6.cell? ⟨gb108, 1, none⟩ = some (.slice A0_1 l0_1.length c0_1) := (blk_cell BK108.out 1).trans rfl; have hcz7_2 : w6.cell? ⟨gb108, 2, none⟩ = some (.int .i64 a0_2) := (blk_cell BK108.out 2).trans rfl; have hfz7_0 := blk_frozen BK108.out 0; have hfz7_1 := blk_frozen BK108.out 1; have hfz7_2 := blk_frozen BK108.out 2))
   go_ret
   exact ⟨eqC, by repeat (first | (with_reducible first | exact HB.out | apply below_alloc | apply pw_below_drewN | apply below_drew1 | refine below_set ?_ GE108.out) | exact HB.out)⟩
 ·rw [if_neg c2] at H
  have c2b0 : ((l0_1.length : Int) == 0) = false := beq_eq_false_iff_ne.mpr c2
  have c2b1 : ((l0_1.length : Int) != 0) = true := bne_iff_ne.mpr c2
  have c2b2 : ¬ (l0_1 = []) := fun h_ => c2 (by rw [h_]; rfl)
  by_cases c8 : (l0_1.length : Int) ≤ 2048
  ·rw [if_pos c8] at H
   have c8b0 : decide ((l0_1.length : Int) ≤ 2048) = true := decide_eq_true c8
   have c8b1 : decide (l0_1.length ≤ 2048) = true := decide_eq_true (by omega)
   clear c8
   obtain ⟨ji9, hji9⟩ : ∃ j_ : Int, (wrap64 ((l0_1.length : Int) - 1)) = j_ := ⟨_, rfl⟩
   replace H : (if 0 ≤ (ji9) then (if (ji9) < (l0_1.length : Int) then (if (rd l0_1 (ji9)) = 0 then (some false) else (if 0 < (l0_1.length : Int) then (if (Go.bits .and .u32 (rd l0_1 0) 1) = 1 then (if a0_2 ≥ (-65536) then (some (decide (a0_2 ≤ 65536))) else (some false)) else (some false)) else (none))) else (none)) else (none)) = some r := by first | (rw [hji9] at H; exact H) | (simp only [hji9] at H ⊢; exact H)
   have hji9w : (IntKind.i64.wrap ((l0_1.length : Int) - 1)) = ji9 := (i64_w _).trans hji9
   by_cases c10 : 0 ≤ (ji9)
   ·rw [if_pos c10] at H
    have c10b0 : decide (0 ≤ (ji9)) = true := decide_eq_true c10
    clear c10
    by_cases c11 : (ji9) < (l0_1.length : Int)
    ·rw [if_pos c11] at H
     have c11b0 : decide ((ji9) < (l0_1.length : Int)) = true := decide_eq_true c11
     clear c11
     by_cases c12 : (rd l0_1 (ji9)) = 0
     ·rw [if_pos c12] at H
      have c12b0 : ((rd l0_1 (ji9)) == 0) = true := beq_iff_eq.mpr c12
      have c12b1 : ((rd l0_1 (ji9)) != 0) = false := bne_eq_false_iff_eq.mpr c12
      clear c12
      obtain rfl := Option.some.inj H
      go_enter Tryz.func91, Tryz.ntmps91
      go_wp2_with (first | ((with_reducible refine gate_dst (N := 1) rfl ?_); refine box_event ?hg (N := 1) ?hd (cs := #[.bool a0_0, .slice A0_1 l0_1.length c0_1, .int .i64 a0_2]) (t := 60) ?hr ?_; (case hd => rfl); (case hg => rfl); (case hr => first | (go_simp; done) | (go_simp; rfl)); intro gb108 hg w13 hbox hb; have n0_ := asd (below_step hbw hb); have n1_ := asd (hbox); have n2_ := asd ((by rw [hg]; exact (below_size hbw) : w.heap.size ≤ gb108)); have n3_ := asd ((by rw [hg]; exact (below_size hbw) : w.heap.size ≤ gb108)); clear HB; have HB := n0_; have BK108 := n1_; have GW108 := n2_; have GE108 := n3_; clear n0_ n1_ n2_ n3_; clear hb hbox hg; have hcz14_0 : w13.cell? ⟨gb108, 0, none⟩ = some (.bool a0_0) := (blk_cell BK108.out 0).trans rfl; have hcz14_1 : w13.cell? ⟨gb108, 1, none⟩ = some (.slice A0_1 l0_1.length c0_1) := (blk_cell BK108.out 1).trans rfl; have hcz14_2 : w13.cell? ⟨gb108, 2, none⟩ = some (.int .i64 a0_2) := (blk_cell BK108.out 2).trans rfl; have hfz14_0 := blk_frozen BK108.out 0; have hfz14_1 := blk_frozen BK108.out 1; have hfz14_2 := blk_frozen BK108.out 2; have p109 : 0 ≤ ((ji9) : Int) := of_decide_eq_true (by first | (with_reducible assumption) | assumption); have q109 : (ji9) < (l0_1.length : Int) := of_decide_eq_true (by first | (with_reducible assumption) | assumption); obtain ⟨ad109, e109, hx109_0⟩ := Kd.at_int HR0_1.out (ji9) p109 q109; cases e109; replace hx109_0 := (HB.out.cell (World.block_lt_of_cell? w _ hx109_0)).trans hx109_0; replace p109 := eq_true p109; replace q109 := eq_true q109))
      go_ret
      exact ⟨by first | rfl | (simp [errW_none, errW_some] <;> rfl) | (simp only [← hji9]; first | rfl | (simp [errW_none, errW_some] <;> rfl)) | (simp [*, errW_none, errW_some] <;> rfl), by repeat (first | (with_reducible first | exact HB.out | apply below_alloc | apply pw_below_drewN | apply below_drew1 | refine below_set ?_ GE108.out) | exact HB.out)⟩
     ·rw [if_neg c12] at H
      have c12b0 : ((rd l0_1 (ji9)) == 0) = false := beq_eq_false_iff_ne.mpr c12
      have c12b1 : ((rd l0_1 (ji9)) != 0) = true := bne_iff_ne.mpr c12
      by_cases c15 : 0 < (l0_1.length : Int)
      ·rw [if_pos c15] at H
       have c15b0 : decide (0 < (l0_1.length : Int)) = true := decide_eq_true c15
       have c15b1 : decide (0 < l0_1.length) = true := decide_eq_true (by omega)
       clear c15
       by_cases c16 : (Go.bits .and .u32 (rd l0_1 0) 1) = 1
       ·rw [if_pos c16] at H
        have c16b0 : ((Go.bits .and .u32 (rd l0_1 0) 1) == 1) = true := beq_iff_eq.mpr c16
        have c16b1 : ((Go.bits .and .u32 (rd l0_1 0) 1) != 1) = false := bne_eq_false_iff_eq.mpr c16
        clear c16
        by_cases c17 : a0_2 ≥ (-65536)
        ·rw [if_pos c17] at H
         have c17b0 : decide ((-65536) ≤ a0_2) = true := decide_eq_true c17
         clear c17
         obtain rfl := Option.some.inj H
         go_enter Tryz.func91, Tryz.ntmps91
         go_wp2_with (first | ((with_reducible refine gate_dst (N := 1) rfl ?_); refine box_event ?hg (N := 1) ?hd (cs := #[.bool a0_0, .slice A0_1 l0_1.length c0_1, .int .i64 a0_2]) (t := 60) ?hr ?_; (case hd => rfl); (case hg => rfl); (case hr => first | (go_simp; done) | (go_simp; rfl)); intro gb108 hg w18 hbox hb; have n0_ := asd (below_step hbw hb); have n1_ := asd (hbox); have n2_ := asd ((by rw [hg]; exact (below_size hbw) : w.heap.size ≤ gb108)); have n3_ := asd ((by rw [hg]; exact (below_size hbw) : w.heap.size ≤ gb108)); clear HB; have HB := n0_; have BK108 := n1_; have GW108 := n2_; have GE108 := n3_; clear n0_ n1_ n2_ n3_; clear hb hbox hg; have hcz19_0 : w18.cell? ⟨gb108, 0, none⟩ = some (.bool a0_0) := (blk_cell BK108.out 0).trans rfl; have hcz19_1 : w18.cell? ⟨gb108, 1, none⟩ = some (.slice A0_1 l0_1.length c0_1) := (blk_cell BK108.out 1).trans rfl; have hcz19_2 : w18.cell? ⟨gb108, 2, none⟩ = some (.int .i64 a0_2) := (blk_cell BK108.out 2).trans rfl; have hfz19_0 := blk_frozen BK108.out 0; have hfz19_1 := blk_frozen BK108.out 1; have hfz19_2 := blk_frozen BK108.out 2; have p109 : 0 ≤ ((ji9) : Int) := of_decide_eq_true (by first | (with_reducible assumption) | assumption); have q109 : (ji9) < (l0_1.length : Int) := of_decide_eq_true (by first | (with_reducible assumption) | assumption); obtain ⟨ad109, e109, hx109_0⟩ := Kd.at_int HR0_1.out (ji9) p109 q109; cases e109; replace hx109_0 := (HB.out.cell (World.block_lt_of_cell? w _ hx109_0)).trans hx109_0; replace p109 := eq_true p109; replace q109 := eq_true q109; have p110 : 0 ≤ (0 : Int) := (by omega); have q110 : 0 < (l0_1.length : Int) := of_decide_eq_true (by first | (with_reducible assumption) | assumption); obtain ⟨ad110, e110, hx110_0⟩ := Kd.at_int HR0_1.out 0 p110 q110; obtain rfl : ad109 = ad110 := (by injection e110); have qi110 : (0 < l0_1.length) = True := eq_true (by omega); (try rw [show ((0 : Int)).toNat = 0 from rfl] at hx110_0); (try rw [Addr.add_zero'] at hx110_0); replace hx110_0 := (HB.out.cell (World.block_lt_of_cell? w _ hx110_0)).trans hx110_0; replace p110 := eq_true p110; replace q110 := eq_true q110))
         go_ret
         exact ⟨by first | rfl | (simp [errW_none, errW_some] <;> rfl) | (simp only [← hji9]; first | rfl | (simp [errW_none, errW_some] <;> rfl)) | (simp [*, errW_none, errW_some] <;> rfl), by repeat (first | (with_reducible first | exact HB.out | apply below_alloc | apply pw_below_drewN | apply below_drew1 | refine below_set ?_ GE108.out) | exact HB.out)⟩
        ·rw [if_neg c17] at H
         have c17b0 : decide ((-65536) ≤ a0_2) = false := decide_eq_false c17
         clear c17
         obtain rfl := Option.some.inj H
         go_enter Tryz.func91, Tryz.ntmps91
         go_wp2_with (first | ((with_reducible refine gate_dst (N := 1) rfl ?_); refine box_event ?hg (N := 1) ?hd (cs := #[.bool a0_0, .slice A0_1 l0_1.length c0_1, .int .i64 a0_2]) (t := 60) ?hr ?_; (case hd => rfl); (case hg => rfl); (case hr => first | (go_simp; done) | (go_simp; rfl)); intro gb108 hg w20 hbox hb; have n0_ := asd (below_step hbw hb); have n1_ := asd (hbox); have n2_ := asd ((by rw [hg]; exact (below_size hbw) : w.heap.size ≤ gb108)); have n3_ := asd ((by rw [hg]; exact (below_size hbw) : w.heap.size ≤ gb108)); clear HB; have HB := n0_; have BK108 := n1_; have GW108 := n2_; have GE108 := n3_; clear n0_ n1_ n2_ n3_; clear hb hbox hg; have hcz21_0 : w20.cell? ⟨gb108, 0, none⟩ = some (.bool a0_0) := (blk_cell BK108.out 0).trans rfl; have hcz21_1 : w20.cell? ⟨gb108, 1, none⟩ = some (.slice A0_1 l0_1.length c0_1) := (blk_cell BK108.out 1).trans rfl; have hcz21_2 : w20.cell? ⟨gb108, 2, none⟩ = some (.int .i64 a0_2) := (blk_cell BK108.out 2).trans rfl; have hfz21_0 := blk_frozen BK108.out 0; have hfz21_1 := blk_frozen BK108.out 1; have hfz21_2 := blk_frozen BK108.out 2; have p109 : 0 ≤ ((ji9) : Int) := of_decide_eq_true (by first | (with_reducible assumption) | assumption); have q109 : (ji9) < (l0_1.length : Int) := of_decide_eq_true (by first | (with_reducible assumption) | assumption); obtain ⟨ad109, e109, hx109_0⟩ := Kd.at_int HR0_1.out (ji9) p109 q109; cases e109; replace hx109_0 := (HB.out.cell (World.block_lt_of_cell? w _ hx109_0)).trans hx109_0; replace p109 := eq_true p109; replace q109 := eq_true q109; have p110 : 0 ≤ (0 : Int) := (by omega); have q110 : 0 < (l0_1.length : Int) := of_decide_eq_true (by first | (with_reducible assumption) | assumption); obtain ⟨ad110, e110, hx110_0⟩ := Kd.at_int HR0_1.out 0 p110 q110; obtain rfl : ad109 = ad110 := (by injection e110); have qi110 : (0 < l0_1.length) = True := eq_true (by omega); (try rw [show ((0 : Int)).toNat = 0 from rfl] at hx110_0); (try rw [Addr.add_zero'] at hx110_0); replace hx110_0 := (HB.out.cell (World.block_lt_of_cell? w _ hx110_0)).trans hx110_0; replace p110 := eq_true p110; replace q110 := eq_true q110))
         go_ret
         exact ⟨by first | rfl | (simp [errW_none, errW_some] <;> rfl) | (simp only [← hji9]; first | rfl | (simp [errW_none, errW_some] <;> rfl)) | (simp [*, errW_none, errW_some] <;> rfl), by repeat (first | (with_reducible first | exact HB.out | apply below_alloc | apply pw_below_drewN | apply below_drew1 | refine below_set ?_ GE108.out) | exact HB.out)⟩
       ·rw [if_neg c16] at H
        have c16b0 : ((Go.bits .and .u32 (rd l0_1 0) 1) == 1) = false := beq_eq_false_iff_ne.mpr c16
        have c16b1 : ((Go.bits .and .u32 (rd l0_1 0) 1) != 1) = true := bne_iff_ne.mpr c16
        obtain rfl := Option.some.inj H
        go_enter Tryz.func91, Tryz.ntmps91
        go_wp2_with (first | ((with_reducible refine gate_dst (N := 1) rfl ?_); refine box_event ?hg (N := 1) ?hd (cs := #[.bool a0_0, .slice A0_1 l0_1.length c0_1, .int .i64 a0_2]) (t := 60) ?hr ?_; (case hd => rfl); (case hg => rfl); (case hr => first | (go_simp; done) | (go_simp; rfl)); intro gb108 hg w22 hbox hb; have n0_ := asd (below_step hbw hb); have n1_ := asd (hbox); have n2_ := asd ((by rw [hg]; exact (below_size hbw) : w.heap.size ≤ gb108)); have n3_ := asd ((by rw [hg]; exact (below_size hbw) : w.heap.size ≤ gb108)); clear HB; have HB := n0_; have BK108 := n1_; have GW108 := n2_; have GE108 := n3_; clear n0_ n1_ n2_ n3_; clear hb hbox hg; have hcz23_0 : w22.cell? ⟨gb108, 0, none⟩ = some (.bool a0_0) := (blk_cell BK108.out 0).trans rfl; have hcz23_1 : w22.cell? ⟨gb108, 1, none⟩ = some (.slice A0_1 l0_1.length c0_1) := (blk_cell BK108.out 1).trans rfl; have hcz23_2 : w22.cell? ⟨gb108, 2, none⟩ = some (.int .i64 a0_2) := (blk_cell BK108.out 2).trans rfl; have hfz23_0 := blk_frozen BK108.out 0; have hfz23_1 := blk_frozen BK108.out 1; have hfz23_2 := blk_frozen BK108.out 2; have p109 : 0 ≤ ((ji9) : Int) := of_decide_eq_true (by first | (with_reducible assumption) | assumption); have q109 : (ji9) < (l0_1.length : Int) := of_decide_eq_true (by first | (with_reducible assumption) | assumption); obtain ⟨ad109, e109, hx109_0⟩ := Kd.at_int HR0_1.out (ji9) p109 q109; cases e109; replace hx109_0 := (HB.out.cell (World.block_lt_of_cell? w _ hx109_0)).trans hx109_0; replace p109 := eq_true p109; replace q109 := eq_true q109; have p110 : 0 ≤ (0 : Int) := (by omega); have q110 : 0 < (l0_1.length : Int) := of_decide_eq_true (by first | (with_reducible assumption) | assumption); obtain ⟨ad110, e110, hx110_0⟩ := Kd.at_int HR0_1.out 0 p110 q110; obtain rfl : ad109 = ad110 := (by injection e110); have qi110 : (0 < l0_1.length) = True := eq_true (by omega); (try rw [show ((0 : Int)).toNat = 0 from rfl] at hx110_0); (try rw [Addr.add_zero'] at hx110_0); replace hx110_0 := (HB.out.cell (World.block_lt_of_cell? w _ hx110_0)).trans hx110_0; replace p110 := eq_true p110; replace q110 := eq_true q110))
        go_ret
        exact ⟨by first | rfl | (simp [errW_none, errW_some] <;> rfl) | (simp only [← hji9]; first | rfl | (simp [errW_none, errW_some] <;> rfl)) | (simp [*, errW_none, errW_some] <;> rfl), by repeat (first | (with_reducible first | exact HB.out | apply below_alloc | apply pw_below_drewN | apply below_drew1 | refine below_set ?_ GE108.out) | exact HB.out)⟩
      ·rw [if_neg c15] at H
       exact absurd H (by simp)
    ·rw [if_neg c11] at H
     exact absurd H (by simp)
   ·rw [if_neg c10] at H
    exact absurd H (by simp)
  ·rw [if_neg c8] at H
   have c8b0 : decide ((l0_1.length : Int) ≤ 2048) = false := decide_eq_false c8
   have c8b1 : decide (l0_1.length ≤ 2048) = false := decide_eq_false (by omega)
   clear c8
   obtain rfl := Option.some.inj H
   go_enter Tryz.func91, Tryz.ntmps91
   go_wp2_with (first | ((with_reducible refine gate_dst (N := 1) rfl ?_); refine box_event ?hg (N := 1) ?hd (cs := #[.bool a0_0, .slice A0_1 l0_1.length c0_1, .int .i64 a0_2]) (t := 60) ?hr ?_; (case hd => rfl); (case hg => rfl); (case hr => first | (go_simp; done) | (go_simp; rfl)); intro gb108 hg w24 hbox hb; have n0_ := asd (below_step hbw hb); have n1_ := asd (hbox); have n2_ := asd ((by rw [hg]; exact (below_size hbw) : w.heap.size ≤ gb108)); have n3_ := asd ((by rw [hg]; exact (below_size hbw) : w.heap.size ≤ gb108)); clear HB; have HB := n0_; have BK108 := n1_; have GW108 := n2_; have GE108 := n3_; clear n0_ n1_ n2_ n3_; clear hb hbox hg; have hcz25_0 : w24.cell? ⟨gb108, 0, none⟩ = some (.bool a0_0) := (blk_cell BK108.out 0).trans rfl; have hcz25_1 : w24.cell? ⟨gb108, 1, none⟩ = some (.slice A0_1 l0_1.length c0_1) := (blk_cell BK108.out 1).trans rfl; have hcz25_2 : w24.cell? ⟨gb108, 2, none⟩ = some (.int .i64 a0_2) := (blk_cell BK108.out 2).trans rfl; have hfz25_0 := blk_frozen BK108.out 0; have hfz25_1 := blk_frozen BK108.out 1; have hfz25_2 := blk_frozen BK108.out 2))
   go_ret
   exact ⟨eqC, by repeat (first | (with_reducible first | exact HB.out | apply below_alloc | apply pw_below_drewN | apply below_drew1 | refine below_set ?_ GE108.out) | exact HB.out)⟩
def dyad_Sign.j0 : Nat → Bool → Bool → List Int → Int → Option (Int)
 | 0, _, _, _, _ => none
 | k + 1, x3, x112000, x112001, x112002 => if x3 = true then (some 0) else (if x112000 = true then (some (-1)) else (some 1))
def dyad_Sign.f (k : Nat) (a0_0 : Bool) (l0_1 : List Int) (a0_2 : Int) : Option (Int) := (dyad_Valid.f a0_0 l0_1 a0_2).bind fun t112 => (if t112 = true then (dyad_Sign.j0 k ((l0_1.length : Int) == 0) a0_0 l0_1 a0_2) else (dyad_Sign.j0 k true a0_0 l0_1 a0_2))
theorem dyad_Sign.calls (k : Nat) (a0_0 : Bool) (A0_1 : Option Addr) (c0_1 : Nat) (l0_1 : List Int) (a0_2 : Int) (r : Int) (w : World) (hr0_1 : Kd.C (Kd.int .u32) w A0_1 l0_1.length l0_1) (hc0_1 : l0_1.length ≤ c0_1) (h : dyad_Sign.f k a0_0 l0_1 a0_2 = some r) :
  Calls Tryz.prog 51 #[.agg #[.bool a0_0, .slice A0_1 l0_1.length c0_1, .int .i64 a0_2]] w fun e w' => e = .returned (.int .i64 r) ∧ Below w.heap.size w w' := by
 have hu60 := Tryz.underlying60
 have HR0_1 := asd hr0_1
 have HC0_1 := asd hc0_1
 clear hr0_1 hc0_1
 have HB := asd (Below.refl w.heap.size w)
 have H : ((dyad_Valid.f a0_0 l0_1 a0_2).bind fun t112 => (if t112 = true then (dyad_Sign.j0 k ((l0_1.length : Int) == 0) a0_0 l0_1 a0_2) else (dyad_Sign.j0 k true a0_0 l0_1 a0_2))) = some r := h
 clear h
 have HC2 := asd H
 clear H
 go_enter Tryz.func51, Tryz.ntmps51
 go_upto_region 1 with (first | ((with_reducible refine gate_dst (N := 1) rfl ?_); (try (refine gate_guard (by rfl) ?_; dsimp only)); refine box_event ?hg (N := 1) ?hd (cs := #[.bool a0_0, .slice A0_1 l0_1.length c0_1, .int .i64 a0_2]) (t := 60) ?hr ?_; (case hd => rfl); (case hg => rfl); (case hr => first | (go_simp; done) | (go_simp; rfl)); intro gb111 hg w3 hbox hb; have n0_ := asd (below_step hbw hb); have n1_ := asd (hbox); have n2_ := asd ((by rw [hg]; exact (below_size hbw) : w.heap.size ≤ gb111)); have n3_ := asd ((by rw [hg]; exact (below_size hbw) : w.heap.size ≤ gb111)); clear HB; have HB := n0_; have BK111 := n1_; have GW111 := n2_; have GE111 := n3_; clear n0_ n1_ n2_ n3_; clear hb hbox hg))
 (try simp only [Act.put, List.setIfInBounds_toArray, List.set_cons_zero, List.set_cons_succ])
 go_cut [3] (fun v3 wc => ∃ (kq : Nat) (x3_1 : Bool), v3 = .bool x3_1 ∧ Aside0 (dyad_Sign.j0 kq x3_1 a0_0 l0_1 a0_2 = some r) ∧ Aside0 (kq ≤ k) ∧ Aside0 (wc.heap[gb111]? = some (.cells #[.bool a0_0, (.slice A0_1 l0_1.length c0_1), .int .i64 a0_2] 60 (0, 0))) ∧ Aside0 (Below w.heap.size w wc))
 case first =>
  have H := HC2.out
  clear HC2
  replace H := Option.bind_eq_some_iff.mp H
  obtain ⟨t112, A40, H⟩ := H
  replace H : (if t112 = true then (dyad_Sign.j0 k ((l0_1.length : Int) == 0) a0_0 l0_1 a0_2) else (dyad_Sign.j0 k true a0_0 l0_1 a0_2)) = some r := H
  have A4 := asd A40
  clear A40
  by_cases c5 : t112 = true
  ·subst c5
   have H1 : (dyad_Sign.j0 k ((l0_1.length : Int) == 0) a0_0 l0_1 a0_2) = some r := by rw [if_pos rfl] at H; exact H
   clear H
   have H := H1
   clear H1
   have H' := asd H
   clear H
   have hcz6_0 : w3.cell? ⟨gb111, 0, none⟩ = some (.bool a0_0) := (blk_cell BK111.out 0).trans rfl
   have hcz6_1 : w3.cell? ⟨gb111, 1, none⟩ = some (.slice A0_1 l0_1.length c0_1) := (blk_cell BK111.out 1).trans rfl
   have hcz6_2 : w3.cell? ⟨gb111, 2, none⟩ = some (.int .i64 a0_2) := (blk_cell BK111.out 2).trans rfl
   have hfz6_0 := blk_frozen BK111.out 0
   have hfz6_1 := blk_frozen BK111.out 1
   have hfz6_2 := blk_frozen BK111.out 2
   go_wp2_with (first | ((with_reducible refine gate_callee (f := 91) rfl ?_); refine goesL_ (some 5) rfl rfl Tryz.func91 (by kernel_rfl) rfl #[.agg #[.bool a0_0, .slice A0_1 l0_1.length c0_1, .int .i64 a0_2]] rfl eqA ?_; (with_reducible refine (dyad_Valid.calls a0_0 _ _ l0_1 a0_2 true _ ?side1 ?side2 A4.out).mono ?_); (case side1 => repeat (first | exact (Kd.C_below HR0_1.out HB.out) | (with_reducible refine Kd.C_alloc ?_ _) | (with_reducible refine Kd.C_drewN ?_ _) | (with_reducible refine Kd.C_drew ?_))); (case side2 => exact HC0_1.out); rintro e w7 ⟨rfl, hb⟩; refine ⟨_, rfl, ?_⟩; have n0_ := asd (blk_below (g := gb111) (o := .cells #[.bool a0_0, .slice A0_1 l0_1.length c0_1, .int .i64 a0_2] 60 (0, 0)) (blkU BK111.out) hb); have n1_ := asd (below_step (by repeat (first | (with_reducible first | exact HB.out | apply below_alloc | apply pw_below_drewN | apply below_drew1 | refine below_set ?_ GE111.out) | exact HB.out)) hb); clear BK111; clear HB; have BK111 := n0_; have HB := n1_; clear n0_ n1_; (try clear hb); (try clear hb2); (try clear hk); (try clear hi); have hcz8_0 : w7.cell? ⟨gb111, 0, none⟩ = some (.bool a0_0) := (blk_cell BK111.out 0).trans rfl; have hcz8_1 : w7.cell? ⟨gb111, 1, none⟩ = some (.slice A0_1 l0_1.length c0_1) := (blk_cell BK111.out 1).trans rfl; have hcz8_2 : w7.cell? ⟨gb111, 2, none⟩ = some (.int .i64 a0_2) := (blk_cell BK111.out 2).trans rfl; have hfz8_0 := blk_frozen BK111.out 0; have hfz8_1 := blk_frozen BK111.out 1; have hfz8_2 := blk_frozen BK111.out 2))
   go_meet
   case rel => exact ⟨_, (((l0_1.length : Int) == 0)), eqB, H', ⟨by first | omega | exact Nat.le_refl _⟩, ⟨by (with_reducible repeat (first | refine blk_drewN ?_ _ | refine blk_drew ?_ | refine blk_alloc ?_ _)); exact BK111.out⟩, ⟨by repeat (first | (with_reducible first | exact HB.out | apply below_alloc | apply pw_below_drewN | apply below_drew1 | refine below_set ?_ GE111.out) | exact HB.out)⟩⟩
  ·replace c5 := Bool.eq_false_iff.mpr c5
   subst c5
   have H1 : (dyad_Sign.j0 k true a0_0 l0_1 a0_2) = some r := by rw [if_neg (show ¬ (false = true) by decide)] at H; exact H
   clear H
   have H := H1
   clear H1
   have H' := asd H
   clear H
   have hcz9_0 : w3.cell? ⟨gb111, 0, none⟩ = some (.bool a0_0) := (blk_cell BK111.out 0).trans rfl
   have hcz9_1 : w3.cell? ⟨gb111, 1, none⟩ = some (.slice A0_1 l0_1.length c0_1) := (blk_cell BK111.out 1).trans rfl
   have hcz9_2 : w3.cell? ⟨gb111, 2, none⟩ = some (.int .i64 a0_2) := (blk_cell BK111.out 2).trans rfl
   have hfz9_0 := blk_frozen BK111.out 0
   have hfz9_1 := blk_frozen BK111.out 1
   have hfz9_2 := blk_frozen BK111.out 2
   go_wp2_with (first | ((with_reducible refine gate_callee (f := 91) rfl ?_); refine goesL_ (some 5) rfl rfl Tryz.func91 (by kernel_rfl) rfl #[.agg #[.bool a0_0, .slice A0_1 l0_1.length c0_1, .int .i64 a0_2]] rfl eqA ?_; (with_reducible refine (dyad_Valid.calls a0_0 _ _ l0_1 a0_2 false _ ?side1 ?side2 A4.out).mono ?_); (case side1 => repeat (first | exact (Kd.C_below HR0_1.out HB.out) | (with_reducible refine Kd.C_alloc ?_ _) | (with_reducible refine Kd.C_drewN ?_ _) | (with_reducible refine Kd.C_drew ?_))); (case side2 => exact HC0_1.out); rintro e w10 ⟨rfl, hb⟩; refine ⟨_, rfl, ?_⟩; have n0_ := asd (blk_below (g := gb111) (o := .cells #[.bool a0_0, .slice A0_1 l0_1.length c0_1, .int .i64 a0_2] 60 (0, 0)) (blkU BK111.out) hb); have n1_ := asd (below_step (by repeat (first | (with_reducible first | exact HB.out | apply below_alloc | apply pw_below_drewN | apply below_drew1 | refine below_set ?_ GE111.out) | exact HB.out)) hb); clear BK111; clear HB; have BK111 := n0_; have HB := n1_; clear n0_ n1_; (try clear hb); (try clear hb2); (try clear hk); (try clear hi)))
   go_meet
   case rel => exact ⟨_, (true), eqB, H', ⟨by first | omega | exact Nat.le_refl _⟩, ⟨by (with_reducible repeat (first | refine blk_drewN ?_ _ | refine blk_drew ?_ | refine blk_alloc ?_ _)); exact BK111.out⟩, ⟨by repeat (first | (with_reducible first | exact HB.out | apply below_alloc | apply pw_below_drewN | apply below_drew1 | refine below_set ?_ GE111.out) | exact HB.out)⟩⟩
 case rest =>
  clear HC2
  try clear p2
  try clear c5
  try clear c9
  try clear hcz6_0
  try clear hcz6_1
  try clear hcz6_2
  try clear hcz8_0
  try clear hcz8_1
  try clear hcz8_2
  try clear hcz9_0
  try clear hcz9_1
  try clear hcz9_2
  try clear hfz6_0
  try clear hfz6_1
  try clear hfz6_2
  try clear hfz8_0
  try clear hfz8_1
  try clear hfz8_2
  try clear hfz9_0
  try clear hfz9_1
  try clear hfz9_2
  obtain ⟨kq, x3_1, rfl, HA, HJ1, BK111, HB⟩ := hcut
  cases kq with
  | zero => exact absurd HA.out (by simp [dyad_Sign.j0])
  | succ kj1 =>
   have H := HA.out
   clear HA
   simp only [dyad_Sign.j0] at H
   by_cases c11 : x3_1 = true
   ·subst c11
    have H1 : (some 0) = some r := by rw [if_pos rfl] at H; exact H
    clear H
    have H := H1
    clear H1
    obtain rfl := Option.some.inj H
    go_wp2
    go_ret
    exact ⟨eqC, by repeat (first | (with_reducible first | exact HB.out | apply below_alloc | apply pw_below_drewN | apply below_drew1 | refine below_set ?_ GE111.out) | exact HB.out)⟩
   ·replace c11 := Bool.eq_false_iff.mpr c11
    subst c11
    have H1 : (if a0_0 = true then (some (-1)) else (some 1)) = some r := by rw [if_neg (show ¬ (false = true) by decide)] at H; exact H
    clear H
    have H := H1
    clear H1
    by_cases c12 : a0_0 = true
    ·subst c12
     have H1 : (some (-1)) = some r := by rw [if_pos rfl] at H; exact H
     clear H
     have H := H1
     clear H1
     obtain rfl := Option.some.inj H
     have hcz13_0 : wc.cell? ⟨gb111, 0, none⟩ = some (.bool true) := (blk_cell BK111.out 0).trans rfl
     have hcz13_1 : wc.cell? ⟨gb111, 1, none⟩ = some (.slice A0_1 l0_1.length c0_1) := (blk_cell BK111.out 1).trans rfl
     have hcz13_2 : wc.cell? ⟨gb111, 2, none⟩ = some (.int .i64 a0_2) := (blk_cell BK111.out 2).trans rfl
     have hfz13_0 := blk_frozen BK111.out 0
     have hfz13_1 := blk_frozen BK111.out 1
     have hfz13_2 := blk_frozen BK111.out 2
     go_wp2
     go_ret
     exact ⟨eqC, by repeat (first | (with_reducible first | exact HB.out | apply below_alloc | apply pw_below_drewN | apply below_drew1 | refine below_set ?_ GE111.out) | exact HB.out)⟩
    ·replace c12 := Bool.eq_false_iff.mpr c12
     subst c12
     have H1 : (some 1) = some r := by rw [if_neg (show ¬ (false = true) by decide)] at H; exact H
     clear H
     have H := H1
     clear H1
     obtain rfl := Option.some.inj H
     have hcz14_0 : wc.cell? ⟨gb111, 0, none⟩ = some (.bool false) := (blk_cell BK111.out 0).trans rfl
     have hcz14_1 : wc.cell? ⟨gb111, 1, none⟩ = some (.slice A0_1 l0_1.length c0_1) := (blk_cell BK111.out 1).trans rfl
     have hcz14_2 : wc.cell? ⟨gb111, 2, none⟩ = some (.int .i64 a0_2) := (blk_cell BK111.out 2).trans rfl
     have hfz14_0 := blk_frozen BK111.out 0
     have hfz14_1 := blk_frozen BK111.out 1
     have hfz14_2 := blk_frozen BK111.out 2
     go_wp2
     go_ret
     exact ⟨eqC, by repeat (first | (with_reducible first | exact HB.out | apply below_alloc | apply pw_below_drewN | apply below_drew1 | refine below_set ?_ GE111.out) | exact HB.out)⟩
end Go.Proofs.YthmeocigliephaaGreatDoor.PSu
end
section
namespace Go.Proofs.YthmeocigliephaaGreatDoor.PSu
attribute [local go_sem] neg_float f64bits_run f64from_run run_float_some max2_int min2_int max_two min_two max_three min_three max_four min_four
def round_to.f (a0_0 : Bool) (l0_1 : List Int) (a0_2 : Int) (a1 : Int) : Option (Nat) := (dyad_Round.f a0_0 l0_1 a0_2 a1).bind fun bt130 => (some bt130.1)
theorem round_to.calls (a0_0 : Bool) (A0_1 : Option Addr) (c0_1 : Nat) (l0_1 : List Int) (a0_2 : Int) (a1 : Int) (r : Nat) (w : World) (hr0_1 : Kd.C (Kd.int .u32) w A0_1 l0_1.length l0_1) (hc0_1 : l0_1.length ≤ c0_1) (h : round_to.f a0_0 l0_1 a0_2 a1 = some r) :
  Calls Tryz.prog 117 #[.agg #[.bool a0_0, .slice A0_1 l0_1.length c0_1, .int .i64 a0_2], .int .i64 a1] w fun e w' => e = .returned (.float .f64 r) ∧ Below w.heap.size w w' := by
 have hu60 := Tryz.underlying60
 have HR0_1 := asd hr0_1
 have HC0_1 := asd hc0_1
 clear hr0_1 hc0_1
 have HB := asd (Below.refl w.heap.size w)
 have H : ((dyad_Round.f a0_0 l0_1 a0_2 a1).bind fun bt130 => (some bt130.1)) = some r := h
 clear h
 replace H := Option.bind_eq_some_iff.mp H
 obtain ⟨⟨t130, t131⟩, A30, H⟩ := H
 replace H : (some t130) = some r := H
 have A3 := asd A30
 clear A30
 obtain rfl := Option.some.inj H
 go_enter Tryz.func117, Tryz.ntmps117
 go_wp2_with (first | ((with_reducible refine gate_dst (N := 2) rfl ?_); refine box_event ?hg (N := 2) ?hd (cs := #[.bool a0_0, .slice A0_1 l0_1.length c0_1, .int .i64 a0_2]) (t := 60) ?hr ?_; (case hd => rfl); (case hg => rfl); (case hr => first | (go_simp; done) | (go_simp; rfl)); intro gb129 hg w4 hbox hb; have n0_ := asd (below_step hbw hb); have n1_ := asd (hbox); have n2_ := asd ((by rw [hg]; exact (below_size hbw) : w.heap.size ≤ gb129)); have n3_ := asd ((by rw [hg]; exact (below_size hbw) : w.heap.size ≤ gb129)); clear HB; have HB := n0_; have BK129 := n1_; have GW129 := n2_; have GE129 := n3_; clear n0_ n1_ n2_ n3_; clear hb hbox hg; have hcz5_0 : w4.cell? ⟨gb129, 0, none⟩ = some (.bool a0_0) := (blk_cell BK129.out 0).trans rfl; have hcz5_1 : w4.cell? ⟨gb129, 1, none⟩ = some (.slice A0_1 l0_1.length c0_1) := (blk_cell BK129.out 1).trans rfl; have hcz5_2 : w4.cell? ⟨gb129, 2, none⟩ = some (.int .i64 a0_2) := (blk_cell BK129.out 2).trans rfl; have hfz5_0 := blk_frozen BK129.out 0; have hfz5_1 := blk_frozen BK129.out 1; have hfz5_2 := blk_frozen BK129.out 2) | ((with_reducible refine gate_callee (f := 47) rfl ?_); refine goesL_ (some 10) rfl rfl Tryz.func47 (by kernel_rfl) rfl #[.agg #[.bool a0_0, .slice A0_1 l0_1.length c0_1, .int .i64 a0_2], .int .i64 a1] rfl eqA ?_; (with_reducible refine (dyad_Round.calls a0_0 _ _ l0_1 a0_2 a1 t130 t131 _ ?side1 ?side2 A3.out).mono ?_); (case side1 => repeat (first | exact (Kd.C_below HR0_1.out HB.out) | (with_reducible refine Kd.C_alloc ?_ _) | (with_reducible refine Kd.C_drewN ?_ _) | (with_reducible refine Kd.C_drew ?_))); (case side2 => exact HC0_1.out); rintro e w6 ⟨rfl, hb⟩; refine ⟨_, rfl, ?_⟩; have n0_ := asd (blk_below (g := gb129) (o := .cells #[.bool a0_0, .slice A0_1 l0_1.length c0_1, .int .i64 a0_2] 60 (0, 0)) (blkU BK129.out) hb); have n1_ := asd (below_step (by repeat (first | (with_reducible first | exact HB.out | apply below_alloc | apply pw_below_drewN | apply below_drew1 | refine below_set ?_ GE129.out) | exact HB.out)) hb); clear BK129; clear HB; have BK129 := n0_; have HB := n1_; clear n0_ n1_; (try clear hb); (try clear hb2); (try clear hk); (try clear hi)))
 go_ret
 exact ⟨eqC, by repeat (first | (with_reducible first | exact HB.out | apply below_alloc | apply pw_below_drewN | apply below_drew1 | refine below_set ?_ GE129.out) | exact HB.out)⟩
def round_Add.j0 : Nat → Nat → Nat → Int → Bool → Option (Nat)
 | 0, _, _, _, _ => none
 | k + 1, x0, x1, x2, x9 => if x9 = true then ((math_NaN.f).bind fun t133 => (some t133)) else ((round_infinite.f x0).bind fun t134 => (if t134 = true then (if ((floatBits .add .f64 x0 x1).isSome) = true then (some ((floatBits .add .f64 x0 x1).getD 0)) else (none)) else ((round_infinite.f x1).bind fun t135 => (if t135 = true then (if ((floatBits .add .f64 x0 x1).isSome) = true then (some ((floatBits .add .f64 x0 x1).getD 0)) else (none)) else ((round_num.f x0).bind fun bt136 => ((round_num.f x1).bind fun bt141 => ((dyad_Add.f bt136.1 bt136.2.1 bt136.2.2 bt141.1 bt141.2.1 bt141.2.2).bind fun bt146 => ((dyad_Sign.f k bt146.1 bt146.2.1 bt146.2.2.1).bind fun t153 => (if t153 = 0 then ((round_nought.f k x0 x1 x2).bind fun t154 => (some t154)) else ((round_to.f bt146.1 bt146.2.1 bt146.2.2.1 x2).bind fun t155 => (some t155)))))))))))
def round_Add.f (k : Nat) (a0 : Nat) (a1 : Nat) (a2 : Int) : Option (Nat) := (round_Valid.f a2).bind fun t132 => (if t132 = 0 then (if ((FloatKind.f64.format.order a0 a0) != some .eq) = true then (round_Add.j0 k a0 a1 a2 true) else (round_Add.j0 k a0 a1 a2 ((FloatKind.f64.format.order a1 a1) != some .eq))) else (round_Add.j0 k a0 a1 a2 true))
def sums_near.f (k : Nat) (a0 : Nat) (a1 : Nat) : Option (Nat) := (round_Add.f k a0 a1 2).bind fun t156 => (some t156)
def sums_Row.l0 : Nat → Nat → List Nat → Int → Int → Option (Nat)
 | 0, _, _, _, _ => none
 | k + 1, x3, x13, x14, x15 => if x15 < x14 then (if 0 ≤ x15 then (if x15 < (x13.length : Int) then ((sums_near.f k x3 (rdOf (0 : Nat) x13 x15)).bind fun t160 => (sums_Row.l0 k t160 x13 x14 (wrap64 (x15 + 1)))) else (none)) else (none)) else (some x3)
def sums_Row.f (k : Nat) (l0 : List Nat) : Option (Nat) := if (l0.length : Int) = 0 then (some (0 : Nat)) else (if 0 < (l0.length : Int) then (if 1 ≤ (l0.length : Int) then (sums_Row.l0 k (rdOf (0 : Nat) l0 0) (l0.drop 1) ((l0.drop 1).length : Int) 0) else (none)) else (none))
def sums_Kept.l0 : Nat → Nat → Nat → List Nat → Int → Int → Option (Nat)
 | 0, _, _, _, _, _ => none
 | k + 1, x3, x4, x8, x9, x10 => if x10 < x9 then (if 0 ≤ x10 then (if x10 < (x8.length : Int) then ((sums_near.f k x3 (rdOf (0 : Nat) x8 x10)).bind fun t163 => ((math_Abs.f x3).bind fun t164 => ((math_Abs.f (rdOf (0 : Nat) x8 x10)).bind fun t165 => (if ((FloatKind.f64.format.order t164 t165) == some .gt || (FloatKind.f64.format.order t164 t165) == some .eq) = true then ((sums_near.f k x3 (Op.negFloat .f64 t163)).bind fun t166 => ((sums_near.f k t166 (rdOf (0 : Nat) x8 x10)).bind fun t167 => ((sums_near.f k x4 t167).bind fun t168 => (sums_Kept.l0 k t163 t168 x8 x9 (wrap64 (x10 + 1)))))) else ((sums_near.f k (rdOf (0 : Nat) x8 x10) (Op.negFloat .f64 t163)).bind fun t169 => ((sums_near.f k t169 x3).bind fun t170 => ((sums_near.f k x4 t170).bind fun t171 => (sums_Kept.l0 k t163 t171 x8 x9 (wrap64 (x10 + 1)))))))))) else (none)) else (none)) else ((sums_near.f k x3 x4).bind fun t161 => (some t161))
def sums_Kept.f (k : Nat) (l0 : List Nat) : Option (Nat) := sums_Kept.l0 k (0 : Nat) (0 : Nat) l0 (l0.length : Int) 0
end Go.Proofs.YthmeocigliephaaGreatDoor.PSu
end
section
namespace Go.Proofs.YthmeocigliephaaGreatDoor.PSu
attribute [local go_sem] f64bits_run f64from_run run_float_some max2_int min2_int max_two min_two max_three min_three max_four min_four
def sums_Halves.f : Nat → List Nat → Option (Nat)
 | 0, _ => none
 | k + 1, l0 => if (l0.length : Int) = 0 then (some (0 : Nat)) else (if (l0.length : Int) = 1 then (if 0 < (l0.length : Int) then (some (rdOf (0 : Nat) l0 0)) else (none)) else (if 0 ≤ (wrap64 ((l0.length : Int) / 2)) then (if (wrap64 ((l0.length : Int) / 2)) ≤ (l0.length : Int) then ((sums_Halves.f k (l0.take ((wrap64 ((l0.length : Int) / 2)) : Int).toNat)).bind fun t174 => ((sums_Halves.f k (l0.drop ((wrap64 ((l0.length : Int) / 2)) : Int).toNat)).bind fun t176 => ((sums_near.f k t174 t176).bind fun t177 => (some t177)))) else (none)) else (none)))
def dyad_valid.l0 : Nat → List (S60) → Int → Int → Option (Bool)
 | 0, _, _, _ => none
 | k + 1, x5, x6, x7 => if x7 < x6 then (if 0 ≤ x7 then (if x7 < (x5.length : Int) then ((dyad_Valid.f ((rd_T60 x5 x7).f0) ((rd_T60 x5 x7).f1) ((rd_T60 x5 x7).f2)).bind fun t180 => (if t180 = true then (dyad_valid.l0 k x5 x6 (wrap64 (x7 + 1))) else (some false))) else (none)) else (none)) else (some true)
def dyad_valid.f (k : Nat) (l0 : List (S60)) : Option (Bool) := dyad_valid.l0 k l0 (l0.length : Int) 0
theorem dyad_valid.calls (k : Nat) (A0 : Option Addr) (c0 : Nat) (l0 : List (S60)) (r : Bool) (w : World) (hr0 : Kd.C k60 w A0 l0.length l0) (hc0 : l0.length ≤ c0) (h : dyad_valid.f k l0 = some r) :
  Calls Tryz.prog 88 #[.slice A0 l0.length c0] w fun e w' => e = .returned (.bool r) ∧ Below w.heap.size w w' := by
 have hu60 := Tryz.underlying60
 have HR0 := asd hr0
 have HC0 := asd hc0
 clear hr0 hc0
 have HB := asd (Below.refl w.heap.size w)
 have H : (dyad_valid.l0 k l0 (l0.length : Int) 0) = some r := h
 clear h
 have H' := asd H
 clear H
 go_enter Tryz.func88, Tryz.ntmps88
 go_wp2
 go_loopg [7] k (fun kq v7 w' => ∃ (x7_1 : Int), v7 = .int .i64 x7_1 ∧ Aside0 (dyad_valid.l0 kq l0 (l0.length : Int) x7_1 = some r) ∧ Aside0 (kq ≤ k) ∧ Aside0 (Below w.heap.size w w'))
 case atStart => exact ⟨(0), eqB, H', ⟨Nat.le_refl _⟩, ⟨hbw⟩⟩
 case round =>
  clear H'
  obtain ⟨x7_1, rfl, HA, HK1, HB⟩ := hrel
  cases gk with
  | zero => exact absurd HA.out (by simp [dyad_valid.l0])
  | succ k1 =>
   have H := HA.out
   clear HA
   simp only [dyad_valid.l0] at H
   by_cases c2 : x7_1 < (l0.length : Int)
   ·rw [if_pos c2] at H
    have c2b0 : decide (x7_1 < (l0.length : Int)) = true := decide_eq_true c2
    clear c2
    by_cases c3 : 0 ≤ x7_1
    ·rw [if_pos c3] at H
     have c3b0 : decide (0 ≤ x7_1) = true := decide_eq_true c3
     clear c3
     by_cases c4 : x7_1 < (l0.length : Int)
     ·rw [if_pos c4] at H
      have c4b0 : decide (x7_1 < (l0.length : Int)) = true := decide_eq_true c4
      clear c4
      replace H := Option.bind_eq_some_iff.mp H
      obtain ⟨t180, A50, H⟩ := H
      replace H : (if t180 = true then (dyad_valid.l0 k1 l0 (l0.length : Int) (wrap64 (x7_1 + 1))) else (some false)) = some r := H
      have A5 := asd A50
      clear A50
      by_cases c6 : t180 = true
      ·subst c6
       have H1 : (dyad_valid.l0 k1 l0 (l0.length : Int) (wrap64 (x7_1 + 1))) = some r := by rw [if_pos rfl] at H; exact H
       clear H
       have H := H1
       clear H1
       have H' := asd H
       clear H
       have p178 : 0 ≤ (x7_1 : Int) := of_decide_eq_true (by first | (with_reducible assumption) | assumption)
       have q178 : x7_1 < (l0.length : Int) := of_decide_eq_true (by first | (with_reducible assumption) | assumption)
       obtain ⟨ad178, A178_1, c178_1, e178, hx178_0, hx178_1, hx178_2, hl178_1, hi178_1⟩ := at_T60 HR0.out x7_1 p178 q178
       cases e178
       replace hx178_0 := (HB.out.cell (World.block_lt_of_cell? w _ hx178_0)).trans hx178_0
       replace hx178_1 := (HB.out.cell (World.block_lt_of_cell? w _ hx178_1)).trans hx178_1
       replace hx178_2 := (HB.out.cell (World.block_lt_of_cell? w _ hx178_2)).trans hx178_2
       have HR178_1 := asd hi178_1
       have HC178_1 := asd hl178_1
       clear hi178_1 hl178_1
       replace p178 := eq_true p178
       replace q178 := eq_true q178
       go_wp2_with (first | ((with_reducible refine gate_dst (N := 4) rfl ?_); refine box_event ?hg (N := 4) ?hd (cs := #[.bool false, .slice none 0 0, .int .i64 0]) (t := 60) ?hr ?_; (case hd => rfl); (case hg => rfl); (case hr => first | (go_simp; done) | (go_simp; rfl)); intro gb179 hg w7 hbox hb; have n0_ := asd (below_step hbw hb); have n1_ := asd (hbox); have n2_ := asd ((by rw [hg]; exact (below_size hbw) : w.heap.size ≤ gb179)); have n3_ := asd ((by rw [hg]; exact (below_size hbw) : w.heap.size ≤ gb179)); clear HB; have HB := n0_; have BK179 := n1_; have GW179 := n2_; have GE179 := n3_; clear n0_ n1_ n2_ n3_; clear hb hbox hg; have hcz8_0 : w7.cell? ⟨gb179, 0, none⟩ = some (.bool false) := (blk_cell BK179.out 0).trans rfl; have hcz8_1 : w7.cell? ⟨gb179, 1, none⟩ = some (.slice none 0 0) := (blk_cell BK179.out 1).trans rfl; have hcz8_2 : w7.cell? ⟨gb179, 2, none⟩ = some (.int .i64 0) := (blk_cell BK179.out 2).trans rfl; have hfz8_0 := blk_frozen BK179.out 0; have hfz8_1 := blk_frozen BK179.out 1; have hfz8_2 := blk_frozen BK179.out 2) | ((with_reducible refine gate_callee (f := 91) rfl ?_); refine goesL_ (some 12) rfl rfl Tryz.func91 (by kernel_rfl) rfl #[.agg #[.bool ((rd_T60 l0 x7_1).f0), .slice A178_1 ((rd_T60 l0 x7_1).f1).length c178_1, .int .i64 ((rd_T60 l0 x7_1).f2)]] rfl eqA ?_; (with_reducible refine (dyad_Valid.calls ((rd_T60 l0 x7_1).f0) _ _ ((rd_T60 l0 x7_1).f1) ((rd_T60 l0 x7_1).f2) true _ ?side1 ?side2 A5.out).mono ?_); (case side1 => exact Kd.C_below HR178_1.out (by repeat (first | (with_reducible first | exact HB.out | apply below_alloc | apply pw_below_drewN | apply below_drew1 | refine below_set ?_ GE179.out) | exact HB.out))); (case side2 => exact HC178_1.out); rintro e w9 ⟨rfl, hb⟩; refine ⟨_, rfl, ?_⟩; have n0_ := asd (blk_below (g := gb179) (o := .cells #[.bool ((rd_T60 l0 x7_1).f0), .slice A178_1 ((rd_T60 l0 x7_1).f1).length c178_1, .int .i64 ((rd_T60 l0 x7_1).f2)] 60 (0, 0)) (by (with_reducible repeat (first | refine blk_drewN ?_ _ | refine blk_drew ?_ | refine blk_alloc ?_ _)); refine blk_put (cs := #[.bool ((rd_T60 l0 x7_1).f0), .slice A178_1 ((rd_T60 l0 x7_1).f1).length c178_1, .int .i64 0]) ?_ 2 _ rfl; (with_reducible repeat (first | refine blk_drewN ?_ _ | refine blk_drew ?_ | refine blk_alloc ?_ _)); refine blk_put (cs := #[.bool ((rd_T60 l0 x7_1).f0), .slice none 0 0, .int .i64 0]) ?_ 1 _ rfl; (with_reducible repeat (first | refine blk_drewN ?_ _ | refine blk_drew ?_ | refine blk_alloc ?_ _)); refine blk_put (cs := #[.bool false, .slice none 0 0, .int .i64 0]) ?_ 0 _ rfl; (with_reducible repeat (first | refine blk_drewN ?_ _ | refine blk_drew ?_ | refine blk_alloc ?_ _)); exact BK179.out) hb); have n1_ := asd (below_step (by repeat (first | (with_reducible first | exact HB.out | apply below_alloc | apply pw_below_drewN | apply below_drew1 | refine below_set ?_ GE179.out) | exact HB.out)) hb); clear BK179; clear HB; have BK179 := n0_; have HB := n1_; clear n0_ n1_; (try clear hb); (try clear hb2); (try clear hk); (try clear hi)))
       go_roundg k1
       case measure => have := HK1.out; omega
       case rel => exact ⟨(wrap64 (x7_1 + 1)), eqB, H', ⟨by have := HK1.out; omega⟩, ⟨by repeat (first | (with_reducible first | exact HB.out | apply below_alloc | apply pw_below_drewN | apply below_drew1 | refine below_set ?_ GE179.out) | exact HB.out)⟩⟩
      ·replace c6 := Bool.eq_false_iff.mpr c6
       subst c6
       have H1 : (some false) = some r := by rw [if_neg (show ¬ (false = true) by decide)] at H; exact H
       clear H
       have H := H1
       clear H1
       obtain rfl := Option.some.inj H
       have p178 : 0 ≤ (x7_1 : Int) := of_decide_eq_true (by first | (with_reducible assumption) | assumption)
       have q178 : x7_1 < (l0.length : Int) := of_decide_eq_true (by first | (with_reducible assumption) | assumption)
       obtain ⟨ad178, A178_1, c178_1, e178, hx178_0, hx178_1, hx178_2, hl178_1, hi178_1⟩ := at_T60 HR0.out x7_1 p178 q178
       cases e178
       replace hx178_0 := (HB.out.cell (World.block_lt_of_cell? w _ hx178_0)).trans hx178_0
       replace hx178_1 := (HB.out.cell (World.block_lt_of_cell? w _ hx178_1)).trans hx178_1
       replace hx178_2 := (HB.out.cell (World.block_lt_of_cell? w _ hx178_2)).trans hx178_2
       have HR178_1 := asd hi178_1
       have HC178_1 := asd hl178_1
       clear hi178_1 hl178_1
       replace p178 := eq_true p178
       replace q178 := eq_true q178
       go_wp2_with (first | ((with_reducible refine gate_dst (N := 4) rfl ?_); refine box_event ?hg (N := 4) ?hd (cs := #[.bool false, .slice none 0 0, .int .i64 0]) (t := 60) ?hr ?_; (case hd => rfl); (case hg => rfl); (case hr => first | (go_simp; done) | (go_simp; rfl)); intro gb179 hg w10 hbox hb; have n0_ := asd (below_step hbw hb); have n1_ := asd (hbox); have n2_ := asd ((by rw [hg]; exact (below_size hbw) : w.heap.size ≤ gb179)); have n3_ := asd ((by rw [hg]; exact (below_size hbw) : w.heap.size ≤ gb179)); clear HB; have HB := n0_; have BK179 := n1_; have GW179 := n2_; have GE179 := n3_; clear n0_ n1_ n2_ n3_; clear hb hbox hg; have hcz11_0 : w10.cell? ⟨gb179, 0, none⟩ = some (.bool false) := (blk_cell BK179.out 0).trans rfl; have hcz11_1 : w10.cell? ⟨gb179, 1, none⟩ = some (.slice none 0 0) := (blk_cell BK179.out 1).trans rfl; have hcz11_2 : w10.cell? ⟨gb179, 2, none⟩ = some (.int .i64 0) := (blk_cell BK179.out 2).trans rfl; have hfz11_0 := blk_frozen BK179.out 0; have hfz11_1 := blk_frozen BK179.out 1; have hfz11_2 := blk_frozen BK179.out 2) | ((with_reducible refine gate_callee (f := 91) rfl ?_); refine goesL_ (some 12) rfl rfl Tryz.func91 (by kernel_rfl) rfl #[.agg #[.bool ((rd_T60 l0 x7_1).f0), .slice A178_1 ((rd_T60 l0 x7_1).f1).length c178_1, .int .i64 ((rd_T60 l0 x7_1).f2)]] rfl eqA ?_; (with_reducible refine (dyad_Valid.calls ((rd_T60 l0 x7_1).f0) _ _ ((rd_T60 l0 x7_1).f1) ((rd_T60 l0 x7_1).f2) false _ ?side1 ?side2 A5.out).mono ?_); (case side1 => exact Kd.C_below HR178_1.out (by repeat (first | (with_reducible first | exact HB.out | apply below_alloc | apply pw_below_drewN | apply below_drew1 | refine below_set ?_ GE179.out) | exact HB.out))); (case side2 => exact HC178_1.out); rintro e w12 ⟨rfl, hb⟩; refine ⟨_, rfl, ?_⟩; have n0_ := asd (blk_below (g := gb179) (o := .cells #[.bool ((rd_T60 l0 x7_1).f0), .slice A178_1 ((rd_T60 l0 x7_1).f1).length c178_1, .int .i64 ((rd_T60 l0 x7_1).f2)] 60 (0, 0)) (by (with_reducible repeat (first | refine blk_drewN ?_ _ | refine blk_drew ?_ | refine blk_alloc ?_ _)); refine blk_put (cs := #[.bool ((rd_T60 l0 x7_1).f0), .slice A178_1 ((rd_T60 l0 x7_1).f1).length c178_1, .int .i64 0]) ?_ 2 _ rfl; (with_reducible repeat (first | refine blk_drewN ?_ _ | refine blk_drew ?_ | refine blk_alloc ?_ _)); refine blk_put (cs := #[.bool ((rd_T60 l0 x7_1).f0), .slice none 0 0, .int .i64 0]) ?_ 1 _ rfl; (with_reducible repeat (first | refine blk_drewN ?_ _ | refine blk_drew ?_ | refine blk_alloc ?_ _)); refine blk_put (cs := #[.bool false, .slice none 0 0, .int .i64 0]) ?_ 0 _ rfl; (with_reducible repeat (first | refine blk_drewN ?_ _ | refine blk_drew ?_ | refine blk_alloc ?_ _)); exact BK179.out) hb); have n1_ := asd (below_step (by repeat (first | (with_reducible first | exact HB.out | apply below_alloc | apply pw_below_drewN | apply below_drew1 | refine below_set ?_ GE179.out) | exact HB.out)) hb); clear BK179; clear HB; have BK179 := n0_; have HB := n1_; clear n0_ n1_; (try clear hb); (try clear hb2); (try clear hk); (try clear hi)))
       go_ret
       exact ⟨eqC, by repeat (first | (with_reducible first | exact HB.out | apply below_alloc | apply pw_below_drewN | apply below_drew1 | refine below_set ?_ GE179.out) | exact HB.out)⟩
     ·rw [if_neg c4] at H
      exact absurd H (by simp)
    ·rw [if_neg c3] at H
     exact absurd H (by simp)
   ·rw [if_neg c2] at H
    have c2b0 : decide (x7_1 < (l0.length : Int)) = false := decide_eq_false c2
    clear c2
    obtain rfl := Option.some.inj H
    go_wp2
    go_ret
    exact ⟨eqC, hbw⟩
def dyad_Neg.f (a0_0 : Bool) (l0_1 : List Int) (a0_2 : Int) : Option (Bool × List Int × Int) := (dyad_Valid.f a0_0 l0_1 a0_2).bind fun t183 => (if t183 = true then (if (l0_1.length : Int) = 0 then (some (false, ([] : List Int), 0)) else ((some (([] : List Int) : List Int)).bind fun y184 => (if y184.length + l0_1.length < 35184372088832 then (some (!a0_0, (y184 ++ l0_1), a0_2)) else (none)))) else (some (false, ([] : List Int), 0)))
def dyad_Neg.T3 : Bool × List (List Nat × List Nat) := (true, [([], []), ([0], [0]), ([1], [1]), ([], []), ([], []), ([4], [4]), ([3, 5], [3, 5]), ([], []), ([7], [7]), ([2, 6, 8], [2, 6, 8]), ([9, 6, 0, 1, 2, 3, 4, 5, 6, 7, 8, 9], [9])])
def dyad_Neg.B3 : List Nat := [0, 1, 3, 0, 0, 16, 56, 0, 128, 511, 1023]
theorem dyad_Neg.tab3 : rtab .any (opsOf Tryz.f89 3) = dyad_Neg.T3 := by kernel_rfl
theorem dyad_Neg.bits3 : waitsOk dyad_Neg.T3.2 dyad_Neg.B3 = true := by kernel_rfl
theorem dyad_Neg.calls (a0_0 : Bool) (A0_1 : Option Addr) (c0_1 : Nat) (l0_1 : List Int) (a0_2 : Int) (r1 : Bool) (r2 : List Int) (r3 : Int) (w : World) (hr0_1 : Kd.C (Kd.int .u32) w A0_1 l0_1.length l0_1) (hc0_1 : l0_1.length ≤ c0_1) (h : dyad_Neg.f a0_0 l0_1 a0_2 = some (r1, r2, r3)) :
  Calls Tryz.prog 89 #[.agg #[.bool a0_0, .slice A0_1 l0_1.length c0_1, .int .i64 a0_2]] w fun e w' => ∃ v1_ : Value, e = .returned (.agg #[.bool r1, v1_, .int .i64 r3]) ∧ Kd.R (Kd.int .u32) 83 w' w.heap.size (fun _ => True) v1_ r2 ∧ Below w.heap.size w w' := by
 have hu60 := Tryz.underlying60
 have HR0_1 := asd hr0_1
 have HC0_1 := asd hc0_1
 clear hr0_1 hc0_1
 have HB := asd (Below.refl w.heap.size w)
 have H : ((dyad_Valid.f a0_0 l0_1 a0_2).bind fun t183 => (if t183 = true then (if (l0_1.length : Int) = 0 then (some (false, ([] : List Int), 0)) else ((some (([] : List Int) : List Int)).bind fun y184 => (if y184.length + l0_1.length < 35184372088832 then (some (!a0_0, (y184 ++ l0_1), a0_2)) else (none)))) else (some (false, ([] : List Int), 0)))) = some (r1, r2, r3) := h
 clear h
 replace H := Option.bind_eq_some_iff.mp H
 obtain ⟨t183, A20, H⟩ := H
 replace H : (if t183 = true then (if (l0_1.length : Int) = 0 then (some (false, ([] : List Int), 0)) else ((some (([] : List Int) : List Int)).bind fun y184 => (if y184.length + l0_1.length < 35184372088832 then (some (!a0_0, (y184 ++ l0_1), a0_2)) else (none)))) else (some (false, ([] : List Int), 0))) = some (r1, r2, r3) := H
 have A2 := asd A20
 clear A20
 by_cases c3 : t183 = true
 ·subst c3
  have H1 : (if (l0_1.length : Int) = 0 then (some (false, ([] : List Int), 0)) else ((some (([] : List Int) : List Int)).bind fun y184 => (if y184.length + l0_1.length < 35184372088832 then (some (!a0_0, (y184 ++ l0_1), a0_2)) else (none)))) = some (r1, r2, r3) := by rw [if_pos rfl] at H; exact H
  clear H
  have H := H1
  clear H1
  by_cases c4 : (l0_1.length : Int) = 0
  ·rw [if_pos c4] at H
   have c4b0 : ((l0_1.length : Int) == 0) = true := beq_iff_eq.mpr c4
   have c4b1 : ((l0_1.length : Int) != 0) = false := bne_eq_false_iff_eq.mpr c4
   clear c4
   simp only [Option.some.injEq, Prod.mk.injEq] at H
   obtain ⟨rfl, rfl, rfl⟩ := H
   go_enter Tryz.func89, Tryz.ntmps89
   go_wp2_with (first | ((with_reducible refine gate_dst (N := 1) rfl ?_); (try (refine gate_guard (by rfl) ?_; dsimp only)); refine box_event ?hg (N := 1) ?hd (cs := #[.bool a0_0, .slice A0_1 l0_1.length c0_1, .int .i64 a0_2]) (t := 60) ?hr ?_; (case hd => rfl); (case hg => rfl); (case hr => first | (go_simp; done) | (go_simp; rfl)); intro gb181 hg w5 hbox hb; have n0_ := asd (below_step hbw hb); have n1_ := asd (hbox); have n2_ := asd ((by rw [hg]; exact (below_size hbw) : w.heap.size ≤ gb181)); have n3_ := asd ((by rw [hg]; exact (below_size hbw) : w.heap.size ≤ gb181)); clear HB; have HB := n0_; have BK181 := n1_; have GW181 := n2_; have GE181 := n3_; clear n0_ n1_ n2_ n3_; clear hb hbox hg) | ((with_reducible refine gate_dst (N := 2) rfl ?_); (try (refine gate_guard (by rfl) ?_; dsimp only)); refine box_event ?hg (N := 2) ?hd (cs := #[.bool false, .slice none 0 0, .int .i64 0]) (t := 60) ?hr ?_; (case hd => rfl); (case hg => rfl); (case hr => first | (go_simp; done) | (go_simp; rfl)); intro gb182 hg w6 hbox hb; have n0_ := asd (blk_below (g := gb181) (o := .cells #[.bool a0_0, .slice A0_1 l0_1.length c0_1, .int .i64 a0_2] 60 (0, 0)) (blkU BK181.out) hb); have n1_ := asd (below_step (by repeat (first | (with_reducible first | exact HB.out | apply below_alloc | apply pw_below_drewN | apply below_drew1 | refine below_set ?_ GE181.out) | exact HB.out)) hb); have n2_ := asd (hbox); have n3_ := asd ((by rw [hg]; exact (below_size (by repeat (first | (with_reducible first | exact HB.out | apply below_alloc | apply pw_below_drewN | apply below_drew1 | refine below_set ?_ GE181.out) | exact HB.out))) : w.heap.size ≤ gb182)); have n4_ := asd ((by rw [hg]; exact (below_size (by repeat (first | (with_reducible first | exact HB.out | apply below_alloc | apply pw_below_drewN | apply below_drew1 | refine below_set ?_ GE181.out) | exact HB.out))) : w.heap.size ≤ gb182)); have n5_ := asd ((by rw [hg]; exact Nat.ne_of_lt (blk_lt (g := gb181) (o := .cells #[.bool a0_0, .slice A0_1 l0_1.length c0_1, .int .i64 a0_2] 60 (0, 0)) (blkU BK181.out)) : gb181 ≠ gb182)); have n6_ := asd ((by rw [hg]; exact Nat.ne_of_gt (blk_lt (g := gb181) (o := .cells #[.bool a0_0, .slice A0_1 l0_1.length c0_1, .int .i64 a0_2] 60 (0, 0)) (blkU BK181.out)) : gb182 ≠ gb181)); clear BK181; clear HB; have BK181 := n0_; have HB := n1_; have BK182 := n2_; have GW182 := n3_; have GE182 := n4_; have NB181_182 := n5_; have NB182_181 := n6_; clear n0_ n1_ n2_ n3_ n4_ n5_ n6_; clear hb hbox hg; have hnb7 := NB181_182.out; have hnc7 := NB182_181.out; have hcz8_0 : w6.cell? ⟨gb181, 0, none⟩ = some (.bool a0_0) := (blk_cell BK181.out 0).trans rfl; have hcz8_1 : w6.cell? ⟨gb181, 1, none⟩ = some (.slice A0_1 l0_1.length c0_1) := (blk_cell BK181.out 1).trans rfl; have hcz8_2 : w6.cell? ⟨gb181, 2, none⟩ = some (.int .i64 a0_2) := (blk_cell BK181.out 2).trans rfl; have hfz8_0 := blk_frozen BK181.out 0; have hfz8_1 := blk_frozen BK181.out 1; have hfz8_2 := blk_frozen BK181.out 2) | ((with_reducible refine gate_callee (f := 91) rfl ?_); refine goesL_ (some 4) rfl rfl Tryz.func91 (by kernel_rfl) rfl #[.agg #[.bool a0_0, .slice A0_1 l0_1.length c0_1, .int .i64 a0_2]] rfl eqA ?_; (with_reducible refine (dyad_Valid.calls a0_0 _ _ l0_1 a0_2 true _ ?side1 ?side2 A2.out).mono ?_); (case side1 => repeat (first | exact (Kd.C_below HR0_1.out HB.out) | (with_reducible refine Kd.C_alloc ?_ _) | (with_reducible refine Kd.C_drewN ?_ _) | (with_reducible refine Kd.C_drew ?_))); (case side2 => exact HC0_1.out); rintro e w9 ⟨rfl, hb⟩; refine ⟨_, rfl, ?_⟩; have n0_ := asd (blk_below (g := gb181) (o := .cells #[.bool a0_0, .slice A0_1 l0_1.length c0_1, .int .i64 a0_2] 60 (0, 0)) (blkU BK181.out) hb); have n1_ := asd (blk_below (g := gb182) (o := .cells #[.bool false, .slice none 0 0, .int .i64 0] 60 (0, 0)) (blkU BK182.out) hb); have n2_ := asd (below_step (by repeat (first | (with_reducible first | exact HB.out | apply below_alloc | apply pw_below_drewN | apply below_drew1 | refine below_set ?_ GE181.out | refine below_set ?_ GE182.out) | exact HB.out)) hb); clear BK181; clear BK182; clear HB; have BK181 := n0_; have BK182 := n1_; have HB := n2_; clear n0_ n1_ n2_; (try clear hb); (try clear hb2); (try clear hk); (try clear hi); have hcz10_0 : w9.cell? ⟨gb181, 0, none⟩ = some (.bool a0_0) := (blk_cell BK181.out 0).trans rfl; have hcz10_1 : w9.cell? ⟨gb181, 1, none⟩ = some (.slice A0_1 l0_1.length c0_1) := (blk_cell BK181.out 1).trans rfl; have hcz10_2 : w9.cell? ⟨gb181, 2, none⟩ = some (.int .i64 a0_2) := (blk_cell BK181.out 2).trans rfl; have hfz10_0 := blk_frozen BK181.out 0; have hfz10_1 := blk_frozen BK181.out 1; have hfz10_2 := blk_frozen BK181.out 2; have hcz11_0 : w9.cell? ⟨gb182, 0, none⟩ = some (.bool false) := (blk_cell BK182.out 0).trans rfl; have hcz11_1 : w9.cell? ⟨gb182, 1, none⟩ = some (.slice none 0 0) := (blk_cell BK182.out 1).trans rfl; have hcz11_2 : w9.cell? ⟨gb182, 2, none⟩ = some (.int .i64 0) := (blk_cell BK182.out 2).trans rfl; have hfz11_0 := blk_frozen BK182.out 0; have hfz11_1 := blk_frozen BK182.out 1; have hfz11_2 := blk_frozen BK182.out 2))
   refine bodyPost_ret (results_cell_row rfl _ _ gb182 60 #[.bool false, .slice none 0 0, .int .i64 0] (0, 0) _ rfl (by (with_reducible repeat (first | refine blk_drewN ?_ _ | refine blk_drew ?_ | refine blk_alloc ?_ _)); refine blk_put (cs := #[.bool false, .slice none 0 0, .int .i64 0]) ?_ 2 _ rfl; (with_reducible repeat (first | refine blk_drewN ?_ _ | refine blk_drew ?_ | refine blk_alloc ?_ _)); refine blk_put (cs := #[.bool false, .slice none 0 0, .int .i64 0]) ?_ 1 _ rfl; (with_reducible repeat (first | refine blk_drewN ?_ _ | refine blk_drew ?_ | refine blk_alloc ?_ _)); refine blk_put (cs := #[.bool false, .slice none 0 0, .int .i64 0]) ?_ 0 _ rfl; (with_reducible repeat (first | refine blk_drewN ?_ _ | refine blk_drew ?_ | refine blk_alloc ?_ _)); exact BK182.out) Tryz.underlying60 rfl (by kernel_rfl)) rfl ?_
   exact ⟨_, eqC, by first | exact Kd.R_nil _ _ _ _ _ | exact Kd.N_nil _ _ _ _ _ | exact Kd.V_nil _ _ _ _ _ | exact Kd.Q_nil _ _ _ _ _ | exact Kd.S_nil _ _ _ _ _, by repeat (first | (with_reducible first | exact HB.out | apply below_alloc | apply pw_below_drewN | apply below_drew1 | refine below_set ?_ GE181.out | refine below_set ?_ GE182.out) | exact HB.out)⟩
  ·rw [if_neg c4] at H
   have c4b0 : ((l0_1.length : Int) == 0) = false := beq_eq_false_iff_ne.mpr c4
   have c4b1 : ((l0_1.length : Int) != 0) = true := bne_iff_ne.mpr c4
   have c4b2 : ¬ (l0_1 = []) := fun h_ => c4 (by rw [h_]; rfl)
   obtain ⟨y184, hy184⟩ : ∃ y_ : List Int, y_ = (([] : List Int)) := ⟨_, rfl⟩
   replace H : (if y184.length + l0_1.length < 35184372088832 then (some (!a0_0, (y184 ++ l0_1), a0_2)) else (none)) = some (r1, r2, r3) := by first | (rw [hy184]; with_reducible exact H) | (have H2_ := (Option.bind_some _ _).symm.trans H; rw [hy184]; with_reducible exact H2_) | (have H2_ := (Option.bind_some _ _).symm.trans H; with_reducible exact H2_) | with_reducible exact H | (rw [hy184]; exact H) | exact H
   have Ny184 := asd hy184
   clear hy184
   by_cases c12 : y184.length + l0_1.length < 35184372088832
   ·rw [if_pos c12] at H
    have LMc12 := asd c12
    clear c12
    obtain ⟨y187, hy187⟩ : ∃ y_ : List Int, y_ = (y184 ++ l0_1) := ⟨_, rfl⟩
    replace H : (some (!a0_0, y187, a0_2)) = some (r1, r2, r3) := by first | (rw [hy187]; with_reducible exact H) | (have H2_ := (Option.bind_some _ _).symm.trans H; rw [hy187]; with_reducible exact H2_) | (have H2_ := (Option.bind_some _ _).symm.trans H; with_reducible exact H2_) | with_reducible exact H | (rw [hy187]; exact H) | exact H
    have Ny187 := asd hy187
    clear hy187
    simp only [Option.some.injEq, Prod.mk.injEq] at H
    obtain ⟨rfl, rfl, rfl⟩ := H
    go_enter Tryz.func89, Tryz.ntmps89
    try go_wp2_with (first | ((with_reducible refine gate_dst (N := 1) rfl ?_); (try (refine gate_guard (by rfl) ?_; dsimp only)); refine box_event ?hg (N := 1) ?hd (cs := #[.bool a0_0, .slice A0_1 l0_1.length c0_1, .int .i64 a0_2]) (t := 60) ?hr ?_; (case hd => rfl); (case hg => rfl); (case hr => first | (go_simp; done) | (go_simp; rfl)); intro gb181 hg w13 hbox hb; have n0_ := asd (below_step hbw hb); have n1_ := asd (hbox); have n2_ := asd ((by rw [hg]; exact (below_size hbw) : w.heap.size ≤ gb181)); have n3_ := asd ((by rw [hg]; exact (below_size hbw) : w.heap.size ≤ gb181)); clear HB; have HB := n0_; have BK181 := n1_; have GW181 := n2_; have GE181 := n3_; clear n0_ n1_ n2_ n3_; clear hb hbox hg) | ((with_reducible refine gate_dst (N := 2) rfl ?_); (try (refine gate_guard (by rfl) ?_; dsimp only)); refine box_event ?hg (N := 2) ?hd (cs := #[.bool false, .slice none 0 0, .int .i64 0]) (t := 60) ?hr ?_; (case hd => rfl); (case hg => rfl); (case hr => first | (go_simp; done) | (go_simp; rfl)); intro gb182 hg w14 hbox hb; have n0_ := asd (blk_below (g := gb181) (o := .cells #[.bool a0_0, .slice A0_1 l0_1.length c0_1, .int .i64 a0_2] 60 (0, 0)) (blkU BK181.out) hb); have n1_ := asd (below_step (by repeat (first | (with_reducible first | exact HB.out | apply below_alloc | apply pw_below_drewN | apply below_drew1 | refine below_set ?_ GE181.out) | exact HB.out)) hb); have n2_ := asd (hbox); have n3_ := asd ((by rw [hg]; exact (below_size (by repeat (first | (with_reducible first | exact HB.out | apply below_alloc | apply pw_below_drewN | apply below_drew1 | refine below_set ?_ GE181.out) | exact HB.out))) : w.heap.size ≤ gb182)); have n4_ := asd ((by rw [hg]; exact (below_size (by repeat (first | (with_reducible first | exact HB.out | apply below_alloc | apply pw_below_drewN | apply below_drew1 | refine below_set ?_ GE181.out) | exact HB.out))) : w.heap.size ≤ gb182)); have n5_ := asd ((by rw [hg]; exact Nat.ne_of_lt (blk_lt (g := gb181) (o := .cells #[.bool a0_0, .slice A0_1 l0_1.length c0_1, .int .i64 a0_2] 60 (0, 0)) (blkU BK181.out)) : gb181 ≠ gb182)); have n6_ := asd ((by rw [hg]; exact Nat.ne_of_gt (blk_lt (g := gb181) (o := .cells #[.bool a0_0, .slice A0_1 l0_1.length c0_1, .int .i64 a0_2] 60 (0, 0)) (blkU BK181.out)) : gb182 ≠ gb181)); clear BK181; clear HB; have BK181 := n0_; have HB := n1_; have BK182 := n2_; have GW182 := n3_; have GE182 := n4_; have NB181_182 := n5_; have NB182_181 := n6_; clear n0_ n1_ n2_ n3_ n4_ n5_ n6_; clear hb hbox hg; have hnb15 := NB181_182.out; have hnc15 := NB182_181.out; have hcz16_0 : w14.cell? ⟨gb181, 0, none⟩ = some (.bool a0_0) := (blk_cell BK181.out 0).trans rfl; have hcz16_1 : w14.cell? ⟨gb181, 1, none⟩ = some (.slice A0_1 l0_1.length c0_1) := (blk_cell BK181.out 1).trans rfl; have hcz16_2 : w14.cell? ⟨gb181, 2, none⟩ = some (.int .i64 a0_2) := (blk_cell BK181.out 2).trans rfl; have hfz16_0 := blk_frozen BK181.out 0; have hfz16_1 := blk_frozen BK181.out 1; have hfz16_2 := blk_frozen BK181.out 2) | ((with_reducible refine gate_callee (f := 91) rfl ?_); refine goesL_ (some 4) rfl rfl Tryz.func91 (by kernel_rfl) rfl #[.agg #[.bool a0_0, .slice A0_1 l0_1.length c0_1, .int .i64 a0_2]] rfl eqA ?_; (with_reducible refine (dyad_Valid.calls a0_0 _ _ l0_1 a0_2 true _ ?side1 ?side2 A2.out).mono ?_); (case side1 => repeat (first | exact (Kd.C_below HR0_1.out HB.out) | (with_reducible refine Kd.C_alloc ?_ _) | (with_reducible refine Kd.C_drewN ?_ _) | (with_reducible refine Kd.C_drew ?_))); (case side2 => exact HC0_1.out); rintro e w17 ⟨rfl, hb⟩; refine ⟨_, rfl, ?_⟩; have n0_ := asd (blk_below (g := gb181) (o := .cells #[.bool a0_0, .slice A0_1 l0_1.length c0_1, .int .i64 a0_2] 60 (0, 0)) (blkU BK181.out) hb); have n1_ := asd (blk_below (g := gb182) (o := .cells #[.bool false, .slice none 0 0, .int .i64 0] 60 (0, 0)) (blkU BK182.out) hb); have n2_ := asd (below_step (by repeat (first | (with_reducible first | exact HB.out | apply below_alloc | apply pw_below_drewN | apply below_drew1 | refine below_set ?_ GE181.out | refine below_set ?_ GE182.out) | exact HB.out)) hb); clear BK181; clear BK182; clear HB; have BK181 := n0_; have BK182 := n1_; have HB := n2_; clear n0_ n1_ n2_; (try clear hb); (try clear hb2); (try clear hk); (try clear hi); have hcz18_0 : w17.cell? ⟨gb181, 0, none⟩ = some (.bool a0_0) := (blk_cell BK181.out 0).trans rfl; have hcz18_1 : w17.cell? ⟨gb181, 1, none⟩ = some (.slice A0_1 l0_1.length c0_1) := (blk_cell BK181.out 1).trans rfl; have hcz18_2 : w17.cell? ⟨gb181, 2, none⟩ = some (.int .i64 a0_2) := (blk_cell BK181.out 2).trans rfl; have hfz18_0 := blk_frozen BK181.out 0; have hfz18_1 := blk_frozen BK181.out 1; have hfz18_2 := blk_frozen BK181.out 2))
    have n0_ := asd (blk_drew BK181.out)
    have n1_ := asd (blk_drew BK182.out)
    have n2_ := asd (below_drew1 HB.out)
    clear BK181
    clear BK182
    clear HB
    have BK181 := n0_
    have BK182 := n1_
    have HB := n2_
    clear n0_ n1_ n2_
    refine start_ (n := 11) (S := fun w' => w'.cell? ⟨gb181, 0, none⟩ = some (.bool a0_0) ∧ w'.cell? ⟨gb181, 1, none⟩ = some (.slice A0_1 l0_1.length c0_1) ∧ w'.cell? ⟨gb181, 2, none⟩ = some (.int .i64 a0_2)) (ds := []) #[false, false, false, false, false, false, false, false, false, false, false] (by kernel_rfl) rfl rfl ⟨(blk_cell BK181.out 0).trans rfl, (blk_cell BK181.out 1).trans rfl, (blk_cell BK181.out 2).trans rfl⟩ (fun hHeld => ?_); refine with_tabW dyad_Neg.tab3 dyad_Neg.bits3 (fun HT_ HW_ => ?_)
    generalize w17.drew = w19 at BK181 BK182 HB hHeld ⊢
    refine pure_ (i := 0) (N := some 13) (v := ?_) (a' := ?_) #[true, false, false, false, false, false, false, false, false, false, false] rfl rfl (any_of HT_.out (by kernel_rfl)) (fun _ _ _ h => h) (Or.inl ⟨by rfl, ?_⟩) ?_ ?_
    rotate_left
    ·intro w'
     go_simp
     with_reducible rfl
    rotate_left
    ·simp only [Act.put, List.setIfInBounds_toArray, List.set_cons_zero, List.set_cons_succ, i64_w, i32_w]
     rfl
    refine pure_ (i := 4) (N := some 17) (v := ?_) (a' := ?_) #[true, false, false, false, true, false, false, false, false, false, false] rfl rfl (any_of HT_.out (by kernel_rfl)) (fun _ _ _ h => h) (Or.inl ⟨by rfl, ?_⟩) ?_ ?_
    rotate_left
    ·intro w'
     go_simp
     with_reducible rfl
    rotate_left
    ·simp only [Act.put, List.setIfInBounds_toArray, List.set_cons_zero, List.set_cons_succ, i64_w, i32_w]
     rfl
    refine pure_ (i := 7) (N := some 20) (v := ?_) (a' := ?_) #[true, false, false, false, true, false, false, true, false, false, false] rfl rfl (any_of HT_.out (by kernel_rfl)) (fun _ _ _ h => h) (Or.inl ⟨by rfl, ?_⟩) ?_ ?_
    rotate_left
    ·intro w'
     go_simp
     with_reducible rfl
    rotate_left
    ·simp only [Act.put, List.setIfInBounds_toArray, List.set_cons_zero, List.set_cons_succ, i64_w, i32_w]
     rfl
    refine take_ (i := 1) (N := some 14) (v := ?_) (a' := ?_) #[true, true, false, false, true, false, false, true, false, false, false] rfl rfl (take_ofW HT_.out HW_.out (by kernel_rfl)) (fun _ _ _ h => h) (Or.inl ⟨by rfl, ?_⟩) hHeld ?_ ?_
    rotate_left
    ·rintro w' ⟨s0, s1, s2⟩
     go_simp
     with_reducible rfl
    rotate_left
    ·simp only [Act.put, List.setIfInBounds_toArray, List.set_cons_zero, List.set_cons_succ, i64_w, i32_w]
     rfl
    refine pure_ (i := 2) (N := some 15) (v := ?_) (a' := ?_) #[true, true, true, false, true, false, false, true, false, false, false] rfl rfl (any_of HT_.out (by kernel_rfl)) (fun _ _ _ h => h) (Or.inl ⟨by rfl, ?_⟩) ?_ ?_
    rotate_left
    ·intro w'
     go_simp
     with_reducible rfl
    rotate_left
    ·simp only [Act.put, List.setIfInBounds_toArray, List.set_cons_zero, List.set_cons_succ, i64_w, i32_w]
     rfl
    refine take_ (i := 5) (N := some 18) (v := ?_) (a' := ?_) #[true, true, true, false, true, true, false, true, false, false, false] rfl rfl (take_ofW HT_.out HW_.out (by kernel_rfl)) (fun _ _ _ h => h) (Or.inl ⟨by rfl, ?_⟩) hHeld ?_ ?_
    rotate_left
    ·rintro w' ⟨s0, s1, s2⟩
     go_simp
     with_reducible rfl
    rotate_left
    ·simp only [Act.put, List.setIfInBounds_toArray, List.set_cons_zero, List.set_cons_succ, i64_w, i32_w]
     rfl
    refine take_ (i := 8) (N := some 21) (v := ?_) (a' := ?_) #[true, true, true, false, true, true, false, true, true, false, false] rfl rfl (take_ofW HT_.out HW_.out (by kernel_rfl)) (fun _ _ _ h => h) (Or.inl ⟨by rfl, ?_⟩) hHeld ?_ ?_
    rotate_left
    ·rintro w' ⟨s0, s1, s2⟩
     go_simp
     with_reducible rfl
    rotate_left
    ·simp only [Act.put, List.setIfInBounds_toArray, List.set_cons_zero, List.set_cons_succ, i64_w, i32_w]
     rfl
    refine one_ (i := 3) (N := some 16) #[true, true, true, true, true, true, false, true, true, false, false] rfl rfl (one_of HT_.out (by kernel_rfl)) (by decide) (fun K hK => ?_)
    refine Kd.R_lit_step (Kd.int .u32) _ 83 ?hg (N := 16) ?hd (xs := ([] : List Int)) (inner := []) (ok := fun _ => True) (okp := fun _ => True) ?hr ?hp (fun _ hk => hk) trivial (Below.refl _ _) (Nat.le_refl _) (by simp) ?_; (case hd => rfl); (case hg => rfl); (case hr => first | (go_simp; done) | (go_simp; rfl)); (case hp => exact (Reps.none _ _))
    intro v185 w20 ho21 hb hg_ hnew_
    clear hg_ hnew_
    (first | rw [← Ny184.out] at ho21 | (simp only [Int.reduceToNat] at ho21; rw [← Ny184.out] at ho21))
    have n0_ := asd (Kd.R_lower ho21 (below_size (by repeat (first | (with_reducible first | exact HB.out | apply below_alloc | apply pw_below_drewN | apply below_drew1 | refine below_set ?_ GE181.out | refine below_set ?_ GE182.out) | exact HB.out))))
    have n1_ := asd (blk_below (g := gb181) (o := .cells #[.bool a0_0, .slice A0_1 l0_1.length c0_1, .int .i64 a0_2] 60 (0, 0)) (blkU BK181.out) hb)
    have n2_ := asd (blk_below (g := gb182) (o := .cells #[.bool false, .slice none 0 0, .int .i64 0] 60 (0, 0)) (blkU BK182.out) hb)
    have n3_ := asd (below_step (by repeat (first | (with_reducible first | exact HB.out | apply below_alloc | apply pw_below_drewN | apply below_drew1 | refine below_set ?_ GE181.out | refine below_set ?_ GE182.out) | exact HB.out)) hb)
    clear BK181
    clear BK182
    clear HB
    have HO186 := n0_
    have BK181 := n1_
    have BK182 := n2_
    have HB := n3_
    clear n0_ n1_ n2_ n3_
    clear hb ho21
    refine hK.out _ _ ⟨(blk_cell BK181.out 0).trans rfl, (blk_cell BK181.out 1).trans rfl, (blk_cell BK181.out 2).trans rfl⟩ (fun hHeld => ?_)
    clear hK K
    refine norm_ (a' := ?_) ?_ ?_
    rotate_left
    ·show Act.put _ (some 16) _ = _
     simp only [Act.put, List.setIfInBounds_toArray, List.set_cons_zero, List.set_cons_succ, i64_w, i32_w]
     rfl
    refine one_ (i := 6) (N := some 19) #[true, true, true, true, true, true, true, true, true, false, false] rfl rfl (one_of HT_.out (by kernel_rfl)) (by decide) (fun K hK => ?_)
    refine Kd.R_append_rows_step (Kd.int .u32) (w0 := w) w.heap.size (by rfl) (.tmp 16) (.tmp 18) 39 83 (.int .u32 0) 4 rfl Tryz.underlying39 info83 rfl (by decide) (by omega) v185 y184 l0_1 _ _ _ (fun _ => True) (fun _ => False) rfl rfl ?aO ?aR (fun _ _ h => h) (fun _ h => h.elim) ?aF ?aB ?aS ?aL ?_
    (case aR => repeat (first | exact (Kd.C_below HR0_1.out HB.out) | (with_reducible refine Kd.C_alloc ?_ _) | (with_reducible refine Kd.C_drewN ?_ _) | (with_reducible refine Kd.C_drew ?_)))
    (case aB => exact (by repeat (first | (with_reducible first | exact HB.out | apply below_alloc | apply pw_below_drewN | apply below_drew1 | refine below_set ?_ GE181.out | refine below_set ?_ GE182.out) | exact HB.out)))
    (case aF => exact (fun _ _ => trivial))
    (case aO => exact (rUp HO186.out))
    (case aS => exact (below_size (by repeat (first | (with_reducible first | exact HB.out | apply below_alloc | apply pw_below_drewN | apply below_drew1 | refine below_set ?_ GE181.out | refine below_set ?_ GE182.out) | exact HB.out))))
    (case aL => have := LMc12.out; omega)
    intro v188 w22 ho hb hg hat
    rw [← Ny187.out] at ho
    have n0_ := asd (blk_grown (g := gb181) (o := .cells #[.bool a0_0, .slice A0_1 l0_1.length c0_1, .int .i64 a0_2] 60 (0, 0)) (blkU BK181.out) hg (Kd.R_ne HO186.out BK181.out (by decide)))
    have n1_ := asd (blk_grown (g := gb182) (o := .cells #[.bool false, .slice none 0 0, .int .i64 0] 60 (0, 0)) (blkU BK182.out) hg (Kd.R_ne HO186.out BK182.out (by decide)))
    have n2_ := asd (hb)
    have n3_ := asd (ho)
    clear BK181
    clear BK182
    clear HB
    clear HO186
    have BK181 := n0_
    have BK182 := n1_
    have HB := n2_
    have HO189 := n3_
    clear n0_ n1_ n2_ n3_
    clear ho hb hg hat
    obtain ⟨Ao23, co23, eo23⟩ := Kd.R_slice HO189.out
    (first | subst eo23 | (injection eo23 with f1_ f2_ f3_; have f4_ := f1_.symm; have f5_ := f3_.symm; clear f1_ f2_ f3_; subst f4_; subst f5_))
    refine hK.out _ _ ⟨(blk_cell BK181.out 0).trans rfl, (blk_cell BK181.out 1).trans rfl, (blk_cell BK181.out 2).trans rfl⟩ (fun hHeld => ?_)
    clear hK K
    refine norm_ (a' := ?_) ?_ ?_
    rotate_left
    ·show Act.put _ (some 19) _ = _
     simp only [Act.put, List.setIfInBounds_toArray, List.set_cons_zero, List.set_cons_succ, i64_w, i32_w]
     rfl
    refine pure_ (i := 9) (N := some 22) (v := ?_) (a' := ?_) #[true, true, true, true, true, true, true, true, true, true, false] rfl rfl (any_of HT_.out (by kernel_rfl)) (fun _ _ _ h => h) (Or.inl ⟨by rfl, ?_⟩) ?_ ?_
    rotate_left
    ·intro w'
     go_simp
     with_reducible rfl
    rotate_left
    ·simp only [Act.put, List.setIfInBounds_toArray, List.set_cons_zero, List.set_cons_succ, i64_w, i32_w]
     rfl
    refine one_ (i := 10) (N := none) #[true, true, true, true, true, true, true, true, true, true, true] rfl rfl (one_of HT_.out (by kernel_rfl)) (by decide) (fun K hK => ?_)
    have hs24 : w22.cell? ⟨gb182, 0, none⟩ = some (.bool false) := (blk_cell BK182.out 0).trans rfl
    have hfs24 := blk_frozen BK182.out 0
    have hns24_0 := NB181_182.out
    have hms24_0 := NB182_181.out
    have hs25 : w22.cell? ⟨gb182, 1, none⟩ = some (.slice none 0 0) := (blk_cell BK182.out 1).trans rfl
    have hfs25 := blk_frozen BK182.out 1
    have hns25_0 := NB181_182.out
    have hms25_0 := NB182_181.out
    have hs26 : w22.cell? ⟨gb182, 2, none⟩ = some (.int .i64 0) := (blk_cell BK182.out 2).trans rfl
    have hfs26 := blk_frozen BK182.out 2
    have hns26_0 := NB181_182.out
    have hms26_0 := NB182_181.out
    refine skip_ (w1 := ?_) (by rfl) rfl ?_ ?_
    rotate_left
    ·go_simp
     rfl
    refine hK.out _ _ ⟨((cell_far (p := ⟨gb182, _, none⟩) NB181_182.out _).trans (((cell_far (p := ⟨gb182, _, none⟩) NB181_182.out _).trans (((cell_far (p := ⟨gb182, _, none⟩) NB181_182.out _).trans (hHeld.1)))))), ((cell_far (p := ⟨gb182, _, none⟩) NB181_182.out _).trans (((cell_far (p := ⟨gb182, _, none⟩) NB181_182.out _).trans (((cell_far (p := ⟨gb182, _, none⟩) NB181_182.out _).trans (hHeld.2.1)))))), ((cell_far (p := ⟨gb182, _, none⟩) NB181_182.out _).trans (((cell_far (p := ⟨gb182, _, none⟩) NB181_182.out _).trans (((cell_far (p := ⟨gb182, _, none⟩) NB181_182.out _).trans (hHeld.2.2))))))⟩ (fun hHeld => ?_)
    clear hK K
    refine done_ (done_of HT_.out (by kernel_rfl)) ?_
    try go_wp2
    refine bodyPost_ret (results_cell_row rfl _ _ gb182 60 #[.bool (!a0_0), .slice Ao23 y187.length co23, .int .i64 a0_2] (0, 0) _ rfl (by (with_reducible repeat (first | refine blk_drewN ?_ _ | refine blk_drew ?_ | refine blk_alloc ?_ _)); refine blk_put (cs := #[.bool (!a0_0), .slice Ao23 y187.length co23, .int .i64 0]) ?_ 2 _ rfl; (with_reducible repeat (first | refine blk_drewN ?_ _ | refine blk_drew ?_ | refine blk_alloc ?_ _)); refine blk_put (cs := #[.bool (!a0_0), .slice none 0 0, .int .i64 0]) ?_ 1 _ rfl; (with_reducible repeat (first | refine blk_drewN ?_ _ | refine blk_drew ?_ | refine blk_alloc ?_ _)); refine blk_put (cs := #[.bool false, .slice none 0 0, .int .i64 0]) ?_ 0 _ rfl; (with_reducible repeat (first | refine blk_drewN ?_ _ | refine blk_drew ?_ | refine blk_alloc ?_ _)); exact BK182.out) Tryz.underlying60 rfl (by kernel_rfl)) rfl ?_
    exact ⟨_, eqC, by (with_reducible repeat (first | apply Kd.R_alloc | apply Kd.R_drewN | apply Kd.R_drew)); exact Kd.R_mono (Kd.R_far (p := ⟨gb182, 2, none⟩) (Kd.R_far (p := ⟨gb182, 1, none⟩) (Kd.R_far (p := ⟨gb182, 0, none⟩) (Kd.R_types HO189.out BK182.out (by decide)) (fun _ hk => hk.2) (.bool (!a0_0))) (fun _ hk => hk.2) (.slice Ao23 y187.length co23)) (fun _ hk => hk.2) (.int .i64 a0_2)) (fun _ hk => trivial), by repeat (first | (with_reducible first | exact HB.out | apply below_alloc | apply pw_below_drewN | apply below_drew1 | refine below_set ?_ GE181.out | refine below_set ?_ GE182.out) | exact HB.out)⟩
   ·rw [if_neg c12] at H
    exact absurd H (by simp)
 ·replace c3 := Bool.eq_false_iff.mpr c3
  subst c3
  have H1 : (some (false, ([] : List Int), 0)) = some (r1, r2, r3) := by rw [if_neg (show ¬ (false = true) by decide)] at H; exact H
  clear H
  have H := H1
  clear H1
  simp only [Option.some.injEq, Prod.mk.injEq] at H
  obtain ⟨rfl, rfl, rfl⟩ := H
  go_enter Tryz.func89, Tryz.ntmps89
  go_wp2_with (first | ((with_reducible refine gate_dst (N := 1) rfl ?_); (try (refine gate_guard (by rfl) ?_; dsimp only)); refine box_event ?hg (N := 1) ?hd (cs := #[.bool a0_0, .slice A0_1 l0_1.length c0_1, .int .i64 a0_2]) (t := 60) ?hr ?_; (case hd => rfl); (case hg => rfl); (case hr => first | (go_simp; done) | (go_simp; rfl)); intro gb181 hg w27 hbox hb; have n0_ := asd (below_step hbw hb); have n1_ := asd (hbox); have n2_ := asd ((by rw [hg]; exact (below_size hbw) : w.heap.size ≤ gb181)); have n3_ := asd ((by rw [hg]; exact (below_size hbw) : w.heap.size ≤ gb181)); clear HB; have HB := n0_; have BK181 := n1_; have GW181 := n2_; have GE181 := n3_; clear n0_ n1_ n2_ n3_; clear hb hbox hg) | ((with_reducible refine gate_dst (N := 2) rfl ?_); (try (refine gate_guard (by rfl) ?_; dsimp only)); refine box_event ?hg (N := 2) ?hd (cs := #[.bool false, .slice none 0 0, .int .i64 0]) (t := 60) ?hr ?_; (case hd => rfl); (case hg => rfl); (case hr => first | (go_simp; done) | (go_simp; rfl)); intro gb182 hg w28 hbox hb; have n0_ := asd (blk_below (g := gb181) (o := .cells #[.bool a0_0, .slice A0_1 l0_1.length c0_1, .int .i64 a0_2] 60 (0, 0)) (blkU BK181.out) hb); have n1_ := asd (below_step (by repeat (first | (with_reducible first | exact HB.out | apply below_alloc | apply pw_below_drewN | apply below_drew1 | refine below_set ?_ GE181.out) | exact HB.out)) hb); have n2_ := asd (hbox); have n3_ := asd ((by rw [hg]; exact (below_size (by repeat (first | (with_reducible first | exact HB.out | apply below_alloc | apply pw_below_drewN | apply below_drew1 | refine below_set ?_ GE181.out) | exact HB.out))) : w.heap.size ≤ gb182)); have n4_ := asd ((by rw [hg]; exact (below_size (by repeat (first | (with_reducible first | exact HB.out | apply below_alloc | apply pw_below_drewN | apply below_drew1 | refine below_set ?_ GE181.out) | exact HB.out))) : w.heap.size ≤ gb182)); have n5_ := asd ((by rw [hg]; exact Nat.ne_of_lt (blk_lt (g := gb181) (o := .cells #[.bool a0_0, .slice A0_1 l0_1.length c0_1, .int .i64 a0_2] 60 (0, 0)) (blkU BK181.out)) : gb181 ≠ gb182)); have n6_ := asd ((by rw [hg]; exact Nat.ne_of_gt (blk_lt (g := gb181) (o := .cells #[.bool a0_0, .slice A0_1 l0_1.length c0_1, .int .i64 a0_2] 60 (0, 0)) (blkU BK181.out)) : gb182 ≠ gb181)); clear BK181; clear HB; have BK181 := n0_; have HB := n1_; have BK182 := n2_; have GW182 := n3_; have GE182 := n4_; have NB181_182 := n5_; have NB182_181 := n6_; clear n0_ n1_ n2_ n3_ n4_ n5_ n6_; clear hb hbox hg; have hnb29 := NB181_182.out; have hnc29 := NB182_181.out; have hcz30_0 : w28.cell? ⟨gb181, 0, none⟩ = some (.bool a0_0) := (blk_cell BK181.out 0).trans rfl; have hcz30_1 : w28.cell? ⟨gb181, 1, none⟩ = some (.slice A0_1 l0_1.length c0_1) := (blk_cell BK181.out 1).trans rfl; have hcz30_2 : w28.cell? ⟨gb181, 2, none⟩ = some (.int .i64 a0_2) := (blk_cell BK181.out 2).trans rfl; have hfz30_0 := blk_frozen BK181.out 0; have hfz30_1 := blk_frozen BK181.out 1; have hfz30_2 := blk_frozen BK181.out 2) | ((with_reducible refine gate_callee (f := 91) rfl ?_); refine goesL_ (some 4) rfl rfl Tryz.func91 (by kernel_rfl) rfl #[.agg #[.bool a0_0, .slice A0_1 l0_1.length c0_1, .int .i64 a0_2]] rfl eqA ?_; (with_reducible refine (dyad_Valid.calls a0_0 _ _ l0_1 a0_2 false _ ?side1 ?side2 A2.out).mono ?_); (case side1 => repeat (first | exact (Kd.C_below HR0_1.out HB.out) | (with_reducible refine Kd.C_alloc ?_ _) | (with_reducible refine Kd.C_drewN ?_ _) | (with_reducible refine Kd.C_drew ?_))); (case side2 => exact HC0_1.out); rintro e w31 ⟨rfl, hb⟩; refine ⟨_, rfl, ?_⟩; have n0_ := asd (blk_below (g := gb181) (o := .cells #[.bool a0_0, .slice A0_1 l0_1.length c0_1, .int .i64 a0_2] 60 (0, 0)) (blkU BK181.out) hb); have n1_ := asd (blk_below (g := gb182) (o := .cells #[.bool false, .slice none 0 0, .int .i64 0] 60 (0, 0)) (blkU BK182.out) hb); have n2_ := asd (below_step (by repeat (first | (with_reducible first | exact HB.out | apply below_alloc | apply pw_below_drewN | apply below_drew1 | refine below_set ?_ GE181.out | refine below_set ?_ GE182.out) | exact HB.out)) hb); clear BK181; clear BK182; clear HB; have BK181 := n0_; have BK182 := n1_; have HB := n2_; clear n0_ n1_ n2_; (try clear hb); (try clear hb2); (try clear hk); (try clear hi); have hcz32_0 : w31.cell? ⟨gb182, 0, none⟩ = some (.bool false) := (blk_cell BK182.out 0).trans rfl; have hcz32_1 : w31.cell? ⟨gb182, 1, none⟩ = some (.slice none 0 0) := (blk_cell BK182.out 1).trans rfl; have hcz32_2 : w31.cell? ⟨gb182, 2, none⟩ = some (.int .i64 0) := (blk_cell BK182.out 2).trans rfl; have hfz32_0 := blk_frozen BK182.out 0; have hfz32_1 := blk_frozen BK182.out 1; have hfz32_2 := blk_frozen BK182.out 2))
  refine bodyPost_ret (results_cell_row rfl _ _ gb182 60 #[.bool false, .slice none 0 0, .int .i64 0] (0, 0) _ rfl (by (with_reducible repeat (first | refine blk_drewN ?_ _ | refine blk_drew ?_ | refine blk_alloc ?_ _)); refine blk_put (cs := #[.bool false, .slice none 0 0, .int .i64 0]) ?_ 2 _ rfl; (with_reducible repeat (first | refine blk_drewN ?_ _ | refine blk_drew ?_ | refine blk_alloc ?_ _)); refine blk_put (cs := #[.bool false, .slice none 0 0, .int .i64 0]) ?_ 1 _ rfl; (with_reducible repeat (first | refine blk_drewN ?_ _ | refine blk_drew ?_ | refine blk_alloc ?_ _)); refine blk_put (cs := #[.bool false, .slice none 0 0, .int .i64 0]) ?_ 0 _ rfl; (with_reducible repeat (first | refine blk_drewN ?_ _ | refine blk_drew ?_ | refine blk_alloc ?_ _)); exact BK182.out) Tryz.underlying60 rfl (by kernel_rfl)) rfl ?_
  exact ⟨_, eqC, by first | exact Kd.R_nil _ _ _ _ _ | exact Kd.N_nil _ _ _ _ _ | exact Kd.V_nil _ _ _ _ _ | exact Kd.Q_nil _ _ _ _ _ | exact Kd.S_nil _ _ _ _ _, by repeat (first | (with_reducible first | exact HB.out | apply below_alloc | apply pw_below_drewN | apply below_drew1 | refine below_set ?_ GE181.out | refine below_set ?_ GE182.out) | exact HB.out)⟩
end Go.Proofs.YthmeocigliephaaGreatDoor.PSu
end
