/- Parts of the proof, behind one another; unused words are left out. -/
import Derived.Test.YthmeocigliephaaGreatDoorXd03
import Derived.ArgAppend
import Derived.Below
import Derived.BigQuiet
import Derived.Deep.AppendLies
import Derived.Deep.CutBlock
import Derived.Deep.DeepCutAuto
import Derived.Deep.Draws
import Derived.Deep.LoopGhost
import Derived.Deep.OwnRows
import Derived.Deep.QuietTactic
import Derived.Deep.RegionHeld3
import Derived.KernelRfl
import Derived.Laws.BitsLemmas
import Derived.Laws.BytesArg
import Derived.Laws.IdiomCopy
import Derived.Laws.MakeOwn
import Derived.Laws.OwnMore
import Derived.Laws.Rows
import Derived.Laws.Slices
import Derived.Lib.AppendStr
import Derived.Lib.ConvBytes
import Derived.Maps.AppendAt
import Derived.OrdersHeld
import Derived.OwnWalk
import Derived.RowKit
import Derived.RowKit3
import Derived.Tactics
import Derived.WalkKit
import Derived.WideLaws
import Derived.Test.YthmeocigliephaaGreatDoorProg
set_option linter.unusedVariables false
set_option linter.unusedSimpArgs false
set_option linter.unusedSectionVars false
set_option exponentiation.threshold 100000
set_option maxRecDepth 100000
set_option maxHeartbeats 8000000
open Go.RowKit Go.Proofs.YthmeocigliephaaGreatDoorW.PrintWords Go.Proofs.YthmeocigliephaaGreatDoorW.PrintLast Go.Proofs.YthmeocigliephaaGreatDoorW.PrintMore
section
namespace Go.Proofs.YthmeocigliephaaGreatDoor.Big
open Go.Proofs.YthmeocigliephaaGreatDoor.PSu Go.Proofs.YthmeocigliephaaGreatDoor.Plain
theorem incV_shift (n K j : Nat) (up near : Bool) : incV (n * 2 ^ j) (K + 1 + j) up near = incV n (K + 1) up near := by
  have hj : 0 < 2 ^ j := Nat.pow_pos (by omega)
  have e1 : n * 2 ^ j % 2 ^ (K + 1 + j) = n % 2 ^ (K + 1) * 2 ^ j := by rw [Nat.pow_add]; exact Nat.mul_mod_mul_right _ _ _
  have e2 : n * 2 ^ j / 2 ^ (K + 1 + j) = n / 2 ^ (K + 1) := by rw [Nat.pow_add]; exact Nat.mul_div_mul_right _ _ hj
  have e3 : 2 ^ (K + 1 + j - 1) = 2 ^ K * 2 ^ j := by rw [← Nat.pow_add]; congr 1; omega
  unfold incV
  rw [e1, e2, e3, Nat.add_sub_cancel]
  generalize n % 2 ^ (K + 1) = r
  generalize 2 ^ K = h
  have d1 : decide (r * 2 ^ j ≠ 0) = decide (r ≠ 0) := by
    rw [decide_eq_decide]
    exact not_congr ⟨fun h => (Nat.mul_eq_zero.1 h).resolve_right (by omega), fun h => by rw [h, Nat.zero_mul]⟩
  have d2 : decide (h * 2 ^ j < r * 2 ^ j) = decide (h < r) := by rw [decide_eq_decide]; exact Nat.mul_lt_mul_right hj
  have d3 : decide (r * 2 ^ j = h * 2 ^ j) = decide (r = h) := by
    rw [decide_eq_decide]; exact ⟨fun e => Nat.mul_right_cancel hj e, fun e => by rw [e]⟩
  rw [d1, d2, d3]
theorem magV_shift {n : Nat} (hn : n ≠ 0) (j : Nat) (e : Int) (up near : Bool) : magV (n * 2 ^ j) e up near = magV n (e + j) up near := by
  have hj : 0 < 2 ^ j := Nat.pow_pos (by omega)
  have hb := bl_mul_pow hn j
  have ht : ((bl (n * 2 ^ j) : Nat) : Int) + e = (bl n : Int) + (e + j) := by omega
  unfold magV
  rw [ht]
  obtain ⟨t, htt⟩ : ∃ t, (bl n : Int) + (e + j) = t := ⟨_, rfl⟩
  rw [htt]
  by_cases h1 : 1024 < t
  · rw [if_pos h1, if_pos h1]
  · rw [if_neg h1, if_neg h1]
    by_cases h2 : t < -1075
    · rw [if_pos h2, if_pos h2]
    · rw [if_neg h2, if_neg h2]
      obtain ⟨L, hL⟩ : ∃ L, lastV t = L := ⟨_, rfl⟩
      rw [hL]
      by_cases h3 : L ≤ e
      · rw [if_pos h3, if_pos (by omega), Nat.mul_assoc, ← Nat.pow_add]
        congr 3; omega
      · rw [if_neg h3]
        by_cases h4 : L ≤ e + j
        · rw [if_pos h4]
          obtain ⟨K, hK⟩ : ∃ K, (L - e).toNat = K + 1 := ⟨(L - e).toNat - 1, by omega⟩
          have e1 : n * 2 ^ j = n * 2 ^ (e + j - L).toNat * 2 ^ (K + 1) := by rw [Nat.mul_assoc, ← Nat.pow_add]; congr 2; omega
          have hp : 0 < 2 ^ (K + 1) := Nat.pow_pos (by omega)
          have hp2 : 0 < 2 ^ K := Nat.pow_pos (by omega)
          have hi : incV (n * 2 ^ j) (K + 1) up near = false := by
            unfold incV
            rw [e1, Nat.mul_mod_left, Nat.add_sub_cancel, decide_eq_false (show ¬ (0 ≠ 0) by simp), decide_eq_false (show ¬ 2 ^ K < 0 by omega), decide_eq_false (show ¬ 0 = 2 ^ K by omega)]
            simp
          rw [hK, hi, if_neg (by simp), e1, Nat.mul_div_cancel _ hp, Nat.add_zero]
        · rw [if_neg h4]
          obtain ⟨K, hK⟩ : ∃ K, (L - (e + j)).toNat = K + 1 := ⟨(L - (e + j)).toNat - 1, by omega⟩
          rw [show (L - e).toNat = K + 1 + j by omega, hK, incV_shift, Nat.pow_add, Nat.mul_div_mul_right _ _ hj]
def rndZ (z mode : Int) : Nat := if z = 0 then 0 else roundV (decide (z < 0)) z.natAbs (-1074) mode
theorem roundV_can {z : Int} (h : z ≠ 0) (mode : Int) : roundV (canN z (-1074)).1 (val (canN z (-1074)).2.1) (canN z (-1074)).2.2 mode = rndZ z mode := by
  have hn : z.natAbs ≠ 0 := by omega
  obtain ⟨_, h2, h3⟩ := zv_can h (-1074)
  have h4 := odd_mul hn
  unfold rndZ
  rw [if_neg h, h2, h3, roundV_eq, roundV_eq]
  have h5 := magV_shift (odd_ne hn) (tz z.natAbs) (-1074)
  rw [h4] at h5
  rw [h5, canN_ne h]
theorem can_length {z e : Int} : (canN z e).2.1.length = 0 ↔ z = 0 := by rw [List.length_eq_zero_iff, can_nil]
theorem round_can {z mode : Int} (h1 : bl z.natAbs ≤ 60000) (hm : 1 ≤ mode ∧ mode ≤ 3) : dyad_Round.f (canN z (-1074)).1 (canN z (-1074)).2.1 (canN z (-1074)).2.2 mode = some (rndZ z mode, 0) := by
  unfold dyad_Round.f roundN
  rw [if_pos (isN_can (by omega) (by omega) (by omega)), if_pos hm]
  by_cases h : z = 0
  · rw [if_pos (can_length.2 h)]; unfold rndZ; rw [if_pos h]
  · rw [if_neg (fun h' => h (can_length.1 h')), roundV_can h]
theorem sign_can {z : Int} (h1 : bl z.natAbs ≤ 60000) : dyad_Sign.f 1 (canN z (-1074)).1 (canN z (-1074)).2.1 (canN z (-1074)).2.2 = some (if z = 0 then (0 : Int) else if z < 0 then -1 else 1) := by
  rw [sign_law (isN_can (by omega) (by omega) (by omega))]
  by_cases h : z = 0
  · rw [if_pos (can_length.2 h), if_pos h]
  · rw [if_neg (fun h' => h (can_length.1 h')), if_neg h, canN_ne h]
    simp
theorem nan_fin {a : Nat} (h : Fin64 a) : ((FloatKind.f64.format.order a a) != some .eq) = false := by rw [order_self h]; rfl
theorem inf_fin {a : Nat} (h : Fin64 a) : round_infinite.f a = some false := by
  unfold round_infinite.f math_IsInf.f math_Abs.f
  rw [if_pos rfl, Option.bind_some, bits_abs a h.1]
  simp only [Int.toNat_natCast, Option.bind_some]
  rw [order_max h]
theorem rnum_law {b : Nat} (h : Fin64 b) : round_num.f b = some (canN (flz b) (-1074)) := by
  unfold round_num.f
  rw [of_law h]; rfl
theorem sum_bl {a b : Nat} (ha : Fin64 a) (hb : Fin64 b) : bl (flz a + flz b).natAbs ≤ 2100 := by
  have h1 := flz_lt ha
  have h2 := flz_lt hb
  have h3 := Int.natAbs_add_le (flz a) (flz b)
  refine bl_le.2 (Nat.lt_of_le_of_lt h3 ?_)
  have : (2 : Nat) ^ 2100 = 4 * 2 ^ 2098 := by rw [Nat.pow_succ, Nat.pow_succ]
  omega
end Go.Proofs.YthmeocigliephaaGreatDoor.Big
end
section
namespace Go.Proofs.YthmeocigliephaaGreatDoor.Big
open Go.Proofs.YthmeocigliephaaGreatDoor.PSu Go.Proofs.YthmeocigliephaaGreatDoor.Plain
theorem neg_can (y e : Int) : (canN (-y) e) = (if y = 0 then (false, [], 0) else (!(canN y e).1, (canN y e).2.1, (canN y e).2.2)) := by
  by_cases h : y = 0
  · subst h; rw [if_pos rfl]; rfl
  · rw [if_neg h, canN_ne (show -y ≠ 0 by omega), canN_ne h, Int.natAbs_neg]
    have : decide (-y < 0) = !decide (y < 0) := by
      by_cases h1 : y < 0
      · rw [decide_eq_true h1, decide_eq_false (by omega)]; rfl
      · rw [decide_eq_false h1, decide_eq_true (by omega)]; rfl
    rw [this]
theorem dneg_law {y : Int} (hy : bl y.natAbs ≤ 50000) : dyad_Neg.f (canN y (-1074)).1 (canN y (-1074)).2.1 (canN y (-1074)).2.2 = some (canN (-y) (-1074)) := by
  have hv := isN_can (z := y) (e := -1074) (by omega) (by omega) (by omega)
  have hf := hv.facts
  unfold dyad_Neg.f
  rw [show PSu.dyad_Valid.f _ _ _ = some true from hv.1, Option.bind_some, if_pos rfl, neg_can]
  by_cases h : y = 0
  · rw [if_pos (by have := can_length (e := -1074).2 h; omega), if_pos h]
  · rw [if_neg (fun h' => h ((can_length (e := -1074)).1 (by omega))), if_neg h, Option.bind_some, if_pos (by simp; omega)]
    rfl
theorem dvalid_two (k : Nat) (a b : PSu.S60) (hv : PSu.dyad_Valid.f a.f0 a.f1 a.f2 = some true) (hw : PSu.dyad_Valid.f b.f0 b.f1 b.f2 = some true) : dyad_valid.f (k + 3) [a, b] = some true := by
  unfold dyad_valid.f
  have w1 : wrap64 ((0 : Int) + 1) = 1 := by decide +kernel
  have w2 : wrap64 ((1 : Int) + 1) = 2 := by decide +kernel
  rw [dyad_valid.l0, if_pos (by simp), if_pos (by simp), if_pos (by simp), show PSu.rd_T60 [a, b] 0 = a from rfl, hv, Option.bind_some, if_pos rfl, w1,
    dyad_valid.l0, if_pos (by simp), if_pos (by simp), if_pos (by simp), show PSu.rd_T60 [a, b] 1 = b from rfl, hw, Option.bind_some, if_pos rfl, w2, dyad_valid.l0, if_neg (by simp)]
theorem dsub_law (k : Nat) {x y : Int} (hx : bl x.natAbs ≤ 50000) (hy : bl y.natAbs ≤ 50000) : dyad_Sub.f (k + 3) (canN x (-1074)).1 (canN x (-1074)).2.1 (canN x (-1074)).2.2 (canN y (-1074)).1 (canN y (-1074)).2.1 (canN y (-1074)).2.2 = some ((canN (x - y) (-1074)).1, (canN (x - y) (-1074)).2.1, (canN (x - y) (-1074)).2.2, 0) := by
  unfold dyad_Sub.f
  rw [dvalid_two k ⟨(canN x (-1074)).1, (canN x (-1074)).2.1, (canN x (-1074)).2.2⟩ ⟨(canN y (-1074)).1, (canN y (-1074)).2.1, (canN y (-1074)).2.2⟩ (isN_can (z := x) (e := -1074) (by omega) (by omega) (by omega)).1 (isN_can (z := y) (e := -1074) (by omega) (by omega) (by omega)).1, Option.bind_some, if_pos rfl, dneg_law hy, Option.bind_some, dadd_law hx (by rw [Int.natAbs_neg]; exact hy), Option.bind_some, show x + -y = x - y by omega]
end Go.Proofs.YthmeocigliephaaGreatDoor.Big
end
section
namespace Go.Proofs.YthmeocigliephaaGreatDoor.Big
open Go.Proofs.YthmeocigliephaaGreatDoor.PSu Go.Proofs.YthmeocigliephaaGreatDoor.Plain Ieee
theorem compare_mul (x y : Int) (k : Nat) : compare (x * 2 ^ k) (y * 2 ^ k) = compare x y := by
  have hp : (0 : Int) < 2 ^ k := Int.pow_pos (by omega)
  rcases Int.lt_trichotomy x y with h | h | h
  · have h2 := Int.mul_lt_mul_of_pos_right h hp
    rw [Int.compare_eq_lt.2 h, Int.compare_eq_lt.2 h2]
  · subst h; rw [Int.compare_eq_eq.2 rfl, Int.compare_eq_eq.2 rfl]
  · have h2 := Int.mul_lt_mul_of_pos_right h hp
    rw [Int.compare_eq_gt.2 h, Int.compare_eq_gt.2 h2]
theorem signed_mul (s : Bool) (m u k : Nat) : signed s m u * 2 ^ k = (if s then -(m : Int) else m) * 2 ^ (u + k) := by
  unfold signed
  rw [Nat.shiftLeft_eq, Int.pow_add, ← Int.mul_assoc]
  cases s
  · simp [Int.natCast_mul, Int.natCast_pow]
  · simp [Int.natCast_mul, Int.natCast_pow, Int.neg_mul]
theorem order_fin {a b : Nat} (ha : Fin64 a) (hb : Fin64 b) : FloatKind.f64.format.order a b = some (compare (flz a) (flz b)) := by
  have ea := expoV_range ha
  have eb := expoV_range hb
  show double.order a b = _
  unfold Format.order
  rw [read_fin ha, read_fin hb]
  unfold Datum.order
  simp only
  congr 1
  rw [← compare_mul _ _ (min (expoV a) (expoV b) + 1074).toNat, signed_mul, signed_mul]
  unfold flz floV
  congr 3 <;> omega
theorem kind_cases {b : Nat} (h : b < 18446744073709551616) : Fin64 b ∨ b % 9223372036854775808 = 9218868437227405312 ∨ 9218868437227405312 < b % 9223372036854775808 := by
  unfold Fin64; omega
theorem read_inf {b : Nat} (h : b < 18446744073709551616) (h2 : b % 9223372036854775808 = 9218868437227405312) : double.read b = .infinity (sgn b) := by
  have : b = 9218868437227405312 ∨ b = 18442240474082181120 := by omega
  rcases this with rfl | rfl <;> rfl
theorem read_nan {b : Nat} (h2 : 9218868437227405312 < b % 9223372036854775808) : ∃ s f, double.read b = .nan s f := by
  unfold Format.read
  simp only [sw, bn, ir, lp]
  rw [if_neg (by omega), if_neg (by omega), if_neg (by omega)]
  exact ⟨_, _, rfl⟩
theorem nan_law {b : Nat} (h : b < 18446744073709551616) : nanB b = decide (9218868437227405312 < b % 9223372036854775808) := by
  unfold nanB
  rcases kind_cases h with hk | hk | hk
  · rw [nan_fin hk, decide_eq_false (by have := hk.2; omega)]
  · rw [decide_eq_false (by omega)]
    have : FloatKind.f64.format.order b b = some .eq := by
      show double.order b b = _
      unfold Format.order
      rw [read_inf h hk]
      cases sgn b <;> rfl
    rw [this]; rfl
  · rw [decide_eq_true hk]
    have : FloatKind.f64.format.order b b = none := by
      show double.order b b = _
      obtain ⟨s, f, hr⟩ := read_nan hk
      unfold Format.order
      rw [hr]; rfl
    rw [this]; rfl
theorem inf_law {b : Nat} (h : b < 18446744073709551616) : infB? b = (b % 9223372036854775808 == 9218868437227405312) := by
  have hu : infB? b = (FloatKind.f64.format.order (b % 9223372036854775808) 9218868437227405311 == some .gt) := by
    unfold infB? math_IsInf.f math_Abs.f
    rw [if_pos rfl, Option.bind_some, bits_abs b h]
    simp only [Int.toNat_natCast, Option.getD_some]
  rw [hu]
  rcases kind_cases h with hk | hk | hk
  · rw [order_max hk]
    have := hk.2
    symm; rw [beq_eq_false_iff_ne]; omega
  · rw [hk]; decide
  · have : FloatKind.f64.format.order (b % 9223372036854775808) 9218868437227405311 = none := by
      show double.order _ _ = _
      obtain ⟨s, f, hr⟩ := read_nan (b := b % 9223372036854775808) (by omega)
      unfold Format.order
      rw [hr]; rfl
    rw [this]
    have : (b % 9223372036854775808 == 9218868437227405312) = false := by rw [beq_eq_false_iff_ne]; omega
    rw [this]; rfl
theorem flz_zero {b : Nat} (h : Fin64 b) : flz b = 0 ↔ b % 9223372036854775808 = 0 := by
  have hp : (0 : Int) < 2 ^ (expoV b + 1074).toNat := Int.pow_pos (by omega)
  have h1 : flz b = 0 ↔ manti b = 0 := by
    have hf := @floV_natAbs b
    unfold flz
    constructor
    · intro h
      rcases Int.mul_eq_zero.1 h with h | h <;> omega
    · intro h
      have : floV b = 0 := by omega
      rw [this, Int.zero_mul]
  rw [h1]
  have hx := expo_le h
  have := h.1
  unfold manti frac expo at *
  split <;> omega
theorem signbit_law {b : Nat} (h : b < 18446744073709551616) : math_Signbit.f b = some (decide (9223372036854775808 ≤ b)) := by
  unfold math_Signbit.f
  congr 1
  rw [decide_eq_decide]
  unfold wrap64
  omega
end Go.Proofs.YthmeocigliephaaGreatDoor.Big
end
section
namespace Go.Proofs.YthmeocigliephaaGreatDoor
open Go.RowKit Go.Proofs.YthmeocigliephaaGreatDoorW.PrintWords Go.Proofs.YthmeocigliephaaGreatDoor.Big
def sums_Exact.f (l0 : List Nat) (a1 : Int) : Option (Nat × Int) :=
  if l0.length < 4611686018427387904 ∧ ∀ b ∈ l0, b < 18446744073709551616 then some (exactW l0 a1 (canN (sumZ l0) (-1074))) else none
end Go.Proofs.YthmeocigliephaaGreatDoor
end
section
namespace Go.Proofs.YthmeocigliephaaGreatDoor
open Go.RowKit Go.Proofs.YthmeocigliephaaGreatDoorW.PrintWords Go.Proofs.YthmeocigliephaaGreatDoor.Big
def cusplaw05_sure.f : Option Bool := some true
end Go.Proofs.YthmeocigliephaaGreatDoor
end
section
namespace Go.Proofs.YthmeocigliephaaGreatDoor.PSu
attribute [local go_sem] f64bits_run f64from_run run_float_some max2_int min2_int max_two min_two max_three min_three max_four min_four
def cuspref02_Float.f (k : Nat) (a0 : Nat) : Option (Bool × List Int × Int) := if (wrap64 (Go.bits .and .u64 (((a0 : Nat) : Int) / 4503599627370496) 2047)) = 0 then ((cuspref02_norm.f k ((((a0 : Nat) : Int) / 9223372036854775808) == 1) (([(Go.bits .and .u64 ((a0 : Nat) : Int) 4503599627370495) % 4294967296, ((Go.bits .and .u64 ((a0 : Nat) : Int) 4503599627370495) / 4294967296) % 4294967296] : List Int)) (1 - 1075)).bind fun bt361 => (some (bt361.1, bt361.2.1, bt361.2.2))) else ((cuspref02_norm.f k ((((a0 : Nat) : Int) / 9223372036854775808) == 1) (([(Go.bits .or .u64 (Go.bits .and .u64 ((a0 : Nat) : Int) 4503599627370495) 4503599627370496) % 4294967296, ((Go.bits .or .u64 (Go.bits .and .u64 ((a0 : Nat) : Int) 4503599627370495) 4503599627370496) / 4294967296) % 4294967296] : List Int)) (wrap64 ((wrap64 (Go.bits .and .u64 (((a0 : Nat) : Int) / 4503599627370496) 2047)) - 1075))).bind fun bt369 => (some (bt369.1, bt369.2.1, bt369.2.2)))
theorem cuspref02_Float.calls (k : Nat) (a0 : Nat) (r1 : Bool) (r2 : List Int) (r3 : Int) (w : World) (h : cuspref02_Float.f k a0 = some (r1, r2, r3)) :
  Calls Tryz.prog 26 #[.float .f64 a0] w fun e w' => ∃ v1_ : Value, e = .returned (.agg #[.bool r1, v1_, .int .i64 r3]) ∧ Kd.R (Kd.int .u32) 83 w' w.heap.size (fun _ => True) v1_ r2 ∧ Below w.heap.size w w' := by
 have hu41 := Tryz.underlying41
 have HB := asd (Below.refl w.heap.size w)
 have H := h
 clear h
 unfold cuspref02_Float.f at H
 by_cases c2 : (wrap64 (Go.bits .and .u64 (((a0 : Nat) : Int) / 4503599627370496) 2047)) = 0
 ·rw [if_pos c2] at H
  have c2b0 := beq_iff_eq.mpr c2
  have c2b1 := bne_eq_false_iff_eq.mpr c2
  clear c2
  obtain ⟨y358, hy358⟩ : ∃ y_ : List Int, y_ = (([(Go.bits .and .u64 ((a0 : Nat) : Int) 4503599627370495) % 4294967296, ((Go.bits .and .u64 ((a0 : Nat) : Int) 4503599627370495) / 4294967296) % 4294967296] : List Int)) := ⟨_, rfl⟩
  try rw [Option.bind_some] at H
  try rw [← hy358] at H
  have Ny358 := asd hy358
  clear hy358
  replace H := Option.bind_eq_some_iff.mp H
  obtain ⟨⟨t361, t362, t365⟩, A30, H⟩ := H
  replace H : (some (t361, t362, t365)) = some (r1, r2, r3) := H
  have A3 := asd A30
  clear A30
  simp only [Option.some.injEq, Prod.mk.injEq] at H
  obtain ⟨rfl, rfl, rfl⟩ := H
  go_enter Tryz.func26, Tryz.ntmps26
  go_wp2_with (first | ((with_reducible refine gate_dst (N := 2) rfl ?_); refine box_ev (w := w) ?hg (N := 2) ?hd hbw (cs := #[.bool false, .slice none 0 0, .int .i64 0]) (t := 41) ?hr ?_; (case hd => rfl); (case hg => rfl); (case hr => first | (go_simp; done) | (go_simp; rfl)); clear HB; intro gb357 w4 HB BK357 GW357; have GE357 := GW357) | ((with_reducible refine gate_dst (N := 26) rfl ?_); refine Kd.R_lit (Kd.int .u32) _ 83 ?hg (N := 26) ?hd (xs := ([(Go.bits .and .u64 ((a0 : Nat) : Int) 4503599627370495) % 4294967296, ((Go.bits .and .u64 ((a0 : Nat) : Int) 4503599627370495) / 4294967296) % 4294967296] : List Int)) (inner := [.int .u32 ((Go.bits .and .u64 ((a0 : Nat) : Int) 4503599627370495) % 4294967296), .int .u32 (((Go.bits .and .u64 ((a0 : Nat) : Int) 4503599627370495) / 4294967296) % 4294967296)]) (ok := fun _ => True) (okp := fun _ => True) ?hr ?hp (fun _ hk => hk) trivial (Below.refl _ _) (Nat.le_refl _) (by simp) ?_; (case hd => rfl); (case hg => rfl); (case hr => first | (go_simp; done) | (go_simp; rfl)); (case hp => exact (Reps.one (show Kd.M (Kd.int .u32) _ _ _ ((Go.bits .and .u64 ((a0 : Nat) : Int) 4503599627370495) % 4294967296) [.int .u32 ((Go.bits .and .u64 ((a0 : Nat) : Int) 4503599627370495) % 4294967296)] from rfl) (Reps.one (show Kd.M (Kd.int .u32) _ _ _ (((Go.bits .and .u64 ((a0 : Nat) : Int) 4503599627370495) / 4294967296) % 4294967296) [.int .u32 (((Go.bits .and .u64 ((a0 : Nat) : Int) 4503599627370495) / 4294967296) % 4294967296)] from rfl) (Reps.none _ _)))); intro v359 w5 ho6 hb hg_ hnew_; clear hg_ hnew_; (first | rw [← Ny358.out] at ho6 | (simp only [Int.reduceToNat] at ho6; rw [← Ny358.out] at ho6)); have n0_ := asd (Kd.R_lower ho6 (below_size hbs)); have n1_ := asd (blk_below (g := gb357) (o := .cells #[.bool false, .slice none 0 0, .int .i64 0] 41 (0, 0)) (blkU BK357.out) hb); have n2_ := asd (below_step hbs hb); clear BK357; clear HB; have HO360 := n0_; have BK357 := n1_; have HB := n2_; clear n0_ n1_ n2_; clear hb ho6; obtain ⟨Ao7, co7, eo7⟩ := Kd.R_slice HO360.out; subst eo7) | ((with_reducible refine gate_callee (f := 65) rfl ?_); refine goesL_ (some 29) rfl rfl Tryz.func65 (by kernel_rfl) rfl #[.bool ((((a0 : Nat) : Int) / 9223372036854775808) == 1), .slice Ao7 y358.length co7, .int .i64 (1 - 1075)] rfl eqA ?_; (with_reducible refine (cuspref02_norm.calls k ((((a0 : Nat) : Int) / 9223372036854775808) == 1) (fun k_ => some k_ = (.slice Ao7 y358.length co7 : Value).ownBlock) (.slice Ao7 y358.length co7) y358 (1 - 1075) t361 t362 t365 w _ ?side1 ?side2 A3.out).mono ?_); (case side1 => repeat (first | (with_reducible first | exact HB.out | apply below_alloc | apply pw_below_drewN | apply below_drew1 | refine below_set ?_ GE357.out) | exact HB.out)); (case side2 => exact Kd.R_tight rfl HO360.out); rintro e w8 ⟨v363, rfl, ho0, hb, hkp⟩; refine ⟨_, rfl, ?_⟩; have n0_ := asd (blk_kept (blkU BK357.out) hkp (fun hs_ => (fun e_ => (Kd.R_ne HO360.out BK357.out (by decide)) e_) hs_)); have n1_ := asd (Kd.R_mono (ok' := fun k_ => True) ho0 (fun k_ hk_ => trivial)); have n2_ := asd (hb); clear BK357; clear HB; clear HO360; have BK357 := n0_; have HO364 := n1_; have HB := n2_; clear n0_ n1_ n2_; (try clear hb); (try clear hkp); (try clear ho0); obtain ⟨hcz9_0, hcz9_1, hcz9_2, hfz9_0, hfz9_1, hfz9_2⟩ := cz3 BK357.out; obtain ⟨Ao10, co10, eo10⟩ := Kd.R_slice HO364.out; subst eo10))
  refine bodyPost_ret (results_cell_row rfl _ _ gb357 41 #[.bool t361, .slice Ao10 t362.length co10, .int .i64 t365] (0, 0) _ rfl (by (with_reducible repeat (first | refine blk_drewN ?_ _ | refine blk_drew ?_ | refine blk_alloc ?_ _)); refine blk_put (cs := #[.bool t361, .slice Ao10 t362.length co10, .int .i64 0]) ?_ 2 _ rfl; (with_reducible repeat (first | refine blk_drewN ?_ _ | refine blk_drew ?_ | refine blk_alloc ?_ _)); refine blk_put (cs := #[.bool t361, .slice none 0 0, .int .i64 0]) ?_ 1 _ rfl; (with_reducible repeat (first | refine blk_drewN ?_ _ | refine blk_drew ?_ | refine blk_alloc ?_ _)); refine blk_put (cs := #[.bool false, .slice none 0 0, .int .i64 0]) ?_ 0 _ rfl; (with_reducible repeat (first | refine blk_drewN ?_ _ | refine blk_drew ?_ | refine blk_alloc ?_ _)); exact BK357.out) Tryz.underlying41 rfl (by kernel_rfl)) rfl ?_
  exact ⟨_, eqC, by (with_reducible repeat (first | apply Kd.R_alloc | apply Kd.R_drewN | apply Kd.R_drew)); exact Kd.R_mono (Kd.R_far (p := ⟨gb357, 2, none⟩) (Kd.R_far (p := ⟨gb357, 1, none⟩) (Kd.R_far (p := ⟨gb357, 0, none⟩) (Kd.R_types HO364.out BK357.out (by decide)) (fun _ hk => hk.2) (.bool t361)) (fun _ hk => hk.2) (.slice Ao10 t362.length co10)) (fun _ hk => hk.2) (.int .i64 t365)) (fun _ hk => trivial), hbs⟩
 ·rw [if_neg c2] at H
  have c2b0 := beq_eq_false_iff_ne.mpr c2
  have c2b1 := bne_iff_ne.mpr c2
  obtain ⟨y366, hy366⟩ : ∃ y_ : List Int, y_ = (([(Go.bits .or .u64 (Go.bits .and .u64 ((a0 : Nat) : Int) 4503599627370495) 4503599627370496) % 4294967296, ((Go.bits .or .u64 (Go.bits .and .u64 ((a0 : Nat) : Int) 4503599627370495) 4503599627370496) / 4294967296) % 4294967296] : List Int)) := ⟨_, rfl⟩
  try rw [Option.bind_some] at H
  try rw [← hy366] at H
  have Ny366 := asd hy366
  clear hy366
  replace H := Option.bind_eq_some_iff.mp H
  obtain ⟨⟨t369, t370, t373⟩, A110, H⟩ := H
  replace H : (some (t369, t370, t373)) = some (r1, r2, r3) := H
  have A11 := asd A110
  clear A110
  simp only [Option.some.injEq, Prod.mk.injEq] at H
  obtain ⟨rfl, rfl, rfl⟩ := H
  go_enter Tryz.func26, Tryz.ntmps26
  go_wp2_with (first | ((with_reducible refine gate_dst (N := 2) rfl ?_); refine box_ev (w := w) ?hg (N := 2) ?hd hbw (cs := #[.bool false, .slice none 0 0, .int .i64 0]) (t := 41) ?hr ?_; (case hd => rfl); (case hg => rfl); (case hr => first | (go_simp; done) | (go_simp; rfl)); clear HB; intro gb357 w12 HB BK357 GW357; have GE357 := GW357) | ((with_reducible refine gate_dst (N := 26) rfl ?_); refine Kd.R_lit (Kd.int .u32) _ 83 ?hg (N := 26) ?hd (xs := ([(Go.bits .or .u64 (Go.bits .and .u64 ((a0 : Nat) : Int) 4503599627370495) 4503599627370496) % 4294967296, ((Go.bits .or .u64 (Go.bits .and .u64 ((a0 : Nat) : Int) 4503599627370495) 4503599627370496) / 4294967296) % 4294967296] : List Int)) (inner := [.int .u32 ((Go.bits .or .u64 (Go.bits .and .u64 ((a0 : Nat) : Int) 4503599627370495) 4503599627370496) % 4294967296), .int .u32 (((Go.bits .or .u64 (Go.bits .and .u64 ((a0 : Nat) : Int) 4503599627370495) 4503599627370496) / 4294967296) % 4294967296)]) (ok := fun _ => True) (okp := fun _ => True) ?hr ?hp (fun _ hk => hk) trivial (Below.refl _ _) (Nat.le_refl _) (by simp) ?_; (case hd => rfl); (case hg => rfl); (case hr => first | (go_simp; done) | (go_simp; rfl)); (case hp => exact (Reps.one (show Kd.M (Kd.int .u32) _ _ _ ((Go.bits .or .u64 (Go.bits .and .u64 ((a0 : Nat) : Int) 4503599627370495) 4503599627370496) % 4294967296) [.int .u32 ((Go.bits .or .u64 (Go.bits .and .u64 ((a0 : Nat) : Int) 4503599627370495) 4503599627370496) % 4294967296)] from rfl) (Reps.one (show Kd.M (Kd.int .u32) _ _ _ (((Go.bits .or .u64 (Go.bits .and .u64 ((a0 : Nat) : Int) 4503599627370495) 4503599627370496) / 4294967296) % 4294967296) [.int .u32 (((Go.bits .or .u64 (Go.bits .and .u64 ((a0 : Nat) : Int) 4503599627370495) 4503599627370496) / 4294967296) % 4294967296)] from rfl) (Reps.none _ _)))); intro v367 w13 ho14 hb hg_ hnew_; clear hg_ hnew_; (first | rw [← Ny366.out] at ho14 | (simp only [Int.reduceToNat] at ho14; rw [← Ny366.out] at ho14)); have n0_ := asd (Kd.R_lower ho14 (below_size hbs)); have n1_ := asd (blk_below (g := gb357) (o := .cells #[.bool false, .slice none 0 0, .int .i64 0] 41 (0, 0)) (blkU BK357.out) hb); have n2_ := asd (below_step hbs hb); clear BK357; clear HB; have HO368 := n0_; have BK357 := n1_; have HB := n2_; clear n0_ n1_ n2_; clear hb ho14; obtain ⟨Ao15, co15, eo15⟩ := Kd.R_slice HO368.out; subst eo15) | ((with_reducible refine gate_callee (f := 65) rfl ?_); refine goesL_ (some 29) rfl rfl Tryz.func65 (by kernel_rfl) rfl #[.bool ((((a0 : Nat) : Int) / 9223372036854775808) == 1), .slice Ao15 y366.length co15, .int .i64 (wrap64 ((wrap64 (Go.bits .and .u64 (((a0 : Nat) : Int) / 4503599627370496) 2047)) - 1075))] rfl eqA ?_; (with_reducible refine (cuspref02_norm.calls k ((((a0 : Nat) : Int) / 9223372036854775808) == 1) (fun k_ => some k_ = (.slice Ao15 y366.length co15 : Value).ownBlock) (.slice Ao15 y366.length co15) y366 (wrap64 ((wrap64 (Go.bits .and .u64 (((a0 : Nat) : Int) / 4503599627370496) 2047)) - 1075)) t369 t370 t373 w _ ?side1 ?side2 A11.out).mono ?_); (case side1 => repeat (first | (with_reducible first | exact HB.out | apply below_alloc | apply pw_below_drewN | apply below_drew1 | refine below_set ?_ GE357.out) | exact HB.out)); (case side2 => exact Kd.R_tight rfl HO368.out); rintro e w16 ⟨v371, rfl, ho0, hb, hkp⟩; refine ⟨_, rfl, ?_⟩; have n0_ := asd (blk_kept (blkU BK357.out) hkp (fun hs_ => (fun e_ => (Kd.R_ne HO368.out BK357.out (by decide)) e_) hs_)); have n1_ := asd (Kd.R_mono (ok' := fun k_ => True) ho0 (fun k_ hk_ => trivial)); have n2_ := asd (hb); clear BK357; clear HB; clear HO368; have BK357 := n0_; have HO372 := n1_; have HB := n2_; clear n0_ n1_ n2_; (try clear hb); (try clear hkp); (try clear ho0); obtain ⟨hcz17_0, hcz17_1, hcz17_2, hfz17_0, hfz17_1, hfz17_2⟩ := cz3 BK357.out; obtain ⟨Ao18, co18, eo18⟩ := Kd.R_slice HO372.out; subst eo18))
  refine bodyPost_ret (results_cell_row rfl _ _ gb357 41 #[.bool t369, .slice Ao18 t370.length co18, .int .i64 t373] (0, 0) _ rfl (by (with_reducible repeat (first | refine blk_drewN ?_ _ | refine blk_drew ?_ | refine blk_alloc ?_ _)); refine blk_put (cs := #[.bool t369, .slice Ao18 t370.length co18, .int .i64 0]) ?_ 2 _ rfl; (with_reducible repeat (first | refine blk_drewN ?_ _ | refine blk_drew ?_ | refine blk_alloc ?_ _)); refine blk_put (cs := #[.bool t369, .slice none 0 0, .int .i64 0]) ?_ 1 _ rfl; (with_reducible repeat (first | refine blk_drewN ?_ _ | refine blk_drew ?_ | refine blk_alloc ?_ _)); refine blk_put (cs := #[.bool false, .slice none 0 0, .int .i64 0]) ?_ 0 _ rfl; (with_reducible repeat (first | refine blk_drewN ?_ _ | refine blk_drew ?_ | refine blk_alloc ?_ _)); exact BK357.out) Tryz.underlying41 rfl (by kernel_rfl)) rfl ?_
  exact ⟨_, eqC, by (with_reducible repeat (first | apply Kd.R_alloc | apply Kd.R_drewN | apply Kd.R_drew)); exact Kd.R_mono (Kd.R_far (p := ⟨gb357, 2, none⟩) (Kd.R_far (p := ⟨gb357, 1, none⟩) (Kd.R_far (p := ⟨gb357, 0, none⟩) (Kd.R_types HO372.out BK357.out (by decide)) (fun _ hk => hk.2) (.bool t369)) (fun _ hk => hk.2) (.slice Ao18 t370.length co18)) (fun _ hk => hk.2) (.int .i64 t373)) (fun _ hk => trivial), hbs⟩
def cuspref05_Total.l0 : Nat → List Nat → Int → Bool → List Int → Int → Option (Bool × List Int × Int)
 | 0, _, _, _, _, _ => none
 | k + 1, x0, x4, x376000, x376001, x376002 => if x4 < (x0.length : Int) then (if 0 ≤ x4 then ((cuspref02_Float.f k (rdOf (0 : Nat) x0 x4)).bind fun bt377 => ((cuspref02_Plus.f x376000 x376001 x376002 bt377.1 bt377.2.1 bt377.2.2).bind fun bt382 => (cuspref05_Total.l0 k x0 (wrap64 (x4 + 1)) bt382.1 bt382.2.1 bt382.2.2))) else (none)) else (some (x376000, x376001, x376002))
def cuspref05_Total.f (k : Nat) (l0 : List Nat) : Option (Bool × List Int × Int) := cuspref05_Total.l0 k l0 0 false ([] : List Int) 0
def cuspref01_Of.f (a0 : Int) : Option (Nat) := some ((a0 : Int).toNat)
def cuspref01_Nought.f (a0 : Bool) : Option (Nat) := if a0 = true then ((cuspref01_Of.f 9223372036854775808).bind fun t387 => (some t387)) else ((cuspref01_Of.f 0).bind fun t388 => (some t388))
def cuspref05_Exact.l0 : Nat → List Nat → Int → Bool → Int → Option (Nat × Int)
 | 0, _, _, _, _ => none
 | k + 1, x0, x1, x7, x8 => if x8 < (x0.length : Int) then (if x7 = true then (if 0 ≤ x8 then ((cuspref01_IsZero.f (rdOf (0 : Nat) x0 x8)).bind fun t392 => (if t392 = true then ((cuspref01_Neg.f (rdOf (0 : Nat) x0 x8)).bind fun t394 => (cuspref05_Exact.l0 k x0 x1 t394 (wrap64 (x8 + 1)))) else (cuspref05_Exact.l0 k x0 x1 false (wrap64 (x8 + 1))))) else (none)) else (cuspref05_Exact.l0 k x0 x1 false (wrap64 (x8 + 1)))) else ((cuspref05_Total.f k x0).bind fun bt395 => ((cuspref01_Nought.f x7).bind fun t400 => ((cuspref03_R.f bt395.1 bt395.2.1 bt395.2.2 x1 t400).bind fun t401 => (some (t401, 0)))))
def cuspref05_Exact.f (k : Nat) (l0 : List Nat) (a1 : Int) : Option (Nat × Int) := (cuspref03_Valid.f a1).bind fun t389 => (if t389 = 0 then ((cuspref05_Fault.f k l0).bind fun t390 => (if t390 = 0 then (cuspref05_Exact.l0 k l0 a1 (decide ((l0.length : Int) > 0)) 0) else (some ((0 : Nat), t390)))) else (some ((0 : Nat), 1)))
def cusplaw05_SumsExact.f (k : Nat) (l0 : List Nat) (a1 : Int) : Option (Bool) := (sums_Exact.f l0 a1).bind fun bt402 => ((cuspref05_Exact.f k l0 a1).bind fun bt404 => ((cusplaw05_same.f bt402.1 bt404.1).bind fun t406 => (if t406 = true then (if bt402.2 = bt404.2 then ((cusplaw05_sure.f).bind fun t407 => (some t407)) else (some false)) else (some false))))
end Go.Proofs.YthmeocigliephaaGreatDoor.PSu
end
section
namespace Go.Proofs.YthmeocigliephaaGreatDoor.Big
open Go.Proofs.YthmeocigliephaaGreatDoor.PSu Go.Proofs.YthmeocigliephaaGreatDoor.Plain
theorem sgn_div {b : Nat} (h : b < 18446744073709551616) : (((b : Int) / 9223372036854775808) == 1) = sgn b := by
  unfold sgn
  by_cases h1 : 9223372036854775808 ≤ b
  · rw [decide_eq_true h1]; simp; omega
  · rw [decide_eq_false h1]; simp; omega
def word2 (m : Nat) : List Int := [((m : Nat) : Int) % 4294967296, (((m : Nat) : Int) / 4294967296) % 4294967296]
theorem word2_val {m : Nat} (h : m < 18446744073709551616) : val (word2 m) = m := by unfold word2; simp [val]; omega
theorem word2_dg (m : Nat) : Dg (word2 m) := Dg.cons (by omega) (by omega) (Dg.one (by omega) (by omega))
theorem rfloat_eq {b : Nat} (h : Fin64 b) (k : Nat) : cuspref02_Float.f k b = (cuspref02_norm.f k (sgn b) (word2 (manti b)) (expoV b)).bind fun bt => some (bt.1, bt.2.1, bt.2.2) := by
  have hx := expo_le h
  unfold cuspref02_Float.f
  rw [bits_frac b h.1, bits_expo b h.1, bits_one b, sgn_div h.1, w64_of (by omega) (by omega)]
  by_cases h0 : expo b = 0
  · have hm : manti b = frac b := by unfold manti; rw [if_pos h0]
    have he : expoV b = 1 - 1075 := by unfold expoV; rw [if_pos h0]
    rw [if_pos (by omega), hm, he]
    rfl
  · have hm : manti b = frac b + 4503599627370496 := by unfold manti; rw [if_neg h0]
    have he : expoV b = (expo b : Int) - 1075 := by unfold expoV; rw [if_neg h0]
    rw [if_neg (by omega), w64_of (x := (expo b : Int) - 1075) (by omega) (by omega), ← he, hm]
    rfl
theorem rfloat_law {b : Nat} (h : Fin64 b) : Ev (fun k => cuspref02_Float.f k b) (canN (flz b) (-1074)) := by
  have hm := manti_lt b
  have he := expoV_range h
  have hn := rnorm_law (sgn b) (word2 (manti b)) (expoV b) (word2_dg _) (by simp [word2]) (by omega) (by omega)
  rw [word2_val (by omega), show (if sgn b = true then -(manti b : Int) else (manti b : Int)) = floV b from rfl, can_flo h] at hn
  exact Ev.congr (fun k => rfloat_eq h k) (Ev.bind hn (Ev.now _))
theorem mag_law {b : Nat} (h : b < 18446744073709551616) : cuspref01_mag.f b = some ((b % 9223372036854775808 : Nat) : Int) := by
  unfold cuspref01_mag.f cuspref01_Bits.f
  rw [Option.bind_some, bits_abs b h]
theorem risnan_law {b : Nat} (h : b < 18446744073709551616) : cuspref01_IsNaN.f b = some (nanB b) := by
  unfold cuspref01_IsNaN.f
  rw [mag_law h, Option.bind_some, nan_law h]
  congr 1
  rw [decide_eq_decide]; omega
theorem risinf_law {b : Nat} (h : b < 18446744073709551616) : cuspref01_IsInf.f b = some (infB? b) := by
  unfold cuspref01_IsInf.f
  rw [mag_law h, Option.bind_some, inf_law h]
  congr 1
  by_cases hb : b % 9223372036854775808 = 9218868437227405312
  · rw [hb]; rfl
  · rw [beq_eq_false_iff_ne.2 hb, beq_eq_false_iff_ne]; omega
theorem same_law (a : Nat) : cusplaw05_same.f a a = some true := by
  unfold cusplaw05_same.f cuspref01_Same.f cuspref01_Bits.f
  rw [Option.bind_some, Option.bind_some, if_pos rfl]; rfl
theorem rfault_ev (l : List Nat) (hw : ∀ b ∈ l, b < 18446744073709551616) (hl : l.length ≤ 65536) : ∀ (d i : Nat) (x : Int), i + d = l.length → (∀ b ∈ l.take i, nanB b = false) → x = (if (l.take i).any infB? = true then 5 else 0) →
    Ev (fun k => cuspref05_Fault.l0 k l x (i : Int)) (if l.any nanB = true then (4 : Int) else if l.any infB? = true then 5 else 0) := by
  intro d
  induction d with
  | zero =>
    intro i x hi hn hx
    obtain rfl : i = l.length := by omega
    rw [List.take_length] at hn hx
    have : l.any nanB = false := by
      rw [List.any_eq_false]; intro b hb; rw [hn b hb]; simp
    rw [this, if_neg (by simp), ← hx]
    refine Ev.step (f := fun _ => some x) (fun k => ?_) (Ev.now _)
    rw [cuspref05_Fault.l0, if_neg (by omega)]
  | succ d ih =>
    intro i x hi hn hx
    have hil : i < l.length := by omega
    have hb := hw l[i] (List.getElem_mem hil)
    by_cases hna : nanB l[i] = true
    · have : l.any nanB = true := List.any_eq_true.2 ⟨_, List.getElem_mem hil, hna⟩
      rw [this, if_pos rfl]
      refine Ev.step (f := fun _ => some 4) (fun k => ?_) (Ev.now _)
      rw [cuspref05_Fault.l0, if_pos (by omega), if_pos (by omega), rdOf_get l i hil, risnan_law hb, Option.bind_some, if_pos hna]
    · have hn2 : ∀ b ∈ l.take (i + 1), nanB b = false := by
        intro b hb
        rw [List.take_succ_eq_append_getElem hil, List.mem_append] at hb
        rcases hb with hb | hb
        · exact hn b hb
        · simp at hb; subst hb; simpa using hna
      have hx2 : ∀ y, y = (if infB? l[i] = true then 5 else x) → y = (if (l.take (i + 1)).any infB? = true then 5 else 0) := by
        intro y hy
        rw [List.take_succ_eq_append_getElem hil, List.any_append, hy, hx]
        cases h1 : infB? l[i] <;> cases h2 : (l.take i).any infB? <;> simp [h1]
      refine Ev.step (fun k => ?_) (ih (i + 1) _ (by omega) hn2 (hx2 _ rfl))
      rw [cuspref05_Fault.l0, if_pos (by omega), if_pos (by omega), rdOf_get l i hil, risnan_law hb, Option.bind_some, if_neg hna, risinf_law hb, Option.bind_some, w64_succ (by omega)]
      split <;> rfl
theorem rfault_law (l : List Nat) (hw : ∀ b ∈ l, b < 18446744073709551616) : Ev (fun k => cuspref05_Fault.f k l) (faultL l) := by
  unfold cuspref05_Fault.f faultL
  by_cases hl : 65536 < l.length
  · rw [if_pos hl]; exact Ev.congr (fun k => if_pos (by omega)) (Ev.now _)
  · rw [if_neg hl]
    exact Ev.congr (fun k => if_neg (by omega)) (rfault_ev l hw (by omega) l.length 0 0 (by omega) (by simp) (by simp))
theorem rvalid_yes {m : Int} (h : 1 ≤ m ∧ m ≤ 3) : cuspref03_Valid.f m = some 0 := by
  unfold cuspref03_Valid.f
  rw [if_neg (by omega), if_neg (by omega)]
theorem rvalid_no {m : Int} (h : ¬ (1 ≤ m ∧ m ≤ 3)) : cuspref03_Valid.f m = some 1 := by
  unfold cuspref03_Valid.f
  by_cases h1 : m < 1
  · rw [if_pos h1]
  · rw [if_neg h1, if_pos (by omega)]
end Go.Proofs.YthmeocigliephaaGreatDoor.Big
end
section
namespace Go.Proofs.YthmeocigliephaaGreatDoor.PSv
attribute [local go_sem] f64bits_run f64from_run run_float_some max2_int min2_int max_two min_two max_three min_three max_four min_four
def errW : Option Int → Value
 | none => .nilIface
 | some c => .iface 0 (.int .i64 c)
theorem errW_none : errW none = .nilIface := rfl
theorem errW_some (c : Int) : errW (some c) = .iface 0 (.int .i64 c) := rfl
end Go.Proofs.YthmeocigliephaaGreatDoor.PSv
end
section
namespace Go.Proofs.YthmeocigliephaaGreatDoor.PSd
open Go.Proofs.YthmeocigliephaaGreatDoor.PSu Go.Proofs.YthmeocigliephaaGreatDoor.PSv Go.RowKit Go.Proofs.YthmeocigliephaaGreatDoorW.PrintWords Go.Proofs.YthmeocigliephaaGreatDoorW.PrintLast Go.Proofs.YthmeocigliephaaGreatDoorW.PrintMore
attribute [local go_sem] f64bits_run f64from_run run_float_some max2_int min2_int max_two min_two max_three min_three max_four min_four
def errW : Option Int → Value
 | none => .nilIface
 | some c => .iface 0 (.int .i64 c)
theorem errW_none : errW none = .nilIface := rfl
theorem errW_some (c : Int) : errW (some c) = .iface 0 (.int .i64 c) := rfl
theorem info25 : (Tryz.prog.info? 25).map (fun i => (i.zero, i.size, i.bytes)) = some (some (.float .f64 0), 1, 8) := by kernel_rfl
theorem info83 : (Tryz.prog.info? 83).map (fun i => (i.zero, i.size, i.bytes)) = some (some (.int .u32 0), 1, 4) := by kernel_rfl
end Go.Proofs.YthmeocigliephaaGreatDoor.PSd
end
section
namespace Go.Proofs.YthmeocigliephaaGreatDoor.PSd
open Go.Proofs.YthmeocigliephaaGreatDoor.PSu Go.Proofs.YthmeocigliephaaGreatDoor.PSv Go.RowKit Go.Proofs.YthmeocigliephaaGreatDoorW.PrintWords Go.Proofs.YthmeocigliephaaGreatDoorW.PrintLast Go.Proofs.YthmeocigliephaaGreatDoorW.PrintMore
attribute [local go_sem] f64bits_run f64from_run run_float_some max2_int min2_int max_two min_two max_three min_three max_four min_four
mutual
def cuspref02_product.j0 : Nat → List Int → List Int → Bool → Option (List Int)
 | 0, _, _, _ => none
 | k + 1, x0, x1, x17 => if x17 = true then (some ([] : List Int)) else (if 0 ≤ (wrap64 ((x0.length : Int) + (x1.length : Int))) then (if (wrap64 ((x0.length : Int) + (x1.length : Int)) : Int).toNat ≤ 70368744177664 then (cuspref02_product.l0 k x0 x1 (List.replicate (wrap64 ((x0.length : Int) + (x1.length : Int)) : Int).toNat 0) 0) else (none)) else (none))
def cuspref02_product.l0 : Nat → List Int → List Int → List Int → Int → Option (List Int)
 | 0, _, _, _, _ => none
 | k + 1, x0, x1, x5, x6 => if x6 < (x0.length : Int) then (cuspref02_product.l1 k x0 x1 x5 x6 0 0) else ((cuspref02_trim.f k x5).bind fun t126 => (some t126))
def cuspref02_product.l1 : Nat → List Int → List Int → List Int → Int → Int → Int → Option (List Int)
 | 0, _, _, _, _, _, _ => none
 | k + 1, x0, x1, x5, x6, x7, x8 => if x8 < (x1.length : Int) then (if 0 ≤ x6 then (if x6 < (x0.length : Int) then (if 0 ≤ x8 then (if 0 ≤ (wrap64 (x6 + x8)) then (if (wrap64 (x6 + x8)) < (x5.length : Int) then (cuspref02_product.l1 k x0 x1 (x5.set ((wrap64 (x6 + x8)) : Int).toNat ((IntKind.u64.wrap ((IntKind.u64.wrap ((IntKind.u64.wrap ((IntKind.u64.wrap (rd x0 x6)) * (IntKind.u64.wrap (rd x1 x8)))) + (IntKind.u64.wrap (rd x5 (wrap64 (x6 + x8)))))) + x7)) % 4294967296)) x6 ((IntKind.u64.wrap ((IntKind.u64.wrap ((IntKind.u64.wrap ((IntKind.u64.wrap (rd x0 x6)) * (IntKind.u64.wrap (rd x1 x8)))) + (IntKind.u64.wrap (rd x5 (wrap64 (x6 + x8)))))) + x7)) / 4294967296) (wrap64 (x8 + 1))) else (none)) else (none)) else (none)) else (none)) else (none)) else (if 0 ≤ (wrap64 (x6 + (x1.length : Int))) then (if (wrap64 (x6 + (x1.length : Int))) < (x5.length : Int) then (cuspref02_product.l0 k x0 x1 (x5.set ((wrap64 (x6 + (x1.length : Int))) : Int).toNat ((x7) % 4294967296)) (wrap64 (x6 + 1))) else (none)) else (none))
end
def cuspref02_product.f (k : Nat) (l0 : List Int) (l1 : List Int) : Option (List Int) := if (l0.length : Int) = 0 then (cuspref02_product.j0 k l0 l1 true) else (cuspref02_product.j0 k l0 l1 ((l1.length : Int) == 0))
theorem cuspref02_product.calls (k : Nat) (A0 : Option Addr) (c0 : Nat) (l0 : List Int) (A1 : Option Addr) (c1 : Nat) (l1 : List Int) (r : List Int) (w : World) (hr0 : Kd.C (Kd.int .u32) w A0 l0.length l0) (hc0 : l0.length ≤ c0) (hr1 : Kd.C (Kd.int .u32) w A1 l1.length l1) (hc1 : l1.length ≤ c1) (h : cuspref02_product.f k l0 l1 = some r) :
  Calls Tryz.prog 108 #[.slice A0 l0.length c0, .slice A1 l1.length c1] w fun e w' => ∃ v0_ : Value, e = .returned (v0_) ∧ Kd.R (Kd.int .u32) 83 w' w.heap.size (fun _ => True) v0_ r ∧ Below w.heap.size w w' := by
 have HR0 := asd hr0
 have HC0 := asd hc0
 clear hr0 hc0
 have HR1 := asd hr1
 have HC1 := asd hc1
 clear hr1 hc1
 have HB := asd (Below.refl w.heap.size w)
 have H := h
 clear h
 unfold cuspref02_product.f at H
 have HC3 := asd H
 clear H
 go_enter Tryz.func108, Tryz.ntmps108
 go_upto_region 1 with (fail)
 repeat (go_quiet (fail); go_upto_region 1 with (fail))
 go_cut [17] (fun v17 wc => ∃ (kq : Nat) (x17_2 : Bool), v17 = .bool x17_2 ∧ Aside0 (cuspref02_product.j0 kq l0 l1 x17_2 = some r) ∧ Aside0 (kq ≤ k) ∧ Aside0 (Below w.heap.size w wc))
 case first =>
  have H := HC3.out
  clear HC3
  by_cases c4 : (l0.length : Int) = 0
  ·rw [if_pos c4] at H
   have c4b0 := beq_iff_eq.mpr c4
   have c4b1 := bne_eq_false_iff_eq.mpr c4
   clear c4
   (first | rw [c4b0] | (simp only [i64_w, i32_w]; rw [c4b0]) | skip)
   have H' := asd H
   clear H
   go_wp2
   repeat (go_quiet (fail); try go_wp2)
   go_meet
   case rel => exact ⟨_, (true), eqB, H', ⟨by first | omega | exact Nat.le_refl _⟩, ⟨hbw⟩⟩
  ·rw [if_neg c4] at H
   have c4b0 := beq_eq_false_iff_ne.mpr c4
   have c4b1 := bne_iff_ne.mpr c4
   have c4b2 : ¬ (l0 = []) := fun h_ => c4 (by rw [h_]; rfl)
   (first | rw [c4b0] | (simp only [i64_w, i32_w]; rw [c4b0]) | skip)
   have H' := asd H
   clear H
   go_wp2
   repeat (go_quiet (fail); try go_wp2)
   go_meet
   case rel => exact ⟨_, (((l1.length : Int) == 0)), eqB, H', ⟨by first | omega | exact Nat.le_refl _⟩, ⟨hbw⟩⟩
 case rest =>
  clear HC3
  try clear c1
  try clear p2
  try clear c4
  try clear c4b0
  try clear c4b1
  try clear c4b2
  obtain ⟨kq, x17_2, rfl, HA, HJ2, HB⟩ := hcut
  cases kq with
  | zero => exact absurd HA.out (by simp [cuspref02_product.j0])
  | succ kj2 =>
   have H := HA.out
   clear HA
   simp only [cuspref02_product.j0] at H
   by_cases c5 : x17_2 = true
   ·subst c5
    rw [if_pos rfl] at H
    obtain rfl := Option.some.inj H
    go_wp2
    repeat (go_quiet (fail); try go_wp2)
    go_ret
    exact ⟨_, eqC, by first | exact Kd.R_nil _ _ _ _ _ | exact Kd.N_nil _ _ _ _ _ | exact Kd.V_nil _ _ _ _ _ | exact Kd.Q_nil _ _ _ _ _ | exact Kd.S_nil _ _ _ _ _, hbw⟩
   ·replace c5 := Bool.eq_false_iff.mpr c5
    subst c5
    rw [if_neg (show ¬ (false = true) by decide)] at H
    obtain ⟨ji6, hji6⟩ : ∃ j_ : Int, (wrap64 ((l0.length : Int) + (l1.length : Int))) = j_ := ⟨_, rfl⟩
    first | rw [hji6] at H | simp only [hji6] at H ⊢
    have hji6w : (IntKind.i64.wrap ((l0.length : Int) + (l1.length : Int))) = ji6 := (i64_w _).trans hji6
    by_cases c7 : 0 ≤ (ji6)
    ·rw [if_pos c7] at H
     have c7b0 := eq_true c7
     have c7b1 := decide_eq_true c7
     clear c7
     by_cases c8 : (ji6 : Int).toNat ≤ 70368744177664
     ·rw [if_pos c8] at H
      have c8b0 := eq_true c8
      have c8b1 := decide_eq_true c8
      clear c8
      obtain ⟨y123, hy123⟩ : ∃ y_ : List Int, y_ = (List.replicate (ji6 : Int).toNat 0) := ⟨_, rfl⟩
      try rw [Option.bind_some] at H
      try rw [← hy123] at H
      have Ny123 := asd hy123
      clear hy123
      have H' := asd H
      clear H
      go_wp2_with (first | ((with_reducible refine gate_dst (N := 23) rfl ?_); (try (refine gate_guard (by rfl) ?_; dsimp only)); refine Kd.R_make (Kd.int .u32) _ 83 rfl (N := 23) rfl 39 _ _ rfl ji6 rfl rfl Tryz.underlying39 (.int .u32 0) 4 info83 rfl (by decide) (by omega) 0 (ok := fun _ => True) (okp := fun _ => True) rfl (fun _ hk => hk) trivial (odt) (Nat.le_trans (Nat.mul_le_mul_right _ (odt : ji6.toNat ≤ 70368744177664)) (by omega)) (Below.refl _ _) (Nat.le_refl _) ?_; intro v124 w9 ho10 hb hg_ hnew_; clear hg_ hnew_; (first | rw [← Ny123.out] at ho10 | (simp only [Int.reduceToNat] at ho10; rw [← Ny123.out] at ho10)); have n0_ := asd (Kd.R_lower ho10 (below_size hbw)); have n1_ := asd (below_step hbw hb); clear HB; have HO125 := n0_; have HB := n1_; clear n0_ n1_; clear hb ho10))
      repeat (go_quiet (first | ((with_reducible refine gate_dst (N := 23) rfl ?_); (try (refine gate_guard (by rfl) ?_; dsimp only)); refine Kd.R_make (Kd.int .u32) _ 83 rfl (N := 23) rfl 39 _ _ rfl ji6 rfl rfl Tryz.underlying39 (.int .u32 0) 4 info83 rfl (by decide) (by omega) 0 (ok := fun _ => True) (okp := fun _ => True) rfl (fun _ hk => hk) trivial (odt) (Nat.le_trans (Nat.mul_le_mul_right _ (odt : ji6.toNat ≤ 70368744177664)) (by omega)) (Below.refl _ _) (Nat.le_refl _) ?_; intro v124 w9 ho10 hb hg_ hnew_; clear hg_ hnew_; (first | rw [← Ny123.out] at ho10 | (simp only [Int.reduceToNat] at ho10; rw [← Ny123.out] at ho10)); have n0_ := asd (Kd.R_lower ho10 (below_size hbw)); have n1_ := asd (below_step hbw hb); clear HB; have HO125 := n0_; have HB := n1_; clear n0_ n1_; clear hb ho10)); try go_wp2_with (first | ((with_reducible refine gate_dst (N := 23) rfl ?_); (try (refine gate_guard (by rfl) ?_; dsimp only)); refine Kd.R_make (Kd.int .u32) _ 83 rfl (N := 23) rfl 39 _ _ rfl ji6 rfl rfl Tryz.underlying39 (.int .u32 0) 4 info83 rfl (by decide) (by omega) 0 (ok := fun _ => True) (okp := fun _ => True) rfl (fun _ hk => hk) trivial (odt) (Nat.le_trans (Nat.mul_le_mul_right _ (odt : ji6.toNat ≤ 70368744177664)) (by omega)) (Below.refl _ _) (Nat.le_refl _) ?_; intro v124 w9 ho10 hb hg_ hnew_; clear hg_ hnew_; (first | rw [← Ny123.out] at ho10 | (simp only [Int.reduceToNat] at ho10; rw [← Ny123.out] at ho10)); have n0_ := asd (Kd.R_lower ho10 (below_size hbw)); have n1_ := asd (below_step hbw hb); clear HB; have HO125 := n0_; have HB := n1_; clear n0_ n1_; clear hb ho10)))
      go_loopg [6] kj2 (fun kq v6 w' => ∃ (x5_2 : List Int) (x6_2 : Int), v6 = .int .i64 x6_2 ∧ Aside0 (cuspref02_product.l0 kq l0 l1 x5_2 x6_2 = some r) ∧ Aside0 (kq ≤ kj2) ∧ Aside0 (Kd.R (Kd.int .u32) 83 w' w.heap.size (fun _ => True) v124 x5_2) ∧ Aside0 (Below w.heap.size w w'))
      case atStart => exact ⟨(y123), (0), eqB, H', ⟨Nat.le_refl _⟩, ⟨by (with_reducible repeat (first | apply Kd.R_alloc | apply Kd.R_drewN | apply Kd.R_drew)); exact HO125.out⟩, ⟨hbw⟩⟩
      case round =>
       clear H'
       try clear c1
       try clear p2
       try clear c4
       try clear c4b0
       try clear c4b1
       try clear c4b2
       try clear c5
       try clear p6
       try clear c7
       try clear c7b0
       try clear c7b1
       try clear c8
       try clear c8b0
       try clear c8b1
       try clear c10
       try clear p2
       obtain ⟨x5_2, x6_2, rfl, HA, HK2, HO_5, HB⟩ := hrel
       cases gk with
       | zero => exact absurd HA.out (by simp [cuspref02_product.l0])
       | succ k2 =>
        have H := HA.out
        clear HA
        simp only [cuspref02_product.l0] at H
        by_cases c11 : x6_2 < (l0.length : Int)
        ·rw [if_pos c11] at H
         have c11b0 := decide_eq_true c11
         clear c11
         have H' := asd H
         clear H
         go_wp2
         repeat (go_quiet (fail); try go_wp2)
         go_loopg [7, 8] k2 (fun kq v7 v8 w' => ∃ (x5_3 : List Int) (x7_3 : Int) (x8_3 : Int), v7 = .int .u64 x7_3 ∧ v8 = .int .i64 x8_3 ∧ Aside0 (cuspref02_product.l1 kq l0 l1 x5_3 x6_2 x7_3 x8_3 = some r) ∧ Aside0 (kq ≤ k2) ∧ Aside0 (Kd.R (Kd.int .u32) 83 w' w.heap.size (fun _ => True) v124 x5_3) ∧ Aside0 (Below w.heap.size w w'))
         case atStart => exact ⟨(x5_2), (0), (0), eqB, eqB, H', ⟨Nat.le_refl _⟩, ⟨by (with_reducible repeat (first | apply Kd.R_alloc | apply Kd.R_drewN | apply Kd.R_drew)); exact HO_5.out⟩, ⟨hbw⟩⟩
         case round =>
          clear H'
          try clear c1
          try clear p2
          try clear c4
          try clear c4b0
          try clear c4b1
          try clear c4b2
          try clear c5
          try clear p6
          try clear c7
          try clear c7b0
          try clear c7b1
          try clear c8
          try clear c8b0
          try clear c8b1
          try clear c10
          try clear c11
          try clear c11b0
          try clear p2
          try clear p6
          obtain ⟨x5_3, x7_3, x8_3, rfl, rfl, HA, HK3, HO_5, HB⟩ := hrel
          cases gk with
          | zero => exact absurd HA.out (by simp [cuspref02_product.l1])
          | succ k3 =>
           have H := HA.out
           clear HA
           simp only [cuspref02_product.l1] at H
           by_cases c12 : x8_3 < (l1.length : Int)
           ·rw [if_pos c12] at H
            have c12b0 := decide_eq_true c12
            clear c12
            by_cases c13 : 0 ≤ x6_2
            ·rw [if_pos c13] at H
             have c13b0 := decide_eq_true c13
             clear c13
             by_cases c14 : x6_2 < (l0.length : Int)
             ·rw [if_pos c14] at H
              have c14b0 := decide_eq_true c14
              clear c14
              by_cases c15 : 0 ≤ x8_3
              ·rw [if_pos c15] at H
               have c15b0 := decide_eq_true c15
               clear c15
               obtain ⟨ji16, hji16⟩ : ∃ j_ : Int, (wrap64 (x6_2 + x8_3)) = j_ := ⟨_, rfl⟩
               first | rw [hji16] at H | simp only [hji16] at H ⊢
               have hji16w : (IntKind.i64.wrap (x6_2 + x8_3)) = ji16 := (i64_w _).trans hji16
               by_cases c17 : 0 ≤ (ji16)
               ·rw [if_pos c17] at H
                have c17b0 := decide_eq_true c17
                clear c17
                by_cases c18 : (ji16) < (x5_3.length : Int)
                ·rw [if_pos c18] at H
                 have c18b0 := decide_eq_true c18
                 clear c18
                 obtain ⟨y132, hy132⟩ : ∃ y_ : List Int, y_ = (x5_3.set ((ji16) : Int).toNat ((IntKind.u64.wrap ((IntKind.u64.wrap ((IntKind.u64.wrap ((IntKind.u64.wrap (rd l0 x6_2)) * (IntKind.u64.wrap (rd l1 x8_3)))) + (IntKind.u64.wrap (rd x5_3 (ji16))))) + x7_3)) % 4294967296)) := ⟨_, rfl⟩
                 try rw [Option.bind_some] at H
                 try rw [← hy132] at H
                 have Ny132 := asd hy132
                 clear hy132
                 have H' := asd H
                 clear H
                 have p129 : 0 ≤ (x6_2 : Int) := odt
                 have q129 : x6_2 < (l0.length : Int) := odt
                 obtain ⟨ad129, e129, hx129_0⟩ := Kd.at_int HR0.out x6_2 p129 q129
                 cases e129
                 replace hx129_0 := (HB.out.cell (World.block_lt_of_cell? w _ hx129_0)).trans hx129_0
                 replace p129 := eq_true p129
                 replace q129 := eq_true q129
                 have p130 : 0 ≤ (x8_3 : Int) := odt
                 have q130 : x8_3 < (l1.length : Int) := odt
                 obtain ⟨ad130, e130, hx130_0⟩ := Kd.at_int HR1.out x8_3 p130 q130
                 cases e130
                 replace hx130_0 := (HB.out.cell (World.block_lt_of_cell? w _ hx130_0)).trans hx130_0
                 replace p130 := eq_true p130
                 replace q130 := eq_true q130
                 obtain ⟨Ao20, co20, eo20⟩ := Kd.R_slice HO_5.out
                 subst eo20
                 have p131 : 0 ≤ ((ji16) : Int) := odt
                 have q131 : (ji16) < (x5_3.length : Int) := odt
                 obtain ⟨ad131, e131, hx131_0⟩ := Kd.at_int (Kd.R_reads' HO_5.out).2.2 (ji16) p131 q131
                 cases e131
                 replace p131 := eq_true p131
                 replace q131 := eq_true q131
                 have p19 : 0 ≤ ((ji16) : Int) := odt
                 have q19 : ((ji16) : Int) < ((x5_3.length : Int) : Int) := odt
                 obtain ⟨go19, co19, eo19, gb19, gl19, cl19, HG19⟩ := Kd.R_form HO_5.out (by omega)
                 (first | cases eo19 | (injection eo19 with ea_ en_ ec_; (first | subst ea_ | (injection ea_ with ea_; subst ea_)); subst ec_; clear en_))
                 have GB19 := asd gb19
                 have GG19 := asd HG19
                 clear gb19 gl19 HG19
                 (first | simp only [add_plain] at hx131_0 | skip)
                 obtain ⟨hx19_0, hf19_0⟩ := Kd.R_celln 0 HO_5.out ((ji16) : Int) p19 q19
                 replace p19 := eq_true p19
                 replace q19 := eq_true q19
                 have HP21 := Kd.R_putg HO_5.out ((ji16) : Int) ((IntKind.u64.wrap ((IntKind.u64.wrap ((IntKind.u64.wrap ((IntKind.u64.wrap (rd l0 x6_2)) * (IntKind.u64.wrap (rd l1 x8_3)))) + (IntKind.u64.wrap (rd x5_3 (ji16))))) + x7_3)) % 4294967296)
                 go_wp2_with (first | ((with_reducible refine gate_store (t := 83) (p := 63) rfl ?_); (try (rw [drewN_self wr]; generalize hq_ : World.drewN wr _ = wr; have n0_ := asd (Kd.R_at hq_ HO_5.out); have n1_ := asd (below_at hq_ HB.out); clear hq_ HO_5 HB; have HO_5 := n0_; have HB := n1_; clear n0_ n1_; (try (have HP21 := Kd.R_putg HO_5.out ((ji16) : Int) ((IntKind.u64.wrap ((IntKind.u64.wrap ((IntKind.u64.wrap ((IntKind.u64.wrap (rd l0 x6_2)) * (IntKind.u64.wrap (rd l1 x8_3)))) + (IntKind.u64.wrap (rd x5_3 (ji16))))) + x7_3)) % 4294967296))))); refine store_event (t := 83) (p := 63) (v := ?vo_w22) (w1 := (wr.setCell ⟨go19, ((ji16) : Int).toNat, none⟩ (.int .u32 ((IntKind.u64.wrap ((IntKind.u64.wrap ((IntKind.u64.wrap ((IntKind.u64.wrap (rd l0 x6_2)) * (IntKind.u64.wrap (rd l1 x8_3)))) + (IntKind.u64.wrap (rd x5_3 (ji16))))) + x7_3)) % 4294967296)))) ?hg ?ho ?hn ?hr ?_; (case ho => rfl); (case hg => rfl); (case hn => rfl); (case hr => first | (go_simp; done) | (go_simp; rfl)); intro w22 hw; have hg : wr.grownBy w22 (some go19) := (by rw [hw]; exact HP21.2); have hp_ : Kd.R (Kd.int .u32) 83 w22 w.heap.size (fun _ => True) (.slice (some ⟨go19, 0, none⟩) x5_3.length co20) y132 := (by rw [hw, Ny132.out]; exact HP21.1); clear HP21; have n0_ := asd (hp_); have n1_ := asd ((by rw [hw]; exact below_set (HB.out) GB19.out : Below w.heap.size w w22)); clear HO_5; clear HB; have HO_5 := n0_; have HB := n1_; clear n0_ n1_; clear hg hw hp_))
                 repeat (go_quiet (first | ((with_reducible refine gate_store (t := 83) (p := 63) rfl ?_); (try (rw [drewN_self wr]; generalize hq_ : World.drewN wr _ = wr; have n0_ := asd (Kd.R_at hq_ HO_5.out); have n1_ := asd (below_at hq_ HB.out); clear hq_ HO_5 HB; have HO_5 := n0_; have HB := n1_; clear n0_ n1_; (try (have HP21 := Kd.R_putg HO_5.out ((ji16) : Int) ((IntKind.u64.wrap ((IntKind.u64.wrap ((IntKind.u64.wrap ((IntKind.u64.wrap (rd l0 x6_2)) * (IntKind.u64.wrap (rd l1 x8_3)))) + (IntKind.u64.wrap (rd x5_3 (ji16))))) + x7_3)) % 4294967296))))); refine store_event (t := 83) (p := 63) (v := ?vo_w22) (w1 := (wr.setCell ⟨go19, ((ji16) : Int).toNat, none⟩ (.int .u32 ((IntKind.u64.wrap ((IntKind.u64.wrap ((IntKind.u64.wrap ((IntKind.u64.wrap (rd l0 x6_2)) * (IntKind.u64.wrap (rd l1 x8_3)))) + (IntKind.u64.wrap (rd x5_3 (ji16))))) + x7_3)) % 4294967296)))) ?hg ?ho ?hn ?hr ?_; (case ho => rfl); (case hg => rfl); (case hn => rfl); (case hr => first | (go_simp; done) | (go_simp; rfl)); intro w22 hw; have hg : wr.grownBy w22 (some go19) := (by rw [hw]; exact HP21.2); have hp_ : Kd.R (Kd.int .u32) 83 w22 w.heap.size (fun _ => True) (.slice (some ⟨go19, 0, none⟩) x5_3.length co20) y132 := (by rw [hw, Ny132.out]; exact HP21.1); clear HP21; have n0_ := asd (hp_); have n1_ := asd ((by rw [hw]; exact below_set (HB.out) GB19.out : Below w.heap.size w w22)); clear HO_5; clear HB; have HO_5 := n0_; have HB := n1_; clear n0_ n1_; clear hg hw hp_)); try go_wp2_with (first | ((with_reducible refine gate_store (t := 83) (p := 63) rfl ?_); (try (rw [drewN_self wr]; generalize hq_ : World.drewN wr _ = wr; have n0_ := asd (Kd.R_at hq_ HO_5.out); have n1_ := asd (below_at hq_ HB.out); clear hq_ HO_5 HB; have HO_5 := n0_; have HB := n1_; clear n0_ n1_; (try (have HP21 := Kd.R_putg HO_5.out ((ji16) : Int) ((IntKind.u64.wrap ((IntKind.u64.wrap ((IntKind.u64.wrap ((IntKind.u64.wrap (rd l0 x6_2)) * (IntKind.u64.wrap (rd l1 x8_3)))) + (IntKind.u64.wrap (rd x5_3 (ji16))))) + x7_3)) % 4294967296))))); refine store_event (t := 83) (p := 63) (v := ?vo_w22) (w1 := (wr.setCell ⟨go19, ((ji16) : Int).toNat, none⟩ (.int .u32 ((IntKind.u64.wrap ((IntKind.u64.wrap ((IntKind.u64.wrap ((IntKind.u64.wrap (rd l0 x6_2)) * (IntKind.u64.wrap (rd l1 x8_3)))) + (IntKind.u64.wrap (rd x5_3 (ji16))))) + x7_3)) % 4294967296)))) ?hg ?ho ?hn ?hr ?_; (case ho => rfl); (case hg => rfl); (case hn => rfl); (case hr => first | (go_simp; done) | (go_simp; rfl)); intro w22 hw; have hg : wr.grownBy w22 (some go19) := (by rw [hw]; exact HP21.2); have hp_ : Kd.R (Kd.int .u32) 83 w22 w.heap.size (fun _ => True) (.slice (some ⟨go19, 0, none⟩) x5_3.length co20) y132 := (by rw [hw, Ny132.out]; exact HP21.1); clear HP21; have n0_ := asd (hp_); have n1_ := asd ((by rw [hw]; exact below_set (HB.out) GB19.out : Below w.heap.size w w22)); clear HO_5; clear HB; have HO_5 := n0_; have HB := n1_; clear n0_ n1_; clear hg hw hp_)))
                 go_roundg k3
                 case measure => have := HJ2.out; have := HK2.out; have := HK3.out; omega
                 case rel => exact ⟨(y132), ((IntKind.u64.wrap ((IntKind.u64.wrap ((IntKind.u64.wrap ((IntKind.u64.wrap (rd l0 x6_2)) * (IntKind.u64.wrap (rd l1 x8_3)))) + (IntKind.u64.wrap (rd x5_3 (ji16))))) + x7_3)) / 4294967296), (wrap64 (x8_3 + 1)), (by first | rfl | (simp; done) | (simp only [← hji16] <;> (first | rfl | simp)) | (simp [*]; done)), eqB, H', ⟨by have := HJ2.out; have := HK2.out; have := HK3.out; omega⟩, ⟨by first | ((with_reducible repeat (first | apply Kd.R_alloc | apply Kd.R_drewN | apply Kd.R_drew)); exact HO_5.out) | (rw [Ny132.out]; exact (Kd.R_putg (Kd.R_drewN HO_5.out _) ji16 _).1)⟩, ⟨by first | exact below_set (pw_below_drewN HB.out) GB19.out | exact below_set (pw_below_drewN HB.out _) GB19.out | repeat (first | (with_reducible first | exact HB.out | apply below_alloc | apply pw_below_drewN | apply below_drew1) | exact HB.out)⟩⟩
                ·rw [if_neg c18] at H
                 exact absurd H (by simp)
               ·rw [if_neg c17] at H
                exact absurd H (by simp)
              ·rw [if_neg c15] at H
               exact absurd H (by simp)
             ·rw [if_neg c14] at H
              exact absurd H (by simp)
            ·rw [if_neg c13] at H
             exact absurd H (by simp)
           ·rw [if_neg c12] at H
            have c12b0 := decide_eq_false c12
            clear c12
            obtain ⟨ji23, hji23⟩ : ∃ j_ : Int, (wrap64 (x6_2 + (l1.length : Int))) = j_ := ⟨_, rfl⟩
            first | rw [hji23] at H | simp only [hji23] at H ⊢
            have hji23w : (IntKind.i64.wrap (x6_2 + (l1.length : Int))) = ji23 := (i64_w _).trans hji23
            by_cases c24 : 0 ≤ (ji23)
            ·rw [if_pos c24] at H
             have c24b0 := decide_eq_true c24
             clear c24
             by_cases c25 : (ji23) < (x5_3.length : Int)
             ·rw [if_pos c25] at H
              have c25b0 := decide_eq_true c25
              clear c25
              obtain ⟨y133, hy133⟩ : ∃ y_ : List Int, y_ = (x5_3.set ((ji23) : Int).toNat ((x7_3) % 4294967296)) := ⟨_, rfl⟩
              try rw [Option.bind_some] at H
              try rw [← hy133] at H
              have Ny133 := asd hy133
              clear hy133
              have H' := asd H
              clear H
              have p26 : 0 ≤ ((ji23) : Int) := odt
              have q26 : ((ji23) : Int) < ((x5_3.length : Int) : Int) := odt
              obtain ⟨go26, co26, eo26, gb26, gl26, cl26, HG26⟩ := Kd.R_form HO_5.out (by omega)
              (first | cases eo26 | (injection eo26 with ea_ en_ ec_; (first | subst ea_ | (injection ea_ with ea_; subst ea_)); subst ec_; clear en_))
              have GB26 := asd gb26
              have GG26 := asd HG26
              clear gb26 gl26 HG26
              obtain ⟨hx26_0, hf26_0⟩ := Kd.R_celln 0 HO_5.out ((ji23) : Int) p26 q26
              replace p26 := eq_true p26
              replace q26 := eq_true q26
              have HP27 := Kd.R_putg HO_5.out ((ji23) : Int) ((x7_3) % 4294967296)
              go_wp2_with (first | ((with_reducible refine gate_store (t := 83) (p := 73) rfl ?_); (try (rw [drewN_self wr]; generalize hq_ : World.drewN wr _ = wr; have n0_ := asd (Kd.R_at hq_ HO_5.out); have n1_ := asd (below_at hq_ HB.out); clear hq_ HO_5 HB; have HO_5 := n0_; have HB := n1_; clear n0_ n1_; (try (have HP27 := Kd.R_putg HO_5.out ((ji23) : Int) ((x7_3) % 4294967296))))); refine store_event (t := 83) (p := 73) (v := ?vo_w28) (w1 := (wr.setCell ⟨go26, ((ji23) : Int).toNat, none⟩ (.int .u32 ((x7_3) % 4294967296)))) ?hg ?ho ?hn ?hr ?_; (case ho => rfl); (case hg => rfl); (case hn => rfl); (case hr => first | (go_simp; done) | (go_simp; rfl)); intro w28 hw; have hg : wr.grownBy w28 (some go26) := (by rw [hw]; exact HP27.2); have hp_ : Kd.R (Kd.int .u32) 83 w28 w.heap.size (fun _ => True) (.slice (some ⟨go26, 0, none⟩) x5_3.length co26) y133 := (by rw [hw, Ny133.out]; exact HP27.1); clear HP27; have n0_ := asd (hp_); have n1_ := asd ((by rw [hw]; exact below_set (HB.out) GB26.out : Below w.heap.size w w28)); clear HO_5; clear HB; have HO_5 := n0_; have HB := n1_; clear n0_ n1_; clear hg hw hp_))
              repeat (go_quiet (first | ((with_reducible refine gate_store (t := 83) (p := 73) rfl ?_); (try (rw [drewN_self wr]; generalize hq_ : World.drewN wr _ = wr; have n0_ := asd (Kd.R_at hq_ HO_5.out); have n1_ := asd (below_at hq_ HB.out); clear hq_ HO_5 HB; have HO_5 := n0_; have HB := n1_; clear n0_ n1_; (try (have HP27 := Kd.R_putg HO_5.out ((ji23) : Int) ((x7_3) % 4294967296))))); refine store_event (t := 83) (p := 73) (v := ?vo_w28) (w1 := (wr.setCell ⟨go26, ((ji23) : Int).toNat, none⟩ (.int .u32 ((x7_3) % 4294967296)))) ?hg ?ho ?hn ?hr ?_; (case ho => rfl); (case hg => rfl); (case hn => rfl); (case hr => first | (go_simp; done) | (go_simp; rfl)); intro w28 hw; have hg : wr.grownBy w28 (some go26) := (by rw [hw]; exact HP27.2); have hp_ : Kd.R (Kd.int .u32) 83 w28 w.heap.size (fun _ => True) (.slice (some ⟨go26, 0, none⟩) x5_3.length co26) y133 := (by rw [hw, Ny133.out]; exact HP27.1); clear HP27; have n0_ := asd (hp_); have n1_ := asd ((by rw [hw]; exact below_set (HB.out) GB26.out : Below w.heap.size w w28)); clear HO_5; clear HB; have HO_5 := n0_; have HB := n1_; clear n0_ n1_; clear hg hw hp_)); try go_wp2_with (first | ((with_reducible refine gate_store (t := 83) (p := 73) rfl ?_); (try (rw [drewN_self wr]; generalize hq_ : World.drewN wr _ = wr; have n0_ := asd (Kd.R_at hq_ HO_5.out); have n1_ := asd (below_at hq_ HB.out); clear hq_ HO_5 HB; have HO_5 := n0_; have HB := n1_; clear n0_ n1_; (try (have HP27 := Kd.R_putg HO_5.out ((ji23) : Int) ((x7_3) % 4294967296))))); refine store_event (t := 83) (p := 73) (v := ?vo_w28) (w1 := (wr.setCell ⟨go26, ((ji23) : Int).toNat, none⟩ (.int .u32 ((x7_3) % 4294967296)))) ?hg ?ho ?hn ?hr ?_; (case ho => rfl); (case hg => rfl); (case hn => rfl); (case hr => first | (go_simp; done) | (go_simp; rfl)); intro w28 hw; have hg : wr.grownBy w28 (some go26) := (by rw [hw]; exact HP27.2); have hp_ : Kd.R (Kd.int .u32) 83 w28 w.heap.size (fun _ => True) (.slice (some ⟨go26, 0, none⟩) x5_3.length co26) y133 := (by rw [hw, Ny133.out]; exact HP27.1); clear HP27; have n0_ := asd (hp_); have n1_ := asd ((by rw [hw]; exact below_set (HB.out) GB26.out : Below w.heap.size w w28)); clear HO_5; clear HB; have HO_5 := n0_; have HB := n1_; clear n0_ n1_; clear hg hw hp_)))
              go_roundg k3
              case measure => have := HJ2.out; have := HK2.out; have := HK3.out; omega
              case rel => exact ⟨(y133), (wrap64 (x6_2 + 1)), eqB, H', ⟨by have := HJ2.out; have := HK2.out; have := HK3.out; omega⟩, ⟨by (with_reducible repeat (first | apply Kd.R_alloc | apply Kd.R_drewN | apply Kd.R_drew)); exact HO_5.out⟩, ⟨hbw⟩⟩
             ·rw [if_neg c25] at H
              exact absurd H (by simp)
            ·rw [if_neg c24] at H
             exact absurd H (by simp)
        ·rw [if_neg c11] at H
         have c11b0 := decide_eq_false c11
         clear c11
         replace H := Option.bind_eq_some_iff.mp H
         obtain ⟨t126, A290, H⟩ := H
         have A29 := asd A290
         clear A290
         obtain rfl := Option.some.inj H
         obtain ⟨Ao30, co30, eo30⟩ := Kd.R_slice HO_5.out
         subst eo30
         go_wp2_with (first | (go_at_call 99; (with_reducible refine (cuspref02_trim.calls k2 (fun k_ => some k_ = (.slice Ao30 x5_2.length co30 : Value).ownBlock) (.slice Ao30 x5_2.length co30) x5_2 t126 w _ ?side1 ?side2 A29.out).mono ?_); (case side1 => repeat (first | (with_reducible first | exact HB.out | apply below_alloc | apply pw_below_drewN | apply below_drew1) | exact HB.out)); (case side2 => exact Kd.R_tight rfl HO_5.out); rintro e w31 ⟨v127, rfl, ho0, hb, hkp⟩; have n0_ := asd (Kd.R_mono (ok' := fun k_ => True) ho0 (fun k_ hk_ => trivial)); have n1_ := asd (hb); clear HB; clear HO_5; have HO128 := n0_; have HB := n1_; clear n0_ n1_; (try clear hb); (try clear hkp); (try clear ho0)))
         repeat (go_quiet (first | (go_at_call 99; (with_reducible refine (cuspref02_trim.calls k2 (fun k_ => some k_ = (.slice Ao30 x5_2.length co30 : Value).ownBlock) (.slice Ao30 x5_2.length co30) x5_2 t126 w _ ?side1 ?side2 A29.out).mono ?_); (case side1 => repeat (first | (with_reducible first | exact HB.out | apply below_alloc | apply pw_below_drewN | apply below_drew1) | exact HB.out)); (case side2 => exact Kd.R_tight rfl HO_5.out); rintro e w31 ⟨v127, rfl, ho0, hb, hkp⟩; have n0_ := asd (Kd.R_mono (ok' := fun k_ => True) ho0 (fun k_ hk_ => trivial)); have n1_ := asd (hb); clear HB; clear HO_5; have HO128 := n0_; have HB := n1_; clear n0_ n1_; (try clear hb); (try clear hkp); (try clear ho0))); try go_wp2_with (first | (go_at_call 99; (with_reducible refine (cuspref02_trim.calls k2 (fun k_ => some k_ = (.slice Ao30 x5_2.length co30 : Value).ownBlock) (.slice Ao30 x5_2.length co30) x5_2 t126 w _ ?side1 ?side2 A29.out).mono ?_); (case side1 => repeat (first | (with_reducible first | exact HB.out | apply below_alloc | apply pw_below_drewN | apply below_drew1) | exact HB.out)); (case side2 => exact Kd.R_tight rfl HO_5.out); rintro e w31 ⟨v127, rfl, ho0, hb, hkp⟩; have n0_ := asd (Kd.R_mono (ok' := fun k_ => True) ho0 (fun k_ hk_ => trivial)); have n1_ := asd (hb); clear HB; clear HO_5; have HO128 := n0_; have HB := n1_; clear n0_ n1_; (try clear hb); (try clear hkp); (try clear ho0))))
         go_ret
         exact ⟨_, by first | rfl | (simp [errW_none, errW_some] <;> rfl) | (simp only [← hji6]; first | rfl | (simp [errW_none, errW_some] <;> rfl)) | (simp [*, errW_none, errW_some] <;> rfl), by (with_reducible repeat (first | apply Kd.R_alloc | apply Kd.R_drewN | apply Kd.R_drew)); exact HO128.out, hbw⟩
     ·rw [if_neg c8] at H
      exact absurd H (by simp)
    ·rw [if_neg c7] at H
     exact absurd H (by simp)
def cuspref02_Times.f (k : Nat) (a0_0 : Bool) (l0_1 : List Int) (a0_2 : Int) (a1_0 : Bool) (l1_1 : List Int) (a1_2 : Int) : Option (Bool × List Int × Int) := (cuspref02_product.f k l0_1 l1_1).bind fun t137 => ((cuspref02_norm.f k (a0_0 != a1_0) t137 (wrap64 (a0_2 + a1_2))).bind fun bt140 => (some (bt140.1, bt140.2.1, bt140.2.2)))
def cuspref02_Times.T1 : Bool × List (List Nat × List Nat) := (true, [([], []), ([0], [0]), ([], []), ([2], [2]), ([1, 3], [1, 3]), ([], []), ([5], [5]), ([], []), ([7], [7]), ([6, 8], [6, 8]), ([], []), ([10], [10]), ([], []), ([12], [12]), ([11, 13], [11, 13]), ([4, 9, 14, 9], [4, 9, 14]), ([15, 15, 0, 1, 2, 3, 4, 5, 6, 7, 8, 9, 10, 11, 12, 13, 14, 15], [15])])
def cuspref02_Times.B1 : List Nat := [0, 1, 0, 4, 15, 0, 32, 0, 128, 480, 0, 1024, 0, 4096, 15360, 32767, 65535]
theorem cuspref02_Times.tab1 : rtab .any (opsOf Tryz.f80 1) = cuspref02_Times.T1 := by kernel_rfl
theorem cuspref02_Times.bits1 : waitsOk cuspref02_Times.T1.2 cuspref02_Times.B1 = true := by kernel_rfl
theorem cuspref02_Times.calls (k : Nat) (a0_0 : Bool) (A0_1 : Option Addr) (c0_1 : Nat) (l0_1 : List Int) (a0_2 : Int) (a1_0 : Bool) (A1_1 : Option Addr) (c1_1 : Nat) (l1_1 : List Int) (a1_2 : Int) (r1 : Bool) (r2 : List Int) (r3 : Int) (w : World) (hr0_1 : Kd.C (Kd.int .u32) w A0_1 l0_1.length l0_1) (hc0_1 : l0_1.length ≤ c0_1) (hr1_1 : Kd.C (Kd.int .u32) w A1_1 l1_1.length l1_1) (hc1_1 : l1_1.length ≤ c1_1) (h : cuspref02_Times.f k a0_0 l0_1 a0_2 a1_0 l1_1 a1_2 = some (r1, r2, r3)) :
  Calls Tryz.prog 80 #[.agg #[.bool a0_0, .slice A0_1 l0_1.length c0_1, .int .i64 a0_2], .agg #[.bool a1_0, .slice A1_1 l1_1.length c1_1, .int .i64 a1_2]] w fun e w' => ∃ v1_ : Value, e = .returned (.agg #[.bool r1, v1_, .int .i64 r3]) ∧ Kd.R (Kd.int .u32) 83 w' w.heap.size (fun _ => True) v1_ r2 ∧ Below w.heap.size w w' := by
 have hu41 := Tryz.underlying41
 have HR0_1 := asd hr0_1
 have HC0_1 := asd hc0_1
 clear hr0_1 hc0_1
 have HR1_1 := asd hr1_1
 have HC1_1 := asd hc1_1
 clear hr1_1 hc1_1
 have HB := asd (Below.refl w.heap.size w)
 have H := h
 clear h
 unfold cuspref02_Times.f at H
 replace H := Option.bind_eq_some_iff.mp H
 obtain ⟨t137, A30, H⟩ := H
 have A3 := asd A30
 clear A30
 replace H := Option.bind_eq_some_iff.mp H
 obtain ⟨⟨t140, t141, t144⟩, A40, H⟩ := H
 replace H : (some (t140, t141, t144)) = some (r1, r2, r3) := H
 have A4 := asd A40
 clear A40
 simp only [Option.some.injEq, Prod.mk.injEq] at H
 obtain ⟨rfl, rfl, rfl⟩ := H
 go_enter Tryz.func80, Tryz.ntmps80
 try go_wp2_with (first | ((with_reducible refine gate_dst (N := 2) rfl ?_); refine box_ev (w := w) ?hg (N := 2) ?hd hbw (cs := #[.bool a0_0, .slice A0_1 l0_1.length c0_1, .int .i64 a0_2]) (t := 41) ?hr ?_; (case hd => rfl); (case hg => rfl); (case hr => first | (go_simp; done) | (go_simp; rfl)); clear HB; intro gb134 w5 HB BK134 GW134; have GE134 := GW134) | ((with_reducible refine gate_dst (N := 3) rfl ?_); refine box_event ?hg (N := 3) ?hd (cs := #[.bool a1_0, .slice A1_1 l1_1.length c1_1, .int .i64 a1_2]) (t := 41) ?hr ?_; (case hd => rfl); (case hg => rfl); (case hr => first | (go_simp; done) | (go_simp; rfl)); intro gb135 hg w6 hbox hb; have n0_ := asd (blk_below (g := gb134) (o := .cells #[.bool a0_0, .slice A0_1 l0_1.length c0_1, .int .i64 a0_2] 41 (0, 0)) (blkU BK134.out) hb); have n1_ := asd (below_step hbs hb); have n2_ := asd (hbox); have n3_ := asd ((by rw [hg]; exact (below_size hbs) : w.heap.size ≤ gb135)); have n4_ := asd ((by rw [hg]; exact (below_size hbs) : w.heap.size ≤ gb135)); have n5_ := asd ((by rw [hg]; exact Nat.ne_of_lt (blk_lt (g := gb134) (o := .cells #[.bool a0_0, .slice A0_1 l0_1.length c0_1, .int .i64 a0_2] 41 (0, 0)) (blkU BK134.out)) : gb134 ≠ gb135)); have n6_ := asd ((by rw [hg]; exact Nat.ne_of_gt (blk_lt (g := gb134) (o := .cells #[.bool a0_0, .slice A0_1 l0_1.length c0_1, .int .i64 a0_2] 41 (0, 0)) (blkU BK134.out)) : gb135 ≠ gb134)); clear BK134; clear HB; have BK134 := n0_; have HB := n1_; have BK135 := n2_; have GW135 := n3_; have GE135 := n4_; have NB134_135 := n5_; have NB135_134 := n6_; clear n0_ n1_ n2_ n3_ n4_ n5_ n6_; clear hb hbox hg) | ((with_reducible refine gate_dst (N := 4) rfl ?_); refine box_event ?hg (N := 4) ?hd (cs := #[.bool false, .slice none 0 0, .int .i64 0]) (t := 41) ?hr ?_; (case hd => rfl); (case hg => rfl); (case hr => first | (go_simp; done) | (go_simp; rfl)); intro gb136 hg w7 hbox hb; have n0_ := asd (blk_below (g := gb134) (o := .cells #[.bool a0_0, .slice A0_1 l0_1.length c0_1, .int .i64 a0_2] 41 (0, 0)) (blkU BK134.out) hb); have n1_ := asd (blk_below (g := gb135) (o := .cells #[.bool a1_0, .slice A1_1 l1_1.length c1_1, .int .i64 a1_2] 41 (0, 0)) (blkU BK135.out) hb); have n2_ := asd (below_step hbs hb); have n3_ := asd (hbox); have n4_ := asd ((by rw [hg]; exact (below_size hbs) : w.heap.size ≤ gb136)); have n5_ := asd ((by rw [hg]; exact (below_size hbs) : w.heap.size ≤ gb136)); have n6_ := asd ((by rw [hg]; exact Nat.ne_of_lt (blk_lt (g := gb134) (o := .cells #[.bool a0_0, .slice A0_1 l0_1.length c0_1, .int .i64 a0_2] 41 (0, 0)) (blkU BK134.out)) : gb134 ≠ gb136)); have n7_ := asd ((by rw [hg]; exact Nat.ne_of_gt (blk_lt (g := gb134) (o := .cells #[.bool a0_0, .slice A0_1 l0_1.length c0_1, .int .i64 a0_2] 41 (0, 0)) (blkU BK134.out)) : gb136 ≠ gb134)); have n8_ := asd ((by rw [hg]; exact Nat.ne_of_lt (blk_lt (g := gb135) (o := .cells #[.bool a1_0, .slice A1_1 l1_1.length c1_1, .int .i64 a1_2] 41 (0, 0)) (blkU BK135.out)) : gb135 ≠ gb136)); have n9_ := asd ((by rw [hg]; exact Nat.ne_of_gt (blk_lt (g := gb135) (o := .cells #[.bool a1_0, .slice A1_1 l1_1.length c1_1, .int .i64 a1_2] 41 (0, 0)) (blkU BK135.out)) : gb136 ≠ gb135)); clear BK134; clear BK135; clear HB; have BK134 := n0_; have BK135 := n1_; have HB := n2_; have BK136 := n3_; have GW136 := n4_; have GE136 := n5_; have NB134_136 := n6_; have NB136_134 := n7_; have NB135_136 := n8_; have NB136_135 := n9_; clear n0_ n1_ n2_ n3_ n4_ n5_ n6_ n7_ n8_ n9_; clear hb hbox hg))
 have n0_ := asd (blk_drew BK134.out)
 have n1_ := asd (blk_drew BK135.out)
 have n2_ := asd (blk_drew BK136.out)
 have n3_ := asd (below_drew1 HB.out)
 clear BK134
 clear BK135
 clear BK136
 clear HB
 have BK134 := n0_
 have BK135 := n1_
 have BK136 := n2_
 have HB := n3_
 clear n0_ n1_ n2_ n3_
 refine start_ (n := 17) (S := fun w' => w'.cell? ⟨gb134, 0, none⟩ = some (.bool a0_0) ∧ w'.cell? ⟨gb134, 1, none⟩ = some (.slice A0_1 l0_1.length c0_1) ∧ w'.cell? ⟨gb134, 2, none⟩ = some (.int .i64 a0_2) ∧ w'.cell? ⟨gb135, 0, none⟩ = some (.bool a1_0) ∧ w'.cell? ⟨gb135, 1, none⟩ = some (.slice A1_1 l1_1.length c1_1) ∧ w'.cell? ⟨gb135, 2, none⟩ = some (.int .i64 a1_2)) (ds := []) #[false, false, false, false, false, false, false, false, false, false, false, false, false, false, false, false, false] (by kernel_rfl) rfl rfl ⟨(blk_cell BK134.out 0).trans rfl, (blk_cell BK134.out 1).trans rfl, (blk_cell BK134.out 2).trans rfl, (blk_cell BK135.out 0).trans rfl, (blk_cell BK135.out 1).trans rfl, (blk_cell BK135.out 2).trans rfl⟩ (fun hHeld => ?_); refine with_tabW cuspref02_Times.tab1 cuspref02_Times.bits1 (fun HT_ HW_ => ?_)
 generalize w7.drew = w8 at BK134 BK135 BK136 HB hHeld ⊢
 refine pure_ (i := 0) (N := some 5) (v := ?_) (a' := ?_) #[true, false, false, false, false, false, false, false, false, false, false, false, false, false, false, false, false] rfl rfl (any_of HT_.out (by kernel_rfl)) (fun _ _ _ h => h) (Or.inl ⟨by rfl, ?_⟩) ?_ ?_
 rotate_left
 ·intro w'
  go_simp
  with_reducible rfl
 rotate_left
 ·simp only [Act.put, List.setIfInBounds_toArray, List.set_cons_zero, List.set_cons_succ, i64_w, i32_w]
  rfl
 refine pure_ (i := 2) (N := some 7) (v := ?_) (a' := ?_) #[true, false, true, false, false, false, false, false, false, false, false, false, false, false, false, false, false] rfl rfl (any_of HT_.out (by kernel_rfl)) (fun _ _ _ h => h) (Or.inl ⟨by rfl, ?_⟩) ?_ ?_
 rotate_left
 ·intro w'
  go_simp
  with_reducible rfl
 rotate_left
 ·simp only [Act.put, List.setIfInBounds_toArray, List.set_cons_zero, List.set_cons_succ, i64_w, i32_w]
  rfl
 refine pure_ (i := 5) (N := some 10) (v := ?_) (a' := ?_) #[true, false, true, false, false, true, false, false, false, false, false, false, false, false, false, false, false] rfl rfl (any_of HT_.out (by kernel_rfl)) (fun _ _ _ h => h) (Or.inl ⟨by rfl, ?_⟩) ?_ ?_
 rotate_left
 ·intro w'
  go_simp
  with_reducible rfl
 rotate_left
 ·simp only [Act.put, List.setIfInBounds_toArray, List.set_cons_zero, List.set_cons_succ, i64_w, i32_w]
  rfl
 refine pure_ (i := 7) (N := some 12) (v := ?_) (a' := ?_) #[true, false, true, false, false, true, false, true, false, false, false, false, false, false, false, false, false] rfl rfl (any_of HT_.out (by kernel_rfl)) (fun _ _ _ h => h) (Or.inl ⟨by rfl, ?_⟩) ?_ ?_
 rotate_left
 ·intro w'
  go_simp
  with_reducible rfl
 rotate_left
 ·simp only [Act.put, List.setIfInBounds_toArray, List.set_cons_zero, List.set_cons_succ, i64_w, i32_w]
  rfl
 refine pure_ (i := 10) (N := some 15) (v := ?_) (a' := ?_) #[true, false, true, false, false, true, false, true, false, false, true, false, false, false, false, false, false] rfl rfl (any_of HT_.out (by kernel_rfl)) (fun _ _ _ h => h) (Or.inl ⟨by rfl, ?_⟩) ?_ ?_
 rotate_left
 ·intro w'
  go_simp
  with_reducible rfl
 rotate_left
 ·simp only [Act.put, List.setIfInBounds_toArray, List.set_cons_zero, List.set_cons_succ, i64_w, i32_w]
  rfl
 refine pure_ (i := 12) (N := some 17) (v := ?_) (a' := ?_) #[true, false, true, false, false, true, false, true, false, false, true, false, true, false, false, false, false] rfl rfl (any_of HT_.out (by kernel_rfl)) (fun _ _ _ h => h) (Or.inl ⟨by rfl, ?_⟩) ?_ ?_
 rotate_left
 ·intro w'
  go_simp
  with_reducible rfl
 rotate_left
 ·simp only [Act.put, List.setIfInBounds_toArray, List.set_cons_zero, List.set_cons_succ, i64_w, i32_w]
  rfl
 refine take_ (i := 1) (N := some 6) (v := ?_) (a' := ?_) #[true, true, true, false, false, true, false, true, false, false, true, false, true, false, false, false, false] rfl rfl (take_ofW HT_.out HW_.out (by kernel_rfl)) (fun _ _ _ h => h) (Or.inl ⟨by rfl, ?_⟩) hHeld ?_ ?_
 rotate_left
 ·rintro w' ⟨s0, s1, s2, s3, s4, s5⟩
  go_simp
  with_reducible rfl
 rotate_left
 ·simp only [Act.put, List.setIfInBounds_toArray, List.set_cons_zero, List.set_cons_succ, i64_w, i32_w]
  rfl
 refine take_ (i := 3) (N := some 8) (v := ?_) (a' := ?_) #[true, true, true, true, false, true, false, true, false, false, true, false, true, false, false, false, false] rfl rfl (take_ofW HT_.out HW_.out (by kernel_rfl)) (fun _ _ _ h => h) (Or.inl ⟨by rfl, ?_⟩) hHeld ?_ ?_
 rotate_left
 ·rintro w' ⟨s0, s1, s2, s3, s4, s5⟩
  go_simp
  with_reducible rfl
 rotate_left
 ·simp only [Act.put, List.setIfInBounds_toArray, List.set_cons_zero, List.set_cons_succ, i64_w, i32_w]
  rfl
 refine pure_ (i := 4) (N := some 9) (v := ?_) (a' := ?_) #[true, true, true, true, true, true, false, true, false, false, true, false, true, false, false, false, false] rfl rfl (any_of HT_.out (by kernel_rfl)) (fun _ _ _ h => h) (Or.inl ⟨by rfl, ?_⟩) ?_ ?_
 rotate_left
 ·intro w'
  go_simp
  with_reducible rfl
 rotate_left
 ·simp only [Act.put, List.setIfInBounds_toArray, List.set_cons_zero, List.set_cons_succ, i64_w, i32_w]
  rfl
 refine take_ (i := 6) (N := some 11) (v := ?_) (a' := ?_) #[true, true, true, true, true, true, true, true, false, false, true, false, true, false, false, false, false] rfl rfl (take_ofW HT_.out HW_.out (by kernel_rfl)) (fun _ _ _ h => h) (Or.inl ⟨by rfl, ?_⟩) hHeld ?_ ?_
 rotate_left
 ·rintro w' ⟨s0, s1, s2, s3, s4, s5⟩
  go_simp
  with_reducible rfl
 rotate_left
 ·simp only [Act.put, List.setIfInBounds_toArray, List.set_cons_zero, List.set_cons_succ, i64_w, i32_w]
  rfl
 refine take_ (i := 8) (N := some 13) (v := ?_) (a' := ?_) #[true, true, true, true, true, true, true, true, true, false, true, false, true, false, false, false, false] rfl rfl (take_ofW HT_.out HW_.out (by kernel_rfl)) (fun _ _ _ h => h) (Or.inl ⟨by rfl, ?_⟩) hHeld ?_ ?_
 rotate_left
 ·rintro w' ⟨s0, s1, s2, s3, s4, s5⟩
  go_simp
  with_reducible rfl
 rotate_left
 ·simp only [Act.put, List.setIfInBounds_toArray, List.set_cons_zero, List.set_cons_succ, i64_w, i32_w]
  rfl
 refine take_ (i := 11) (N := some 16) (v := ?_) (a' := ?_) #[true, true, true, true, true, true, true, true, true, false, true, true, true, false, false, false, false] rfl rfl (take_ofW HT_.out HW_.out (by kernel_rfl)) (fun _ _ _ h => h) (Or.inl ⟨by rfl, ?_⟩) hHeld ?_ ?_
 rotate_left
 ·rintro w' ⟨s0, s1, s2, s3, s4, s5⟩
  go_simp
  with_reducible rfl
 rotate_left
 ·simp only [Act.put, List.setIfInBounds_toArray, List.set_cons_zero, List.set_cons_succ, i64_w, i32_w]
  rfl
 refine take_ (i := 13) (N := some 18) (v := ?_) (a' := ?_) #[true, true, true, true, true, true, true, true, true, false, true, true, true, true, false, false, false] rfl rfl (take_ofW HT_.out HW_.out (by kernel_rfl)) (fun _ _ _ h => h) (Or.inl ⟨by rfl, ?_⟩) hHeld ?_ ?_
 rotate_left
 ·rintro w' ⟨s0, s1, s2, s3, s4, s5⟩
  go_simp
  with_reducible rfl
 rotate_left
 ·simp only [Act.put, List.setIfInBounds_toArray, List.set_cons_zero, List.set_cons_succ, i64_w, i32_w]
  rfl
 refine pure_ (i := 14) (N := some 19) (v := ?_) (a' := ?_) #[true, true, true, true, true, true, true, true, true, false, true, true, true, true, true, false, false] rfl rfl (any_of HT_.out (by kernel_rfl)) (fun _ _ _ h => h) (Or.inl ⟨by rfl, ?_⟩) ?_ ?_
 rotate_left
 ·intro w'
  go_simp
  with_reducible rfl
 rotate_left
 ·simp only [Act.put, List.setIfInBounds_toArray, List.set_cons_zero, List.set_cons_succ, i64_w, i32_w]
  rfl
 refine one_ (i := 9) (N := some 14) #[true, true, true, true, true, true, true, true, true, true, true, true, true, true, true, false, false] rfl rfl (one_of HT_.out (by kernel_rfl)) (by decide) (fun K hK => ?_)
 refine goes_ Tryz.func108 (by kernel_rfl) rfl #[.slice A0_1 l0_1.length c0_1, .slice A1_1 l1_1.length c1_1] (by rfl) rfl rfl eqA ?_
 with_reducible refine (cuspref02_product.calls k _ _ l0_1 _ _ l1_1 t137 _ ?side1 ?side2 ?side3 ?side4 A3.out).mono ?_
 (case side1 => repeat (first | exact (Kd.C_below HR0_1.out HB.out) | (with_reducible refine Kd.C_alloc ?_ _) | (with_reducible refine Kd.C_drewN ?_ _) | (with_reducible refine Kd.C_drew ?_)))
 (case side2 => exact HC0_1.out)
 (case side3 => repeat (first | exact (Kd.C_below HR1_1.out HB.out) | (with_reducible refine Kd.C_alloc ?_ _) | (with_reducible refine Kd.C_drewN ?_ _) | (with_reducible refine Kd.C_drew ?_)))
 (case side4 => exact HC1_1.out)
 rintro e w9 ⟨v138, rfl, ho0, hb⟩
 refine ⟨_, rfl, ?_⟩
 have n0_ := asd (Kd.R_lower ho0 (below_size hbs))
 have n1_ := asd (blk_below (g := gb134) (o := .cells #[.bool a0_0, .slice A0_1 l0_1.length c0_1, .int .i64 a0_2] 41 (0, 0)) (blkU BK134.out) hb)
 have n2_ := asd (blk_below (g := gb135) (o := .cells #[.bool a1_0, .slice A1_1 l1_1.length c1_1, .int .i64 a1_2] 41 (0, 0)) (blkU BK135.out) hb)
 have n3_ := asd (blk_below (g := gb136) (o := .cells #[.bool false, .slice none 0 0, .int .i64 0] 41 (0, 0)) (blkU BK136.out) hb)
 have n4_ := asd (below_step hbs hb)
 clear BK134
 clear BK135
 clear BK136
 clear HB
 have HO139 := n0_
 have BK134 := n1_
 have BK135 := n2_
 have BK136 := n3_
 have HB := n4_
 clear n0_ n1_ n2_ n3_ n4_
 (try clear hb)
 (try clear hb2)
 (try clear hk)
 (try clear hi)
 (try clear ho0)
 obtain ⟨Ao10, co10, eo10⟩ := Kd.R_slice HO139.out
 (first | subst eo10 | (injection eo10 with f1_ f2_ f3_; have f4_ := f1_.symm; have f5_ := f3_.symm; clear f1_ f2_ f3_; subst f4_; subst f5_))
 refine hK.out _ _ ⟨(blk_cell BK134.out 0).trans rfl, (blk_cell BK134.out 1).trans rfl, (blk_cell BK134.out 2).trans rfl, (blk_cell BK135.out 0).trans rfl, (blk_cell BK135.out 1).trans rfl, (blk_cell BK135.out 2).trans rfl⟩ (fun hHeld => ?_)
 clear hK K
 refine norm_ (a' := ?_) ?_ ?_
 rotate_left
 ·show Act.put _ (some 14) _ = _
  simp only [Act.put, List.setIfInBounds_toArray, List.set_cons_zero, List.set_cons_succ, i64_w, i32_w]
  rfl
 refine one_ (i := 15) (N := some 20) #[true, true, true, true, true, true, true, true, true, true, true, true, true, true, true, true, false] rfl rfl (one_of HT_.out (by kernel_rfl)) (by decide) (fun K hK => ?_)
 refine goes_ Tryz.func65 (by kernel_rfl) rfl #[.bool (a0_0 != a1_0), .slice Ao10 t137.length co10, .int .i64 (wrap64 (a0_2 + a1_2))] (by rfl) rfl rfl eqA ?_
 with_reducible refine (cuspref02_norm.calls k (a0_0 != a1_0) (fun k_ => some k_ = (.slice Ao10 t137.length co10 : Value).ownBlock) (.slice Ao10 t137.length co10) t137 (wrap64 (a0_2 + a1_2)) t140 t141 t144 w _ ?side1 ?side2 A4.out).mono ?_
 (case side1 => repeat (first | (with_reducible first | exact HB.out | apply below_alloc | apply pw_below_drewN | apply below_drew1 | refine below_set ?_ GE134.out | refine below_set ?_ GE135.out | refine below_set ?_ GE136.out) | exact HB.out))
 (case side2 => exact Kd.R_tight rfl HO139.out)
 rintro e w11 ⟨v142, rfl, ho0, hb, hkp⟩
 refine ⟨_, rfl, ?_⟩
 have n0_ := asd (blk_kept (blkU BK134.out) hkp (fun hs_ => (fun e_ => (Kd.R_ne HO139.out BK134.out (by decide)) e_) hs_))
 have n1_ := asd (blk_kept (blkU BK135.out) hkp (fun hs_ => (fun e_ => (Kd.R_ne HO139.out BK135.out (by decide)) e_) hs_))
 have n2_ := asd (blk_kept (blkU BK136.out) hkp (fun hs_ => (fun e_ => (Kd.R_ne HO139.out BK136.out (by decide)) e_) hs_))
 have n3_ := asd (Kd.R_mono (ok' := fun k_ => True) ho0 (fun k_ hk_ => trivial))
 have n4_ := asd (hb)
 clear BK134
 clear BK135
 clear BK136
 clear HB
 clear HO139
 have BK134 := n0_
 have BK135 := n1_
 have BK136 := n2_
 have HO143 := n3_
 have HB := n4_
 clear n0_ n1_ n2_ n3_ n4_
 (try clear hb)
 (try clear hkp)
 (try clear ho0)
 obtain ⟨Ao13, co13, eo13⟩ := Kd.R_slice HO143.out
 (first | subst eo13 | (injection eo13 with f1_ f2_ f3_; have f4_ := f1_.symm; have f5_ := f3_.symm; clear f1_ f2_ f3_; subst f4_; subst f5_))
 refine hK.out _ _ ⟨(blk_cell BK134.out 0).trans rfl, (blk_cell BK134.out 1).trans rfl, (blk_cell BK134.out 2).trans rfl, (blk_cell BK135.out 0).trans rfl, (blk_cell BK135.out 1).trans rfl, (blk_cell BK135.out 2).trans rfl⟩ (fun hHeld => ?_)
 clear hK K
 refine norm_ (a' := ?_) ?_ ?_
 rotate_left
 ·show Act.put _ (some 20) _ = _
  simp only [Act.put, List.setIfInBounds_toArray, List.set_cons_zero, List.set_cons_succ, i64_w, i32_w]
  rfl
 refine one_ (i := 16) (N := none) #[true, true, true, true, true, true, true, true, true, true, true, true, true, true, true, true, true] rfl rfl (one_of HT_.out (by kernel_rfl)) (by decide) (fun K hK => ?_)
 have hs12 : w11.cell? ⟨gb136, 0, none⟩ = some (.bool false) := (blk_cell BK136.out 0).trans rfl
 have hfs12 := blk_frozen BK136.out 0
 have hns12_0 := NB134_136.out
 have hns12_1 := NB135_136.out
 have hms12_0 := NB136_134.out
 have hms12_1 := NB136_135.out
 have hs14 : w11.cell? ⟨gb136, 1, none⟩ = some (.slice none 0 0) := (blk_cell BK136.out 1).trans rfl
 have hfs14 := blk_frozen BK136.out 1
 have hns14_0 := NB134_136.out
 have hns14_1 := NB135_136.out
 have hms14_0 := NB136_134.out
 have hms14_1 := NB136_135.out
 have hs15 : w11.cell? ⟨gb136, 2, none⟩ = some (.int .i64 0) := (blk_cell BK136.out 2).trans rfl
 have hfs15 := blk_frozen BK136.out 2
 have hns15_0 := NB134_136.out
 have hns15_1 := NB135_136.out
 have hms15_0 := NB136_134.out
 have hms15_1 := NB136_135.out
 refine skip_ (w1 := ?_) (by rfl) rfl ?_ ?_
 rotate_left
 ·go_simp
  rfl
 refine hK.out _ _ ⟨((cell_far (p := ⟨gb136, _, none⟩) NB134_136.out _).trans (((cell_far (p := ⟨gb136, _, none⟩) NB134_136.out _).trans (((cell_far (p := ⟨gb136, _, none⟩) NB134_136.out _).trans (hHeld.1)))))), ((cell_far (p := ⟨gb136, _, none⟩) NB134_136.out _).trans (((cell_far (p := ⟨gb136, _, none⟩) NB134_136.out _).trans (((cell_far (p := ⟨gb136, _, none⟩) NB134_136.out _).trans (hHeld.2.1)))))), ((cell_far (p := ⟨gb136, _, none⟩) NB134_136.out _).trans (((cell_far (p := ⟨gb136, _, none⟩) NB134_136.out _).trans (((cell_far (p := ⟨gb136, _, none⟩) NB134_136.out _).trans (hHeld.2.2.1)))))), ((cell_far (p := ⟨gb136, _, none⟩) NB135_136.out _).trans (((cell_far (p := ⟨gb136, _, none⟩) NB135_136.out _).trans (((cell_far (p := ⟨gb136, _, none⟩) NB135_136.out _).trans (hHeld.2.2.2.1)))))), ((cell_far (p := ⟨gb136, _, none⟩) NB135_136.out _).trans (((cell_far (p := ⟨gb136, _, none⟩) NB135_136.out _).trans (((cell_far (p := ⟨gb136, _, none⟩) NB135_136.out _).trans (hHeld.2.2.2.2.1)))))), ((cell_far (p := ⟨gb136, _, none⟩) NB135_136.out _).trans (((cell_far (p := ⟨gb136, _, none⟩) NB135_136.out _).trans (((cell_far (p := ⟨gb136, _, none⟩) NB135_136.out _).trans (hHeld.2.2.2.2.2))))))⟩ (fun hHeld => ?_)
 clear hK K
 refine done_ (done_of HT_.out (by kernel_rfl)) ?_
 try go_wp2
 refine bodyPost_ret (results_cell_row rfl _ _ gb136 41 #[.bool t140, .slice Ao13 t141.length co13, .int .i64 t144] (0, 0) _ rfl (by (with_reducible repeat (first | refine blk_drewN ?_ _ | refine blk_drew ?_ | refine blk_alloc ?_ _)); refine blk_put (cs := #[.bool t140, .slice Ao13 t141.length co13, .int .i64 0]) ?_ 2 _ rfl; (with_reducible repeat (first | refine blk_drewN ?_ _ | refine blk_drew ?_ | refine blk_alloc ?_ _)); refine blk_put (cs := #[.bool t140, .slice none 0 0, .int .i64 0]) ?_ 1 _ rfl; (with_reducible repeat (first | refine blk_drewN ?_ _ | refine blk_drew ?_ | refine blk_alloc ?_ _)); refine blk_put (cs := #[.bool false, .slice none 0 0, .int .i64 0]) ?_ 0 _ rfl; (with_reducible repeat (first | refine blk_drewN ?_ _ | refine blk_drew ?_ | refine blk_alloc ?_ _)); exact BK136.out) Tryz.underlying41 rfl (by kernel_rfl)) rfl ?_
 exact ⟨_, eqC, by (with_reducible repeat (first | apply Kd.R_alloc | apply Kd.R_drewN | apply Kd.R_drew)); exact Kd.R_mono (Kd.R_far (p := ⟨gb136, 2, none⟩) (Kd.R_far (p := ⟨gb136, 1, none⟩) (Kd.R_far (p := ⟨gb136, 0, none⟩) (Kd.R_types HO143.out BK136.out (by decide)) (fun _ hk => hk.2) (.bool t140)) (fun _ hk => hk.2) (.slice Ao13 t141.length co13)) (fun _ hk => hk.2) (.int .i64 t144)) (fun _ hk => trivial), hbs⟩
end Go.Proofs.YthmeocigliephaaGreatDoor.PSd
end
section
namespace Go.Proofs.YthmeocigliephaaGreatDoor.Big
open Go.Proofs.YthmeocigliephaaGreatDoor.Plain
theorem rmul_l1_step (k : Nat) (x0 x1 x5 : List Int) (x6 x7 x8 w t s : Int) (h1 : x8 < (x1.length : Int)) (h2 : 0 ≤ x6) (h3 : x6 < (x0.length : Int)) (h8 : 0 ≤ x8) (hw : wrap64 (x6 + x8) = w) (h4 : 0 ≤ w) (h5 : w < (x5.length : Int))
    (ht : (IntKind.u64.wrap ((IntKind.u64.wrap ((IntKind.u64.wrap ((IntKind.u64.wrap (rd x0 x6)) * (IntKind.u64.wrap (rd x1 x8)))) + (IntKind.u64.wrap (rd x5 w)))) + x7)) = t) (hs : wrap64 (x8 + 1) = s) :
    PSd.cuspref02_product.l1 (k + 1) x0 x1 x5 x6 x7 x8 = PSd.cuspref02_product.l1 k x0 x1 (x5.set w.toNat (t % 4294967296)) x6 (t / 4294967296) s := by
  rw [PSd.cuspref02_product.l1, if_pos h1, if_pos h2, if_pos h3, if_pos h8, hw, if_pos h4, if_pos h5, ht, hs]
theorem rmul_t (c xd qd yd t : Nat) (hc : c < 4294967296) (h1 : xd < 4294967296) (h2 : qd < 4294967296) (h3 : yd < 4294967296) (ht : xd * qd + yd + c = t) (hr : t < 18446744073709551616) :
    IntKind.u64.wrap (IntKind.u64.wrap (IntKind.u64.wrap (IntKind.u64.wrap (xd : Int) * IntKind.u64.wrap (qd : Int)) + IntKind.u64.wrap (yd : Int)) + (c : Int)) = (t : Int) := by
  rw [Int.add_comm _ (c : Int)]
  exact mul_t c xd qd yd t hc h1 h2 h3 ht hr
theorem rmul_step (p q x : List Int) (i j c xd qd yd t : Nat) (hp : p.getD i 0 = (xd : Int)) (hi : i < p.length) (hq : q.getD j 0 = (qd : Int)) (hy : x.getD (i + j) 0 = (yd : Int)) (hj : j < q.length) (hx : i + j < x.length) (hb : x.length < 35184372088831)
    (hc : c < 4294967296) (h1 : xd < 4294967296) (h2 : qd < 4294967296) (h3 : yd < 4294967296) (ht : xd * qd + yd + c = t) (hr : t < 18446744073709551616) (k : Nat) (hql : q.length < 35184372088831) :
    PSd.cuspref02_product.l1 (k + 1) p q x (i : Int) (c : Int) (j : Int) = PSd.cuspref02_product.l1 k p q (x.set (i + j) ((t % 4294967296 : Nat) : Int)) (i : Int) ((t / 4294967296 : Nat) : Int) ((j + 1 : Nat) : Int) := by
  have h1' : (j : Int) < (q.length : Int) := by omega
  have h2' : (0 : Int) ≤ (i : Int) := by omega
  have h3' : (i : Int) < (p.length : Int) := by omega
  have h8' : (0 : Int) ≤ (j : Int) := by omega
  have h4' : (0 : Int) ≤ ((i + j : Nat) : Int) := by omega
  have h5' : ((i + j : Nat) : Int) < (x.length : Int) := by omega
  have b1 : (-9223372036854775808 : Int) ≤ (i : Int) + (j : Int) := by omega
  have b2 : (i : Int) + (j : Int) < 9223372036854775808 := by omega
  have h6' : wrap64 ((j : Int) + 1) = ((j + 1 : Nat) : Int) := w64_succ (by omega)
  have ew : wrap64 ((i : Int) + (j : Int)) = ((i + j : Nat) : Int) := (w64_of b1 b2).trans (Int.natCast_add i j).symm
  have e0 : rd p (i : Int) = (xd : Int) := by rw [rd_nat, hp]
  have e1 : rd q (j : Int) = (qd : Int) := by rw [rd_nat, hq]
  have e2 : rd x ((i + j : Nat) : Int) = (yd : Int) := by rw [rd_nat, hy]
  have := rmul_l1_step k p q x (i : Int) (c : Int) (j : Int) ((i + j : Nat) : Int) (t : Int) ((j + 1 : Nat) : Int) h1' h2' h3' h8' ew h4' h5' (by rw [e0, e1, e2]; exact rmul_t c xd qd yd t hc h1 h2 h3 ht hr) h6'
  clear ht hr h1 h2 h3 e0 e1 e2 ew h6'
  rw [this, Int.toNat_natCast]
  clear this
  have e3 : (t : Int) % 4294967296 = ((t % 4294967296 : Nat) : Int) := by omega
  have e4 : (t : Int) / 4294967296 = ((t / 4294967296 : Nat) : Int) := by omega
  rw [e3, e4]
theorem rmul_in (p q : List Int) (i : Nat) (hi : i < p.length) (res : List Int) (xd : Nat) (hxd : p.getD i 0 = (xd : Int)) (hx32 : xd < 4294967296)
    (hout : ∀ x : List Int, x.length = p.length + q.length → Dg x → val x = val (p.take i) * val q + 2 ^ (32 * i) * (xd * val q) → Ev (fun k => PSd.cuspref02_product.l0 k p q x (((i + 1 : Nat) : Int))) res) (hq : Dg q) (hb : p.length + q.length < 35184372088831) :
    ∀ (d j c : Nat) (x : List Int), d = q.length - j → j ≤ q.length → x.length = p.length + q.length → Dg x → c < 4294967296 → x.getD (i + q.length) 0 = 0 →
      val x + 2 ^ (32 * (i + j)) * c = val (p.take i) * val q + 2 ^ (32 * i) * (xd * val (q.take j)) →
      Ev (fun k => PSd.cuspref02_product.l1 k p q x (i : Int) (c : Int) (j : Int)) res := by
  intro d
  induction d with
  | zero =>
    intro j c x hd hj hx hdx hc h0 hv
    have hj' : j = q.length := by omega
    subst hj'
    rw [List.take_length] at hv
    have hs := val_set x (i + q.length) (c : Int) (by omega)
    rw [h0] at hs
    simp only [Int.toNat_natCast, Int.toNat_zero, Nat.mul_zero, Nat.add_zero] at hs
    rw [hv] at hs
    refine Ev.step (fun k => ?_) (hout (x.set (i + q.length) (c : Int)) (by simp [hx]) (hdx.set _ (by omega) (by omega)) hs)
    clear hs hv
    simp only [PSd.cuspref02_product.l1]
    rw [if_neg (by omega), w64_of (x := (i : Int) + (q.length : Int)) (by omega) (by omega), if_pos (by omega), if_pos (by omega), w64_succ (by omega), show (c : Int) % 4294967296 = c from by omega, show ((i : Int) + (q.length : Int)).toNat = i + q.length from by omega]
  | succ d ih =>
    intro j c x hd hj hx hdx hc h0 hv
    obtain ⟨qd, hqd, hq1⟩ := hq.nat j
    obtain ⟨yd, hyd, hy1⟩ := hdx.nat (i + j)
    have tq := val_take_succ' q j
    rw [hqd, Int.toNat_natCast] at tq
    obtain ⟨t, ht⟩ : ∃ t, xd * qd + yd + c = t := ⟨_, rfl⟩
    have hr : t < 18446744073709551616 := ht ▸ mul_round xd qd yd c hx32 hq1 hy1 hc
    have hs := val_set x (i + j) ((t % 4294967296 : Nat) : Int) (by omega)
    rw [hyd, Int.toNat_natCast, Int.toNat_natCast] at hs
    have hnew : val (x.set (i + j) ((t % 4294967296 : Nat) : Int)) + 2 ^ (32 * (i + (j + 1))) * (t / 4294967296) = val (p.take i) * val q + 2 ^ (32 * i) * (xd * val (q.take (j + 1))) := by
      have e1 : 2 ^ (32 * (i + (j + 1))) * (t / 4294967296) = 2 ^ (32 * (i + j)) * (4294967296 * (t / 4294967296)) := by
        rw [show i + (j + 1) = (i + j) + 1 from rfl, pow32_succ, Nat.mul_comm 4294967296, Nat.mul_assoc]
      have e4 : 2 ^ (32 * i) * (xd * val (q.take (j + 1))) = 2 ^ (32 * i) * (xd * val (q.take j)) + 2 ^ (32 * (i + j)) * (xd * qd) := by
        rw [tq, Nat.mul_add, Nat.mul_add, Nat.mul_add 32 i j, Nat.pow_add, Nat.mul_left_comm xd, Nat.mul_assoc]
      rw [e1]
      exact mul_new _ _ _ xd qd yd c t _ _ _ ht hs hv e4
    have hlt : t % 4294967296 < 4294967296 := Nat.mod_lt _ (by omega)
    have hdv : t / 4294967296 < 4294967296 := Nat.div_lt_of_lt_mul hr
    clear hs hv tq
    have hgo := ih (j + 1) (t / 4294967296) (x.set (i + j) ((t % 4294967296 : Nat) : Int)) (by omega) (by omega) (by rw [List.length_set]; exact hx) (hdx.set _ (Int.natCast_nonneg _) (Int.ofNat_lt.2 hlt)) hdv (by rw [Plain.getD_set_ne _ (by omega)]; exact h0) hnew
    exact Ev.step (fun k => rmul_step p q x i j c xd qd yd t hxd hi hqd hyd (by omega) (by omega) (by omega) hc hx32 hq1 hy1 ht hr k (by omega)) hgo
theorem rmul_out (p q : List Int) (hp : Dg p) (hq : Dg q) (hb : p.length + q.length < 35184372088831) :
    ∀ (d i : Nat) (x : List Int), d = p.length - i → i ≤ p.length → x.length = p.length + q.length → Dg x → val x = val (p.take i) * val q →
      Ev (fun k => PSd.cuspref02_product.l0 k p q x (i : Int)) (dig (val p * val q)) := by
  intro d
  induction d with
  | zero =>
    intro i x hd hi hx hdx hv
    have hi' : i = p.length := by omega
    subst hi'
    rw [List.take_length] at hv
    have ht := rtrim_law hdx (by omega)
    rw [hv] at ht
    refine Ev.step (f := fun k => PSu.cuspref02_trim.f k x) (fun k => ?_) ht
    simp only [PSd.cuspref02_product.l0]
    rw [if_neg (by omega)]
    cases PSu.cuspref02_trim.f k x <;> rfl
  | succ d ih =>
    intro i x hd hi hx hdx hv
    obtain ⟨xd, hxd, hx1⟩ := hp.nat i
    have tp := val_take_succ' p i
    rw [hxd, Int.toNat_natCast] at tp
    have h0 : x.getD (i + q.length) 0 = 0 := by
      refine getD_zero_of_val hdx ?_
      have h1 := val_lt (hp.take i)
      rw [List.length_take, Nat.min_eq_left (by omega)] at h1
      have h2 := val_lt hq
      rw [hv, Nat.mul_add, Nat.pow_add]
      rcases Nat.eq_zero_or_pos (val q) with h | h
      · rw [h, Nat.mul_zero]; exact Nat.mul_pos (pow32_pos _) (pow32_pos _)
      · exact Nat.mul_lt_mul_of_lt_of_le h1 (Nat.le_of_lt h2) (pow32_pos _)
    have hin := rmul_in p q i (by omega) (dig (val p * val q)) xd hxd hx1
      (fun x' hx' hdx' hv' => ih (i + 1) x' (by omega) (by omega) hx' hdx' (by rw [hv', tp, Nat.add_mul, Nat.mul_assoc])) hq hb _ 0 0 x rfl (by omega) hx hdx (by omega) h0 (by simp [hv])
    refine Ev.step (fun k => ?_) hin
    simp only [PSd.cuspref02_product.l0]
    rw [if_pos (by omega)]
    rfl
theorem rmul_law (a b : Nat) (hb : (dig a).length + (dig b).length < 35184372088831) : Ev (fun k => PSd.cuspref02_product.f k (dig a) (dig b)) (dig (a * b)) := by
  unfold PSd.cuspref02_product.f
  by_cases ha : a = 0
  · subst ha
    rw [Nat.zero_mul, dig_zero]
    refine Ev.congr (fun k => if_pos rfl) (Ev.step (f := fun _ => some []) (fun k => ?_) (Ev.now _))
    simp only [PSd.cuspref02_product.j0]; rfl
  · have hla : (dig a).length ≠ 0 := fun h => dig_ne ha (List.length_eq_zero_iff.1 h)
    refine Ev.congr (fun k => if_neg (by omega)) ?_
    by_cases hb0 : b = 0
    · subst hb0
      rw [Nat.mul_zero, dig_zero]
      refine Ev.step (f := fun _ => some []) (fun k => ?_) (Ev.now _)
      simp only [PSd.cuspref02_product.j0]; rfl
    · have hlb : (dig b).length ≠ 0 := fun h => dig_ne hb0 (List.length_eq_zero_iff.1 h)
      have h := rmul_out (dig a) (dig b) (dg_dig a) (dg_dig b) hb _ 0 (List.replicate ((dig a).length + (dig b).length) 0) rfl (by omega) (by simp) (Dg.zeros _) (by rw [val_zeros]; simp)
      rw [val_dig, val_dig] at h
      refine Ev.step (fun k => ?_) h
      simp only [PSd.cuspref02_product.j0]
      have e : wrap64 (((dig a).length : Int) + ((dig b).length : Int)) = (((dig a).length + (dig b).length : Nat) : Int) := by rw [w64_of (by omega) (by omega)]; omega
      rw [if_neg (by simp; exact dig_ne hb0), e, if_pos (by omega), if_pos (by omega), Int.toNat_natCast]
      rfl
theorem PSu_norm (neg : Bool) (l : List Int) (e : Int) (hd : Dg l) (hb : l.length < 1000000) (he : -4000000000 ≤ e) (he1 : e ≤ 4000000000) :
    Ev (fun k => PSu.cuspref02_norm.f k neg l e) (canN (if neg = true then -(val l : Int) else val l) e) :=
  rnorm_law neg l e hd hb he he1
theorem can_form {x : Int} (hx : bl x.natAbs ≤ 3000) (e : Int) : ∃ (n : Bool) (a t : Nat), canN x e = (n, dig a, if x = 0 then 0 else e + (t : Int)) ∧ (if n = true then -(a : Int) else (a : Int)) * 2 ^ t = x ∧ (dig a).length < 100000 ∧ t ≤ 3000 := by
  by_cases h : x = 0
  · subst h
    exact ⟨false, 0, 0, by rw [canN_zero, dig_zero, if_pos rfl], by simp, by rw [dig_zero]; simp, by omega⟩
  · have hn : x.natAbs ≠ 0 := by omega
    have h3 := odd_mul hn
    have ho := odd_ne hn
    have h4 := bl_mul_pow ho (tz x.natAbs)
    rw [h3] at h4
    have hb : bl (odd x.natAbs) ≤ 3200 := by omega
    refine ⟨decide (x < 0), odd x.natAbs, tz x.natAbs, by rw [canN_ne h, if_neg h]; rfl, ?_, ?_, by omega⟩
    · have hc : ((odd x.natAbs : Nat) : Int) * 2 ^ tz x.natAbs = (x.natAbs : Int) := by
        have := congrArg (fun n : Nat => (n : Int)) h3
        simpa [Int.natCast_mul, Int.natCast_pow] using this
      by_cases h0 : x < 0
      · rw [if_pos (decide_eq_true h0), Int.neg_mul, hc]; omega
      · rw [if_neg (by simpa using h0), hc]; omega
    · have := bl_le.1 hb
      rw [show (3200 : Nat) = 32 * 100 from rfl] at this
      have := dig_length_le this
      omega
theorem rtimes_can {x y e g : Int} (hx : bl x.natAbs ≤ 3000) (hy : bl y.natAbs ≤ 3000) (he : -100000 ≤ e ∧ e ≤ 100000) (hg : -100000 ≤ g ∧ g ≤ 100000) :
    Ev (fun k => PSd.cuspref02_Times.f k (canN x e).1 (canN x e).2.1 (canN x e).2.2 (canN y g).1 (canN y g).2.1 (canN y g).2.2) (canN (x * y) (e + g)) := by
  have hz : ∀ e : Int, canN 0 e = (false, dig 0, 0) := fun e => by rw [canN_zero, dig_zero]
  have key : ∀ (n m : Bool) (a b : Nat) (u v : Int) (ha : (dig a).length < 100000) (hb : (dig b).length < 100000) (hu : -200000 ≤ u ∧ u ≤ 200000) (hv : -200000 ≤ v ∧ v ≤ 200000),
      Ev (fun k => PSd.cuspref02_Times.f k n (dig a) u m (dig b) v) (canN (if (n != m) = true then -((a * b : Nat) : Int) else ((a * b : Nat) : Int)) (u + v)) := by
    intro n m a b u v ha hb hu hv
    unfold PSd.cuspref02_Times.f
    refine Ev.bind (rmul_law a b (by omega)) ?_
    have hl : (dig (a * b)).length < 1000000 := by
      have h1 := val_lt (dg_dig a)
      have h2 := val_lt (dg_dig b)
      rw [val_dig] at h1 h2
      have h3 : a * b < 2 ^ (32 * ((dig a).length + (dig b).length)) := by
        rw [Nat.mul_add, Nat.pow_add]
        rcases Nat.eq_zero_or_pos b with h | h
        · subst h; rw [Nat.mul_zero]; exact Nat.mul_pos (pow32_pos _) (pow32_pos _)
        · exact Nat.mul_lt_mul_of_lt_of_le h1 (Nat.le_of_lt h2) (pow32_pos _)
      have := dig_length_le h3
      omega
    have hn := PSu_norm (n != m) (dig (a * b)) (u + v) (dg_dig _) hl (by omega) (by omega)
    rw [val_dig] at hn
    have hw : wrap64 (u + v) = u + v := w64_of (by omega) (by omega)
    rw [hw]
    exact Ev.bind hn (Ev.now _)
  obtain ⟨n, a, t, ca, va, la, ta⟩ := can_form hx e
  obtain ⟨m, b, r, cb, vb, lb, tb⟩ := can_form hy g
  have hk := key n m a b (if x = 0 then 0 else e + (t : Int)) (if y = 0 then 0 else g + (r : Int)) la lb (by split <;> omega) (by split <;> omega)
  rw [ca, cb]
  have hs : (if (n != m) = true then -((a * b : Nat) : Int) else ((a * b : Nat) : Int)) = (if n = true then -(a : Int) else (a : Int)) * (if m = true then -(b : Int) else (b : Int)) := by
    rw [Int.natCast_mul]
    cases n <;> cases m <;> simp [Int.neg_mul, Int.mul_neg]
  rw [hs] at hk
  obtain ⟨za, hza⟩ : ∃ z : Int, (if n = true then -(a : Int) else (a : Int)) = z := ⟨_, rfl⟩
  obtain ⟨zb, hzb⟩ : ∃ z : Int, (if m = true then -(b : Int) else (b : Int)) = z := ⟨_, rfl⟩
  rw [hza, hzb] at hk
  rw [hza] at va
  rw [hzb] at vb
  have hfin : canN (za * zb) ((if x = 0 then 0 else e + (t : Int)) + (if y = 0 then 0 else g + (r : Int))) = canN (x * y) (e + g) := by
    have hxy : x * y = za * zb * 2 ^ (t + r) := by rw [← va, ← vb, Int.pow_add, Int.mul_assoc, Int.mul_assoc, Int.mul_left_comm (2 ^ t) zb]
    rw [hxy, canN_shift]
    by_cases h0 : za * zb = 0
    · rw [h0, canN_zero, canN_zero]
    · have hx0 : x ≠ 0 := fun h => h0 (by
        have hp : (2 : Int) ^ t ≠ 0 := Int.ne_of_gt (Int.pow_pos (by omega))
        rw [h] at va
        rcases Int.mul_eq_zero.1 va with h | h
        · rw [h, Int.zero_mul]
        · exact absurd h hp)
      have hy0 : y ≠ 0 := fun h => h0 (by
        have hp : (2 : Int) ^ r ≠ 0 := Int.ne_of_gt (Int.pow_pos (by omega))
        rw [h] at vb
        rcases Int.mul_eq_zero.1 vb with h | h
        · rw [h, Int.mul_zero]
        · exact absurd h hp)
      rw [if_neg hx0, if_neg hy0]
      congr 1
      omega
  rw [hfin] at hk
  exact hk
end Go.Proofs.YthmeocigliephaaGreatDoor.Big
end
section
namespace Go.Proofs.YthmeocigliephaaGreatDoor.PSd
open Go.Proofs.YthmeocigliephaaGreatDoor.PSu Go.Proofs.YthmeocigliephaaGreatDoor.PSv Go.RowKit Go.Proofs.YthmeocigliephaaGreatDoorW.PrintWords Go.Proofs.YthmeocigliephaaGreatDoorW.PrintLast Go.Proofs.YthmeocigliephaaGreatDoorW.PrintMore
attribute [local go_sem] f64bits_run f64from_run run_float_some max2_int min2_int max_two min_two max_three min_three max_four min_four
mutual
def cuspref05_Dot.j0 : Nat → List Nat → List Nat → Int → Bool → Option (Nat × Int)
 | 0, _, _, _, _ => none
 | k + 1, x0, x1, x2, x22 => if x22 = true then (some ((0 : Nat), 1)) else (if ([] : List Nat).length + x0.length < 17592186044416 then ((cuspref05_Fault.f k x0).bind fun t149 => (if t149 = 2 then (cuspref05_Dot.j2 k x0 x1 x2 t149) else ((cuspref05_Fault.f k x1).bind fun t150 => (if t149 = 4 then (cuspref05_Dot.j1 k x0 x1 x2 t149 t150 true) else (cuspref05_Dot.j1 k x0 x1 x2 t149 t150 (t150 == 4)))))) else (none))
def cuspref05_Dot.j2 : Nat → List Nat → List Nat → Int → Int → Option (Nat × Int)
 | 0, _, _, _, _ => none
 | k + 1, x0, x1, x2, x9 => if x9 = 0 then (cuspref05_Dot.l0 k x0 x1 x2 0 false ([] : List Int) 0) else (some ((0 : Nat), x9))
def cuspref05_Dot.l0 : Nat → List Nat → List Nat → Int → Int → Bool → List Int → Int → Option (Nat × Int)
 | 0, _, _, _, _, _, _, _ => none
 | k + 1, x0, x1, x2, x12, x152000, x152001, x152002 => if x12 < (x0.length : Int) then (if 0 ≤ x12 then ((cuspref02_Float.f k (rdOf (0 : Nat) x0 x12)).bind fun bt154 => (if x12 < (x1.length : Int) then ((cuspref02_Float.f k (rdOf (0 : Nat) x1 x12)).bind fun bt160 => ((cuspref02_Times.f k bt154.1 bt154.2.1 bt154.2.2 bt160.1 bt160.2.1 bt160.2.2).bind fun bt165 => ((cuspref02_Plus.f x152000 x152001 x152002 bt165.1 bt165.2.1 bt165.2.2).bind fun bt170 => (cuspref05_Dot.l0 k x0 x1 x2 (wrap64 (x12 + 1)) bt170.1 bt170.2.1 bt170.2.2)))) else (none))) else (none)) else ((cuspref03_R.f x152000 x152001 x152002 x2 (0 : Nat)).bind fun t152 => (some (t152, 0)))
def cuspref05_Dot.j1 : Nat → List Nat → List Nat → Int → Int → Int → Bool → Option (Nat × Int)
 | 0, _, _, _, _, _, _ => none
 | k + 1, x0, x1, x2, x9, x10, x32 => if x32 = true then (cuspref05_Dot.j2 k x0 x1 x2 4) else (if x10 = 0 then (cuspref05_Dot.j2 k x0 x1 x2 x9) else (cuspref05_Dot.j2 k x0 x1 x2 x10))
end
def cuspref05_Dot.f (k : Nat) (l0 : List Nat) (l1 : List Nat) (a2 : Int) : Option (Nat × Int) := (cuspref03_Valid.f a2).bind fun t145 => (if t145 = 0 then (cuspref05_Dot.j0 k l0 l1 a2 ((l0.length : Int) != (l1.length : Int))) else (cuspref05_Dot.j0 k l0 l1 a2 true))
def cuspref05_Dot.T18 : Bool × List (List Nat × List Nat) := (true, [([], []), ([], []), ([], []), ([1, 2], [1, 2]), ([3], [3]), ([4], [4]), ([], []), ([], []), ([6, 7], [6, 7]), ([8], [8]), ([9, 5], [9]), ([5, 10, 10], [5, 10]), ([0, 11, 11], [0, 11]), ([12, 12, 0, 1, 2, 3, 4, 5, 6, 7, 8, 9, 10, 11, 12], [12])])
def cuspref05_Dot.B18 : List Nat := [0, 0, 0, 6, 14, 30, 0, 0, 192, 448, 1022, 2046, 4095, 8191]
theorem cuspref05_Dot.tab18 : rtab .any (opsOf Tryz.f34 18) = cuspref05_Dot.T18 := by kernel_rfl
theorem cuspref05_Dot.bits18 : waitsOk cuspref05_Dot.T18.2 cuspref05_Dot.B18 = true := by kernel_rfl
theorem cuspref05_Dot.calls (k : Nat) (A0 : Option Addr) (c0 : Nat) (l0 : List Nat) (A1 : Option Addr) (c1 : Nat) (l1 : List Nat) (a2 : Int) (r1 : Nat) (r2 : Int) (w : World) (hr0 : Kd.C Kd.float w A0 l0.length l0) (hc0 : l0.length ≤ c0) (hr1 : Kd.C Kd.float w A1 l1.length l1) (hc1 : l1.length ≤ c1) (h : cuspref05_Dot.f k l0 l1 a2 = some (r1, r2)) :
  Calls Tryz.prog 34 #[.slice A0 l0.length c0, .slice A1 l1.length c1, .int .i64 a2] w fun e w' => e = .returned (.tuple #[.float .f64 r1, .int .i64 r2]) ∧ Below w.heap.size w w' := by
 have hu41 := Tryz.underlying41
 have HR0 := asd hr0
 have HC0 := asd hc0
 clear hr0 hc0
 have HR1 := asd hr1
 have HC1 := asd hc1
 clear hr1 hc1
 have HB := asd (Below.refl w.heap.size w)
 have H := h
 clear h
 unfold cuspref05_Dot.f at H
 have HC4 := asd H
 clear H
 go_enter Tryz.func34, Tryz.ntmps34
 go_upto_region 1 with (fail)
 go_cut [22] (fun v22 wc => ∃ (kq : Nat) (x22_3 : Bool), v22 = .bool x22_3 ∧ Aside0 (cuspref05_Dot.j0 kq l0 l1 a2 x22_3 = some (r1, r2)) ∧ Aside0 (kq ≤ k) ∧ Aside0 (Below w.heap.size w wc))
 case first =>
  have H := HC4.out
  clear HC4
  replace H := Option.bind_eq_some_iff.mp H
  obtain ⟨t145, A50, H⟩ := H
  have A5 := asd A50
  clear A50
  by_cases c6 : t145 = 0
  ·rw [if_pos c6] at H
   have c6b0 := beq_iff_eq.mpr c6
   have c6b1 := bne_eq_false_iff_eq.mpr c6
   clear c6
   (first | rw [c6b0] | (simp only [i64_w, i32_w]; rw [c6b0]) | skip)
   have H' := asd H
   clear H
   go_wp2_with (first | ((with_reducible refine gate_callee (f := 56) rfl ?_); refine goesL_ (some 14) rfl rfl Tryz.func56 (by kernel_rfl) rfl #[.int .i64 a2] rfl eqA ?_; (with_reducible refine (cuspref03_Valid.calls a2 t145 _ A5.out).mono ?_); rintro e w' ⟨rfl, ⟨nd, rfl⟩⟩; refine ⟨_, rfl, ?_⟩))
   go_meet
   case rel => exact ⟨_, (((l0.length : Int) != (l1.length : Int))), eqB, H', ⟨by first | omega | exact Nat.le_refl _⟩, ⟨hbw⟩⟩
  ·rw [if_neg c6] at H
   have c6b0 := beq_eq_false_iff_ne.mpr c6
   have c6b1 := bne_iff_ne.mpr c6
   (first | rw [c6b0] | (simp only [i64_w, i32_w]; rw [c6b0]) | skip)
   have H' := asd H
   clear H
   go_wp2_with (first | ((with_reducible refine gate_callee (f := 56) rfl ?_); refine goesL_ (some 14) rfl rfl Tryz.func56 (by kernel_rfl) rfl #[.int .i64 a2] rfl eqA ?_; (with_reducible refine (cuspref03_Valid.calls a2 t145 _ A5.out).mono ?_); rintro e w' ⟨rfl, ⟨nd, rfl⟩⟩; refine ⟨_, rfl, ?_⟩))
   go_meet
   case rel => exact ⟨_, (true), eqB, H', ⟨by first | omega | exact Nat.le_refl _⟩, ⟨hbw⟩⟩
 case rest =>
  clear HC4
  try clear c1
  try clear p2
  try clear c3
  try clear c5
  try clear c6
  try clear c6b0
  try clear c6b1
  obtain ⟨kq, x22_3, rfl, HA, HJ3, HB⟩ := hcut
  cases kq with
  | zero => exact absurd HA.out (by simp [cuspref05_Dot.j0])
  | succ kj3 =>
   have H := HA.out
   clear HA
   simp only [cuspref05_Dot.j0] at H
   by_cases c7 : x22_3 = true
   ·subst c7
    rw [if_pos rfl] at H
    simp only [Option.some.injEq, Prod.mk.injEq] at H
    obtain ⟨rfl, rfl⟩ := H
    go_wp2
    go_ret2
    exact ⟨eqC, hbw⟩
   ·replace c7 := Bool.eq_false_iff.mpr c7
    subst c7
    rw [if_neg (show ¬ (false = true) by decide)] at H
    by_cases c8 : ([] : List Nat).length + l0.length < 17592186044416
    ·rw [if_pos c8] at H
     have LMc8 := asd c8
     clear c8
     obtain ⟨y146, hy146⟩ : ∃ y_ : List Nat, y_ = (([] : List Nat) ++ l0) := ⟨_, rfl⟩
     try rw [Option.bind_some] at H
     try rw [← hy146] at H
     have Ny146 := asd hy146
     clear hy146
     replace H := Option.bind_eq_some_iff.mp H
     obtain ⟨t149, A90, H⟩ := H
     have A9 := asd A90
     clear A90
     have HC10 := asd H
     clear H
     go_upto_if 29 with (first | ((with_reducible refine gate_builtin (b := .append) (xs := #[.tmp 23, .tmp 24]) rfl ?_); (try (refine gate_guard (by rfl) ?_; dsimp only)); at_builtin; refine Kd.R_append_rows Kd.float (w0 := w) w.heap.size rfl (.tmp 23) (.tmp 24) 22 25 (.float .f64 0) 8 rfl Tryz.underlying22 info25 rfl (by decide) (by omega) (.slice none 0 0) ([] : List Nat) l0 _ _ _ (fun _ => True) (fun _ => False) rfl rfl ?aO ?aR (fun _ _ h => h) (fun _ h => h.elim) ?aF ?aB ?aS ?aL ?_; (case aR => repeat (first | exact (Kd.C_below HR0.out HB.out) | (with_reducible refine Kd.C_alloc ?_ _) | (with_reducible refine Kd.C_drewN ?_ _) | (with_reducible refine Kd.C_drew ?_))); (case aB => exact hbw); (case aF => exact (fun _ _ => trivial)); (case aO => exact ((Kd.R_nil _ _ _ _ (fun _ => True)))); (case aS => exact (below_size hbw)); (case aL => have := LMc8.out; omega); intro v147 w11 ho hb hg hat; rw [← Ny146.out] at ho; have n0_ := asd (hb); have n1_ := asd (ho); clear HB; have HB := n0_; have HO148 := n1_; clear n0_ n1_; clear ho hb hg hat) | ((with_reducible refine gate_callee (f := 57) rfl ?_); refine goesL_ (some 27) rfl rfl Tryz.func57 (by kernel_rfl) rfl #[.slice A0 l0.length c0] rfl eqA ?_; (with_reducible refine (cuspref05_Fault.calls kj3 _ _ l0 t149 _ ?side1 ?side2 A9.out).mono ?_); (case side1 => repeat (first | exact (Kd.C_below HR0.out HB.out) | (with_reducible refine Kd.C_alloc ?_ _) | (with_reducible refine Kd.C_drewN ?_ _) | (with_reducible refine Kd.C_drew ?_))); (case side2 => exact HC0.out); rintro e w' ⟨rfl, ⟨nd, rfl⟩⟩; refine ⟨_, rfl, ?_⟩))
     (try simp only [Act.put, List.setIfInBounds_toArray, List.set_cons_zero, List.set_cons_succ])
     go_cut [9] (fun v9 wc => ∃ (kq : Nat) (x9_9 : Int), v9 = .int .i64 x9_9 ∧ Aside0 (cuspref05_Dot.j2 kq l0 l1 a2 x9_9 = some (r1, r2)) ∧ Aside0 (kq ≤ kj3) ∧ Aside0 (Below w.heap.size w wc))
     case first =>
      have H := HC10.out
      clear HC10
      by_cases c12 : t149 = 2
      ·rw [if_pos c12] at H
       have c12b0 := beq_iff_eq.mpr c12
       have c12b1 := bne_eq_false_iff_eq.mpr c12
       clear c12
       (first | rw [c12b0] | (simp only [i64_w, i32_w]; rw [c12b0]) | skip)
       have H' := asd H
       clear H
       go_wp2
       go_meet
       case rel => exact ⟨_, (t149), eqB, H', ⟨by have := HJ3.out; first | omega | exact Nat.le_refl _⟩, ⟨hbw⟩⟩
      ·rw [if_neg c12] at H
       have c12b0 := beq_eq_false_iff_ne.mpr c12
       have c12b1 := bne_iff_ne.mpr c12
       (first | rw [c12b0] | (simp only [i64_w, i32_w]; rw [c12b0]) | skip)
       replace H := Option.bind_eq_some_iff.mp H
       obtain ⟨t150, A130, H⟩ := H
       have A13 := asd A130
       clear A130
       have HC14 := asd H
       clear H
       go_upto_region 8 with (first | ((with_reducible refine gate_callee (f := 57) rfl ?_); refine goesL_ (some 31) rfl rfl Tryz.func57 (by kernel_rfl) rfl #[.slice A1 l1.length c1] rfl eqA ?_; (with_reducible refine (cuspref05_Fault.calls kj3 _ _ l1 t150 _ ?side1 ?side2 A13.out).mono ?_); (case side1 => repeat (first | exact (Kd.C_below HR1.out HB.out) | (with_reducible refine Kd.C_alloc ?_ _) | (with_reducible refine Kd.C_drewN ?_ _) | (with_reducible refine Kd.C_drew ?_))); (case side2 => exact HC1.out); rintro e w' ⟨rfl, ⟨nd, rfl⟩⟩; refine ⟨_, rfl, ?_⟩))
       (try simp only [Act.put, List.setIfInBounds_toArray, List.set_cons_zero, List.set_cons_succ])
       go_cut [32] (fun v32 wc => ∃ (kq : Nat) (x32_13 : Bool), v32 = .bool x32_13 ∧ Aside0 (cuspref05_Dot.j1 kq l0 l1 a2 t149 t150 x32_13 = some (r1, r2)) ∧ Aside0 (kq ≤ kj3) ∧ Aside0 (Below w.heap.size w wc))
       case first =>
        have H := HC14.out
        clear HC14
        by_cases c15 : t149 = 4
        ·rw [if_pos c15] at H
         have c15b0 := beq_iff_eq.mpr c15
         have c15b1 := bne_eq_false_iff_eq.mpr c15
         clear c15
         (first | rw [c15b0] | (simp only [i64_w, i32_w]; rw [c15b0]) | skip)
         have H' := asd H
         clear H
         go_wp2
         go_meet
         case rel => exact ⟨_, (true), eqB, H', ⟨by have := HJ3.out; first | omega | exact Nat.le_refl _⟩, ⟨hbw⟩⟩
        ·rw [if_neg c15] at H
         have c15b0 := beq_eq_false_iff_ne.mpr c15
         have c15b1 := bne_iff_ne.mpr c15
         (first | rw [c15b0] | (simp only [i64_w, i32_w]; rw [c15b0]) | skip)
         have H' := asd H
         clear H
         go_wp2
         go_meet
         case rel => exact ⟨_, ((t150 == 4)), eqB, H', ⟨by have := HJ3.out; first | omega | exact Nat.le_refl _⟩, ⟨hbw⟩⟩
       case rest =>
        clear HC14
        try clear c1
        try clear p2
        try clear c3
        try clear c5
        try clear c6
        try clear c6b0
        try clear c6b1
        try clear c7
        try clear c8
        try clear c12
        try clear c12b0
        try clear c12b1
        try clear c15
        try clear c15b0
        try clear c15b1
        try clear p2
        obtain ⟨kq, x32_13, rfl, HA, HJ13, HB⟩ := hcut
        cases kq with
        | zero => exact absurd HA.out (by simp [cuspref05_Dot.j1])
        | succ kj13 =>
         have H := HA.out
         clear HA
         simp only [cuspref05_Dot.j1] at H
         by_cases c16 : x32_13 = true
         ·subst c16
          rw [if_pos rfl] at H
          have H' := asd H
          clear H
          go_wp2
          go_meet
          case rel => exact ⟨_, (4), eqB, H', ⟨by have := HJ3.out; have := HJ13.out; first | omega | exact Nat.le_refl _⟩, ⟨hbw⟩⟩
         ·replace c16 := Bool.eq_false_iff.mpr c16
          subst c16
          rw [if_neg (show ¬ (false = true) by decide)] at H
          by_cases c17 : t150 = 0
          ·rw [if_pos c17] at H
           have c17b0 := beq_iff_eq.mpr c17
           have c17b1 := bne_eq_false_iff_eq.mpr c17
           clear c17
           have H' := asd H
           clear H
           go_wp2
           go_meet
           case rel => exact ⟨_, (t149), eqB, H', ⟨by have := HJ3.out; have := HJ13.out; first | omega | exact Nat.le_refl _⟩, ⟨hbw⟩⟩
          ·rw [if_neg c17] at H
           have c17b0 := beq_eq_false_iff_ne.mpr c17
           have c17b1 := bne_iff_ne.mpr c17
           have H' := asd H
           clear H
           go_wp2
           go_meet
           case rel => exact ⟨_, (t150), eqB, H', ⟨by have := HJ3.out; have := HJ13.out; first | omega | exact Nat.le_refl _⟩, ⟨hbw⟩⟩
     case rest =>
      clear HC10
      try clear c1
      try clear p2
      try clear c3
      try clear c5
      try clear c6
      try clear c6b0
      try clear c6b1
      try clear c7
      try clear c8
      try clear c12
      try clear c12b0
      try clear c12b1
      try clear c15
      try clear c15b0
      try clear c15b1
      try clear c16
      try clear c17
      try clear c17b0
      try clear c17b1
      try clear p2
      obtain ⟨kq, x9_9, rfl, HA, HJ9, HB⟩ := hcut
      cases kq with
      | zero => exact absurd HA.out (by simp [cuspref05_Dot.j2])
      | succ kj9 =>
       have H := HA.out
       clear HA
       simp only [cuspref05_Dot.j2] at H
       by_cases c18 : x9_9 = 0
       ·rw [if_pos c18] at H
        have c18b0 := beq_iff_eq.mpr c18
        have c18b1 := bne_eq_false_iff_eq.mpr c18
        clear c18
        have H' := asd H
        clear H
        go_wp2_with (first | ((with_reducible refine gate_dst (N := 11) rfl ?_); (try (refine gate_guard (by rfl) ?_; dsimp only)); refine box_ev (w := w) ?hg (N := 11) ?hd hbw (cs := #[.bool false, .slice none 0 0, .int .i64 0]) (t := 41) ?hr ?_; (case hd => rfl); (case hg => rfl); (case hr => first | (go_simp; done) | (go_simp; rfl)); clear HB; intro gb151 w19 HB BK151 GW151; have GE151 := GW151; obtain ⟨hcz20_0, hcz20_1, hcz20_2, hfz20_0, hfz20_1, hfz20_2⟩ := cz3 BK151.out))
        go_loopg [12] kj9 (fun kq v12 w' => ∃ (x12_3 : Int) (x152000_3 : Bool) (x152001_3 : List Int) (x152002_3 : Int) (u152001 : Value), v12 = .int .i64 x12_3 ∧ Aside0 (cuspref05_Dot.l0 kq l0 l1 a2 x12_3 x152000_3 x152001_3 x152002_3 = some (r1, r2)) ∧ Aside0 (kq ≤ kj9) ∧ Aside0 (Kd.R (Kd.int .u32) 83 w' w.heap.size (fun _ => True) u152001 x152001_3) ∧ Aside0 (w'.heap[gb151]? = some (.cells #[.bool x152000_3, u152001, .int .i64 x152002_3] 41 (0, 0))) ∧ Aside0 (Below w.heap.size w w'))
        case atStart => exact ⟨(0), (false), (([] : List Int)), (0), (.slice none 0 0), eqB, H', ⟨Nat.le_refl _⟩, ⟨by first | exact Kd.R_nil _ _ _ _ _ | exact Kd.N_nil _ _ _ _ _ | exact Kd.V_nil _ _ _ _ _ | exact Kd.Q_nil _ _ _ _ _ | exact Kd.S_nil _ _ _ _ _⟩, ⟨by (with_reducible repeat (first | refine blk_drewN ?_ _ | refine blk_drew ?_ | refine blk_alloc ?_ _)); refine blk_put (cs := #[.bool false, .slice none 0 0, .int .i64 0]) ?_ 2 _ rfl; (with_reducible repeat (first | refine blk_drewN ?_ _ | refine blk_drew ?_ | refine blk_alloc ?_ _)); refine blk_put (cs := #[.bool false, .slice none 0 0, .int .i64 0]) ?_ 1 _ rfl; (with_reducible repeat (first | refine blk_drewN ?_ _ | refine blk_drew ?_ | refine blk_alloc ?_ _)); refine blk_put (cs := #[.bool false, .slice none 0 0, .int .i64 0]) ?_ 0 _ rfl; (with_reducible repeat (first | refine blk_drewN ?_ _ | refine blk_drew ?_ | refine blk_alloc ?_ _)); exact BK151.out⟩, ⟨hbs⟩⟩
        case round =>
         clear H'
         try clear c1
         try clear p2
         try clear c3
         try clear c5
         try clear c6
         try clear c6b0
         try clear c6b1
         try clear c7
         try clear c8
         try clear c12
         try clear c12b0
         try clear c12b1
         try clear c15
         try clear c15b0
         try clear c15b1
         try clear c16
         try clear c17
         try clear c17b0
         try clear c17b1
         try clear c18
         try clear c18b0
         try clear c18b1
         try clear hcz20_0
         try clear hcz20_1
         try clear hcz20_2
         try clear hfz20_0
         try clear hfz20_1
         try clear hfz20_2
         try clear p2
         obtain ⟨x12_3, x152000_3, x152001_3, x152002_3, u152001, rfl, HA, HK3, HO_152001, BK151, HB⟩ := hrel
         cases gk with
         | zero => exact absurd HA.out (by simp [cuspref05_Dot.l0])
         | succ k3 =>
          have H := HA.out
          clear HA
          simp only [cuspref05_Dot.l0] at H
          by_cases c21 : x12_3 < (l0.length : Int)
          ·rw [if_pos c21] at H
           have c21b0 := decide_eq_true c21
           clear c21
           by_cases c22 : 0 ≤ x12_3
           ·rw [if_pos c22] at H
            have c22b0 := decide_eq_true c22
            clear c22
            replace H := Option.bind_eq_some_iff.mp H
            obtain ⟨⟨t154, t155, t158⟩, A230, H⟩ := H
            replace H : (if x12_3 < (l1.length : Int) then ((cuspref02_Float.f k3 (rdOf (0 : Nat) l1 x12_3)).bind fun bt160 => ((cuspref02_Times.f k3 t154 t155 t158 bt160.1 bt160.2.1 bt160.2.2).bind fun bt165 => ((cuspref02_Plus.f x152000_3 x152001_3 x152002_3 bt165.1 bt165.2.1 bt165.2.2).bind fun bt170 => (cuspref05_Dot.l0 k3 l0 l1 a2 (wrap64 (x12_3 + 1)) bt170.1 bt170.2.1 bt170.2.2)))) else (none)) = some (r1, r2) := H
            have A23 := asd A230
            clear A230
            by_cases c24 : x12_3 < (l1.length : Int)
            ·rw [if_pos c24] at H
             have c24b0 := decide_eq_true c24
             clear c24
             replace H := Option.bind_eq_some_iff.mp H
             obtain ⟨⟨t160, t161, t164⟩, A250, H⟩ := H
             replace H : ((cuspref02_Times.f k3 t154 t155 t158 t160 t161 t164).bind fun bt165 => ((cuspref02_Plus.f x152000_3 x152001_3 x152002_3 bt165.1 bt165.2.1 bt165.2.2).bind fun bt170 => (cuspref05_Dot.l0 k3 l0 l1 a2 (wrap64 (x12_3 + 1)) bt170.1 bt170.2.1 bt170.2.2))) = some (r1, r2) := H
             have A25 := asd A250
             clear A250
             replace H := Option.bind_eq_some_iff.mp H
             obtain ⟨⟨t165, t166, t169⟩, A260, H⟩ := H
             replace H : ((cuspref02_Plus.f x152000_3 x152001_3 x152002_3 t165 t166 t169).bind fun bt170 => (cuspref05_Dot.l0 k3 l0 l1 a2 (wrap64 (x12_3 + 1)) bt170.1 bt170.2.1 bt170.2.2)) = some (r1, r2) := H
             have A26 := asd A260
             clear A260
             replace H := Option.bind_eq_some_iff.mp H
             obtain ⟨⟨t170, t171, t174⟩, A270, H⟩ := H
             replace H : (cuspref05_Dot.l0 k3 l0 l1 a2 (wrap64 (x12_3 + 1)) t170 t171 t174) = some (r1, r2) := H
             have A27 := asd A270
             clear A270
             have H' := asd H
             clear H
             try go_wp2
             have n0_ := asd (Kd.R_drew HO_152001.out)
             have n1_ := asd (blk_drew BK151.out)
             have n2_ := asd (below_drew1 HB.out)
             clear HO_152001
             clear BK151
             clear HB
             have HO_152001 := n0_
             have BK151 := n1_
             have HB := n2_
             clear n0_ n1_ n2_
             have p153 : 0 ≤ (x12_3 : Int) := odt
             have q153 : x12_3 < (l0.length : Int) := odt
             obtain ⟨ad153, e153, hx153_0⟩ := Kd.at_float HR0.out x12_3 p153 q153
             have hw153_0 := hx153_0
             cases e153
             replace hx153_0 := (HB.out.cell (World.block_lt_of_cell? w _ hx153_0)).trans hx153_0
             replace p153 := eq_true p153
             replace q153 := eq_true q153
             have p159 : 0 ≤ (x12_3 : Int) := odt
             have q159 : x12_3 < (l1.length : Int) := odt
             obtain ⟨ad159, e159, hx159_0⟩ := Kd.at_float HR1.out x12_3 p159 q159
             have hw159_0 := hx159_0
             cases e159
             replace hx159_0 := (HB.out.cell (World.block_lt_of_cell? w _ hx159_0)).trans hx159_0
             replace p159 := eq_true p159
             replace q159 := eq_true q159
             refine start_ (n := 14) (S := fun w' => w'.cell? ⟨gb151, 0, none⟩ = some (.bool x152000_3) ∧ w'.cell? ⟨gb151, 1, none⟩ = some (u152001) ∧ w'.cell? ⟨gb151, 2, none⟩ = some (.int .i64 x152002_3) ∧ w'.cell? (ad153.add (x12_3).toNat) = some (.float .f64 (rdOf (0 : Nat) l0 x12_3)) ∧ w'.cell? (ad159.add (x12_3).toNat) = some (.float .f64 (rdOf (0 : Nat) l1 x12_3))) (ds := [13]) #[false, false, false, false, false, false, false, false, false, false, false, false, false, false] (by kernel_rfl) rfl rfl ⟨(blk_cell BK151.out 0).trans rfl, (blk_cell BK151.out 1).trans rfl, (blk_cell BK151.out 2).trans rfl, ((HB.out.cell (World.block_lt_of_cell? w _ hw153_0)).trans hw153_0), ((HB.out.cell (World.block_lt_of_cell? w _ hw159_0)).trans hw159_0)⟩ (fun hHeld => ?_); refine with_tabW cuspref05_Dot.tab18 cuspref05_Dot.bits18 (fun HT_ HW_ => ?_)
             generalize wr.drew = w28 at HO_152001 BK151 HB hx153_0 hx159_0 hHeld ⊢
             refine pure_ (i := 1) (N := some 54) (v := ?_) (a' := ?_) #[false, true, false, false, false, false, false, false, false, false, false, false, false, false] rfl rfl (any_of HT_.out (by kernel_rfl)) (fun _ _ _ h => h) (Or.inl ⟨by rfl, ?_⟩) ?_ ?_
             rotate_left
             ·intro w'
              go_simp
              with_reducible rfl
             rotate_left
             ·simp only [Act.put, List.setIfInBounds_toArray, List.set_cons_zero, List.set_cons_succ, i64_w, i32_w]
              rfl
             refine pure_ (i := 2) (N := some 55) (v := ?_) (a' := ?_) #[false, true, true, false, false, false, false, false, false, false, false, false, false, false] rfl rfl (any_of HT_.out (by kernel_rfl)) (fun _ _ _ h => h) (Or.inl ⟨by rfl, ?_⟩) ?_ ?_
             rotate_left
             ·intro w'
              go_simp
              with_reducible rfl
             rotate_left
             ·simp only [Act.put, List.setIfInBounds_toArray, List.set_cons_zero, List.set_cons_succ, i64_w, i32_w]
              rfl
             refine pure_ (i := 3) (N := some 56) (v := ?_) (a' := ?_) #[false, true, true, true, false, false, false, false, false, false, false, false, false, false] rfl rfl (any_of HT_.out (by kernel_rfl)) (fun _ _ _ h => h) (Or.inl ⟨by rfl, ?_⟩) ?_ ?_
             rotate_left
             ·intro w'
              go_simp
              with_reducible rfl
             rotate_left
             ·simp only [Act.put, List.setIfInBounds_toArray, List.set_cons_zero, List.set_cons_succ, i64_w, i32_w]
              rfl
             refine pure_ (i := 6) (N := some 59) (v := ?_) (a' := ?_) #[false, true, true, true, false, false, true, false, false, false, false, false, false, false] rfl rfl (any_of HT_.out (by kernel_rfl)) (fun _ _ _ h => h) (Or.inl ⟨by rfl, ?_⟩) ?_ ?_
             rotate_left
             ·intro w'
              go_simp
              with_reducible rfl
             rotate_left
             ·simp only [Act.put, List.setIfInBounds_toArray, List.set_cons_zero, List.set_cons_succ, i64_w, i32_w]
              rfl
             refine pure_ (i := 7) (N := some 60) (v := ?_) (a' := ?_) #[false, true, true, true, false, false, true, true, false, false, false, false, false, false] rfl rfl (any_of HT_.out (by kernel_rfl)) (fun _ _ _ h => h) (Or.inl ⟨by rfl, ?_⟩) ?_ ?_
             rotate_left
             ·intro w'
              go_simp
              with_reducible rfl
             rotate_left
             ·simp only [Act.put, List.setIfInBounds_toArray, List.set_cons_zero, List.set_cons_succ, i64_w, i32_w]
              rfl
             refine pure_ (i := 8) (N := some 61) (v := ?_) (a' := ?_) #[false, true, true, true, false, false, true, true, true, false, false, false, false, false] rfl rfl (any_of HT_.out (by kernel_rfl)) (fun _ _ _ h => h) (Or.inl ⟨by rfl, ?_⟩) ?_ ?_
             rotate_left
             ·intro w'
              go_simp
              with_reducible rfl
             rotate_left
             ·simp only [Act.put, List.setIfInBounds_toArray, List.set_cons_zero, List.set_cons_succ, i64_w, i32_w]
              rfl
             refine take_ (i := 0) (N := some 53) (v := ?_) (a' := ?_) #[true, true, true, true, false, false, true, true, true, false, false, false, false, false] rfl rfl (take_ofW HT_.out HW_.out (by kernel_rfl)) (fun _ _ _ h => h) (Or.inl ⟨by rfl, ?_⟩) hHeld ?_ ?_
             rotate_left
             ·rintro w' ⟨s0, s1, s2, s3, s4⟩
              go_simp
              with_reducible rfl
             rotate_left
             ·simp only [Act.put, List.setIfInBounds_toArray, List.set_cons_zero, List.set_cons_succ, i64_w, i32_w]
              rfl
             refine take_ (i := 4) (N := some 57) (v := ?_) (a' := ?_) #[true, true, true, true, true, false, true, true, true, false, false, false, false, false] rfl rfl (take_ofW HT_.out HW_.out (by kernel_rfl)) (fun _ _ _ h => h) (Or.inl ⟨by rfl, ?_⟩) hHeld ?_ ?_
             rotate_left
             ·rintro w' ⟨s0, s1, s2, s3, s4⟩
              go_simp
              with_reducible rfl
             rotate_left
             ·simp only [Act.put, List.setIfInBounds_toArray, List.set_cons_zero, List.set_cons_succ, i64_w, i32_w]
              rfl
             refine take_ (i := 9) (N := some 62) (v := ?_) (a' := ?_) #[true, true, true, true, true, false, true, true, true, true, false, false, false, false] rfl rfl (take_ofW HT_.out HW_.out (by kernel_rfl)) (fun _ _ _ h => h) (Or.inl ⟨by rfl, ?_⟩) hHeld ?_ ?_
             rotate_left
             ·rintro w' ⟨s0, s1, s2, s3, s4⟩
              go_simp
              with_reducible rfl
             rotate_left
             ·simp only [Act.put, List.setIfInBounds_toArray, List.set_cons_zero, List.set_cons_succ, i64_w, i32_w]
              rfl
             refine one_ (i := 5) (N := some 58) #[true, true, true, true, true, true, true, true, true, true, false, false, false, false] rfl rfl (one_of HT_.out (by kernel_rfl)) (by decide) (fun K hK => ?_)
             refine goes_ Tryz.func26 (by kernel_rfl) rfl #[.float .f64 (rdOf (0 : Nat) l0 x12_3)] (by rfl) rfl rfl eqA ?_
             with_reducible refine (cuspref02_Float.calls k3 (rdOf (0 : Nat) l0 x12_3) t154 t155 t158 _ A23.out).mono ?_
             rintro e w29 ⟨v156, rfl, ho0, hb⟩
             refine ⟨_, rfl, ?_⟩
             have n0_ := asd (Kd.R_elder' (rUp HO_152001.out) (Kd.R_base ho0) hb)
             have n1_ := asd (Kd.R_lower (Kd.R_new' ho0 (Kd.R_lt (rUp HO_152001.out))) (below_size hbs))
             have n2_ := asd (blk_below (g := gb151) (o := .cells #[.bool x152000_3, u152001, .int .i64 x152002_3] 41 (0, 0)) (blkU BK151.out) hb)
             have n3_ := asd (below_step hbs hb)
             clear HO_152001
             clear BK151
             clear HB
             have HO_152001 := n0_
             have HO157 := n1_
             have BK151 := n2_
             have HB := n3_
             clear n0_ n1_ n2_ n3_
             (try clear hb)
             (try clear hb2)
             (try clear hk)
             (try clear hi)
             (try clear ho0)
             refine hK.out _ _ ⟨(blk_cell BK151.out 0).trans rfl, (blk_cell BK151.out 1).trans rfl, (blk_cell BK151.out 2).trans rfl, ((HB.out.cell (World.block_lt_of_cell? w _ hw153_0)).trans hw153_0), ((HB.out.cell (World.block_lt_of_cell? w _ hw159_0)).trans hw159_0)⟩ (fun hHeld => ?_)
             clear hK K
             refine norm_ (a' := ?_) ?_ ?_
             rotate_left
             ·show Act.put _ (some 58) _ = _
              simp only [Act.put, List.setIfInBounds_toArray, List.set_cons_zero, List.set_cons_succ, i64_w, i32_w]
              rfl
             refine one_ (i := 10) (N := some 63) #[true, true, true, true, true, true, true, true, true, true, true, false, false, false] rfl rfl (one_of HT_.out (by kernel_rfl)) (by decide) (fun K hK => ?_)
             refine goes_ Tryz.func26 (by kernel_rfl) rfl #[.float .f64 (rdOf (0 : Nat) l1 x12_3)] (by rfl) rfl rfl eqA ?_
             with_reducible refine (cuspref02_Float.calls k3 (rdOf (0 : Nat) l1 x12_3) t160 t161 t164 _ A25.out).mono ?_
             rintro e w30 ⟨v162, rfl, ho0, hb⟩
             refine ⟨_, rfl, ?_⟩
             have n0_ := asd (Kd.R_elder' (rUp HO_152001.out) (Kd.R_base ho0) hb)
             have n1_ := asd (Kd.R_elder' (rUp HO157.out) (Kd.R_base ho0) hb)
             have n2_ := asd (Kd.R_lower (Kd.R_new' (Kd.R_new' ho0 (Kd.R_lt (rUp HO_152001.out))) (Kd.R_lt (rUp HO157.out))) (below_size hbs))
             have n3_ := asd (blk_below (g := gb151) (o := .cells #[.bool x152000_3, u152001, .int .i64 x152002_3] 41 (0, 0)) (blkU BK151.out) hb)
             have n4_ := asd (below_step hbs hb)
             clear HO_152001
             clear HO157
             clear BK151
             clear HB
             have HO_152001 := n0_
             have HO157 := n1_
             have HO163 := n2_
             have BK151 := n3_
             have HB := n4_
             clear n0_ n1_ n2_ n3_ n4_
             (try clear hb)
             (try clear hb2)
             (try clear hk)
             (try clear hi)
             (try clear ho0)
             obtain ⟨Ao31, co31, eo31⟩ := Kd.R_slice HO157.out
             (first | subst eo31 | (injection eo31 with f1_ f2_ f3_; have f4_ := f1_.symm; have f5_ := f3_.symm; clear f1_ f2_ f3_; subst f4_; subst f5_))
             obtain ⟨Ao32, co32, eo32⟩ := Kd.R_slice HO163.out
             (first | subst eo32 | (injection eo32 with f1_ f2_ f3_; have f4_ := f1_.symm; have f5_ := f3_.symm; clear f1_ f2_ f3_; subst f4_; subst f5_))
             refine hK.out _ _ ⟨(blk_cell BK151.out 0).trans rfl, (blk_cell BK151.out 1).trans rfl, (blk_cell BK151.out 2).trans rfl, ((HB.out.cell (World.block_lt_of_cell? w _ hw153_0)).trans hw153_0), ((HB.out.cell (World.block_lt_of_cell? w _ hw159_0)).trans hw159_0)⟩ (fun hHeld => ?_)
             clear hK K
             refine norm_ (a' := ?_) ?_ ?_
             rotate_left
             ·show Act.put _ (some 63) _ = _
              simp only [Act.put, List.setIfInBounds_toArray, List.set_cons_zero, List.set_cons_succ, i64_w, i32_w]
              rfl
             refine one_ (i := 11) (N := some 64) #[true, true, true, true, true, true, true, true, true, true, true, true, false, false] rfl rfl (one_of HT_.out (by kernel_rfl)) (by decide) (fun K hK => ?_)
             refine goes_ Tryz.func80 (by kernel_rfl) rfl #[.agg #[.bool t154, .slice Ao31 t155.length co31, .int .i64 t158], .agg #[.bool t160, .slice Ao32 t161.length co32, .int .i64 t164]] (by rfl) rfl rfl eqA ?_
             with_reducible refine (cuspref02_Times.calls k3 t154 _ _ t155 t158 t160 _ _ t161 t164 t165 t166 t169 _ ?side1 ?side2 ?side3 ?side4 A26.out).mono ?_
             (case side1 => repeat (first | exact (Kd.R_reads' HO157.out).2.2 | (with_reducible refine Kd.C_alloc ?_ _) | (with_reducible refine Kd.C_drewN ?_ _) | (with_reducible refine Kd.C_drew ?_)))
             (case side2 => exact (Kd.R_reads' HO157.out).2.1)
             (case side3 => repeat (first | exact (Kd.R_reads' HO163.out).2.2 | (with_reducible refine Kd.C_alloc ?_ _) | (with_reducible refine Kd.C_drewN ?_ _) | (with_reducible refine Kd.C_drew ?_)))
             (case side4 => exact (Kd.R_reads' HO163.out).2.1)
             rintro e w33 ⟨v167, rfl, ho0, hb⟩
             refine ⟨_, rfl, ?_⟩
             have n0_ := asd (Kd.R_elder' (rUp HO_152001.out) (Kd.R_base ho0) hb)
             have n1_ := asd (Kd.R_elder' (rUp HO157.out) (Kd.R_base ho0) hb)
             have n2_ := asd (Kd.R_elder' (rUp HO163.out) (Kd.R_base ho0) hb)
             have n3_ := asd (Kd.R_lower (Kd.R_new' (Kd.R_new' (Kd.R_new' ho0 (Kd.R_lt (rUp HO_152001.out))) (Kd.R_lt (rUp HO157.out))) (Kd.R_lt (rUp HO163.out))) (below_size hbs))
             have n4_ := asd (blk_below (g := gb151) (o := .cells #[.bool x152000_3, u152001, .int .i64 x152002_3] 41 (0, 0)) (blkU BK151.out) hb)
             have n5_ := asd (below_step hbs hb)
             clear HO_152001
             clear HO157
             clear HO163
             clear BK151
             clear HB
             have HO_152001 := n0_
             have HO157 := n1_
             have HO163 := n2_
             have HO168 := n3_
             have BK151 := n4_
             have HB := n5_
             clear n0_ n1_ n2_ n3_ n4_ n5_
             (try clear hb)
             (try clear hb2)
             (try clear hk)
             (try clear hi)
             (try clear ho0)
             obtain ⟨Ao34, co34, eo34⟩ := Kd.R_slice HO_152001.out
             (first | subst eo34 | (injection eo34 with f1_ f2_ f3_; have f4_ := f1_.symm; have f5_ := f3_.symm; clear f1_ f2_ f3_; subst f4_; subst f5_))
             obtain ⟨Ao35, co35, eo35⟩ := Kd.R_slice HO168.out
             (first | subst eo35 | (injection eo35 with f1_ f2_ f3_; have f4_ := f1_.symm; have f5_ := f3_.symm; clear f1_ f2_ f3_; subst f4_; subst f5_))
             refine hK.out _ _ ⟨(blk_cell BK151.out 0).trans rfl, (blk_cell BK151.out 1).trans rfl, (blk_cell BK151.out 2).trans rfl, ((HB.out.cell (World.block_lt_of_cell? w _ hw153_0)).trans hw153_0), ((HB.out.cell (World.block_lt_of_cell? w _ hw159_0)).trans hw159_0)⟩ (fun hHeld => ?_)
             clear hK K
             refine norm_ (a' := ?_) ?_ ?_
             rotate_left
             ·show Act.put _ (some 64) _ = _
              simp only [Act.put, List.setIfInBounds_toArray, List.set_cons_zero, List.set_cons_succ, i64_w, i32_w]
              rfl
             refine one_ (i := 12) (N := some 65) #[true, true, true, true, true, true, true, true, true, true, true, true, true, false] rfl rfl (one_of HT_.out (by kernel_rfl)) (by decide) (fun K hK => ?_)
             refine goes_ Tryz.func25 (by kernel_rfl) rfl #[.agg #[.bool x152000_3, .slice Ao34 x152001_3.length co34, .int .i64 x152002_3], .agg #[.bool t165, .slice Ao35 t166.length co35, .int .i64 t169]] (by rfl) rfl rfl eqA ?_
             with_reducible refine (cuspref02_Plus.calls x152000_3 _ _ x152001_3 x152002_3 t165 _ _ t166 t169 t170 t171 t174 _ ?side1 ?side2 ?side3 ?side4 A27.out).mono ?_
             (case side1 => repeat (first | exact (Kd.R_reads' HO_152001.out).2.2 | (with_reducible refine Kd.C_alloc ?_ _) | (with_reducible refine Kd.C_drewN ?_ _) | (with_reducible refine Kd.C_drew ?_)))
             (case side2 => exact (Kd.R_reads' HO_152001.out).2.1)
             (case side3 => repeat (first | exact (Kd.R_reads' HO168.out).2.2 | (with_reducible refine Kd.C_alloc ?_ _) | (with_reducible refine Kd.C_drewN ?_ _) | (with_reducible refine Kd.C_drew ?_)))
             (case side4 => exact (Kd.R_reads' HO168.out).2.1)
             rintro e w36 ⟨v172, rfl, ho0, hb⟩
             refine ⟨_, rfl, ?_⟩
             have n0_ := asd (Kd.R_elder' (rUp HO_152001.out) (Kd.R_base ho0) hb)
             have n1_ := asd (Kd.R_elder' (rUp HO157.out) (Kd.R_base ho0) hb)
             have n2_ := asd (Kd.R_elder' (rUp HO163.out) (Kd.R_base ho0) hb)
             have n3_ := asd (Kd.R_elder' (rUp HO168.out) (Kd.R_base ho0) hb)
             have n4_ := asd (Kd.R_lower (Kd.R_new' (Kd.R_new' (Kd.R_new' (Kd.R_new' ho0 (Kd.R_lt (rUp HO_152001.out))) (Kd.R_lt (rUp HO157.out))) (Kd.R_lt (rUp HO163.out))) (Kd.R_lt (rUp HO168.out))) (below_size hbs))
             have n5_ := asd (blk_below (g := gb151) (o := .cells #[.bool x152000_3, .slice Ao34 x152001_3.length co34, .int .i64 x152002_3] 41 (0, 0)) (blkU BK151.out) hb)
             have n6_ := asd (below_step hbs hb)
             clear HO_152001
             clear HO157
             clear HO163
             clear HO168
             clear BK151
             clear HB
             have HO_152001 := n0_
             have HO157 := n1_
             have HO163 := n2_
             have HO168 := n3_
             have HO173 := n4_
             have BK151 := n5_
             have HB := n6_
             clear n0_ n1_ n2_ n3_ n4_ n5_ n6_
             (try clear hb)
             (try clear hb2)
             (try clear hk)
             (try clear hi)
             (try clear ho0)
             obtain ⟨Ao38, co38, eo38⟩ := Kd.R_slice HO173.out
             (first | subst eo38 | (injection eo38 with f1_ f2_ f3_; have f4_ := f1_.symm; have f5_ := f3_.symm; clear f1_ f2_ f3_; subst f4_; subst f5_))
             refine hK.out _ _ ⟨(blk_cell BK151.out 0).trans rfl, (blk_cell BK151.out 1).trans rfl, (blk_cell BK151.out 2).trans rfl, ((HB.out.cell (World.block_lt_of_cell? w _ hw153_0)).trans hw153_0), ((HB.out.cell (World.block_lt_of_cell? w _ hw159_0)).trans hw159_0)⟩ (fun hHeld => ?_)
             clear hK K
             refine norm_ (a' := ?_) ?_ ?_
             rotate_left
             ·show Act.put _ (some 65) _ = _
              simp only [Act.put, List.setIfInBounds_toArray, List.set_cons_zero, List.set_cons_succ, i64_w, i32_w]
              rfl
             refine last_ (i := 13) (N := none) #[true, true, true, true, true, true, true, true, true, true, true, true, true, true] rfl rfl (one_of HT_.out (by kernel_rfl)) (by decide) (fun K hK => ?_)
             have hs37 : w36.cell? ⟨gb151, 0, none⟩ = some (.bool x152000_3) := (blk_cell BK151.out 0).trans rfl
             have hfs37 := blk_frozen BK151.out 0
             have hs39 : w36.cell? ⟨gb151, 1, none⟩ = some (.slice Ao34 x152001_3.length co34) := (blk_cell BK151.out 1).trans rfl
             have hfs39 := blk_frozen BK151.out 1
             have hs40 : w36.cell? ⟨gb151, 2, none⟩ = some (.int .i64 x152002_3) := (blk_cell BK151.out 2).trans rfl
             have hfs40 := blk_frozen BK151.out 2
             refine skip_ (w1 := ?_) (by rfl) rfl ?_ ?_
             rotate_left
             ·go_simp
              rfl
             refine hK.out _ _ ?_
             clear hK K
             refine done_ (done_of HT_.out (by kernel_rfl)) ?_
             try go_wp2
             go_roundg k3
             case measure => have := HJ3.out; have := HJ9.out; have := HK3.out; omega
             case rel => exact ⟨(wrap64 (x12_3 + 1)), (t170), (t171), (t174), (.slice Ao38 t171.length co38), eqB, H', ⟨by have := HJ3.out; have := HJ9.out; have := HK3.out; omega⟩, ⟨by (with_reducible repeat (first | apply Kd.R_alloc | apply Kd.R_drewN | apply Kd.R_drew)); exact Kd.R_mono (Kd.R_far (p := ⟨gb151, 2, none⟩) (Kd.R_far (p := ⟨gb151, 1, none⟩) (Kd.R_far (p := ⟨gb151, 0, none⟩) (Kd.R_types HO173.out BK151.out (by decide)) (fun _ hk => hk.2) (.bool t170)) (fun _ hk => hk.2) (.slice Ao38 t171.length co38)) (fun _ hk => hk.2) (.int .i64 t174)) (fun _ hk => trivial)⟩, ⟨by (with_reducible repeat (first | refine blk_drewN ?_ _ | refine blk_drew ?_ | refine blk_alloc ?_ _)); refine blk_put (cs := #[.bool t170, .slice Ao38 t171.length co38, .int .i64 x152002_3]) ?_ 2 _ rfl; (with_reducible repeat (first | refine blk_drewN ?_ _ | refine blk_drew ?_ | refine blk_alloc ?_ _)); refine blk_put (cs := #[.bool t170, .slice Ao34 x152001_3.length co34, .int .i64 x152002_3]) ?_ 1 _ rfl; (with_reducible repeat (first | refine blk_drewN ?_ _ | refine blk_drew ?_ | refine blk_alloc ?_ _)); refine blk_put (cs := #[.bool x152000_3, .slice Ao34 x152001_3.length co34, .int .i64 x152002_3]) ?_ 0 _ rfl; (with_reducible repeat (first | refine blk_drewN ?_ _ | refine blk_drew ?_ | refine blk_alloc ?_ _)); exact BK151.out⟩, ⟨hbs⟩⟩
            ·rw [if_neg c24] at H
             exact absurd H (by simp)
           ·rw [if_neg c22] at H
            exact absurd H (by simp)
          ·rw [if_neg c21] at H
           have c21b0 := decide_eq_false c21
           clear c21
           replace H := Option.bind_eq_some_iff.mp H
           obtain ⟨t152, A410, H⟩ := H
           have A41 := asd A410
           clear A410
           simp only [Option.some.injEq, Prod.mk.injEq] at H
           obtain ⟨rfl, rfl⟩ := H
           obtain ⟨hcz42_0, hcz42_1, hcz42_2, hfz42_0, hfz42_1, hfz42_2⟩ := cz3 BK151.out
           obtain ⟨Ao43, co43, eo43⟩ := Kd.R_slice HO_152001.out
           subst eo43
           go_wp2_with (first | ((with_reducible refine gate_callee (f := 48) rfl ?_); refine goesL_ (some 68) rfl rfl Tryz.func48 (by kernel_rfl) rfl #[.agg #[.bool x152000_3, .slice Ao43 x152001_3.length co43, .int .i64 x152002_3], .int .i64 a2, .float .f64 (0 : Nat)] rfl eqA ?_; (with_reducible refine (cuspref03_R.calls x152000_3 _ _ x152001_3 x152002_3 a2 (0 : Nat) t152 _ ?side1 ?side2 A41.out).mono ?_); (case side1 => repeat (first | exact (Kd.R_reads' HO_152001.out).2.2 | (with_reducible refine Kd.C_alloc ?_ _) | (with_reducible refine Kd.C_drewN ?_ _) | (with_reducible refine Kd.C_drew ?_))); (case side2 => exact (Kd.R_reads' HO_152001.out).2.1); rintro e w44 ⟨rfl, hb⟩; refine ⟨_, rfl, ?_⟩; have n0_ := asd (Kd.R_below (rUp HO_152001.out) hb); have n1_ := asd (blk_below (g := gb151) (o := .cells #[.bool x152000_3, .slice Ao43 x152001_3.length co43, .int .i64 x152002_3] 41 (0, 0)) (blkU BK151.out) hb); have n2_ := asd (below_step hbs hb); clear HO_152001; clear BK151; clear HB; have HO_152001 := n0_; have BK151 := n1_; have HB := n2_; clear n0_ n1_ n2_; (try clear hb)))
           go_ret2
           exact ⟨eqC, hbs⟩
       ·rw [if_neg c18] at H
        have c18b0 := beq_eq_false_iff_ne.mpr c18
        have c18b1 := bne_iff_ne.mpr c18
        simp only [Option.some.injEq, Prod.mk.injEq] at H
        obtain ⟨rfl, rfl⟩ := H
        go_wp2
        go_ret2
        exact ⟨eqC, hbw⟩
    ·rw [if_neg c8] at H
     exact absurd H (by simp)
def cuspref02_Minus.f (a0_0 : Bool) (l0_1 : List Int) (a0_2 : Int) : Option (Bool × List Int × Int) := if (l0_1.length : Int) = 0 then (some (false, ([] : List Int), 0)) else (some (!a0_0, l0_1, a0_2))
end Go.Proofs.YthmeocigliephaaGreatDoor.PSd
end
section
namespace Go.Proofs.YthmeocigliephaaGreatDoor.Big
open Go.Proofs.YthmeocigliephaaGreatDoor.PSu Go.Proofs.YthmeocigliephaaGreatDoor.Plain Ieee
def dotN (l m : List Nat) : Nat → Int
  | 0 => 0
  | i + 1 => dotN l m i + flz (rdOf (0 : Nat) l (i : Int)) * flz (rdOf (0 : Nat) m (i : Int))
theorem fin_rd {l : List Nat} (hf : ∀ b ∈ l, Fin64 b) (i : Nat) : Fin64 (rdOf (0 : Nat) l (i : Int)) := by
  unfold rdOf
  rw [Int.toNat_natCast]
  by_cases h : i < l.length
  · rw [List.getD_eq_getElem?_getD, List.getElem?_eq_getElem h]
    exact hf _ (List.getElem_mem h)
  · rw [List.getD_eq_getElem?_getD, List.getElem?_eq_none (by omega)]
    show Fin64 0
    decide
theorem prod_bl {a b : Nat} (ha : Fin64 a) (hb : Fin64 b) : (flz a * flz b).natAbs < 2 ^ 4196 := by
  have h1 := flz_lt ha
  have h2 := flz_lt hb
  rw [Int.natAbs_mul, show (4196 : Nat) = 2098 + 2098 from rfl, Nat.pow_add]
  rcases Nat.eq_zero_or_pos (flz b).natAbs with h | h
  · rw [h, Nat.mul_zero]; exact Nat.mul_pos (Nat.pow_pos (by omega)) (Nat.pow_pos (by omega))
  · exact Nat.mul_lt_mul_of_lt_of_le h1 (Nat.le_of_lt h2) (Nat.pow_pos (by omega))
theorem dotN_le {l m : List Nat} (hl : ∀ b ∈ l, Fin64 b) (hm : ∀ b ∈ m, Fin64 b) : ∀ i, (dotN l m i).natAbs ≤ i * 2 ^ 4196
  | 0 => by simp [dotN]
  | i + 1 => by
    have h1 := dotN_le hl hm i
    have h2 := prod_bl (fin_rd hl i) (fin_rd hm i)
    unfold dotN
    rw [Nat.add_mul, Nat.one_mul]
    have := Int.natAbs_add_le (dotN l m i) (flz (rdOf (0 : Nat) l (i : Int)) * flz (rdOf (0 : Nat) m (i : Int)))
    generalize 2 ^ 4196 = P at *
    omega
theorem dotN_bl {l m : List Nat} (hl : ∀ b ∈ l, Fin64 b) (hm : ∀ b ∈ m, Fin64 b) {i : Nat} (hi : i ≤ 65536) : bl (dotN l m i).natAbs ≤ 4213 := by
  refine bl_le.2 (Nat.lt_of_le_of_lt (dotN_le hl hm i) ?_)
  rw [show (4213 : Nat) = 17 + 4196 from rfl, Nat.pow_add]
  exact Nat.mul_lt_mul_of_pos_right (by omega) (Nat.pow_pos (by omega))
def rndE (z e mode : Int) : Nat := if z = 0 then 0 else roundV (canN z e).1 (val (canN z e).2.1) (canN z e).2.2 mode
theorem to_can_e {z e mode : Int} (h1 : bl z.natAbs ≤ 60000) (he : -60000 ≤ e ∧ e ≤ 60000) (hm : 1 ≤ mode ∧ mode ≤ 3) : cuspref02_To.f (canN z e).1 (canN z e).2.1 (canN z e).2.2 mode = some (rndE z e mode) := by
  unfold cuspref02_To.f rndE
  rw [if_pos ⟨isO_can (by omega) (by omega) (by omega), hm.1, hm.2⟩]
  by_cases h : z = 0
  · rw [if_pos (can_length.2 h), if_pos h]
  · rw [if_neg (fun h' => h (can_length.1 h')), if_neg h]
theorem rR_e {z e mode : Int} (h1 : bl z.natAbs ≤ 60000) (he : -60000 ≤ e ∧ e ≤ 60000) (hm : 1 ≤ mode ∧ mode ≤ 3) : cuspref03_R.f (canN z e).1 (canN z e).2.1 (canN z e).2.2 mode (0 : Nat) = some (rndE z e mode) := by
  unfold cuspref03_R.f cuspref02_Sgn.f
  by_cases h : z = 0
  · rw [if_pos (by have := (can_length (e := e)).2 h; omega), Option.bind_some, if_pos rfl]
    unfold rndE
    rw [if_pos h]
  · rw [if_neg (fun h' => h ((can_length (e := e)).1 (by omega)))]
    have : ∀ s : Option Int, s = (if (canN z e).1 = true then some (-1) else some 1) → (s.bind fun t => if t = 0 then some (0 : Nat) else (cuspref02_To.f (canN z e).1 (canN z e).2.1 (canN z e).2.2 mode).bind fun t => some t) = some (rndE z e mode) := by
      intro s hs
      rw [hs, to_can_e h1 he hm]
      split <;> rfl
    exact this _ rfl
theorem rplus_e {x y e : Int} (hx : bl x.natAbs ≤ 60000) (hy : bl y.natAbs ≤ 60000) (he : -60000 ≤ e ∧ e ≤ 60000) : cuspref02_Plus.f (canN x e).1 (canN x e).2.1 (canN x e).2.2 (canN y e).1 (canN y e).2.1 (canN y e).2.2 = some (canN (x + y) e) := by
  unfold cuspref02_Plus.f
  rw [if_pos ⟨isO_can (by omega) (by omega) (by omega), isO_can (by omega) (by omega) (by omega)⟩, plus_can]
theorem rdot_go (l m : List Nat) (hl : ∀ b ∈ l, Fin64 b) (hm : ∀ b ∈ m, Fin64 b) (hlm : l.length = m.length) (hn : l.length ≤ 65536) (mode : Int) (hmo : 1 ≤ mode ∧ mode ≤ 3) : ∀ (d i : Nat), i + d = l.length →
    Ev (fun k => PSd.cuspref05_Dot.l0 k l m mode (i : Int) (canN (dotN l m i) (-2148)).1 (canN (dotN l m i) (-2148)).2.1 (canN (dotN l m i) (-2148)).2.2) (rndE (dotN l m l.length) (-2148) mode, 0)
  | 0, i, h => by
    obtain rfl : i = l.length := by omega
    have hb := dotN_bl hl hm (i := l.length) hn
    refine Ev.step (f := fun _ => some (rndE (dotN l m l.length) (-2148) mode, 0)) (fun k => ?_) (Ev.now _)
    rw [PSd.cuspref05_Dot.l0, if_neg (by omega), rR_e (by omega) (by omega) hmo, Option.bind_some]
  | d + 1, i, h => by
    have ha := fin_rd hl i
    have hb := fin_rd hm i
    have b1 : bl (flz (rdOf (0 : Nat) l (i : Int))).natAbs ≤ 2098 := bl_le.2 (flz_lt ha)
    have b2 : bl (flz (rdOf (0 : Nat) m (i : Int))).natAbs ≤ 2098 := bl_le.2 (flz_lt hb)
    have b3 : bl (flz (rdOf (0 : Nat) l (i : Int)) * flz (rdOf (0 : Nat) m (i : Int))).natAbs ≤ 4196 := bl_le.2 (prod_bl ha hb)
    have b4 := dotN_bl hl hm (i := i) (by omega)
    have hw : wrap64 ((i : Int) + 1) = ((i + 1 : Nat) : Int) := (w64_of (by omega) (by omega)).trans (by omega)
    refine Ev.step (f := fun k => (cuspref02_Float.f k (rdOf (0 : Nat) l (i : Int))).bind fun x => (cuspref02_Float.f k (rdOf (0 : Nat) m (i : Int))).bind fun y => (PSd.cuspref02_Times.f k x.1 x.2.1 x.2.2 y.1 y.2.1 y.2.2).bind fun z => (cuspref02_Plus.f (canN (dotN l m i) (-2148)).1 (canN (dotN l m i) (-2148)).2.1 (canN (dotN l m i) (-2148)).2.2 z.1 z.2.1 z.2.2).bind fun s => PSd.cuspref05_Dot.l0 k l m mode ((i + 1 : Nat) : Int) s.1 s.2.1 s.2.2) (fun k => ?_) ?_
    · rw [PSd.cuspref05_Dot.l0, if_pos (by omega), if_pos (by omega), hw]
      congr 1
      funext x
      rw [if_pos (by omega)]
    · refine Ev.bind (rfloat_law ha) (Ev.bind (rfloat_law hb) (Ev.bind (rtimes_can (by omega) (by omega) (by omega) (by omega)) ?_))
      refine Ev.congr (f := fun k => PSd.cuspref05_Dot.l0 k l m mode ((i + 1 : Nat) : Int) (canN (dotN l m (i + 1)) (-2148)).1 (canN (dotN l m (i + 1)) (-2148)).2.1 (canN (dotN l m (i + 1)) (-2148)).2.2) (fun k => ?_) (rdot_go l m hl hm hlm hn mode hmo d (i + 1) (by omega))
      show ((cuspref02_Plus.f (canN (dotN l m i) (-2148)).1 (canN (dotN l m i) (-2148)).2.1 (canN (dotN l m i) (-2148)).2.2 (canN (flz (rdOf (0 : Nat) l (i : Int)) * flz (rdOf (0 : Nat) m (i : Int))) (-1074 + -1074)).1 (canN (flz (rdOf (0 : Nat) l (i : Int)) * flz (rdOf (0 : Nat) m (i : Int))) (-1074 + -1074)).2.1 (canN (flz (rdOf (0 : Nat) l (i : Int)) * flz (rdOf (0 : Nat) m (i : Int))) (-1074 + -1074)).2.2).bind _) = _
      rw [show (-1074 : Int) + -1074 = -2148 by omega, rplus_e (by omega) (by omega) (by omega), Option.bind_some]
      rfl
def faultT (l m : List Nat) : Int := if 65536 < l.length ∨ 65536 < m.length then 2 else if l.any nanB = true ∨ m.any nanB = true then 4 else if l.any infB? = true ∨ m.any infB? = true then 5 else 0
def dotT (l m : List Nat) (mode : Int) : Nat × Int :=
  if (1 ≤ mode ∧ mode ≤ 3) ∧ l.length = m.length then (if faultT l m = 0 then (rndE (dotN l m l.length) (-2148) mode, 0) else (0, faultT l m)) else (0, 1)
theorem rdot_law (l m : List Nat) (hl : ∀ b ∈ l, b < 18446744073709551616) (hm : ∀ b ∈ m, b < 18446744073709551616) (hn : l.length < 17592186044416) (mode : Int) : Ev (fun k => PSd.cuspref05_Dot.f k l m mode) (dotT l m mode) := by
  unfold PSd.cuspref05_Dot.f dotT
  by_cases hmo : 1 ≤ mode ∧ mode ≤ 3
  · by_cases he : l.length = m.length
    · rw [if_pos ⟨hmo, he⟩]
      refine Ev.congr (f := fun k => PSd.cuspref05_Dot.j0 k l m mode false) (fun k => ?_) ?_
      · rw [rvalid_yes hmo, Option.bind_some, if_pos rfl, show (((l.length : Int)) != (m.length : Int)) = false by rw [bne_eq_false_iff_eq]; omega]
      have end0 : ∀ q : Int, q ≠ 0 → Ev (fun k => PSd.cuspref05_Dot.j2 k l m mode q) ((0 : Nat), q) := fun q hq => Ev.step (f := fun _ => some ((0 : Nat), q)) (fun k => by rw [PSd.cuspref05_Dot.j2, if_neg hq]) (Ev.now _)
      refine Ev.step (f := fun k => (cuspref05_Fault.f k l).bind fun t => if t = 2 then PSd.cuspref05_Dot.j2 k l m mode t else ((cuspref05_Fault.f k m).bind fun u => if t = 4 then PSd.cuspref05_Dot.j1 k l m mode t u true else PSd.cuspref05_Dot.j1 k l m mode t u (u == 4))) (fun k => ?_) (Ev.bind (rfault_law l hl) ?_)
      · rw [PSd.cuspref05_Dot.j0, if_neg (by simp), if_pos (by simpa using hn)]
      by_cases hL : 65536 < l.length
      · have f1 : faultL l = 2 := by unfold faultL; rw [if_pos hL]
        have f2 : faultT l m = 2 := by unfold faultT; rw [if_pos (.inl hL)]
        rw [f1, f2, if_neg (by omega)]
        exact Ev.congr (fun k => if_pos rfl) (end0 2 (by omega))
      · have n2 : faultL l ≠ 2 := by unfold faultL; rw [if_neg hL]; split <;> (try split) <;> omega
        have hM : ¬ 65536 < m.length := by omega
        refine Ev.congr (fun k => if_neg n2) (Ev.bind (rfault_law m hm) ?_)
        have v1 : faultL l = if l.any nanB = true then 4 else if l.any infB? = true then 5 else 0 := by unfold faultL; rw [if_neg hL]
        have v2 : faultL m = if m.any nanB = true then 4 else if m.any infB? = true then 5 else 0 := by unfold faultL; rw [if_neg hM]
        have v3 : faultT l m = if l.any nanB = true ∨ m.any nanB = true then 4 else if l.any infB? = true ∨ m.any infB? = true then 5 else 0 := by unfold faultT; rw [if_neg (by omega)]
        by_cases N1 : l.any nanB = true
        · rw [show faultT l m = 4 by rw [v3, if_pos (.inl N1)], show faultL l = 4 by rw [v1, if_pos N1], if_neg (show ¬ ((4 : Int) = 0) by omega)]
          refine Ev.congr (fun k => if_pos rfl) (Ev.step (fun k => ?_) (end0 4 (by omega)))
          rw [PSd.cuspref05_Dot.j1, if_pos rfl]
        · rw [v1, if_neg N1]
          have t4 : ¬ ((if l.any infB? = true then (5 : Int) else 0) = 4) := by split <;> omega
          refine Ev.congr (fun k => if_neg t4) ?_
          by_cases N2 : m.any nanB = true
          · rw [show faultT l m = 4 by rw [v3, if_pos (.inr N2)], show faultL m = 4 by rw [v2, if_pos N2], if_neg (show ¬ ((4 : Int) = 0) by omega)]
            refine Ev.step (fun k => ?_) (end0 4 (by omega))
            rw [PSd.cuspref05_Dot.j1, if_pos (by decide)]
          · rw [v2, if_neg N2]
            have v4 : faultT l m = if l.any infB? = true ∨ m.any infB? = true then 5 else 0 := by rw [v3, if_neg (fun h => h.elim N1 N2)]
            by_cases I2 : m.any infB? = true
            · rw [show faultT l m = 5 by rw [v4, if_pos (.inr I2)], if_pos I2, if_neg (show ¬ ((5 : Int) = 0) by omega)]
              refine Ev.step (fun k => ?_) (end0 5 (by omega))
              rw [PSd.cuspref05_Dot.j1, if_neg (by decide), if_neg (by omega)]
            · rw [if_neg I2]
              by_cases I1 : l.any infB? = true
              · rw [show faultT l m = 5 by rw [v4, if_pos (.inl I1)], if_pos I1, if_neg (show ¬ ((5 : Int) = 0) by omega)]
                refine Ev.step (fun k => ?_) (end0 5 (by omega))
                rw [PSd.cuspref05_Dot.j1, if_neg (by decide), if_pos rfl]
              · rw [show faultT l m = 0 by rw [v4, if_neg (fun h => h.elim I1 I2)], if_neg I1, if_pos rfl]
                have g1 := (fault_zero hl (by rw [v1, if_neg N1, if_neg I1])).2
                have g2 := (fault_zero hm (by rw [v2, if_neg N2, if_neg I2])).2
                refine Ev.step (f := fun k => PSd.cuspref05_Dot.j2 k l m mode 0) (fun k => ?_) (Ev.step (f := fun k => PSd.cuspref05_Dot.l0 k l m mode 0 false [] 0) (fun k => ?_) ?_)
                · rw [PSd.cuspref05_Dot.j1, if_neg (by decide), if_pos rfl]
                · rw [PSd.cuspref05_Dot.j2, if_pos rfl]
                · have := rdot_go l m g1 g2 he (by omega) mode hmo l.length 0 (by omega)
                  rw [show dotN l m 0 = 0 from rfl, canN_zero] at this
                  exact this
    · rw [if_neg (fun h => he h.2)]
      refine Ev.congr (f := fun k => PSd.cuspref05_Dot.j0 k l m mode true) (fun k => ?_) (Ev.step (f := fun _ => some ((0 : Nat), 1)) (fun k => by rw [PSd.cuspref05_Dot.j0, if_pos rfl]) (Ev.now _))
      rw [rvalid_yes hmo, Option.bind_some, if_pos rfl, show (((l.length : Int)) != (m.length : Int)) = true by rw [bne_iff_ne]; omega]
  · rw [if_neg (fun h => hmo h.1)]
    refine Ev.congr (f := fun k => PSd.cuspref05_Dot.j0 k l m mode true) (fun k => ?_) (Ev.step (f := fun _ => some ((0 : Nat), 1)) (fun k => by rw [PSd.cuspref05_Dot.j0, if_pos rfl]) (Ev.now _))
    rw [rvalid_no hmo, Option.bind_some, if_neg (by omega)]
end Go.Proofs.YthmeocigliephaaGreatDoor.Big
end
section
namespace Go.Proofs.YthmeocigliephaaGreatDoor.Big
open Go.Proofs.YthmeocigliephaaGreatDoor.PSu Go.Proofs.YthmeocigliephaaGreatDoor.Plain Ieee
theorem dadd_e {x y e : Int} (hx : bl x.natAbs ≤ 50000) (hy : bl y.natAbs ≤ 50000) (he : -10000 ≤ e ∧ e ≤ 4000) : dyad_Add.f (canN x e).1 (canN x e).2.1 (canN x e).2.2 (canN y e).1 (canN y e).2.1 (canN y e).2.2 = some ((canN (x + y) e).1, (canN (x + y) e).2.1, (canN (x + y) e).2.2, 0) := by
  have hs : bl (x + y).natAbs ≤ 50001 := by
    have := bl_add hx hy
    refine bl_le.2 (Nat.lt_of_le_of_lt (Int.natAbs_add_le x y) (bl_le.1 this))
  unfold dyad_Add.f
  rw [if_pos ⟨isN_can (by omega) (by omega) (by omega), isN_can (by omega) (by omega) (by omega)⟩, addV_can (by omega) (by omega) (by omega) (by omega), mkN_can (by omega) (by omega) (by omega)]
theorem dmul_e {x y e g : Int} (hx : bl x.natAbs ≤ 3000) (hy : bl y.natAbs ≤ 3000) (he : -10000 ≤ e ∧ e ≤ 4000) (hg : -10000 ≤ g ∧ g ≤ 4000) (hxy : bl (x * y).natAbs ≤ 6000) : dyad_Mul.f (canN x e).1 (canN x e).2.1 (canN x e).2.2 (canN y g).1 (canN y g).2.1 (canN y g).2.2 = some ((canN (x * y) (e + g)).1, (canN (x * y) (e + g)).2.1, (canN (x * y) (e + g)).2.2, 0) := by
  unfold dyad_Mul.f
  rw [if_pos ⟨isN_can (by omega) (by omega) (by omega), isN_can (by omega) (by omega) (by omega)⟩]
  obtain ⟨n, a, t, ca, va, la, ta⟩ := can_form hx e
  obtain ⟨m, b, r, cb, vb, lb, tb⟩ := can_form hy g
  rw [ca, cb]
  simp only
  have hz : ∀ (n : Bool) (a : Nat), zv n (dig a) = if n = true then -(a : Int) else (a : Int) := by
    intro n a
    unfold zv
    rw [val_dig]
  rw [hz, hz]
  obtain ⟨za, hza⟩ : ∃ z : Int, (if n = true then -(a : Int) else (a : Int)) = z := ⟨_, rfl⟩
  obtain ⟨zb, hzb⟩ : ∃ z : Int, (if m = true then -(b : Int) else (b : Int)) = z := ⟨_, rfl⟩
  rw [hza] at va ⊢
  rw [hzb] at vb ⊢
  have hxy2 : x * y = za * zb * 2 ^ (t + r) := by rw [← va, ← vb, Int.pow_add, Int.mul_assoc, Int.mul_assoc, Int.mul_left_comm (2 ^ t) zb]
  have hlt : bl (za * zb).natAbs ≤ 6000 := by
    refine bl_le.2 (Nat.lt_of_le_of_lt ?_ (bl_le.1 hxy))
    rw [hxy2, Int.natAbs_mul (za * zb), Int.natAbs_pow]
    exact Nat.le_mul_of_pos_right _ (Nat.pow_pos (by decide))
  rw [mkN_can (by omega) (by split <;> split <;> omega) (by split <;> split <;> omega)]
  have hfin : canN (za * zb) ((if x = 0 then 0 else e + (t : Int)) + (if y = 0 then 0 else g + (r : Int))) = canN (x * y) (e + g) := by
    rw [hxy2, canN_shift]
    by_cases h0 : za * zb = 0
    · rw [h0, canN_zero, canN_zero]
    · have hx0 : x ≠ 0 := fun h => h0 (by
        have hp : (2 : Int) ^ t ≠ 0 := Int.ne_of_gt (Int.pow_pos (by omega))
        rw [h] at va
        rcases Int.mul_eq_zero.1 va with h | h
        · rw [h, Int.zero_mul]
        · exact absurd h hp)
      have hy0 : y ≠ 0 := fun h => h0 (by
        have hp : (2 : Int) ^ r ≠ 0 := Int.ne_of_gt (Int.pow_pos (by omega))
        rw [h] at vb
        rcases Int.mul_eq_zero.1 vb with h | h
        · rw [h, Int.mul_zero]
        · exact absurd h hp)
      rw [if_neg hx0, if_neg hy0]
      congr 1
      omega
  rw [hfin]
theorem round_e {z e mode : Int} (h1 : bl z.natAbs ≤ 60000) (he : -5000 ≤ e ∧ e ≤ 4000) (hm : 1 ≤ mode ∧ mode ≤ 3) : dyad_Round.f (canN z e).1 (canN z e).2.1 (canN z e).2.2 mode = some (rndE z e mode, 0) := by
  unfold dyad_Round.f roundN rndE
  rw [if_pos (isN_can (by omega) (by omega) (by omega)), if_pos hm]
  by_cases h : z = 0
  · rw [if_pos (can_length.2 h), if_pos h]
  · rw [if_neg (fun h' => h (can_length.1 h')), if_neg h]
theorem faultT_eq (A B : Option Addr) (c d : Nat) (l m : List Nat) : faultF [(A, c, l), (B, d, m)] = faultT l m := by
  unfold faultF faultT
  simp only [List.any_cons, List.any_nil, Bool.or_false, longB, scanF, Bool.false_or, Bool.or_eq_true, decide_eq_true_eq]
  by_cases h : 65536 < l.length ∨ 65536 < m.length
  · rw [if_pos h, if_pos h]
  · rw [if_neg h, if_neg h]
    by_cases h1 : l.any nanB = true
    · rw [if_pos h1, if_pos (.inl h1)]
    · rw [if_neg h1]
      by_cases h2 : m.any nanB = true
      · rw [if_pos h2, if_pos (.inr h2)]
      · rw [if_neg h2, if_neg (show ¬ (l.any nanB = true ∨ m.any nanB = true) from fun h => h.elim h1 h2)]
theorem fault_two (g : Nat) (A B : Option Addr) (c d : Nat) (l m : List Nat) (q : Int) (w : World) (hg0 : w.cell? ⟨g, 0, none⟩ = some (.slice A l.length c)) (hg1 : w.cell? ⟨g, 1, none⟩ = some (.slice B m.length d))
    (hr : Kd.C Kd.float w A l.length l) (hc : l.length ≤ c) (hn : l.length < 4611686018427387904) (hr2 : Kd.C Kd.float w B m.length m) (hd : m.length ≤ d) (hm : m.length < 4611686018427387904) (hq : faultT l m = q) :
    Calls Tryz.prog 50 #[.slice (some ⟨g, 0, none⟩) 2 2] w fun e w' => e = .returned (.int .i64 q) ∧ Below w.heap.size w w' := by
  have h := fault_any g [(A, c, l), (B, d, m)] w
    (fun i hi => by
      have : i = 0 ∨ i = 1 := by simp at hi; omega
      rcases this with rfl | rfl
      · exact hg0
      · exact hg1)
    (fun i hi => by
      have : i = 0 ∨ i = 1 := by simp at hi; omega
      rcases this with rfl | rfl
      · exact ⟨hr, hc, hn⟩
      · exact ⟨hr2, hd, hm⟩) (by simp)
  rw [faultT_eq, hq] at h
  exact h
end Go.Proofs.YthmeocigliephaaGreatDoor.Big
end
section
namespace Go.Proofs.YthmeocigliephaaGreatDoor
open Go.RowKit Go.Proofs.YthmeocigliephaaGreatDoorW.PrintWords Go.Proofs.YthmeocigliephaaGreatDoor.Big Go.Proofs.YthmeocigliephaaGreatDoor.Plain
def sums_fault.f (l m : List Nat) : Option Int := if l.length < 4611686018427387904 ∧ m.length < 4611686018427387904 then some (faultT l m) else none
theorem sums_fault.calls2 (g : Nat) (A B : Option Addr) (c d : Nat) (l m : List Nat) (q : Int) (w : World) (hg0 : w.cell? ⟨g, 0, none⟩ = some (.slice A l.length c)) (hg1 : w.cell? ⟨g, 1, none⟩ = some (.slice B m.length d))
    (hr : Kd.C Kd.float w A l.length l) (hc : l.length ≤ c) (hr2 : Kd.C Kd.float w B m.length m) (hd : m.length ≤ d) (h : sums_fault.f l m = some q) :
    Calls Tryz.prog 50 #[.slice (some ⟨g, 0, none⟩) 2 2] w fun e w' => e = .returned (.int .i64 q) ∧ Below w.heap.size w w' := by
  unfold sums_fault.f at h
  split at h
  · rename_i hn
    exact fault_two g A B c d l m q w hg0 hg1 hr hc hn.1 hr2 hd hn.2 (Option.some.inj h)
  · cases h
end Go.Proofs.YthmeocigliephaaGreatDoor
end
section
namespace Go.Proofs.YthmeocigliephaaGreatDoor.PSx
open Go.Proofs.YthmeocigliephaaGreatDoor.PSu Go.Proofs.YthmeocigliephaaGreatDoor.PSv Go.RowKit Go.Proofs.YthmeocigliephaaGreatDoorW.PrintWords Go.Proofs.YthmeocigliephaaGreatDoorW.PrintLast Go.Proofs.YthmeocigliephaaGreatDoorW.PrintMore
attribute [local go_sem] f64bits_run f64from_run run_float_some max2_int min2_int max_two min_two max_three min_three max_four min_four
def errW : Option Int → Value
 | none => .nilIface
 | some c => .iface 0 (.int .i64 c)
theorem errW_none : errW none = .nilIface := rfl
theorem errW_some (c : Int) : errW (some c) = .iface 0 (.int .i64 c) := rfl
end Go.Proofs.YthmeocigliephaaGreatDoor.PSx
end
section
namespace Go.Proofs.YthmeocigliephaaGreatDoor.PSx
open Go.Proofs.YthmeocigliephaaGreatDoor.PSu Go.Proofs.YthmeocigliephaaGreatDoor.PSv Go.RowKit Go.Proofs.YthmeocigliephaaGreatDoorW.PrintWords Go.Proofs.YthmeocigliephaaGreatDoorW.PrintLast Go.Proofs.YthmeocigliephaaGreatDoorW.PrintMore
attribute [local go_sem] f64bits_run f64from_run run_float_some max2_int min2_int max_two min_two max_three min_three max_four min_four
mutual
def sums_Dot.j0 : Nat → List Nat → List Nat → Int → Bool → Option (Nat × Int)
 | 0, _, _, _, _ => none
 | k + 1, x0, x1, x2, x23 => if x23 = true then (some ((0 : Nat), 1)) else ((sums_fault.f x0 x1).bind fun t102 => (if t102 = 0 then (sums_Dot.l0 k x1 x2 x0 (x0.length : Int) 0 false ([] : List Int) 0) else (some ((0 : Nat), t102))))
def sums_Dot.l0 : Nat → List Nat → Int → List Nat → Int → Int → Bool → List Int → Int → Option (Nat × Int)
 | 0, _, _, _, _, _, _, _, _ => none
 | k + 1, x1, x2, x31, x32, x33, x104000, x104001, x104002 => if x33 < x32 then (if 0 ≤ x33 then (if x33 < (x31.length : Int) then ((sums_num.f (rdOf (0 : Nat) x31 x33)).bind fun bt107 => (if x33 < (x1.length : Int) then ((sums_num.f (rdOf (0 : Nat) x1 x33)).bind fun bt113 => ((dyad_Mul.f bt107.1 bt107.2.1 bt107.2.2 bt113.1 bt113.2.1 bt113.2.2).bind fun bt118 => ((dyad_Add.f x104000 x104001 x104002 bt118.1 bt118.2.1 bt118.2.2.1).bind fun bt125 => (sums_Dot.l0 k x1 x2 x31 x32 (wrap64 (x33 + 1)) bt125.1 bt125.2.1 bt125.2.2.1)))) else (none))) else (none)) else (none)) else ((dyad_Round.f x104000 x104001 x104002 x2).bind fun bt104 => (some (bt104.1, bt104.2)))
end
def sums_Dot.f (k : Nat) (l0 : List Nat) (l1 : List Nat) (a2 : Int) : Option (Nat × Int) := (round_Valid.f a2).bind fun t101 => (if t101 = 0 then (sums_Dot.j0 k l0 l1 a2 ((l0.length : Int) != (l1.length : Int))) else (sums_Dot.j0 k l0 l1 a2 true))
def sums_Dot.T10 : Bool × List (List Nat × List Nat) := (true, [([], []), ([0], [0]), ([], []), ([], []), ([2, 3], [2, 3]), ([4], [4]), ([5, 1], [5]), ([1, 6, 6], [1, 6]), ([7], [7]), ([8], [8]), ([8], [8]), ([], []), ([11, 9, 7, 0, 1, 2, 3, 4, 5, 6, 7, 8, 9, 11], [9, 11]), ([10, 12, 0, 1, 2, 3, 4, 5, 6, 7, 8, 9, 10, 11, 12], [10])])
def sums_Dot.B10 : List Nat := [0, 1, 0, 0, 12, 28, 63, 127, 255, 511, 511, 0, 3071, 8191]
theorem sums_Dot.tab10 : rtab .any (opsOf Tryz.f33 10) = sums_Dot.T10 := by kernel_rfl
theorem sums_Dot.bits10 : waitsOk sums_Dot.T10.2 sums_Dot.B10 = true := by kernel_rfl
theorem sums_Dot.calls (k : Nat) (A0 : Option Addr) (c0 : Nat) (l0 : List Nat) (A1 : Option Addr) (c1 : Nat) (l1 : List Nat) (a2 : Int) (r1 : Nat) (r2 : Int) (w : World) (hr0 : Kd.C Kd.float w A0 l0.length l0) (hc0 : l0.length ≤ c0) (hr1 : Kd.C Kd.float w A1 l1.length l1) (hc1 : l1.length ≤ c1) (h : sums_Dot.f k l0 l1 a2 = some (r1, r2)) (hL : Big.Laid w := by exact Big.Laid.step HL.out hbw) :
  Calls Tryz.prog 33 #[.slice A0 l0.length c0, .slice A1 l1.length c1, .int .i64 a2] w fun e w' => e = .returned (.tuple #[.float .f64 r1, .int .i64 r2]) ∧ Below w.heap.size w w' := by
 have HL := asd hL
 clear hL
 have hu60 := Tryz.underlying60
 have HR0 := asd hr0
 have HC0 := asd hc0
 clear hr0 hc0
 have HR1 := asd hr1
 have HC1 := asd hc1
 clear hr1 hc1
 have HB := asd (Below.refl w.heap.size w)
 have H := h
 clear h
 unfold sums_Dot.f at H
 have HC4 := asd H
 clear H
 go_enter Tryz.func33, Tryz.ntmps33
 go_upto_region 1 with (fail)
 go_cut [23] (fun v23 wc => ∃ (kq : Nat) (x23_3 : Bool), v23 = .bool x23_3 ∧ Aside0 (sums_Dot.j0 kq l0 l1 a2 x23_3 = some (r1, r2)) ∧ Aside0 (kq ≤ k) ∧ Aside0 (Below w.heap.size w wc))
 case first =>
  have H := HC4.out
  clear HC4
  replace H := Option.bind_eq_some_iff.mp H
  obtain ⟨t101, A50, H⟩ := H
  have A5 := asd A50
  clear A50
  by_cases c6 : t101 = 0
  ·rw [if_pos c6] at H
   have c6b0 := beq_iff_eq.mpr c6
   have c6b1 := bne_eq_false_iff_eq.mpr c6
   clear c6
   (first | rw [c6b0] | (simp only [i64_w, i32_w]; rw [c6b0]) | skip)
   have H' := asd H
   clear H
   go_wp2_with (first | ((with_reducible refine gate_callee (f := 49) rfl ?_); refine goesL_ (some 15) rfl rfl Tryz.func49 (by kernel_rfl) rfl #[.int .i64 a2] rfl eqA ?_; (with_reducible refine (round_Valid.calls a2 t101 _ A5.out).mono ?_); rintro e w' ⟨rfl, ⟨nd, rfl⟩⟩; refine ⟨_, rfl, ?_⟩))
   go_meet
   case rel => exact ⟨_, (((l0.length : Int) != (l1.length : Int))), eqB, H', ⟨by first | omega | exact Nat.le_refl _⟩, ⟨hbw⟩⟩
  ·rw [if_neg c6] at H
   have c6b0 := beq_eq_false_iff_ne.mpr c6
   have c6b1 := bne_iff_ne.mpr c6
   (first | rw [c6b0] | (simp only [i64_w, i32_w]; rw [c6b0]) | skip)
   have H' := asd H
   clear H
   go_wp2_with (first | ((with_reducible refine gate_callee (f := 49) rfl ?_); refine goesL_ (some 15) rfl rfl Tryz.func49 (by kernel_rfl) rfl #[.int .i64 a2] rfl eqA ?_; (with_reducible refine (round_Valid.calls a2 t101 _ A5.out).mono ?_); rintro e w' ⟨rfl, ⟨nd, rfl⟩⟩; refine ⟨_, rfl, ?_⟩))
   go_meet
   case rel => exact ⟨_, (true), eqB, H', ⟨by first | omega | exact Nat.le_refl _⟩, ⟨hbw⟩⟩
 case rest =>
  clear HC4
  try clear c1
  try clear p2
  try clear c3
  try clear c4
  try clear c6
  try clear c6b0
  try clear c6b1
  obtain ⟨kq, x23_3, rfl, HA, HJ3, HB⟩ := hcut
  cases kq with
  | zero => exact absurd HA.out (by simp [sums_Dot.j0])
  | succ kj3 =>
   have H := HA.out
   clear HA
   simp only [sums_Dot.j0] at H
   by_cases c7 : x23_3 = true
   ·subst c7
    rw [if_pos rfl] at H
    simp only [Option.some.injEq, Prod.mk.injEq] at H
    obtain ⟨rfl, rfl⟩ := H
    go_wp2
    go_ret2
    exact ⟨eqC, hbw⟩
   ·replace c7 := Bool.eq_false_iff.mpr c7
    subst c7
    rw [if_neg (show ¬ (false = true) by decide)] at H
    replace H := Option.bind_eq_some_iff.mp H
    obtain ⟨t102, A80, H⟩ := H
    have A8 := asd A80
    clear A80
    by_cases c9 : t102 = 0
    ·rw [if_pos c9] at H
     have c9b0 := beq_iff_eq.mpr c9
     have c9b1 := bne_eq_false_iff_eq.mpr c9
     clear c9
     have H' := asd H
     clear H
     go_wp2_with (first | (go_at_call 50; refine (sums_fault.calls2 _ _ _ _ _ l0 l1 t102 _ (by exact blk_cell (blk_new _ _) 0) (by exact blk_cell (blk_new _ _) 1) (Kd.C_below HR0.out (by exact HB.out.alloc HB.out.size _)) HC0.out (Kd.C_below HR1.out (by exact HB.out.alloc HB.out.size _)) HC1.out A8.out).mono ?_; rintro e w10 ⟨rfl, hb⟩; replace HB := asd (below_step hbw hb); (try clear hb)) | ((with_reducible refine gate_dst (N := 9) rfl ?_); (try (refine gate_guard (by rfl) ?_; dsimp only)); refine box_ev (w := w) ?hg (N := 9) ?hd hbw (cs := #[.bool false, .slice none 0 0, .int .i64 0]) (t := 60) ?hr ?_; (case hd => rfl); (case hg => rfl); (case hr => first | (go_simp; done) | (go_simp; rfl)); clear HB; intro gb103 w11 HB BK103 GW103; have GE103 := GW103))
     go_loopg [33] kj3 (fun kq v33 w' => ∃ (x33_2 : Int) (x104000_2 : Bool) (x104001_2 : List Int) (x104002_2 : Int) (u104001 : Value), v33 = .int .i64 x33_2 ∧ Aside0 (sums_Dot.l0 kq l1 a2 l0 (l0.length : Int) x33_2 x104000_2 x104001_2 x104002_2 = some (r1, r2)) ∧ Aside0 (kq ≤ kj3) ∧ Aside0 (Kd.R (Kd.int .u32) 83 w' w.heap.size (fun _ => True) u104001 x104001_2) ∧ Aside0 (w'.heap[gb103]? = some (.cells #[.bool x104000_2, u104001, .int .i64 x104002_2] 60 (0, 0))) ∧ Aside0 (Below w.heap.size w w'))
     case atStart => exact ⟨(0), (false), (([] : List Int)), (0), (.slice none 0 0), eqB, H', ⟨Nat.le_refl _⟩, ⟨by first | exact Kd.R_nil _ _ _ _ _ | exact Kd.N_nil _ _ _ _ _ | exact Kd.V_nil _ _ _ _ _ | exact Kd.Q_nil _ _ _ _ _ | exact Kd.S_nil _ _ _ _ _⟩, ⟨by (with_reducible repeat (first | refine blk_drewN ?_ _ | refine blk_drew ?_ | refine blk_alloc ?_ _)); exact BK103.out⟩, ⟨hbs⟩⟩
     case round =>
      clear H'
      try clear c1
      try clear p2
      try clear c3
      try clear c4
      try clear c5
      try clear c6
      try clear c6b0
      try clear c6b1
      try clear c7
      try clear c9
      try clear c9b0
      try clear c9b1
      try clear p2
      obtain ⟨x33_2, x104000_2, x104001_2, x104002_2, u104001, rfl, HA, HK2, HO_104001, BK103, HB⟩ := hrel
      cases gk with
      | zero => exact absurd HA.out (by simp [sums_Dot.l0])
      | succ k2 =>
       have H := HA.out
       clear HA
       simp only [sums_Dot.l0] at H
       by_cases c12 : x33_2 < (l0.length : Int)
       ·rw [if_pos c12] at H
        have c12b0 := decide_eq_true c12
        clear c12
        by_cases c13 : 0 ≤ x33_2
        ·rw [if_pos c13] at H
         have c13b0 := decide_eq_true c13
         clear c13
         by_cases c14 : x33_2 < (l0.length : Int)
         ·rw [if_pos c14] at H
          have c14b0 := decide_eq_true c14
          clear c14
          replace H := Option.bind_eq_some_iff.mp H
          obtain ⟨⟨t107, t108, t111⟩, A150, H⟩ := H
          replace H : (if x33_2 < (l1.length : Int) then ((sums_num.f (rdOf (0 : Nat) l1 x33_2)).bind fun bt113 => ((dyad_Mul.f t107 t108 t111 bt113.1 bt113.2.1 bt113.2.2).bind fun bt118 => ((dyad_Add.f x104000_2 x104001_2 x104002_2 bt118.1 bt118.2.1 bt118.2.2.1).bind fun bt125 => (sums_Dot.l0 k2 l1 a2 l0 (l0.length : Int) (wrap64 (x33_2 + 1)) bt125.1 bt125.2.1 bt125.2.2.1)))) else (none)) = some (r1, r2) := H
          have A15 := asd A150
          clear A150
          by_cases c16 : x33_2 < (l1.length : Int)
          ·rw [if_pos c16] at H
           have c16b0 := decide_eq_true c16
           clear c16
           replace H := Option.bind_eq_some_iff.mp H
           obtain ⟨⟨t113, t114, t117⟩, A170, H⟩ := H
           replace H : ((dyad_Mul.f t107 t108 t111 t113 t114 t117).bind fun bt118 => ((dyad_Add.f x104000_2 x104001_2 x104002_2 bt118.1 bt118.2.1 bt118.2.2.1).bind fun bt125 => (sums_Dot.l0 k2 l1 a2 l0 (l0.length : Int) (wrap64 (x33_2 + 1)) bt125.1 bt125.2.1 bt125.2.2.1))) = some (r1, r2) := H
           have A17 := asd A170
           clear A170
           replace H := Option.bind_eq_some_iff.mp H
           obtain ⟨⟨t118, t119, t122, t123⟩, A180, H⟩ := H
           replace H : ((dyad_Add.f x104000_2 x104001_2 x104002_2 t118 t119 t122).bind fun bt125 => (sums_Dot.l0 k2 l1 a2 l0 (l0.length : Int) (wrap64 (x33_2 + 1)) bt125.1 bt125.2.1 bt125.2.2.1)) = some (r1, r2) := H
           have A18 := asd A180
           clear A180
           replace H := Option.bind_eq_some_iff.mp H
           obtain ⟨⟨t125, t126, t129, t130⟩, A190, H⟩ := H
           replace H : (sums_Dot.l0 k2 l1 a2 l0 (l0.length : Int) (wrap64 (x33_2 + 1)) t125 t126 t129) = some (r1, r2) := H
           have A19 := asd A190
           clear A190
           have H' := asd H
           clear H
           have p106 : 0 ≤ (x33_2 : Int) := odt
           have q106 : x33_2 < (l0.length : Int) := odt
           obtain ⟨ad106, e106, hx106_0⟩ := Kd.at_float HR0.out x33_2 p106 q106
           cases e106
           replace hx106_0 := (HB.out.cell (World.block_lt_of_cell? w _ hx106_0)).trans hx106_0
           replace p106 := eq_true p106
           replace q106 := eq_true q106
           try go_wp2
           have n0_ := asd (Kd.R_drew HO_104001.out)
           have n1_ := asd (blk_drew BK103.out)
           have n2_ := asd (below_drew1 HB.out)
           clear HO_104001
           clear BK103
           clear HB
           have HO_104001 := n0_
           have BK103 := n1_
           have HB := n2_
           clear n0_ n1_ n2_
           have p112 : 0 ≤ (x33_2 : Int) := odt
           have q112 : x33_2 < (l1.length : Int) := odt
           obtain ⟨ad112, e112, hx112_0⟩ := Kd.at_float HR1.out x33_2 p112 q112
           have hw112_0 := hx112_0
           cases e112
           replace hx112_0 := (HB.out.cell (World.block_lt_of_cell? w _ hx112_0)).trans hx112_0
           replace p112 := eq_true p112
           replace q112 := eq_true q112
           refine start_ (n := 14) (S := fun w' => w'.cell? (ad112.add (x33_2).toNat) = some (.float .f64 (rdOf (0 : Nat) l1 x33_2))) (ds := []) #[false, false, false, false, false, false, false, false, false, false, false, false, false, false] (by kernel_rfl) rfl rfl (((HB.out.cell (World.block_lt_of_cell? w _ hw112_0)).trans hw112_0)) (fun hHeld => ?_); refine with_tabW sums_Dot.tab10 sums_Dot.bits10 (fun HT_ HW_ => ?_)
           generalize wr.drew = w20 at HO_104001 BK103 HB hx112_0 hHeld ⊢
           refine pure_ (i := 0) (N := some 39) (v := ?_) (a' := ?_) #[true, false, false, false, false, false, false, false, false, false, false, false, false, false] rfl rfl (any_of HT_.out (by kernel_rfl)) (fun _ _ _ h => h) (Or.inl ⟨by rfl, ?_⟩) ?_ ?_
           rotate_left
           ·intro w'
            go_simp
            with_reducible rfl
           rotate_left
           ·simp only [Act.put, List.setIfInBounds_toArray, List.set_cons_zero, List.set_cons_succ, i64_w, i32_w]
            rfl
           refine pure_ (i := 2) (N := some 41) (v := ?_) (a' := ?_) #[true, false, true, false, false, false, false, false, false, false, false, false, false, false] rfl rfl (any_of HT_.out (by kernel_rfl)) (fun _ _ _ h => h) (Or.inl ⟨by rfl, ?_⟩) ?_ ?_
           rotate_left
           ·intro w'
            go_simp
            with_reducible rfl
           rotate_left
           ·simp only [Act.put, List.setIfInBounds_toArray, List.set_cons_zero, List.set_cons_succ, i64_w, i32_w]
            rfl
           refine pure_ (i := 3) (N := some 42) (v := ?_) (a' := ?_) #[true, false, true, true, false, false, false, false, false, false, false, false, false, false] rfl rfl (any_of HT_.out (by kernel_rfl)) (fun _ _ _ h => h) (Or.inl ⟨by rfl, ?_⟩) ?_ ?_
           rotate_left
           ·intro w'
            go_simp
            with_reducible rfl
           rotate_left
           ·simp only [Act.put, List.setIfInBounds_toArray, List.set_cons_zero, List.set_cons_succ, i64_w, i32_w]
            rfl
           refine pure_ (i := 4) (N := some 43) (v := ?_) (a' := ?_) #[true, false, true, true, true, false, false, false, false, false, false, false, false, false] rfl rfl (any_of HT_.out (by kernel_rfl)) (fun _ _ _ h => h) (Or.inl ⟨by rfl, ?_⟩) ?_ ?_
           rotate_left
           ·intro w'
            go_simp
            with_reducible rfl
           rotate_left
           ·simp only [Act.put, List.setIfInBounds_toArray, List.set_cons_zero, List.set_cons_succ, i64_w, i32_w]
            rfl
           refine take_ (i := 5) (N := some 44) (v := ?_) (a' := ?_) #[true, false, true, true, true, true, false, false, false, false, false, false, false, false] rfl rfl (take_ofW HT_.out HW_.out (by kernel_rfl)) (fun _ _ _ h => h) (Or.inl ⟨by rfl, ?_⟩) hHeld ?_ ?_
           rotate_left
           ·intro w' s0
            go_simp
            with_reducible rfl
           rotate_left
           ·simp only [Act.put, List.setIfInBounds_toArray, List.set_cons_zero, List.set_cons_succ, i64_w, i32_w]
            rfl
           refine join_ (σ := Value × Value × Value × Nat) 2 #[true, true, true, true, true, true, true, true, true, true, true, true, false, false] (fun s_ => [(40, .agg #[.bool t107, s_.1, .int .i64 t111]), (45, .agg #[.bool t113, s_.2.1, .int .i64 t117]), (46, .tuple #[.agg #[.bool t118, s_.2.2.1, .int .i64 t122], .int .i64 t123]), (12, .pointer (some ⟨s_.2.2.2, 0, none⟩)), (38, .tuple #[.agg #[.bool t118, s_.2.2.1, .int .i64 t122], .int .i64 t123]), (47, .agg #[.bool t118, s_.2.2.1, .int .i64 t122]), (48, .int .i64 t123)]) (fun s_ w' => (w'.cell? (ad112.add (x33_2).toNat) = some (.float .f64 (rdOf (0 : Nat) l1 x33_2))) ∧ (Kd.R (Kd.int .u32) 83 w' w.heap.size (fun k_ => some k_ ≠ (s_.2.1 : Value).ownBlock ∧ some k_ ≠ (s_.2.2.1 : Value).ownBlock ∧ some k_ ≠ (u104001 : Value).ownBlock) s_.1 t108) ∧ (Kd.R (Kd.int .u32) 83 w' w.heap.size (fun k_ => some k_ ≠ (s_.1 : Value).ownBlock ∧ some k_ ≠ (s_.2.2.1 : Value).ownBlock ∧ some k_ ≠ (u104001 : Value).ownBlock) s_.2.1 t114) ∧ (Kd.R (Kd.int .u32) 83 w' w.heap.size (fun k_ => some k_ ≠ (s_.1 : Value).ownBlock ∧ some k_ ≠ (s_.2.1 : Value).ownBlock ∧ some k_ ≠ (u104001 : Value).ownBlock) s_.2.2.1 t119) ∧ (Kd.R (Kd.int .u32) 83 w' w.heap.size (fun k_ => some k_ ≠ (s_.1 : Value).ownBlock ∧ some k_ ≠ (s_.2.1 : Value).ownBlock ∧ some k_ ≠ (s_.2.2.1 : Value).ownBlock) u104001 x104001_2) ∧ (w'.heap[gb103]? = some (.cells #[.bool x104000_2, u104001, .int .i64 x104002_2] 60 (0, 0))) ∧ (w'.heap[s_.2.2.2]? = some (.cells #[.bool false, .slice none 0 0, .int .i64 0] 60 (0, 0))) ∧ (w.heap.size ≤ s_.2.2.2) ∧ (w.heap.size ≤ s_.2.2.2) ∧ (gb103 ≠ s_.2.2.2) ∧ (s_.2.2.2 ≠ gb103) ∧ (Below w.heap.size w w')) ?_ ?_
           rotate_left
           ·intro hCont
            refine two_ (i := 1) (j := 11) (Ni := some 40) (Nj := some 12) #[true, true, true, true, true, true, false, false, false, false, false, false, false, false] #[true, false, true, true, true, true, false, false, false, false, false, true, false, false] rfl rfl rfl rfl (two_of HT_.out (by kernel_rfl)) (by decide) (by decide) (fun K hK => ?_) (fun K hK => ?_)
            ·skip
             refine goes_ Tryz.func46 (by kernel_rfl) rfl #[.float .f64 (rdOf (0 : Nat) l0 x33_2)] (by rfl) rfl rfl eqA ?_
             with_reducible refine (sums_num.calls (rdOf (0 : Nat) l0 x33_2) t107 t108 t111 _ A15.out).mono ?_
             rintro e w21 ⟨v109, rfl, ho0, hb⟩
             refine ⟨_, rfl, ?_⟩
             have n0_ := asd (Kd.R_elder' (rUp HO_104001.out) (Kd.R_base ho0) hb)
             have n1_ := asd (Kd.R_lower (Kd.R_new' ho0 (Kd.R_lt (rUp HO_104001.out))) (below_size hbs))
             have n2_ := asd (blk_below (g := gb103) (o := .cells #[.bool x104000_2, u104001, .int .i64 x104002_2] 60 (0, 0)) (blkU BK103.out) hb)
             have n3_ := asd (below_step hbs hb)
             clear HO_104001
             clear BK103
             clear HB
             have HO_104001 := n0_
             have HO110 := n1_
             have BK103 := n2_
             have HB := n3_
             clear n0_ n1_ n2_ n3_
             (try clear hb)
             (try clear hb2)
             (try clear hk)
             (try clear hi)
             (try clear ho0)
             refine hK.out _ _ (((HB.out.cell (World.block_lt_of_cell? w _ hw112_0)).trans hw112_0)) (fun hHeld => ?_)
             clear hK K
             refine norm_ (a' := ?_) ?_ ?_
             rotate_left
             ·show Act.put _ (some 40) _ = _
              simp only [Act.put, List.setIfInBounds_toArray, List.set_cons_zero, List.set_cons_succ, i64_w, i32_w]
              rfl
             refine two_ (i := 6) (j := 11) (Ni := some 45) (Nj := some 12) #[true, true, true, true, true, true, true, false, false, false, false, false, false, false] #[true, true, true, true, true, true, false, false, false, false, false, true, false, false] rfl rfl rfl rfl (two_of HT_.out (by kernel_rfl)) (by decide) (by decide) (fun K hK => ?_) (fun K hK => ?_)
             ·skip
              refine goes_ Tryz.func46 (by kernel_rfl) rfl #[.float .f64 (rdOf (0 : Nat) l1 x33_2)] (by rfl) rfl rfl eqA ?_
              with_reducible refine (sums_num.calls (rdOf (0 : Nat) l1 x33_2) t113 t114 t117 _ A17.out).mono ?_
              rintro e w22 ⟨v115, rfl, ho0, hb⟩
              refine ⟨_, rfl, ?_⟩
              have n0_ := asd (Kd.R_elder' (rUp HO_104001.out) (Kd.R_base ho0) hb)
              have n1_ := asd (Kd.R_elder' (rUp HO110.out) (Kd.R_base ho0) hb)
              have n2_ := asd (Kd.R_lower (Kd.R_new' (Kd.R_new' ho0 (Kd.R_lt (rUp HO_104001.out))) (Kd.R_lt (rUp HO110.out))) (below_size hbs))
              have n3_ := asd (blk_below (g := gb103) (o := .cells #[.bool x104000_2, u104001, .int .i64 x104002_2] 60 (0, 0)) (blkU BK103.out) hb)
              have n4_ := asd (below_step hbs hb)
              clear HO_104001
              clear HO110
              clear BK103
              clear HB
              have HO_104001 := n0_
              have HO110 := n1_
              have HO116 := n2_
              have BK103 := n3_
              have HB := n4_
              clear n0_ n1_ n2_ n3_ n4_
              (try clear hb)
              (try clear hb2)
              (try clear hk)
              (try clear hi)
              (try clear ho0)
              obtain ⟨Ao23, co23, eo23⟩ := Kd.R_slice HO110.out
              (first | subst eo23 | (injection eo23 with f1_ f2_ f3_; have f4_ := f1_.symm; have f5_ := f3_.symm; clear f1_ f2_ f3_; subst f4_; subst f5_))
              obtain ⟨Ao24, co24, eo24⟩ := Kd.R_slice HO116.out
              (first | subst eo24 | (injection eo24 with f1_ f2_ f3_; have f4_ := f1_.symm; have f5_ := f3_.symm; clear f1_ f2_ f3_; subst f4_; subst f5_))
              refine hK.out _ _ (((HB.out.cell (World.block_lt_of_cell? w _ hw112_0)).trans hw112_0)) (fun hHeld => ?_)
              clear hK K
              refine norm_ (a' := ?_) ?_ ?_
              rotate_left
              ·show Act.put _ (some 45) _ = _
               simp only [Act.put, List.setIfInBounds_toArray, List.set_cons_zero, List.set_cons_succ, i64_w, i32_w]
               rfl
              refine two_ (i := 7) (j := 11) (Ni := some 46) (Nj := some 12) #[true, true, true, true, true, true, true, true, false, false, false, false, false, false] #[true, true, true, true, true, true, true, false, false, false, false, true, false, false] rfl rfl rfl rfl (two_of HT_.out (by kernel_rfl)) (by decide) (by decide) (fun K hK => ?_) (fun K hK => ?_)
              ·skip
               refine goes_ Tryz.func78 (by kernel_rfl) rfl #[.agg #[.bool t107, .slice Ao23 t108.length co23, .int .i64 t111], .agg #[.bool t113, .slice Ao24 t114.length co24, .int .i64 t117]] (by rfl) rfl rfl eqA ?_
               with_reducible refine (dyad_Mul.calls t107 _ _ t108 t111 t113 _ _ t114 t117 t118 t119 t122 t123 _ ?side1 ?side2 ?side3 ?side4 A18.out).mono ?_
               (case side1 => repeat (first | exact (Kd.R_reads' HO110.out).2.2 | (with_reducible refine Kd.C_alloc ?_ _) | (with_reducible refine Kd.C_drewN ?_ _) | (with_reducible refine Kd.C_drew ?_)))
               (case side2 => exact (Kd.R_reads' HO110.out).2.1)
               (case side3 => repeat (first | exact (Kd.R_reads' HO116.out).2.2 | (with_reducible refine Kd.C_alloc ?_ _) | (with_reducible refine Kd.C_drewN ?_ _) | (with_reducible refine Kd.C_drew ?_)))
               (case side4 => exact (Kd.R_reads' HO116.out).2.1)
               rintro e w25 ⟨v120, rfl, ho0, hb⟩
               refine ⟨_, rfl, ?_⟩
               have n0_ := asd (Kd.R_elder' (rUp HO_104001.out) (Kd.R_base ho0) hb)
               have n1_ := asd (Kd.R_elder' (rUp HO110.out) (Kd.R_base ho0) hb)
               have n2_ := asd (Kd.R_elder' (rUp HO116.out) (Kd.R_base ho0) hb)
               have n3_ := asd (Kd.R_lower (Kd.R_new' (Kd.R_new' (Kd.R_new' ho0 (Kd.R_lt (rUp HO_104001.out))) (Kd.R_lt (rUp HO110.out))) (Kd.R_lt (rUp HO116.out))) (below_size hbs))
               have n4_ := asd (blk_below (g := gb103) (o := .cells #[.bool x104000_2, u104001, .int .i64 x104002_2] 60 (0, 0)) (blkU BK103.out) hb)
               have n5_ := asd (below_step hbs hb)
               clear HO_104001
               clear HO110
               clear HO116
               clear BK103
               clear HB
               have HO_104001 := n0_
               have HO110 := n1_
               have HO116 := n2_
               have HO121 := n3_
               have BK103 := n4_
               have HB := n5_
               clear n0_ n1_ n2_ n3_ n4_ n5_
               (try clear hb)
               (try clear hb2)
               (try clear hk)
               (try clear hi)
               (try clear ho0)
               refine hK.out _ _ (((HB.out.cell (World.block_lt_of_cell? w _ hw112_0)).trans hw112_0)) (fun hHeld => ?_)
               clear hK K
               refine norm_ (a' := ?_) ?_ ?_
               rotate_left
               ·show Act.put _ (some 46) _ = _
                simp only [Act.put, List.setIfInBounds_toArray, List.set_cons_zero, List.set_cons_succ, i64_w, i32_w]
                rfl
               refine pure_ (i := 8) (N := some 38) (v := ?_) (a' := ?_) #[true, true, true, true, true, true, true, true, true, false, false, false, false, false] rfl rfl (any_of HT_.out (by kernel_rfl)) (fun _ _ _ h => h) (Or.inl ⟨by rfl, ?_⟩) ?_ ?_
               rotate_left
               ·intro w'
                go_simp
                with_reducible rfl
               rotate_left
               ·simp only [Act.put, List.setIfInBounds_toArray, List.set_cons_zero, List.set_cons_succ, i64_w, i32_w]
                rfl
               refine pure_ (i := 9) (N := some 47) (v := ?_) (a' := ?_) #[true, true, true, true, true, true, true, true, true, true, false, false, false, false] rfl rfl (any_of HT_.out (by kernel_rfl)) (fun _ _ _ h => h) (Or.inl ⟨by rfl, ?_⟩) ?_ ?_
               rotate_left
               ·intro w'
                go_simp
                with_reducible rfl
               rotate_left
               ·simp only [Act.put, List.setIfInBounds_toArray, List.set_cons_zero, List.set_cons_succ, i64_w, i32_w]
                rfl
               refine pure_ (i := 10) (N := some 48) (v := ?_) (a' := ?_) #[true, true, true, true, true, true, true, true, true, true, true, false, false, false] rfl rfl (any_of HT_.out (by kernel_rfl)) (fun _ _ _ h => h) (Or.inl ⟨by rfl, ?_⟩) ?_ ?_
               rotate_left
               ·intro w'
                go_simp
                with_reducible rfl
               rotate_left
               ·simp only [Act.put, List.setIfInBounds_toArray, List.set_cons_zero, List.set_cons_succ, i64_w, i32_w]
                rfl
               refine one_ (i := 11) (N := some 12) #[true, true, true, true, true, true, true, true, true, true, true, true, false, false] rfl rfl (one_of HT_.out (by kernel_rfl)) (by decide) (fun K hK => ?_)
               refine box_step ?hg (N := 12) ?hd (cs := #[.bool false, .slice none 0 0, .int .i64 0]) (t := 60) ?hr ?_; (case hd => rfl); (case hg => rfl); (case hr => first | (go_simp; done) | (go_simp; rfl))
               intro gb124 hg w26 hbox hb
               have n0_ := asd (Kd.R_below (rUp HO_104001.out) hb)
               have n1_ := asd (Kd.R_below (rUp HO110.out) hb)
               have n2_ := asd (Kd.R_below (rUp HO116.out) hb)
               have n3_ := asd (Kd.R_below (rUp HO121.out) hb)
               have n4_ := asd (blk_below (g := gb103) (o := .cells #[.bool x104000_2, u104001, .int .i64 x104002_2] 60 (0, 0)) (blkU BK103.out) hb)
               have n5_ := asd (below_step hbs hb)
               have n6_ := asd (hbox)
               have n7_ := asd ((by rw [hg]; exact (below_size hbs) : w.heap.size ≤ gb124))
               have n8_ := asd ((by rw [hg]; exact (below_size hbs) : w.heap.size ≤ gb124))
               have n9_ := asd ((by rw [hg]; exact Nat.ne_of_lt (blk_lt (g := gb103) (o := .cells #[.bool x104000_2, u104001, .int .i64 x104002_2] 60 (0, 0)) (blkU BK103.out)) : gb103 ≠ gb124))
               have n10_ := asd ((by rw [hg]; exact Nat.ne_of_gt (blk_lt (g := gb103) (o := .cells #[.bool x104000_2, u104001, .int .i64 x104002_2] 60 (0, 0)) (blkU BK103.out)) : gb124 ≠ gb103))
               clear HO_104001
               clear HO110
               clear HO116
               clear HO121
               clear BK103
               clear HB
               have HO_104001 := n0_
               have HO110 := n1_
               have HO116 := n2_
               have HO121 := n3_
               have BK103 := n4_
               have HB := n5_
               have BK124 := n6_
               have GW124 := n7_
               have GE124 := n8_
               have NB103_124 := n9_
               have NB124_103 := n10_
               clear n0_ n1_ n2_ n3_ n4_ n5_ n6_ n7_ n8_ n9_ n10_
               clear hb hbox hg
               refine hK.out _ _ (((HB.out.cell (World.block_lt_of_cell? w _ hw112_0)).trans hw112_0)) (fun hHeld => ?_)
               clear hK K
               refine norm_ (a' := ?_) ?_ ?_
               rotate_left
               ·show Act.put _ (some 12) _ = _
                simp only [Act.put, List.setIfInBounds_toArray, List.set_cons_zero, List.set_cons_succ, i64_w, i32_w]
                rfl
               exact norm_ (by simp only [putAll, Act.put, List.setIfInBounds_toArray, List.set_cons_zero, List.set_cons_succ]) (hCont (.slice Ao23 t108.length co23, .slice Ao24 t114.length co24, v120, gb124) _ ⟨hHeld, (by (with_reducible repeat (first | apply Kd.R_alloc | apply Kd.R_drewN | apply Kd.R_drew)); exact Kd.R_mono HO110.out (fun _ hk => ⟨hk.1.2, ⟨hk.2, hk.1.1.2⟩⟩)), (by (with_reducible repeat (first | apply Kd.R_alloc | apply Kd.R_drewN | apply Kd.R_drew)); exact Kd.R_mono HO116.out (fun _ hk => ⟨hk.1.2, ⟨hk.2, hk.1.1.2⟩⟩)), (by (with_reducible repeat (first | apply Kd.R_alloc | apply Kd.R_drewN | apply Kd.R_drew)); exact Kd.R_mono HO121.out (fun _ hk => ⟨hk.1.2, ⟨hk.2, hk.1.1.2⟩⟩)), (by (with_reducible repeat (first | apply Kd.R_alloc | apply Kd.R_drewN | apply Kd.R_drew)); exact Kd.R_mono HO_104001.out (fun _ hk => ⟨hk.1.1.2, ⟨hk.1.2, hk.2⟩⟩)), (blkU BK103.out), (blkU BK124.out), GW124.out, GE124.out, NB103_124.out, NB124_103.out, hbs⟩)
              ·skip
               refine box_step ?hg (N := 12) ?hd (cs := #[.bool false, .slice none 0 0, .int .i64 0]) (t := 60) ?hr ?_; (case hd => rfl); (case hg => rfl); (case hr => first | (go_simp; done) | (go_simp; rfl))
               intro gb124 hg w23 hbox hb
               have n0_ := asd (Kd.R_below (rUp HO_104001.out) hb)
               have n1_ := asd (Kd.R_below (rUp HO110.out) hb)
               have n2_ := asd (Kd.R_below (rUp HO116.out) hb)
               have n3_ := asd (blk_below (g := gb103) (o := .cells #[.bool x104000_2, u104001, .int .i64 x104002_2] 60 (0, 0)) (blkU BK103.out) hb)
               have n4_ := asd (below_step hbs hb)
               have n5_ := asd (hbox)
               have n6_ := asd ((by rw [hg]; exact (below_size hbs) : w.heap.size ≤ gb124))
               have n7_ := asd ((by rw [hg]; exact (below_size hbs) : w.heap.size ≤ gb124))
               have n8_ := asd ((by rw [hg]; exact Nat.ne_of_lt (blk_lt (g := gb103) (o := .cells #[.bool x104000_2, u104001, .int .i64 x104002_2] 60 (0, 0)) (blkU BK103.out)) : gb103 ≠ gb124))
               have n9_ := asd ((by rw [hg]; exact Nat.ne_of_gt (blk_lt (g := gb103) (o := .cells #[.bool x104000_2, u104001, .int .i64 x104002_2] 60 (0, 0)) (blkU BK103.out)) : gb124 ≠ gb103))
               clear HO_104001
               clear HO110
               clear HO116
               clear BK103
               clear HB
               have HO_104001 := n0_
               have HO110 := n1_
               have HO116 := n2_
               have BK103 := n3_
               have HB := n4_
               have BK124 := n5_
               have GW124 := n6_
               have GE124 := n7_
               have NB103_124 := n8_
               have NB124_103 := n9_
               clear n0_ n1_ n2_ n3_ n4_ n5_ n6_ n7_ n8_ n9_
               clear hb hbox hg
               obtain ⟨Ao24, co24, eo24⟩ := Kd.R_slice HO110.out
               (first | subst eo24 | (injection eo24 with f1_ f2_ f3_; have f4_ := f1_.symm; have f5_ := f3_.symm; clear f1_ f2_ f3_; subst f4_; subst f5_))
               obtain ⟨Ao25, co25, eo25⟩ := Kd.R_slice HO116.out
               (first | subst eo25 | (injection eo25 with f1_ f2_ f3_; have f4_ := f1_.symm; have f5_ := f3_.symm; clear f1_ f2_ f3_; subst f4_; subst f5_))
               refine hK.out _ _ (((HB.out.cell (World.block_lt_of_cell? w _ hw112_0)).trans hw112_0)) (fun hHeld => ?_)
               clear hK K
               refine norm_ (a' := ?_) ?_ ?_
               rotate_left
               ·show Act.put _ (some 12) _ = _
                simp only [Act.put, List.setIfInBounds_toArray, List.set_cons_zero, List.set_cons_succ, i64_w, i32_w]
                rfl
               refine one_ (i := 7) (N := some 46) #[true, true, true, true, true, true, true, true, false, false, false, true, false, false] rfl rfl (one_of HT_.out (by kernel_rfl)) (by decide) (fun K hK => ?_)
               refine goes_ Tryz.func78 (by kernel_rfl) rfl #[.agg #[.bool t107, .slice Ao24 t108.length co24, .int .i64 t111], .agg #[.bool t113, .slice Ao25 t114.length co25, .int .i64 t117]] (by rfl) rfl rfl eqA ?_
               with_reducible refine (dyad_Mul.calls t107 _ _ t108 t111 t113 _ _ t114 t117 t118 t119 t122 t123 _ ?side1 ?side2 ?side3 ?side4 A18.out).mono ?_
               (case side1 => repeat (first | exact (Kd.R_reads' HO110.out).2.2 | (with_reducible refine Kd.C_alloc ?_ _) | (with_reducible refine Kd.C_drewN ?_ _) | (with_reducible refine Kd.C_drew ?_)))
               (case side2 => exact (Kd.R_reads' HO110.out).2.1)
               (case side3 => repeat (first | exact (Kd.R_reads' HO116.out).2.2 | (with_reducible refine Kd.C_alloc ?_ _) | (with_reducible refine Kd.C_drewN ?_ _) | (with_reducible refine Kd.C_drew ?_)))
               (case side4 => exact (Kd.R_reads' HO116.out).2.1)
               rintro e w26 ⟨v120, rfl, ho0, hb⟩
               refine ⟨_, rfl, ?_⟩
               have n0_ := asd (Kd.R_elder' (rUp HO_104001.out) (Kd.R_base ho0) hb)
               have n1_ := asd (Kd.R_elder' (rUp HO110.out) (Kd.R_base ho0) hb)
               have n2_ := asd (Kd.R_elder' (rUp HO116.out) (Kd.R_base ho0) hb)
               have n3_ := asd (Kd.R_lower (Kd.R_new' (Kd.R_new' (Kd.R_new' ho0 (Kd.R_lt (rUp HO_104001.out))) (Kd.R_lt (rUp HO110.out))) (Kd.R_lt (rUp HO116.out))) (below_size hbs))
               have n4_ := asd (blk_below (g := gb103) (o := .cells #[.bool x104000_2, u104001, .int .i64 x104002_2] 60 (0, 0)) (blkU BK103.out) hb)
               have n5_ := asd (blk_below (g := gb124) (o := .cells #[.bool false, .slice none 0 0, .int .i64 0] 60 (0, 0)) (blkU BK124.out) hb)
               have n6_ := asd (below_step hbs hb)
               clear HO_104001
               clear HO110
               clear HO116
               clear BK103
               clear BK124
               clear HB
               have HO_104001 := n0_
               have HO110 := n1_
               have HO116 := n2_
               have HO121 := n3_
               have BK103 := n4_
               have BK124 := n5_
               have HB := n6_
               clear n0_ n1_ n2_ n3_ n4_ n5_ n6_
               (try clear hb)
               (try clear hb2)
               (try clear hk)
               (try clear hi)
               (try clear ho0)
               refine hK.out _ _ (((HB.out.cell (World.block_lt_of_cell? w _ hw112_0)).trans hw112_0)) (fun hHeld => ?_)
               clear hK K
               refine norm_ (a' := ?_) ?_ ?_
               rotate_left
               ·show Act.put _ (some 46) _ = _
                simp only [Act.put, List.setIfInBounds_toArray, List.set_cons_zero, List.set_cons_succ, i64_w, i32_w]
                rfl
               refine pure_ (i := 8) (N := some 38) (v := ?_) (a' := ?_) #[true, true, true, true, true, true, true, true, true, false, false, true, false, false] rfl rfl (any_of HT_.out (by kernel_rfl)) (fun _ _ _ h => h) (Or.inl ⟨by rfl, ?_⟩) ?_ ?_
               rotate_left
               ·intro w'
                go_simp
                with_reducible rfl
               rotate_left
               ·simp only [Act.put, List.setIfInBounds_toArray, List.set_cons_zero, List.set_cons_succ, i64_w, i32_w]
                rfl
               refine pure_ (i := 9) (N := some 47) (v := ?_) (a' := ?_) #[true, true, true, true, true, true, true, true, true, true, false, true, false, false] rfl rfl (any_of HT_.out (by kernel_rfl)) (fun _ _ _ h => h) (Or.inl ⟨by rfl, ?_⟩) ?_ ?_
               rotate_left
               ·intro w'
                go_simp
                with_reducible rfl
               rotate_left
               ·simp only [Act.put, List.setIfInBounds_toArray, List.set_cons_zero, List.set_cons_succ, i64_w, i32_w]
                rfl
               refine pure_ (i := 10) (N := some 48) (v := ?_) (a' := ?_) #[true, true, true, true, true, true, true, true, true, true, true, true, false, false] rfl rfl (any_of HT_.out (by kernel_rfl)) (fun _ _ _ h => h) (Or.inl ⟨by rfl, ?_⟩) ?_ ?_
               rotate_left
               ·intro w'
                go_simp
                with_reducible rfl
               rotate_left
               ·simp only [Act.put, List.setIfInBounds_toArray, List.set_cons_zero, List.set_cons_succ, i64_w, i32_w]
                rfl
               exact norm_ (by simp only [putAll, Act.put, List.setIfInBounds_toArray, List.set_cons_zero, List.set_cons_succ]) (hCont (.slice Ao24 t108.length co24, .slice Ao25 t114.length co25, v120, gb124) _ ⟨hHeld, (by (with_reducible repeat (first | apply Kd.R_alloc | apply Kd.R_drewN | apply Kd.R_drew)); exact Kd.R_mono HO110.out (fun _ hk => ⟨hk.1.2, ⟨hk.2, hk.1.1.2⟩⟩)), (by (with_reducible repeat (first | apply Kd.R_alloc | apply Kd.R_drewN | apply Kd.R_drew)); exact Kd.R_mono HO116.out (fun _ hk => ⟨hk.1.2, ⟨hk.2, hk.1.1.2⟩⟩)), (by (with_reducible repeat (first | apply Kd.R_alloc | apply Kd.R_drewN | apply Kd.R_drew)); exact Kd.R_mono HO121.out (fun _ hk => ⟨hk.1.2, ⟨hk.2, hk.1.1.2⟩⟩)), (by (with_reducible repeat (first | apply Kd.R_alloc | apply Kd.R_drewN | apply Kd.R_drew)); exact Kd.R_mono HO_104001.out (fun _ hk => ⟨hk.1.1.2, ⟨hk.1.2, hk.2⟩⟩)), (blkU BK103.out), (blkU BK124.out), GW124.out, GE124.out, NB103_124.out, NB124_103.out, hbs⟩)
             ·skip
              refine box_step ?hg (N := 12) ?hd (cs := #[.bool false, .slice none 0 0, .int .i64 0]) (t := 60) ?hr ?_; (case hd => rfl); (case hg => rfl); (case hr => first | (go_simp; done) | (go_simp; rfl))
              intro gb124 hg w22 hbox hb
              have n0_ := asd (Kd.R_below (rUp HO_104001.out) hb)
              have n1_ := asd (Kd.R_below (rUp HO110.out) hb)
              have n2_ := asd (blk_below (g := gb103) (o := .cells #[.bool x104000_2, u104001, .int .i64 x104002_2] 60 (0, 0)) (blkU BK103.out) hb)
              have n3_ := asd (below_step hbs hb)
              have n4_ := asd (hbox)
              have n5_ := asd ((by rw [hg]; exact (below_size hbs) : w.heap.size ≤ gb124))
              have n6_ := asd ((by rw [hg]; exact (below_size hbs) : w.heap.size ≤ gb124))
              have n7_ := asd ((by rw [hg]; exact Nat.ne_of_lt (blk_lt (g := gb103) (o := .cells #[.bool x104000_2, u104001, .int .i64 x104002_2] 60 (0, 0)) (blkU BK103.out)) : gb103 ≠ gb124))
              have n8_ := asd ((by rw [hg]; exact Nat.ne_of_gt (blk_lt (g := gb103) (o := .cells #[.bool x104000_2, u104001, .int .i64 x104002_2] 60 (0, 0)) (blkU BK103.out)) : gb124 ≠ gb103))
              clear HO_104001
              clear HO110
              clear BK103
              clear HB
              have HO_104001 := n0_
              have HO110 := n1_
              have BK103 := n2_
              have HB := n3_
              have BK124 := n4_
              have GW124 := n5_
              have GE124 := n6_
              have NB103_124 := n7_
              have NB124_103 := n8_
              clear n0_ n1_ n2_ n3_ n4_ n5_ n6_ n7_ n8_
              clear hb hbox hg
              refine hK.out _ _ (((HB.out.cell (World.block_lt_of_cell? w _ hw112_0)).trans hw112_0)) (fun hHeld => ?_)
              clear hK K
              refine norm_ (a' := ?_) ?_ ?_
              rotate_left
              ·show Act.put _ (some 12) _ = _
               simp only [Act.put, List.setIfInBounds_toArray, List.set_cons_zero, List.set_cons_succ, i64_w, i32_w]
               rfl
              refine one_ (i := 6) (N := some 45) #[true, true, true, true, true, true, true, false, false, false, false, true, false, false] rfl rfl (one_of HT_.out (by kernel_rfl)) (by decide) (fun K hK => ?_)
              refine goes_ Tryz.func46 (by kernel_rfl) rfl #[.float .f64 (rdOf (0 : Nat) l1 x33_2)] (by rfl) rfl rfl eqA ?_
              with_reducible refine (sums_num.calls (rdOf (0 : Nat) l1 x33_2) t113 t114 t117 _ A17.out).mono ?_
              rintro e w23 ⟨v115, rfl, ho0, hb⟩
              refine ⟨_, rfl, ?_⟩
              have n0_ := asd (Kd.R_elder' (rUp HO_104001.out) (Kd.R_base ho0) hb)
              have n1_ := asd (Kd.R_elder' (rUp HO110.out) (Kd.R_base ho0) hb)
              have n2_ := asd (Kd.R_lower (Kd.R_new' (Kd.R_new' ho0 (Kd.R_lt (rUp HO_104001.out))) (Kd.R_lt (rUp HO110.out))) (below_size hbs))
              have n3_ := asd (blk_below (g := gb103) (o := .cells #[.bool x104000_2, u104001, .int .i64 x104002_2] 60 (0, 0)) (blkU BK103.out) hb)
              have n4_ := asd (blk_below (g := gb124) (o := .cells #[.bool false, .slice none 0 0, .int .i64 0] 60 (0, 0)) (blkU BK124.out) hb)
              have n5_ := asd (below_step hbs hb)
              clear HO_104001
              clear HO110
              clear BK103
              clear BK124
              clear HB
              have HO_104001 := n0_
              have HO110 := n1_
              have HO116 := n2_
              have BK103 := n3_
              have BK124 := n4_
              have HB := n5_
              clear n0_ n1_ n2_ n3_ n4_ n5_
              (try clear hb)
              (try clear hb2)
              (try clear hk)
              (try clear hi)
              (try clear ho0)
              obtain ⟨Ao24, co24, eo24⟩ := Kd.R_slice HO110.out
              (first | subst eo24 | (injection eo24 with f1_ f2_ f3_; have f4_ := f1_.symm; have f5_ := f3_.symm; clear f1_ f2_ f3_; subst f4_; subst f5_))
              obtain ⟨Ao25, co25, eo25⟩ := Kd.R_slice HO116.out
              (first | subst eo25 | (injection eo25 with f1_ f2_ f3_; have f4_ := f1_.symm; have f5_ := f3_.symm; clear f1_ f2_ f3_; subst f4_; subst f5_))
              refine hK.out _ _ (((HB.out.cell (World.block_lt_of_cell? w _ hw112_0)).trans hw112_0)) (fun hHeld => ?_)
              clear hK K
              refine norm_ (a' := ?_) ?_ ?_
              rotate_left
              ·show Act.put _ (some 45) _ = _
               simp only [Act.put, List.setIfInBounds_toArray, List.set_cons_zero, List.set_cons_succ, i64_w, i32_w]
               rfl
              refine one_ (i := 7) (N := some 46) #[true, true, true, true, true, true, true, true, false, false, false, true, false, false] rfl rfl (one_of HT_.out (by kernel_rfl)) (by decide) (fun K hK => ?_)
              refine goes_ Tryz.func78 (by kernel_rfl) rfl #[.agg #[.bool t107, .slice Ao24 t108.length co24, .int .i64 t111], .agg #[.bool t113, .slice Ao25 t114.length co25, .int .i64 t117]] (by rfl) rfl rfl eqA ?_
              with_reducible refine (dyad_Mul.calls t107 _ _ t108 t111 t113 _ _ t114 t117 t118 t119 t122 t123 _ ?side1 ?side2 ?side3 ?side4 A18.out).mono ?_
              (case side1 => repeat (first | exact (Kd.R_reads' HO110.out).2.2 | (with_reducible refine Kd.C_alloc ?_ _) | (with_reducible refine Kd.C_drewN ?_ _) | (with_reducible refine Kd.C_drew ?_)))
              (case side2 => exact (Kd.R_reads' HO110.out).2.1)
              (case side3 => repeat (first | exact (Kd.R_reads' HO116.out).2.2 | (with_reducible refine Kd.C_alloc ?_ _) | (with_reducible refine Kd.C_drewN ?_ _) | (with_reducible refine Kd.C_drew ?_)))
              (case side4 => exact (Kd.R_reads' HO116.out).2.1)
              rintro e w26 ⟨v120, rfl, ho0, hb⟩
              refine ⟨_, rfl, ?_⟩
              have n0_ := asd (Kd.R_elder' (rUp HO_104001.out) (Kd.R_base ho0) hb)
              have n1_ := asd (Kd.R_elder' (rUp HO110.out) (Kd.R_base ho0) hb)
              have n2_ := asd (Kd.R_elder' (rUp HO116.out) (Kd.R_base ho0) hb)
              have n3_ := asd (Kd.R_lower (Kd.R_new' (Kd.R_new' (Kd.R_new' ho0 (Kd.R_lt (rUp HO_104001.out))) (Kd.R_lt (rUp HO110.out))) (Kd.R_lt (rUp HO116.out))) (below_size hbs))
              have n4_ := asd (blk_below (g := gb103) (o := .cells #[.bool x104000_2, u104001, .int .i64 x104002_2] 60 (0, 0)) (blkU BK103.out) hb)
              have n5_ := asd (blk_below (g := gb124) (o := .cells #[.bool false, .slice none 0 0, .int .i64 0] 60 (0, 0)) (blkU BK124.out) hb)
              have n6_ := asd (below_step hbs hb)
              clear HO_104001
              clear HO110
              clear HO116
              clear BK103
              clear BK124
              clear HB
              have HO_104001 := n0_
              have HO110 := n1_
              have HO116 := n2_
              have HO121 := n3_
              have BK103 := n4_
              have BK124 := n5_
              have HB := n6_
              clear n0_ n1_ n2_ n3_ n4_ n5_ n6_
              (try clear hb)
              (try clear hb2)
              (try clear hk)
              (try clear hi)
              (try clear ho0)
              refine hK.out _ _ (((HB.out.cell (World.block_lt_of_cell? w _ hw112_0)).trans hw112_0)) (fun hHeld => ?_)
              clear hK K
              refine norm_ (a' := ?_) ?_ ?_
              rotate_left
              ·show Act.put _ (some 46) _ = _
               simp only [Act.put, List.setIfInBounds_toArray, List.set_cons_zero, List.set_cons_succ, i64_w, i32_w]
               rfl
              refine pure_ (i := 8) (N := some 38) (v := ?_) (a' := ?_) #[true, true, true, true, true, true, true, true, true, false, false, true, false, false] rfl rfl (any_of HT_.out (by kernel_rfl)) (fun _ _ _ h => h) (Or.inl ⟨by rfl, ?_⟩) ?_ ?_
              rotate_left
              ·intro w'
               go_simp
               with_reducible rfl
              rotate_left
              ·simp only [Act.put, List.setIfInBounds_toArray, List.set_cons_zero, List.set_cons_succ, i64_w, i32_w]
               rfl
              refine pure_ (i := 9) (N := some 47) (v := ?_) (a' := ?_) #[true, true, true, true, true, true, true, true, true, true, false, true, false, false] rfl rfl (any_of HT_.out (by kernel_rfl)) (fun _ _ _ h => h) (Or.inl ⟨by rfl, ?_⟩) ?_ ?_
              rotate_left
              ·intro w'
               go_simp
               with_reducible rfl
              rotate_left
              ·simp only [Act.put, List.setIfInBounds_toArray, List.set_cons_zero, List.set_cons_succ, i64_w, i32_w]
               rfl
              refine pure_ (i := 10) (N := some 48) (v := ?_) (a' := ?_) #[true, true, true, true, true, true, true, true, true, true, true, true, false, false] rfl rfl (any_of HT_.out (by kernel_rfl)) (fun _ _ _ h => h) (Or.inl ⟨by rfl, ?_⟩) ?_ ?_
              rotate_left
              ·intro w'
               go_simp
               with_reducible rfl
              rotate_left
              ·simp only [Act.put, List.setIfInBounds_toArray, List.set_cons_zero, List.set_cons_succ, i64_w, i32_w]
               rfl
              exact norm_ (by simp only [putAll, Act.put, List.setIfInBounds_toArray, List.set_cons_zero, List.set_cons_succ]) (hCont (.slice Ao24 t108.length co24, .slice Ao25 t114.length co25, v120, gb124) _ ⟨hHeld, (by (with_reducible repeat (first | apply Kd.R_alloc | apply Kd.R_drewN | apply Kd.R_drew)); exact Kd.R_mono HO110.out (fun _ hk => ⟨hk.1.2, ⟨hk.2, hk.1.1.2⟩⟩)), (by (with_reducible repeat (first | apply Kd.R_alloc | apply Kd.R_drewN | apply Kd.R_drew)); exact Kd.R_mono HO116.out (fun _ hk => ⟨hk.1.2, ⟨hk.2, hk.1.1.2⟩⟩)), (by (with_reducible repeat (first | apply Kd.R_alloc | apply Kd.R_drewN | apply Kd.R_drew)); exact Kd.R_mono HO121.out (fun _ hk => ⟨hk.1.2, ⟨hk.2, hk.1.1.2⟩⟩)), (by (with_reducible repeat (first | apply Kd.R_alloc | apply Kd.R_drewN | apply Kd.R_drew)); exact Kd.R_mono HO_104001.out (fun _ hk => ⟨hk.1.1.2, ⟨hk.1.2, hk.2⟩⟩)), (blkU BK103.out), (blkU BK124.out), GW124.out, GE124.out, NB103_124.out, NB124_103.out, hbs⟩)
            ·skip
             refine box_step ?hg (N := 12) ?hd (cs := #[.bool false, .slice none 0 0, .int .i64 0]) (t := 60) ?hr ?_; (case hd => rfl); (case hg => rfl); (case hr => first | (go_simp; done) | (go_simp; rfl))
             intro gb124 hg w21 hbox hb
             have n0_ := asd (Kd.R_below (rUp HO_104001.out) hb)
             have n1_ := asd (blk_below (g := gb103) (o := .cells #[.bool x104000_2, u104001, .int .i64 x104002_2] 60 (0, 0)) (blkU BK103.out) hb)
             have n2_ := asd (below_step hbs hb)
             have n3_ := asd (hbox)
             have n4_ := asd ((by rw [hg]; exact (below_size hbs) : w.heap.size ≤ gb124))
             have n5_ := asd ((by rw [hg]; exact (below_size hbs) : w.heap.size ≤ gb124))
             have n6_ := asd ((by rw [hg]; exact Nat.ne_of_lt (blk_lt (g := gb103) (o := .cells #[.bool x104000_2, u104001, .int .i64 x104002_2] 60 (0, 0)) (blkU BK103.out)) : gb103 ≠ gb124))
             have n7_ := asd ((by rw [hg]; exact Nat.ne_of_gt (blk_lt (g := gb103) (o := .cells #[.bool x104000_2, u104001, .int .i64 x104002_2] 60 (0, 0)) (blkU BK103.out)) : gb124 ≠ gb103))
             clear HO_104001
             clear BK103
             clear HB
             have HO_104001 := n0_
             have BK103 := n1_
             have HB := n2_
             have BK124 := n3_
             have GW124 := n4_
             have GE124 := n5_
             have NB103_124 := n6_
             have NB124_103 := n7_
             clear n0_ n1_ n2_ n3_ n4_ n5_ n6_ n7_
             clear hb hbox hg
             refine hK.out _ _ (((HB.out.cell (World.block_lt_of_cell? w _ hw112_0)).trans hw112_0)) (fun hHeld => ?_)
             clear hK K
             refine norm_ (a' := ?_) ?_ ?_
             rotate_left
             ·show Act.put _ (some 12) _ = _
              simp only [Act.put, List.setIfInBounds_toArray, List.set_cons_zero, List.set_cons_succ, i64_w, i32_w]
              rfl
             refine one_ (i := 1) (N := some 40) #[true, true, true, true, true, true, false, false, false, false, false, true, false, false] rfl rfl (one_of HT_.out (by kernel_rfl)) (by decide) (fun K hK => ?_)
             refine goes_ Tryz.func46 (by kernel_rfl) rfl #[.float .f64 (rdOf (0 : Nat) l0 x33_2)] (by rfl) rfl rfl eqA ?_
             with_reducible refine (sums_num.calls (rdOf (0 : Nat) l0 x33_2) t107 t108 t111 _ A15.out).mono ?_
             rintro e w22 ⟨v109, rfl, ho0, hb⟩
             refine ⟨_, rfl, ?_⟩
             have n0_ := asd (Kd.R_elder' (rUp HO_104001.out) (Kd.R_base ho0) hb)
             have n1_ := asd (Kd.R_lower (Kd.R_new' ho0 (Kd.R_lt (rUp HO_104001.out))) (below_size hbs))
             have n2_ := asd (blk_below (g := gb103) (o := .cells #[.bool x104000_2, u104001, .int .i64 x104002_2] 60 (0, 0)) (blkU BK103.out) hb)
             have n3_ := asd (blk_below (g := gb124) (o := .cells #[.bool false, .slice none 0 0, .int .i64 0] 60 (0, 0)) (blkU BK124.out) hb)
             have n4_ := asd (below_step hbs hb)
             clear HO_104001
             clear BK103
             clear BK124
             clear HB
             have HO_104001 := n0_
             have HO110 := n1_
             have BK103 := n2_
             have BK124 := n3_
             have HB := n4_
             clear n0_ n1_ n2_ n3_ n4_
             (try clear hb)
             (try clear hb2)
             (try clear hk)
             (try clear hi)
             (try clear ho0)
             refine hK.out _ _ (((HB.out.cell (World.block_lt_of_cell? w _ hw112_0)).trans hw112_0)) (fun hHeld => ?_)
             clear hK K
             refine norm_ (a' := ?_) ?_ ?_
             rotate_left
             ·show Act.put _ (some 40) _ = _
              simp only [Act.put, List.setIfInBounds_toArray, List.set_cons_zero, List.set_cons_succ, i64_w, i32_w]
              rfl
             refine one_ (i := 6) (N := some 45) #[true, true, true, true, true, true, true, false, false, false, false, true, false, false] rfl rfl (one_of HT_.out (by kernel_rfl)) (by decide) (fun K hK => ?_)
             refine goes_ Tryz.func46 (by kernel_rfl) rfl #[.float .f64 (rdOf (0 : Nat) l1 x33_2)] (by rfl) rfl rfl eqA ?_
             with_reducible refine (sums_num.calls (rdOf (0 : Nat) l1 x33_2) t113 t114 t117 _ A17.out).mono ?_
             rintro e w23 ⟨v115, rfl, ho0, hb⟩
             refine ⟨_, rfl, ?_⟩
             have n0_ := asd (Kd.R_elder' (rUp HO_104001.out) (Kd.R_base ho0) hb)
             have n1_ := asd (Kd.R_elder' (rUp HO110.out) (Kd.R_base ho0) hb)
             have n2_ := asd (Kd.R_lower (Kd.R_new' (Kd.R_new' ho0 (Kd.R_lt (rUp HO_104001.out))) (Kd.R_lt (rUp HO110.out))) (below_size hbs))
             have n3_ := asd (blk_below (g := gb103) (o := .cells #[.bool x104000_2, u104001, .int .i64 x104002_2] 60 (0, 0)) (blkU BK103.out) hb)
             have n4_ := asd (blk_below (g := gb124) (o := .cells #[.bool false, .slice none 0 0, .int .i64 0] 60 (0, 0)) (blkU BK124.out) hb)
             have n5_ := asd (below_step hbs hb)
             clear HO_104001
             clear HO110
             clear BK103
             clear BK124
             clear HB
             have HO_104001 := n0_
             have HO110 := n1_
             have HO116 := n2_
             have BK103 := n3_
             have BK124 := n4_
             have HB := n5_
             clear n0_ n1_ n2_ n3_ n4_ n5_
             (try clear hb)
             (try clear hb2)
             (try clear hk)
             (try clear hi)
             (try clear ho0)
             obtain ⟨Ao24, co24, eo24⟩ := Kd.R_slice HO110.out
             (first | subst eo24 | (injection eo24 with f1_ f2_ f3_; have f4_ := f1_.symm; have f5_ := f3_.symm; clear f1_ f2_ f3_; subst f4_; subst f5_))
             obtain ⟨Ao25, co25, eo25⟩ := Kd.R_slice HO116.out
             (first | subst eo25 | (injection eo25 with f1_ f2_ f3_; have f4_ := f1_.symm; have f5_ := f3_.symm; clear f1_ f2_ f3_; subst f4_; subst f5_))
             refine hK.out _ _ (((HB.out.cell (World.block_lt_of_cell? w _ hw112_0)).trans hw112_0)) (fun hHeld => ?_)
             clear hK K
             refine norm_ (a' := ?_) ?_ ?_
             rotate_left
             ·show Act.put _ (some 45) _ = _
              simp only [Act.put, List.setIfInBounds_toArray, List.set_cons_zero, List.set_cons_succ, i64_w, i32_w]
              rfl
             refine one_ (i := 7) (N := some 46) #[true, true, true, true, true, true, true, true, false, false, false, true, false, false] rfl rfl (one_of HT_.out (by kernel_rfl)) (by decide) (fun K hK => ?_)
             refine goes_ Tryz.func78 (by kernel_rfl) rfl #[.agg #[.bool t107, .slice Ao24 t108.length co24, .int .i64 t111], .agg #[.bool t113, .slice Ao25 t114.length co25, .int .i64 t117]] (by rfl) rfl rfl eqA ?_
             with_reducible refine (dyad_Mul.calls t107 _ _ t108 t111 t113 _ _ t114 t117 t118 t119 t122 t123 _ ?side1 ?side2 ?side3 ?side4 A18.out).mono ?_
             (case side1 => repeat (first | exact (Kd.R_reads' HO110.out).2.2 | (with_reducible refine Kd.C_alloc ?_ _) | (with_reducible refine Kd.C_drewN ?_ _) | (with_reducible refine Kd.C_drew ?_)))
             (case side2 => exact (Kd.R_reads' HO110.out).2.1)
             (case side3 => repeat (first | exact (Kd.R_reads' HO116.out).2.2 | (with_reducible refine Kd.C_alloc ?_ _) | (with_reducible refine Kd.C_drewN ?_ _) | (with_reducible refine Kd.C_drew ?_)))
             (case side4 => exact (Kd.R_reads' HO116.out).2.1)
             rintro e w26 ⟨v120, rfl, ho0, hb⟩
             refine ⟨_, rfl, ?_⟩
             have n0_ := asd (Kd.R_elder' (rUp HO_104001.out) (Kd.R_base ho0) hb)
             have n1_ := asd (Kd.R_elder' (rUp HO110.out) (Kd.R_base ho0) hb)
             have n2_ := asd (Kd.R_elder' (rUp HO116.out) (Kd.R_base ho0) hb)
             have n3_ := asd (Kd.R_lower (Kd.R_new' (Kd.R_new' (Kd.R_new' ho0 (Kd.R_lt (rUp HO_104001.out))) (Kd.R_lt (rUp HO110.out))) (Kd.R_lt (rUp HO116.out))) (below_size hbs))
             have n4_ := asd (blk_below (g := gb103) (o := .cells #[.bool x104000_2, u104001, .int .i64 x104002_2] 60 (0, 0)) (blkU BK103.out) hb)
             have n5_ := asd (blk_below (g := gb124) (o := .cells #[.bool false, .slice none 0 0, .int .i64 0] 60 (0, 0)) (blkU BK124.out) hb)
             have n6_ := asd (below_step hbs hb)
             clear HO_104001
             clear HO110
             clear HO116
             clear BK103
             clear BK124
             clear HB
             have HO_104001 := n0_
             have HO110 := n1_
             have HO116 := n2_
             have HO121 := n3_
             have BK103 := n4_
             have BK124 := n5_
             have HB := n6_
             clear n0_ n1_ n2_ n3_ n4_ n5_ n6_
             (try clear hb)
             (try clear hb2)
             (try clear hk)
             (try clear hi)
             (try clear ho0)
             refine hK.out _ _ (((HB.out.cell (World.block_lt_of_cell? w _ hw112_0)).trans hw112_0)) (fun hHeld => ?_)
             clear hK K
             refine norm_ (a' := ?_) ?_ ?_
             rotate_left
             ·show Act.put _ (some 46) _ = _
              simp only [Act.put, List.setIfInBounds_toArray, List.set_cons_zero, List.set_cons_succ, i64_w, i32_w]
              rfl
             refine pure_ (i := 8) (N := some 38) (v := ?_) (a' := ?_) #[true, true, true, true, true, true, true, true, true, false, false, true, false, false] rfl rfl (any_of HT_.out (by kernel_rfl)) (fun _ _ _ h => h) (Or.inl ⟨by rfl, ?_⟩) ?_ ?_
             rotate_left
             ·intro w'
              go_simp
              with_reducible rfl
             rotate_left
             ·simp only [Act.put, List.setIfInBounds_toArray, List.set_cons_zero, List.set_cons_succ, i64_w, i32_w]
              rfl
             refine pure_ (i := 9) (N := some 47) (v := ?_) (a' := ?_) #[true, true, true, true, true, true, true, true, true, true, false, true, false, false] rfl rfl (any_of HT_.out (by kernel_rfl)) (fun _ _ _ h => h) (Or.inl ⟨by rfl, ?_⟩) ?_ ?_
             rotate_left
             ·intro w'
              go_simp
              with_reducible rfl
             rotate_left
             ·simp only [Act.put, List.setIfInBounds_toArray, List.set_cons_zero, List.set_cons_succ, i64_w, i32_w]
              rfl
             refine pure_ (i := 10) (N := some 48) (v := ?_) (a' := ?_) #[true, true, true, true, true, true, true, true, true, true, true, true, false, false] rfl rfl (any_of HT_.out (by kernel_rfl)) (fun _ _ _ h => h) (Or.inl ⟨by rfl, ?_⟩) ?_ ?_
             rotate_left
             ·intro w'
              go_simp
              with_reducible rfl
             rotate_left
             ·simp only [Act.put, List.setIfInBounds_toArray, List.set_cons_zero, List.set_cons_succ, i64_w, i32_w]
              rfl
             exact norm_ (by simp only [putAll, Act.put, List.setIfInBounds_toArray, List.set_cons_zero, List.set_cons_succ]) (hCont (.slice Ao24 t108.length co24, .slice Ao25 t114.length co25, v120, gb124) _ ⟨hHeld, (by (with_reducible repeat (first | apply Kd.R_alloc | apply Kd.R_drewN | apply Kd.R_drew)); exact Kd.R_mono HO110.out (fun _ hk => ⟨hk.1.2, ⟨hk.2, hk.1.1.2⟩⟩)), (by (with_reducible repeat (first | apply Kd.R_alloc | apply Kd.R_drewN | apply Kd.R_drew)); exact Kd.R_mono HO116.out (fun _ hk => ⟨hk.1.2, ⟨hk.2, hk.1.1.2⟩⟩)), (by (with_reducible repeat (first | apply Kd.R_alloc | apply Kd.R_drewN | apply Kd.R_drew)); exact Kd.R_mono HO121.out (fun _ hk => ⟨hk.1.2, ⟨hk.2, hk.1.1.2⟩⟩)), (by (with_reducible repeat (first | apply Kd.R_alloc | apply Kd.R_drewN | apply Kd.R_drew)); exact Kd.R_mono HO_104001.out (fun _ hk => ⟨hk.1.1.2, ⟨hk.1.2, hk.2⟩⟩)), (blkU BK103.out), (blkU BK124.out), GW124.out, GE124.out, NB103_124.out, NB124_103.out, hbs⟩)
           rintro ⟨v109, v115, v120, gb124⟩ w27 ⟨hS_, h0_, h1_, h2_, h3_, h4_, h5_, h6_, h7_, h8_, h9_, h10_⟩
           have n0_ : Aside0 (Kd.R (Kd.int .u32) 83 w27 w.heap.size (fun k_ => some k_ ≠ (v115 : Value).ownBlock ∧ some k_ ≠ (v120 : Value).ownBlock ∧ some k_ ≠ (u104001 : Value).ownBlock) v109 t108) := ⟨h0_⟩
           have n1_ : Aside0 (Kd.R (Kd.int .u32) 83 w27 w.heap.size (fun k_ => some k_ ≠ (v109 : Value).ownBlock ∧ some k_ ≠ (v120 : Value).ownBlock ∧ some k_ ≠ (u104001 : Value).ownBlock) v115 t114) := ⟨h1_⟩
           have n2_ : Aside0 (Kd.R (Kd.int .u32) 83 w27 w.heap.size (fun k_ => some k_ ≠ (v109 : Value).ownBlock ∧ some k_ ≠ (v115 : Value).ownBlock ∧ some k_ ≠ (u104001 : Value).ownBlock) v120 t119) := ⟨h2_⟩
           have n3_ : Aside0 (Kd.R (Kd.int .u32) 83 w27 w.heap.size (fun k_ => some k_ ≠ (v109 : Value).ownBlock ∧ some k_ ≠ (v115 : Value).ownBlock ∧ some k_ ≠ (v120 : Value).ownBlock) u104001 x104001_2) := ⟨h3_⟩
           have n4_ : Aside0 (w27.heap[gb103]? = some (.cells #[.bool x104000_2, u104001, .int .i64 x104002_2] 60 (0, 0))) := ⟨h4_⟩
           have n5_ : Aside0 (w27.heap[gb124]? = some (.cells #[.bool false, .slice none 0 0, .int .i64 0] 60 (0, 0))) := ⟨h5_⟩
           have n6_ : Aside0 (w.heap.size ≤ gb124) := ⟨h6_⟩
           have n7_ : Aside0 (w.heap.size ≤ gb124) := ⟨h7_⟩
           have n8_ : Aside0 (gb103 ≠ gb124) := ⟨h8_⟩
           have n9_ : Aside0 (gb124 ≠ gb103) := ⟨h9_⟩
           have n10_ : Aside0 (Below w.heap.size w w27) := ⟨h10_⟩
           clear HO_104001
           clear BK103
           clear HB
           clear h0_ h1_ h2_ h3_ h4_ h5_ h6_ h7_ h8_ h9_ h10_
           have HO110 := n0_
           have HO116 := n1_
           have HO121 := n2_
           have HO_104001 := n3_
           have BK103 := n4_
           have BK124 := n5_
           have GW124 := n6_
           have GE124 := n7_
           have NB103_124 := n8_
           have NB124_103 := n9_
           have HB := n10_
           clear n0_ n1_ n2_ n3_ n4_ n5_ n6_ n7_ n8_ n9_ n10_
           have hHeld : w27.cell? (ad112.add (x33_2).toNat) = some (.float .f64 (rdOf (0 : Nat) l1 x33_2)) := hS_
           obtain ⟨Ao29, co29, eo29⟩ := Kd.R_slice HO121.out
           (first | subst eo29 | (injection eo29 with f1_ f2_ f3_; have f4_ := f1_.symm; have f5_ := f3_.symm; clear f1_ f2_ f3_; subst f4_; subst f5_))
           refine norm_ (a' := ?_) ?_ ?_
           rotate_left
           ·simp only [putAll, Act.put, List.setIfInBounds_toArray, List.set_cons_zero, List.set_cons_succ]
            rfl
           refine one_ (i := 12) (N := none) #[true, true, true, true, true, true, true, true, true, true, true, true, true, false] rfl rfl (one_of HT_.out (by kernel_rfl)) (by decide) (fun K hK => ?_)
           have hs28 : w27.cell? ⟨gb124, 0, none⟩ = some (.bool false) := (blk_cell BK124.out 0).trans rfl
           have hfs28 := blk_frozen BK124.out 0
           have hns28_0 := NB103_124.out
           have hms28_0 := NB124_103.out
           have hs30 : w27.cell? ⟨gb124, 1, none⟩ = some (.slice none 0 0) := (blk_cell BK124.out 1).trans rfl
           have hfs30 := blk_frozen BK124.out 1
           have hns30_0 := NB103_124.out
           have hms30_0 := NB124_103.out
           have hs31 : w27.cell? ⟨gb124, 2, none⟩ = some (.int .i64 0) := (blk_cell BK124.out 2).trans rfl
           have hfs31 := blk_frozen BK124.out 2
           have hns31_0 := NB103_124.out
           have hms31_0 := NB124_103.out
           refine skip_ (w1 := ?_) (by rfl) rfl ?_ ?_
           rotate_left
           ·go_simp
            rfl
           refine hK.out _ _ (((cell_far (p := ⟨gb124, _, none⟩) (by first | exact Nat.ne_of_lt (Nat.lt_of_lt_of_le (by have := World.block_lt_of_cell? _ _ hw112_0; first | rwa [add_block] at this | exact this) GW124.out) | (rw [add_block]; exact Nat.ne_of_lt (Nat.lt_of_lt_of_le (by have := World.block_lt_of_cell? _ _ hw112_0; first | rwa [add_block] at this | exact this) GW124.out)) | (show (Addr.add _ _).block ≠ _; rw [add_block]; exact Nat.ne_of_lt (Nat.lt_of_lt_of_le (by have := World.block_lt_of_cell? _ _ hw112_0; first | rwa [add_block] at this | exact this) GW124.out)) | (dsimp only; exact Nat.ne_of_lt (Nat.lt_of_lt_of_le (by have := World.block_lt_of_cell? _ _ hw112_0; first | rwa [add_block] at this | exact this) GW124.out))) _).trans (((cell_far (p := ⟨gb124, _, none⟩) (by first | exact Nat.ne_of_lt (Nat.lt_of_lt_of_le (by have := World.block_lt_of_cell? _ _ hw112_0; first | rwa [add_block] at this | exact this) GW124.out) | (rw [add_block]; exact Nat.ne_of_lt (Nat.lt_of_lt_of_le (by have := World.block_lt_of_cell? _ _ hw112_0; first | rwa [add_block] at this | exact this) GW124.out)) | (show (Addr.add _ _).block ≠ _; rw [add_block]; exact Nat.ne_of_lt (Nat.lt_of_lt_of_le (by have := World.block_lt_of_cell? _ _ hw112_0; first | rwa [add_block] at this | exact this) GW124.out)) | (dsimp only; exact Nat.ne_of_lt (Nat.lt_of_lt_of_le (by have := World.block_lt_of_cell? _ _ hw112_0; first | rwa [add_block] at this | exact this) GW124.out))) _).trans (((cell_far (p := ⟨gb124, _, none⟩) (by first | exact Nat.ne_of_lt (Nat.lt_of_lt_of_le (by have := World.block_lt_of_cell? _ _ hw112_0; first | rwa [add_block] at this | exact this) GW124.out) | (rw [add_block]; exact Nat.ne_of_lt (Nat.lt_of_lt_of_le (by have := World.block_lt_of_cell? _ _ hw112_0; first | rwa [add_block] at this | exact this) GW124.out)) | (show (Addr.add _ _).block ≠ _; rw [add_block]; exact Nat.ne_of_lt (Nat.lt_of_lt_of_le (by have := World.block_lt_of_cell? _ _ hw112_0; first | rwa [add_block] at this | exact this) GW124.out)) | (dsimp only; exact Nat.ne_of_lt (Nat.lt_of_lt_of_le (by have := World.block_lt_of_cell? _ _ hw112_0; first | rwa [add_block] at this | exact this) GW124.out))) _).trans (hHeld))))))) (fun hHeld => ?_)
           clear hK K
           refine pure_ (i := 13) (N := some 13) (v := ?_) (a' := ?_) #[true, true, true, true, true, true, true, true, true, true, true, true, true, true] rfl rfl (any_of HT_.out (by kernel_rfl)) (fun _ _ _ h => h) (Or.inl ⟨by rfl, ?_⟩) ?_ ?_
           rotate_left
           ·intro w'
            go_simp
            with_reducible rfl
           rotate_left
           ·simp only [Act.put, List.setIfInBounds_toArray, List.set_cons_zero, List.set_cons_succ, i64_w, i32_w]
            rfl
           refine done_ (done_of HT_.out (by kernel_rfl)) ?_
           have hnb32 := NB103_124.out
           have hnc32 := NB124_103.out
           obtain ⟨hcz33_0, hcz33_1, hcz33_2, hfz33_0, hfz33_1, hfz33_2⟩ := cz3 BK103.out
           obtain ⟨hcz34_0, hcz34_1, hcz34_2, hfz34_0, hfz34_1, hfz34_2⟩ := cz3 BK124.out
           obtain ⟨Ao35, co35, eo35⟩ := Kd.R_slice HO_104001.out
           subst eo35
           try go_wp2_with (first | ((with_reducible refine gate_callee (f := 79) rfl ?_); refine goesL_ (some 52) rfl rfl Tryz.func79 (by kernel_rfl) rfl #[.agg #[.bool x104000_2, .slice Ao35 x104001_2.length co35, .int .i64 x104002_2], .agg #[.bool t118, .slice Ao29 t119.length co29, .int .i64 t122]] rfl eqA ?_; (with_reducible refine (dyad_Add.calls x104000_2 _ _ x104001_2 x104002_2 t118 _ _ t119 t122 t125 t126 t129 t130 _ ?side1 ?side2 ?side3 ?side4 A19.out (Big.Laid.step HL.out hbs)).mono ?_); (case side1 => refine (Kd.R_reads' (e := 83) (base := w.heap.size) (ok := fun k_ => (some k_ ≠ (v109 : Value).ownBlock ∧ (some k_ ≠ (v115 : Value).ownBlock ∧ some k_ ≠ (.slice Ao29 t119.length co29 : Value).ownBlock))) (n := x104001_2.length) (c := co35) ?_).2.2; exact (by (with_reducible repeat (first | apply Kd.R_alloc | apply Kd.R_drewN | apply Kd.R_drew)); exact (Kd.R_mono (Kd.R_far (p := ⟨gb124, 2, none⟩) (Kd.R_far (p := ⟨gb124, 1, none⟩) (Kd.R_far (p := ⟨gb124, 0, none⟩) (Kd.R_types HO_104001.out BK124.out (by decide)) (fun _ hk => hk.2) (.bool t118)) (fun _ hk => hk.2) (.slice Ao29 t119.length co29)) (fun _ hk => hk.2) (.int .i64 t122)) (fun _ h_ => h_.1)))); (case side2 => exact (Kd.R_reads' HO_104001.out).2.1); (case side3 => refine (Kd.R_reads' (e := 83) (base := w.heap.size) (ok := fun k_ => (some k_ ≠ (v109 : Value).ownBlock ∧ (some k_ ≠ (v115 : Value).ownBlock ∧ some k_ ≠ (.slice Ao35 x104001_2.length co35 : Value).ownBlock))) (n := t119.length) (c := co29) ?_).2.2; exact (by (with_reducible repeat (first | apply Kd.R_alloc | apply Kd.R_drewN | apply Kd.R_drew)); exact (Kd.R_mono (Kd.R_far (p := ⟨gb124, 2, none⟩) (Kd.R_far (p := ⟨gb124, 1, none⟩) (Kd.R_far (p := ⟨gb124, 0, none⟩) (Kd.R_types HO121.out BK124.out (by decide)) (fun _ hk => hk.2) (.bool t118)) (fun _ hk => hk.2) (.slice Ao29 t119.length co29)) (fun _ hk => hk.2) (.int .i64 t122)) (fun _ h_ => h_.1)))); (case side4 => exact (Kd.R_reads' HO121.out).2.1); rintro e w36 ⟨v127, rfl, ho0, hb⟩; refine ⟨_, rfl, ?_⟩; have n0_ := asd (Kd.R_elder' (by (with_reducible repeat (first | apply Kd.R_alloc | apply Kd.R_drewN | apply Kd.R_drew)); exact (Kd.R_mono (Kd.R_far (p := ⟨gb124, 2, none⟩) (Kd.R_far (p := ⟨gb124, 1, none⟩) (Kd.R_far (p := ⟨gb124, 0, none⟩) (Kd.R_types HO_104001.out BK124.out (by decide)) (fun _ hk => hk.2) (.bool t118)) (fun _ hk => hk.2) (.slice Ao29 t119.length co29)) (fun _ hk => hk.2) (.int .i64 t122)) (fun _ h_ => h_.1))) (Kd.R_base ho0) hb); have n1_ := asd (Kd.R_elder' (by (with_reducible repeat (first | apply Kd.R_alloc | apply Kd.R_drewN | apply Kd.R_drew)); exact (Kd.R_mono (Kd.R_far (p := ⟨gb124, 2, none⟩) (Kd.R_far (p := ⟨gb124, 1, none⟩) (Kd.R_far (p := ⟨gb124, 0, none⟩) (Kd.R_types HO110.out BK124.out (by decide)) (fun _ hk => hk.2) (.bool t118)) (fun _ hk => hk.2) (.slice Ao29 t119.length co29)) (fun _ hk => hk.2) (.int .i64 t122)) (fun _ h_ => h_.1))) (Kd.R_base ho0) hb); have n2_ := asd (Kd.R_elder' (by (with_reducible repeat (first | apply Kd.R_alloc | apply Kd.R_drewN | apply Kd.R_drew)); exact (Kd.R_mono (Kd.R_far (p := ⟨gb124, 2, none⟩) (Kd.R_far (p := ⟨gb124, 1, none⟩) (Kd.R_far (p := ⟨gb124, 0, none⟩) (Kd.R_types HO116.out BK124.out (by decide)) (fun _ hk => hk.2) (.bool t118)) (fun _ hk => hk.2) (.slice Ao29 t119.length co29)) (fun _ hk => hk.2) (.int .i64 t122)) (fun _ h_ => h_.1))) (Kd.R_base ho0) hb); have n3_ := asd (Kd.R_elder' (by (with_reducible repeat (first | apply Kd.R_alloc | apply Kd.R_drewN | apply Kd.R_drew)); exact (Kd.R_mono (Kd.R_far (p := ⟨gb124, 2, none⟩) (Kd.R_far (p := ⟨gb124, 1, none⟩) (Kd.R_far (p := ⟨gb124, 0, none⟩) (Kd.R_types HO121.out BK124.out (by decide)) (fun _ hk => hk.2) (.bool t118)) (fun _ hk => hk.2) (.slice Ao29 t119.length co29)) (fun _ hk => hk.2) (.int .i64 t122)) (fun _ h_ => h_.1))) (Kd.R_base ho0) hb); have n4_ := asd (Kd.R_lower (Kd.R_new' (Kd.R_new' (Kd.R_new' (Kd.R_new' ho0 (Kd.R_lt (by (with_reducible repeat (first | apply Kd.R_alloc | apply Kd.R_drewN | apply Kd.R_drew)); exact (Kd.R_mono (Kd.R_far (p := ⟨gb124, 2, none⟩) (Kd.R_far (p := ⟨gb124, 1, none⟩) (Kd.R_far (p := ⟨gb124, 0, none⟩) (Kd.R_types HO_104001.out BK124.out (by decide)) (fun _ hk => hk.2) (.bool t118)) (fun _ hk => hk.2) (.slice Ao29 t119.length co29)) (fun _ hk => hk.2) (.int .i64 t122)) (fun _ h_ => h_.1))))) (Kd.R_lt (by (with_reducible repeat (first | apply Kd.R_alloc | apply Kd.R_drewN | apply Kd.R_drew)); exact (Kd.R_mono (Kd.R_far (p := ⟨gb124, 2, none⟩) (Kd.R_far (p := ⟨gb124, 1, none⟩) (Kd.R_far (p := ⟨gb124, 0, none⟩) (Kd.R_types HO110.out BK124.out (by decide)) (fun _ hk => hk.2) (.bool t118)) (fun _ hk => hk.2) (.slice Ao29 t119.length co29)) (fun _ hk => hk.2) (.int .i64 t122)) (fun _ h_ => h_.1))))) (Kd.R_lt (by (with_reducible repeat (first | apply Kd.R_alloc | apply Kd.R_drewN | apply Kd.R_drew)); exact (Kd.R_mono (Kd.R_far (p := ⟨gb124, 2, none⟩) (Kd.R_far (p := ⟨gb124, 1, none⟩) (Kd.R_far (p := ⟨gb124, 0, none⟩) (Kd.R_types HO116.out BK124.out (by decide)) (fun _ hk => hk.2) (.bool t118)) (fun _ hk => hk.2) (.slice Ao29 t119.length co29)) (fun _ hk => hk.2) (.int .i64 t122)) (fun _ h_ => h_.1))))) (Kd.R_lt (by (with_reducible repeat (first | apply Kd.R_alloc | apply Kd.R_drewN | apply Kd.R_drew)); exact (Kd.R_mono (Kd.R_far (p := ⟨gb124, 2, none⟩) (Kd.R_far (p := ⟨gb124, 1, none⟩) (Kd.R_far (p := ⟨gb124, 0, none⟩) (Kd.R_types HO121.out BK124.out (by decide)) (fun _ hk => hk.2) (.bool t118)) (fun _ hk => hk.2) (.slice Ao29 t119.length co29)) (fun _ hk => hk.2) (.int .i64 t122)) (fun _ h_ => h_.1))))) (below_size hbs)); have n5_ := asd (blk_below (g := gb103) (o := .cells #[.bool x104000_2, .slice Ao35 x104001_2.length co35, .int .i64 x104002_2] 60 (0, 0)) (by (with_reducible repeat (first | refine blk_drewN ?_ _ | refine blk_drew ?_ | refine blk_alloc ?_ _)); refine blk_far ?_ NB103_124.out _; (with_reducible repeat (first | refine blk_drewN ?_ _ | refine blk_drew ?_ | refine blk_alloc ?_ _)); refine blk_far ?_ NB103_124.out _; (with_reducible repeat (first | refine blk_drewN ?_ _ | refine blk_drew ?_ | refine blk_alloc ?_ _)); refine blk_far ?_ NB103_124.out _; (with_reducible repeat (first | refine blk_drewN ?_ _ | refine blk_drew ?_ | refine blk_alloc ?_ _)); exact BK103.out) hb); have n6_ := asd (blk_below (g := gb124) (o := .cells #[.bool t118, .slice Ao29 t119.length co29, .int .i64 t122] 60 (0, 0)) (by (with_reducible repeat (first | refine blk_drewN ?_ _ | refine blk_drew ?_ | refine blk_alloc ?_ _)); refine blk_put (cs := #[.bool t118, .slice Ao29 t119.length co29, .int .i64 0]) ?_ 2 _ rfl; (with_reducible repeat (first | refine blk_drewN ?_ _ | refine blk_drew ?_ | refine blk_alloc ?_ _)); refine blk_put (cs := #[.bool t118, .slice none 0 0, .int .i64 0]) ?_ 1 _ rfl; (with_reducible repeat (first | refine blk_drewN ?_ _ | refine blk_drew ?_ | refine blk_alloc ?_ _)); refine blk_put (cs := #[.bool false, .slice none 0 0, .int .i64 0]) ?_ 0 _ rfl; (with_reducible repeat (first | refine blk_drewN ?_ _ | refine blk_drew ?_ | refine blk_alloc ?_ _)); exact BK124.out) hb); have n7_ := asd (below_step hbs hb); clear HO_104001; clear HO110; clear HO116; clear HO121; clear BK103; clear BK124; clear HB; have HO_104001 := n0_; have HO110 := n1_; have HO116 := n2_; have HO121 := n3_; have HO128 := n4_; have BK103 := n5_; have BK124 := n6_; have HB := n7_; clear n0_ n1_ n2_ n3_ n4_ n5_ n6_ n7_; (try clear hb); (try clear ho0); obtain ⟨hcz37_0, hcz37_1, hcz37_2, hfz37_0, hfz37_1, hfz37_2⟩ := cz3 BK103.out; obtain ⟨Ao38, co38, eo38⟩ := Kd.R_slice HO128.out; subst eo38))
           go_roundg k2
           case measure => have := HJ3.out; have := HK2.out; omega
           case rel => exact ⟨(wrap64 (x33_2 + 1)), (t125), (t126), (t129), (.slice Ao38 t126.length co38), eqB, H', ⟨by have := HJ3.out; have := HK2.out; omega⟩, ⟨by (with_reducible repeat (first | apply Kd.R_alloc | apply Kd.R_drewN | apply Kd.R_drew)); exact Kd.R_mono (Kd.R_far (p := ⟨gb103, 2, none⟩) (Kd.R_far (p := ⟨gb103, 1, none⟩) (Kd.R_far (p := ⟨gb103, 0, none⟩) (Kd.R_types HO128.out BK103.out (by decide)) (fun _ hk => hk.2) (.bool t125)) (fun _ hk => hk.2) (.slice Ao38 t126.length co38)) (fun _ hk => hk.2) (.int .i64 t129)) (fun _ hk => trivial)⟩, ⟨by (with_reducible repeat (first | refine blk_drewN ?_ _ | refine blk_drew ?_ | refine blk_alloc ?_ _)); refine blk_put (cs := #[.bool t125, .slice Ao38 t126.length co38, .int .i64 x104002_2]) ?_ 2 _ rfl; (with_reducible repeat (first | refine blk_drewN ?_ _ | refine blk_drew ?_ | refine blk_alloc ?_ _)); refine blk_put (cs := #[.bool t125, .slice Ao35 x104001_2.length co35, .int .i64 x104002_2]) ?_ 1 _ rfl; (with_reducible repeat (first | refine blk_drewN ?_ _ | refine blk_drew ?_ | refine blk_alloc ?_ _)); refine blk_put (cs := #[.bool x104000_2, .slice Ao35 x104001_2.length co35, .int .i64 x104002_2]) ?_ 0 _ rfl; (with_reducible repeat (first | refine blk_drewN ?_ _ | refine blk_drew ?_ | refine blk_alloc ?_ _)); exact BK103.out⟩, ⟨hbs⟩⟩
          ·rw [if_neg c16] at H
           exact absurd H (by simp)
         ·rw [if_neg c14] at H
          exact absurd H (by simp)
        ·rw [if_neg c13] at H
         exact absurd H (by simp)
       ·rw [if_neg c12] at H
        have c12b0 := decide_eq_false c12
        clear c12
        replace H := Option.bind_eq_some_iff.mp H
        obtain ⟨⟨t104, t105⟩, A390, H⟩ := H
        replace H : (some (t104, t105)) = some (r1, r2) := H
        have A39 := asd A390
        clear A390
        simp only [Option.some.injEq, Prod.mk.injEq] at H
        obtain ⟨rfl, rfl⟩ := H
        obtain ⟨hcz40_0, hcz40_1, hcz40_2, hfz40_0, hfz40_1, hfz40_2⟩ := cz3 BK103.out
        obtain ⟨Ao41, co41, eo41⟩ := Kd.R_slice HO_104001.out
        subst eo41
        go_wp2_with (first | ((with_reducible refine gate_callee (f := 47) rfl ?_); refine goesL_ (some 58) rfl rfl Tryz.func47 (by kernel_rfl) rfl #[.agg #[.bool x104000_2, .slice Ao41 x104001_2.length co41, .int .i64 x104002_2], .int .i64 a2] rfl eqA ?_; (with_reducible refine (dyad_Round.calls x104000_2 _ _ x104001_2 x104002_2 a2 t104 t105 _ ?side1 ?side2 A39.out).mono ?_); (case side1 => repeat (first | exact (Kd.R_reads' HO_104001.out).2.2 | (with_reducible refine Kd.C_alloc ?_ _) | (with_reducible refine Kd.C_drewN ?_ _) | (with_reducible refine Kd.C_drew ?_))); (case side2 => exact (Kd.R_reads' HO_104001.out).2.1); rintro e w42 ⟨rfl, hb⟩; refine ⟨_, rfl, ?_⟩; have n0_ := asd (Kd.R_below (rUp HO_104001.out) hb); have n1_ := asd (blk_below (g := gb103) (o := .cells #[.bool x104000_2, .slice Ao41 x104001_2.length co41, .int .i64 x104002_2] 60 (0, 0)) (blkU BK103.out) hb); have n2_ := asd (below_step hbs hb); clear HO_104001; clear BK103; clear HB; have HO_104001 := n0_; have BK103 := n1_; have HB := n2_; clear n0_ n1_ n2_; (try clear hb)))
        go_ret2
        exact ⟨eqC, hbs⟩
    ·rw [if_neg c9] at H
     have c9b0 := beq_eq_false_iff_ne.mpr c9
     have c9b1 := bne_iff_ne.mpr c9
     simp only [Option.some.injEq, Prod.mk.injEq] at H
     obtain ⟨rfl, rfl⟩ := H
     go_wp2_with (first | (go_at_call 50; refine (sums_fault.calls2 _ _ _ _ _ l0 l1 t102 _ (by exact blk_cell (blk_new _ _) 0) (by exact blk_cell (blk_new _ _) 1) (Kd.C_below HR0.out (by exact HB.out.alloc HB.out.size _)) HC0.out (Kd.C_below HR1.out (by exact HB.out.alloc HB.out.size _)) HC1.out A8.out).mono ?_; rintro e w43 ⟨rfl, hb⟩; replace HB := asd (below_step hbw hb); (try clear hb)))
     go_ret2
     exact ⟨eqC, hbw⟩
end Go.Proofs.YthmeocigliephaaGreatDoor.PSx
end
section
namespace Go.Proofs.YthmeocigliephaaGreatDoor.Big
open Go.Proofs.YthmeocigliephaaGreatDoor.PSu Go.Proofs.YthmeocigliephaaGreatDoor.Plain Ieee
def sumV (a b : Nat) : Nat :=
  if nanB a = true ∨ nanB b = true then 9221120237041090561
  else if infB? a = true then a else if infB? b = true then b
  else if flz a + flz b = 0 then (if sgn a = true ∧ sgn b = true then 9223372036854775808 else 0) else rndZ (flz a + flz b) 2
def opp (a b : Nat) : Prop := infB? a = true ∧ infB? b = true ∧ sgn a ≠ sgn b
theorem fin_kind {b : Nat} (h : b < 18446744073709551616) (h1 : nanB b = false) (h2 : infB? b = false) : Fin64 b := fin_of h h1 h2
theorem kind_fin {b : Nat} (h : Fin64 b) : nanB b = false ∧ infB? b = false := by
  rw [nan_law h.1, inf_law h.1]
  have := h.2
  exact ⟨decide_eq_false (by omega), by rw [beq_eq_false_iff_ne]; omega⟩
theorem add_inf {a b : Nat} (ha : a < 18446744073709551616) (hb : b < 18446744073709551616) (h1 : infB? a = true ∨ infB? b = true) (h2 : nanB a = false) (h3 : nanB b = false) (h4 : ¬ opp a b) :
    floatBits .add .f64 a b = some (if infB? a = true then a else b) := by
  have ri : ∀ {x : Nat}, x < 18446744073709551616 → infB? x = true → double.read x = .infinity (sgn x) ∧ double.write (.infinity (sgn x)) = x := by
    intro x hx h
    rw [inf_law hx] at h
    have h := beq_iff_eq.1 h
    refine ⟨read_inf hx h, ?_⟩
    have : x = 9218868437227405312 ∨ x = 18442240474082181120 := by omega
    rcases this with rfl | rfl <;> rfl
  show double.add a b = _
  unfold Format.add
  by_cases ia : infB? a = true
  · obtain ⟨r1, w1⟩ := ri ha ia
    rw [r1, if_pos ia]
    by_cases ib : infB? b = true
    · obtain ⟨r2, w2⟩ := ri hb ib
      have he : sgn a = sgn b := Classical.byContradiction fun h => h4 ⟨ia, ib, h⟩
      rw [r2]
      unfold Datum.sum
      simp only
      rw [if_pos he, Option.map_some, w1]
    · have fb := fin_kind hb h3 (by simpa using ib)
      rw [read_fin fb]
      unfold Datum.sum
      simp only
      rw [Option.map_some, w1]
  · have ib : infB? b = true := h1.resolve_left ia
    have fa := fin_kind ha h2 (by simpa using ia)
    obtain ⟨r2, w2⟩ := ri hb ib
    rw [r2, read_fin fa, if_neg ia]
    unfold Datum.sum
    simp only
    rw [Option.map_some, w2]
theorem oz_law {x : Nat} (hx : Fin64 x) : (FloatKind.f64.format.order x 0 == some .eq) = decide (flz x = 0) := by
  have h0 : Fin64 0 := by decide
  have z0 : flz 0 = 0 := (flz_zero h0).2 rfl
  rw [order_fin hx h0, z0]
  by_cases hz : flz x = 0
  · rw [hz]; rfl
  · rw [decide_eq_false hz, beq_eq_false_iff_ne]
    intro hc
    exact hz (Int.compare_eq_eq.1 (Option.some.inj hc))
theorem sg_law {x : Nat} (hz : flz x ≠ 0) : sgn x = decide (flz x < 0) := by
  have hp : (0 : Int) < 2 ^ (expoV x + 1074).toNat := Int.pow_pos (by omega)
  have hm : manti x ≠ 0 := fun hm => hz (by unfold flz floV; rw [hm]; simp)
  unfold flz floV
  cases hs : sgn x
  · rw [if_neg (by simp)]
    have := Int.mul_pos (show (0 : Int) < manti x by omega) hp
    rw [decide_eq_false (by omega)]
  · rw [if_pos rfl]
    have := Int.mul_pos (show (0 : Int) < manti x by omega) hp
    rw [Int.neg_mul, decide_eq_true (by omega)]
theorem rnd_lt (z : Int) (mode : Int) : rndZ z mode < 18446744073709551616 := by
  unfold rndZ
  split
  · omega
  · rename_i h
    have hn : z.natAbs ≠ 0 := by omega
    rw [roundV_eq]
    have := magV_le z.natAbs (-1074) (if decide (z < 0) = true then mode == 1 else mode == 3) (mode == 2) hn
    unfold infB at this
    unfold signV
    generalize magV z.natAbs (-1074) (if decide (z < 0) = true then mode == 1 else mode == 3) (mode == 2) = q at this ⊢
    split <;> omega
theorem sumV_lt {a b : Nat} (ha : a < 18446744073709551616) (hb : b < 18446744073709551616) : sumV a b < 18446744073709551616 := by
  unfold sumV
  split
  · omega
  · split
    · exact ha
    · split
      · exact hb
      · split
        · split <;> omega
        · exact rnd_lt _ _
theorem opp_cases {a b : Nat} (ha : a < 18446744073709551616) (hb : b < 18446744073709551616) (h : opp a b) : (a = 9218868437227405312 ∧ b = 18442240474082181120) ∨ (a = 18442240474082181120 ∧ b = 9218868437227405312) := by
  obtain ⟨h1, h2, h3⟩ := h
  rw [inf_law ha] at h1
  rw [inf_law hb] at h2
  have h1 := beq_iff_eq.1 h1
  have h2 := beq_iff_eq.1 h2
  have ca : a = 9218868437227405312 ∨ a = 18442240474082181120 := by omega
  have cb : b = 9218868437227405312 ∨ b = 18442240474082181120 := by omega
  rcases ca with rfl | rfl <;> rcases cb with rfl | rfl
  · exact absurd rfl h3
  · exact .inl ⟨rfl, rfl⟩
  · exact .inr ⟨rfl, rfl⟩
  · exact absurd rfl h3
def nanR (x y : Nat) (w : World) : Nat := Question.cut (.nanBits .f64 x y) (w.tape w.drawn (.nanBits .f64 x y))
theorem nanR_nan (x y : Nat) (w : World) : nanB (nanR x y w) = true ∧ nanR x y w < 18446744073709551616 := by
  have : nanR x y w < 18446744073709551616 ∧ 9218868437227405312 < nanR x y w % 9223372036854775808 := by
    unfold nanR Question.cut
    simp only
    generalize w.tape w.drawn (.nanBits .f64 x y) = t
    have hu : t % 2 = 0 ∨ t % 2 = 1 := by omega
    have hv : t / 2 % (2 ^ 52 - 1) < 2 ^ 52 - 1 := Nat.mod_lt _ (by decide)
    generalize t / 2 % (2 ^ 52 - 1) = v at hv ⊢
    rcases hu with hu | hu <;> rw [hu] <;> omega
  exact ⟨by rw [nan_law this.1, decide_eq_true this.2], this.1⟩
theorem run_nan {P : Program} (x y : Nat) (t : TypeId) (w : World) (h : floatBits .add .f64 x y = none) : (binOp .add t (.float .f64 x) (.float .f64 y)).run P w = .ok (.float .f64 (nanR x y w)) w.drew := by
  have h' : FloatKind.f64.format.add x y = none := h
  simp [binOp, Op.floatArith, h', Question.forced, nanR]
instance instDecOpp (a b : Nat) : Decidable (opp a b) := inferInstanceAs (Decidable (_ ∧ _ ∧ _))
def relN (r t : Nat) : Prop := r = t ∨ nanB r = true ∧ nanB t = true
def sumT (a b : Nat) : Nat := if opp a b then 9221120237041090560 else sumV a b
theorem sumT_lt {a b : Nat} (ha : a < 18446744073709551616) (hb : b < 18446744073709551616) : sumT a b < 18446744073709551616 := by
  unfold sumT
  split
  · omega
  · exact sumV_lt ha hb
theorem sumV_nan {a b : Nat} (h : nanB a = true ∨ nanB b = true) : sumV a b = 9221120237041090561 := by unfold sumV; rw [if_pos h]
theorem nan_not_inf {b : Nat} (hb : b < 18446744073709551616) (h : nanB b = true) : infB? b = false := by
  rw [nan_law hb] at h
  rw [inf_law hb, beq_eq_false_iff_ne]
  have := of_decide_eq_true h
  omega
theorem sumT_nan {a b : Nat} (ha : a < 18446744073709551616) (hb : b < 18446744073709551616) (h : nanB a = true ∨ nanB b = true) : nanB (sumT a b) = true := by
  unfold sumT
  rw [if_neg]
  · rw [sumV_nan h]; decide +kernel
  · rintro ⟨h1, h2, _⟩
    rcases h with h | h
    · rw [nan_not_inf ha h] at h1; cases h1
    · rw [nan_not_inf hb h] at h2; cases h2
theorem relN_sum {a b a' b' : Nat} (ha : a < 18446744073709551616) (hb : b < 18446744073709551616) (ha' : a' < 18446744073709551616) (hb' : b' < 18446744073709551616) (h1 : relN a a') (h2 : relN b b') : relN (sumT a b) (sumT a' b') := by
  rcases h1 with rfl | ⟨n1, n2⟩
  · rcases h2 with rfl | ⟨n1, n2⟩
    · exact .inl rfl
    · exact .inr ⟨sumT_nan ha hb (.inr n1), sumT_nan ha hb' (.inr n2)⟩
  · exact .inr ⟨sumT_nan ha hb (.inl n1), sumT_nan ha' hb' (.inl n2)⟩
theorem relN_eq {r t : Nat} (h : relN r t) (hn : nanB t = false) : r = t := by
  rcases h with h | ⟨_, h⟩
  · exact h
  · rw [h] at hn; cases hn
theorem relN_trans {a b c : Nat} (h1 : relN a b) (h2 : relN b c) : relN a c := by
  rcases h1 with rfl | ⟨n1, n2⟩
  · exact h2
  · rcases h2 with rfl | ⟨_, n4⟩
    · exact .inr ⟨n1, n2⟩
    · exact .inr ⟨n1, n4⟩
end Go.Proofs.YthmeocigliephaaGreatDoor.Big
end
section
namespace Go.Proofs.YthmeocigliephaaGreatDoor.Big
open Go.Proofs.YthmeocigliephaaGreatDoor.PSu Go.Proofs.YthmeocigliephaaGreatDoor.Plain
def RetRel (t : Nat) (w : World) (e : Ending) (w' : World) : Prop := ∃ r, relN r t ∧ r < 18446744073709551616 ∧ e = .returned (.float .f64 r) ∧ Below w.heap.size w w'
theorem rnum_fin (b : Nat) (w : World) (hb : Fin64 b) (hL : Laid w) :
    Calls Tryz.prog 115 #[.float .f64 b] w fun e w' => ∃ v1_ : Value, e = .returned (.agg #[.bool (canN (flz b) (-1074)).1, v1_, .int .i64 (canN (flz b) (-1074)).2.2]) ∧ Kd.R (Kd.int .u32) 83 w' w.heap.size (fun _ => True) v1_ (canN (flz b) (-1074)).2.1 ∧ Below w.heap.size w w' :=
  round_num.calls b _ _ _ w (by rw [rnum_law hb]) hL
theorem nought_fin (a b : Nat) (w : World) (ha : Fin64 a) (hb : Fin64 b) (h : flz a + flz b = 0) :
    Calls Tryz.prog 116 #[.float .f64 a, .float .f64 b, .int .i64 2] w fun e w' => e = .returned (.float .f64 (if sgn a = true ∧ sgn b = true then 9223372036854775808 else 0)) ∧ Below w.heap.size w w' := by
  have sa := asd (show math_Signbit.f a = some (sgn a) from signbit_law ha.1)
  have sb := asd (show math_Signbit.f b = some (sgn b) from signbit_law hb.1)
  have oa := oz_law ha
  have ob := oz_law hb
  have tok1 : True := trivial
  by_cases za : flz a = 0
  · have zb : flz b = 0 := by omega
    rw [decide_eq_true za] at oa
    rw [decide_eq_true zb] at ob
    clear ha hb h za zb
    rcases hx : sgn a with _ | _ <;> rcases hy : sgn b with _ | _ <;> rw [hx] at sa <;> rw [hy] at sb <;> clear hx hy
    all_goals
      go_enter Tryz.func116, Tryz.ntmps116
      go_wp2_with (first
        | (go_at_call 54; have _t := tok1; refine (math_Signbit.calls a _ _ sa.out).mono ?_; rintro e w1 ⟨rfl, d⟩; have B1 := asd d.below; clear d _t tok1)
        | (go_at_call 54; refine (math_Signbit.calls b _ _ sb.out).mono ?_; rintro e w2 ⟨rfl, d⟩; have B2 := asd (below_post d.below B1.out); clear d)
        | (go_at_call 55; refine (math_Copysign.calls 0 13830554455654793216 9223372036854775808 _ (by decide)).mono ?_; rintro e w3 ⟨rfl, d⟩; have B2 := asd (below_post d.below B2.out); clear d))
      go_ret
      exact ⟨rfl, B2.out⟩
  · have zb : flz b ≠ 0 := by omega
    rw [decide_eq_false za] at oa
    have hn : ¬ (sgn a = true ∧ sgn b = true) := by
      rw [sg_law za, sg_law zb, decide_eq_true_eq, decide_eq_true_eq]; omega
    rw [if_neg hn]
    clear ha hb h za zb ob hn
    obtain ⟨x, hx⟩ : ∃ x, sgn a = x := ⟨_, rfl⟩
    obtain ⟨y, hy⟩ : ∃ y, sgn b = y := ⟨_, rfl⟩
    rw [hx] at sa
    rw [hy] at sb
    clear hx hy
    go_enter Tryz.func116, Tryz.ntmps116
    go_wp2_with (first
      | (go_at_call 54; have _t := tok1; refine (math_Signbit.calls a _ _ sa.out).mono ?_; rintro e w1 ⟨rfl, d⟩; have B1 := asd d.below; clear d _t tok1)
      | (go_at_call 54; refine (math_Signbit.calls b _ _ sb.out).mono ?_; rintro e w2 ⟨rfl, d⟩; have B2 := asd (below_post d.below B1.out); clear d))
    go_ret
    exact ⟨rfl, B2.out⟩
section
variable (a b : Nat) (w : World)
theorem add_nan (h : nanB a = true ∨ nanB b = true) : Calls Tryz.prog 84 #[.float .f64 a, .float .f64 b, .int .i64 2] w fun e w' => e = .returned (.float .f64 9221120237041090561) ∧ Below w.heap.size w w' := by
  have HV := asd (round_yes (m := 2) (by omega))
  have tok1 : True := trivial
  rcases hx : nanB a with _ | _
  · have hb : (FloatKind.f64.format.order b b != some .eq) = true := h.resolve_left (by rw [hx]; simp)
    have ha : (FloatKind.f64.format.order a a != some .eq) = false := hx
    clear h hx
    go_enter Tryz.func84, Tryz.ntmps84
    go_wp2_with (first
      | (go_at_call 49; refine (round_Valid.calls 2 0 _ HV.out).mono ?_; rintro e w1 ⟨rfl, d⟩; have B1 := asd d.below; clear d)
      | (go_at_call 113; refine (math_NaN.calls _ _ rfl).mono ?_; rintro e w2 ⟨rfl, d⟩; have B2 := asd (below_post d.below B1.out); clear d))
    go_ret
    exact ⟨rfl, B2.out⟩
  · have ha : (FloatKind.f64.format.order a a != some .eq) = true := hx
    clear h hx
    go_enter Tryz.func84, Tryz.ntmps84
    go_wp2_with (first
      | (go_at_call 49; refine (round_Valid.calls 2 0 _ HV.out).mono ?_; rintro e w1 ⟨rfl, d⟩; have B1 := asd d.below; clear d)
      | (go_at_call 113; refine (math_NaN.calls _ _ rfl).mono ?_; rintro e w2 ⟨rfl, d⟩; have B2 := asd (below_post d.below B1.out); clear d))
    go_ret
    exact ⟨rfl, B2.out⟩
theorem infinite_any (x : Nat) : round_infinite.f x = some (infB? x) := by
  unfold round_infinite.f
  rw [inf_some x]; rfl
theorem add_infs (h1 : nanB a = false) (h2 : nanB b = false) (h : infB? a = true ∨ infB? b = true) (v : Nat) (hv : floatBits .add .f64 a b = some v) :
    Calls Tryz.prog 84 #[.float .f64 a, .float .f64 b, .int .i64 2] w fun e w' => e = .returned (.float .f64 v) ∧ Below w.heap.size w w' := by
  have HV := asd (round_yes (m := 2) (by omega))
  have ha : (FloatKind.f64.format.order a a != some .eq) = false := h1
  have hb : (FloatKind.f64.format.order b b != some .eq) = false := h2
  have hrun := fun (w : World) => run_float_arith (P := Tryz.prog) w .add 25 .f64 a b v hv
  have IA := asd (infinite_any a)
  have IB := asd (infinite_any b)
  have tok1 : True := trivial
  rcases hx : infB? a with _ | _
  · have hy := h.resolve_left (by rw [hx]; simp)
    rw [hx] at IA
    rw [hy] at IB
    clear h h1 h2 hx hy hv
    go_enter Tryz.func84, Tryz.ntmps84
    go_wp2_with (first
      | (go_at_call 49; refine (round_Valid.calls 2 0 _ HV.out).mono ?_; rintro e w1 ⟨rfl, d⟩; have B1 := asd d.below; clear d)
      | (go_at_call 114; have _t := tok1; refine (round_infinite.calls a _ _ IA.out).mono ?_; rintro e w2 ⟨rfl, d⟩; have B2 := asd (below_post d.below B1.out); clear d _t tok1)
      | (go_at_call 114; refine (round_infinite.calls b _ _ IB.out).mono ?_; rintro e w3 ⟨rfl, d⟩; have B3 := asd (below_post d.below B2.out); clear d))
    go_ret
    exact ⟨rfl, B3.out⟩
  · rw [hx] at IA
    clear h h1 h2 hx hv
    go_enter Tryz.func84, Tryz.ntmps84
    go_wp2_with (first
      | (go_at_call 49; refine (round_Valid.calls 2 0 _ HV.out).mono ?_; rintro e w1 ⟨rfl, d⟩; have B1 := asd d.below; clear d)
      | (go_at_call 114; refine (round_infinite.calls a _ _ IA.out).mono ?_; rintro e w2 ⟨rfl, d⟩; have B2 := asd (below_post d.below B1.out); clear d))
    go_ret
    exact ⟨rfl, B2.out⟩
theorem add_opp (h : (a = 9218868437227405312 ∧ b = 18442240474082181120) ∨ (a = 18442240474082181120 ∧ b = 9218868437227405312)) :
    Calls Tryz.prog 84 #[.float .f64 a, .float .f64 b, .int .i64 2] w fun e w' => ∃ r, nanB r = true ∧ r < 18446744073709551616 ∧ e = .returned (.float .f64 r) ∧ Below w.heap.size w w' := by
  have ha : (FloatKind.f64.format.order a a != some .eq) = false := by rcases h with ⟨rfl, rfl⟩ | ⟨rfl, rfl⟩ <;> decide +kernel
  have hb : (FloatKind.f64.format.order b b != some .eq) = false := by rcases h with ⟨rfl, rfl⟩ | ⟨rfl, rfl⟩ <;> decide +kernel
  have hi : round_infinite.f a = some true := by rcases h with ⟨rfl, rfl⟩ | ⟨rfl, rfl⟩ <;> decide +kernel
  have hn : floatBits .add .f64 a b = none := by rcases h with ⟨rfl, rfl⟩ | ⟨rfl, rfl⟩ <;> decide +kernel
  have hrun := fun (w : World) => run_nan (P := Tryz.prog) a b 25 w hn
  have HI := asd hi
  have HV := asd (round_yes (m := 2) (by omega))
  clear hi hn h
  go_enter Tryz.func84, Tryz.ntmps84
  go_wp2_with (first
    | (go_at_call 49; refine (round_Valid.calls 2 0 _ HV.out).mono ?_; rintro e w1 ⟨rfl, d⟩; have B1 := asd d.below; clear d)
    | (go_at_call 114; refine (round_infinite.calls a true _ HI.out).mono ?_; rintro e w2 ⟨rfl, d⟩; have B2 := asd (below_post d.below B1.out); clear d))
  go_ret
  exact ⟨_, (nanR_nan _ _ _).1, (nanR_nan _ _ _).2, rfl, B2.out.drew⟩
theorem add_fin (fa : Fin64 a) (fb : Fin64 b) (hL : Laid w) :
    Calls Tryz.prog 84 #[.float .f64 a, .float .f64 b, .int .i64 2] w fun e w' => e = .returned (.float .f64 (if flz a + flz b = 0 then (if sgn a = true ∧ sgn b = true then 9223372036854775808 else 0) else rndZ (flz a + flz b) 2)) ∧ Below w.heap.size w w' := by
  have b1 : bl (flz a).natAbs ≤ 2098 := bl_le.2 (flz_lt fa)
  have b2 : bl (flz b).natAbs ≤ 2098 := bl_le.2 (flz_lt fb)
  have b3 := sum_bl fa fb
  have HV := asd (round_yes (m := 2) (by omega))
  have ha : (FloatKind.f64.format.order a a != some .eq) = false := nan_fin fa
  have hb : (FloatKind.f64.format.order b b != some .eq) = false := nan_fin fb
  have IA := asd (inf_fin fa)
  have IB := asd (inf_fin fb)
  have FA := asd fa
  have FB := asd fb
  have HL := asd hL
  have ADD := asd (dadd_law (x := flz a) (y := flz b) (by omega) (by omega))
  have SGN := asd (sign_can (z := flz a + flz b) (by omega))
  have RND := asd (round_can (z := flz a + flz b) (mode := 2) (by omega) (by omega))
  obtain ⟨SG, hSG⟩ : ∃ s, (if flz a + flz b = 0 then (0 : Int) else if flz a + flz b < 0 then -1 else 1) = s := ⟨_, rfl⟩
  rw [hSG] at SGN
  have ZZ := asd (show SG = 0 ↔ flz a + flz b = 0 by
    rw [← hSG]; constructor
    · intro h; split at h
      · assumption
      · split at h <;> omega
    · intro h; rw [if_pos h])
  obtain ⟨⟨n, m, ex⟩, hs⟩ : ∃ r, canN (flz a + flz b) (-1074) = r := ⟨_, rfl⟩
  rw [hs] at ADD SGN RND
  simp only at ADD SGN RND
  have tok1 : True := trivial
  clear fa fb hL b1 b2 b3 hSG hs
  by_cases hz : flz a + flz b = 0
  · rw [if_pos hz]
    obtain ⟨v, hv⟩ : ∃ v, (if sgn a = true ∧ sgn b = true then 9223372036854775808 else 0) = v := ⟨_, rfl⟩
    rw [hv]
    have HVV := asd hv
    clear hv
    have HZ := asd hz
    have s0 : (SG == 0) = true := by rw [ZZ.out.2 hz]; rfl
    clear hz
    go_enter Tryz.func84, Tryz.ntmps84
    go_wp2_with (first
      | (go_at_call 49; refine (round_Valid.calls 2 0 _ HV.out).mono ?_; rintro e w1 ⟨rfl, d⟩; have B1 := asd d.below; clear d)
      | (go_at_call 114; have _t := tok1; refine (round_infinite.calls a _ _ IA.out).mono ?_; rintro e w2 ⟨rfl, d⟩; have B2 := asd (below_post d.below B1.out); have tok2 : True := trivial; clear d _t tok1)
      | (go_at_call 114; refine (round_infinite.calls b _ _ IB.out).mono ?_; rintro e w3 ⟨rfl, d⟩; have B3 := asd (below_post d.below B2.out); clear d)
      | (go_at_call 115; have _t := tok2; refine (rnum_fin a _ FA.out (HL.out.step B3.out)).mono ?_; rintro e w4 ⟨v4, rfl, r4, d⟩; obtain ⟨A4, c4, hv4⟩ := Kd.R_slice r4; subst hv4; have R4 := asd (Kd.R_reads' r4); have B4 := asd (below_post d B3.out); clear d r4 _t tok2)
      | (go_at_call 115; refine (rnum_fin b _ FB.out (HL.out.step B4.out)).mono ?_; rintro e w5 ⟨v5, rfl, r5, d⟩; obtain ⟨A5, c5, hv5⟩ := Kd.R_slice r5; subst hv5; have R5 := asd (Kd.R_reads' r5); have C4 := asd (Kd.C_below R4.out.2.2 d); have B5 := asd (below_post d B4.out); clear d r5)
      | (go_at_call 79; refine (dyad_Add.calls _ A4 c4 _ _ _ A5 c5 _ _ n m ex 0 _ C4.out R4.out.2.1 R5.out.2.2 R5.out.2.1 ADD.out (HL.out.step B5.out)).mono ?_; rintro e w6 ⟨v6, rfl, r6, d⟩; obtain ⟨A6, c6, hv6⟩ := Kd.R_slice r6; subst hv6; have R6 := asd (Kd.R_reads' r6); have B6 := asd (below_post d B5.out); clear d r6)
      | (go_at_call 51; refine (dyad_Sign.calls 1 n A6 c6 m ex SG _ (Kd.C_below R6.out.2.2 (by exact (Below.refl _ _).alloc (Nat.le_refl _) _)) R6.out.2.1 SGN.out).mono ?_; rintro e w7 ⟨rfl, d⟩; have B7 := asd (below_post d (by exact B6.out.alloc B6.out.size _)); clear d)
      | (go_at_call 116; refine (nought_fin a b _ FA.out FB.out HZ.out).mono ?_; rw [HVV.out]; rintro e w8 ⟨rfl, d⟩; have B8 := asd (below_post d B7.out); clear d))
    go_ret
    exact ⟨rfl, B8.out⟩
  · rw [if_neg hz]
    have s0 : (SG == 0) = false := by rw [beq_eq_false_iff_ne]; exact fun h => hz (ZZ.out.1 h)
    clear hz
    go_enter Tryz.func84, Tryz.ntmps84
    go_wp2_with (first
      | (go_at_call 49; refine (round_Valid.calls 2 0 _ HV.out).mono ?_; rintro e w1 ⟨rfl, d⟩; have B1 := asd d.below; clear d)
      | (go_at_call 114; have _t := tok1; refine (round_infinite.calls a _ _ IA.out).mono ?_; rintro e w2 ⟨rfl, d⟩; have B2 := asd (below_post d.below B1.out); have tok2 : True := trivial; clear d _t tok1)
      | (go_at_call 114; refine (round_infinite.calls b _ _ IB.out).mono ?_; rintro e w3 ⟨rfl, d⟩; have B3 := asd (below_post d.below B2.out); clear d)
      | (go_at_call 115; have _t := tok2; refine (rnum_fin a _ FA.out (HL.out.step B3.out)).mono ?_; rintro e w4 ⟨v4, rfl, r4, d⟩; obtain ⟨A4, c4, hv4⟩ := Kd.R_slice r4; subst hv4; have R4 := asd (Kd.R_reads' r4); have B4 := asd (below_post d B3.out); clear d r4 _t tok2)
      | (go_at_call 115; refine (rnum_fin b _ FB.out (HL.out.step B4.out)).mono ?_; rintro e w5 ⟨v5, rfl, r5, d⟩; obtain ⟨A5, c5, hv5⟩ := Kd.R_slice r5; subst hv5; have R5 := asd (Kd.R_reads' r5); have C4 := asd (Kd.C_below R4.out.2.2 d); have B5 := asd (below_post d B4.out); clear d r5)
      | (go_at_call 79; refine (dyad_Add.calls _ A4 c4 _ _ _ A5 c5 _ _ n m ex 0 _ C4.out R4.out.2.1 R5.out.2.2 R5.out.2.1 ADD.out (HL.out.step B5.out)).mono ?_; rintro e w6 ⟨v6, rfl, r6, d⟩; obtain ⟨A6, c6, hv6⟩ := Kd.R_slice r6; subst hv6; have R6 := asd (Kd.R_reads' r6); have N6 := asd (show NumB (w6.alloc (.cells #[.bool n, .slice A6 m.length c6, .int .i64 ex] 60 (0, 0))) w6.heap.size n (.slice A6 m.length c6) ex from blk_new _ _); have B6 := asd (below_post d B5.out); clear d r6)
      | (go_at_call 51; refine (dyad_Sign.calls 1 n A6 c6 m ex SG _ (Kd.C_below R6.out.2.2 (by exact (Below.refl _ _).alloc (Nat.le_refl _) _)) R6.out.2.1 SGN.out).mono ?_; rintro e w7 ⟨rfl, d⟩; have B7 := asd (below_post d (by exact B6.out.alloc B6.out.size _)); have C7 := asd (Kd.C_below (Kd.C_below R6.out.2.2 ((Below.refl _ _).alloc (Nat.le_refl _) _)) d); have N7 := asd (N6.out.below d); have q0 := N7.out.c0; have q1 := N7.out.c1; have q2 := N7.out.c2; clear d)
      | (go_at_call 117; refine (round_to.calls n A6 c6 m ex 2 (rndZ (flz a + flz b) 2) _ C7.out R6.out.2.1 (by unfold round_to.f; rw [RND.out]; rfl)).mono ?_; rintro e w8 ⟨rfl, d⟩; have B8 := asd (below_post d B7.out); clear d))
    go_ret
    exact ⟨rfl, B8.out⟩
theorem near_rel (ha : a < 18446744073709551616) (hb : b < 18446744073709551616) (hL : Laid w) : Calls Tryz.prog 39 #[.float .f64 a, .float .f64 b] w (RetRel (sumT a b) w) := by
  have key : Calls Tryz.prog 84 #[.float .f64 a, .float .f64 b, .int .i64 2] w (RetRel (sumT a b) w) := by
    unfold sumT
    by_cases ho : opp a b
    · rw [if_pos ho]
      exact (add_opp a b w (opp_cases ha hb ho)).mono fun e w' ⟨r, h1, h2, h3, h4⟩ => ⟨r, .inr ⟨h1, by decide +kernel⟩, h2, h3, h4⟩
    · rw [if_neg ho]
      unfold sumV
      by_cases hn : nanB a = true ∨ nanB b = true
      · rw [if_pos hn]
        exact (add_nan a b w hn).mono fun e w' ⟨h3, h4⟩ => ⟨_, .inl rfl, by omega, h3, h4⟩
      · have n1 : nanB a = false := by cases h : nanB a; rfl; exact absurd (.inl h) hn
        have n2 : nanB b = false := by cases h : nanB b; rfl; exact absurd (.inr h) hn
        rw [if_neg hn]
        by_cases hi : infB? a = true ∨ infB? b = true
        · have hv := add_inf ha hb hi n1 n2 ho
          refine (add_infs a b w n1 n2 hi _ hv).mono fun e w' ⟨h3, h4⟩ => ⟨_, .inl ?_, ?_, h3, h4⟩
          · by_cases ia : infB? a = true
            · rw [if_pos ia, if_pos ia]
            · rw [if_neg ia, if_neg ia, if_pos (hi.resolve_left ia)]
          · split <;> assumption
        · have i1 : infB? a = false := by cases h : infB? a; rfl; exact absurd (.inl h) hi
          have i2 : infB? b = false := by cases h : infB? b; rfl; exact absurd (.inr h) hi
          rw [i1, i2, if_neg (by simp), if_neg (by simp)]
          refine (add_fin a b w (fin_kind ha n1 i1) (fin_kind hb n2 i2) hL).mono fun e w' ⟨h3, h4⟩ => ⟨_, .inl rfl, ?_, h3, h4⟩
          split
          · split <;> omega
          · exact rnd_lt _ _
  have K := asd key
  clear key ha hb hL
  go_enter Tryz.func39, Tryz.ntmps39
  go_wp2_with (go_at_call 84; refine (K.out).mono ?_; rintro e w1 ⟨r, n1, n2, rfl, d⟩; have N1 := asd (And.intro n1 (And.intro n2 d)); clear n1 n2 d)
  go_ret
  exact ⟨_, N1.out.1, N1.out.2.1, rfl, N1.out.2.2⟩
end
end Go.Proofs.YthmeocigliephaaGreatDoor.Big
end
section
namespace Go.Proofs.YthmeocigliephaaGreatDoor.Big
open Go.Proofs.YthmeocigliephaaGreatDoor.PSu Go.Proofs.YthmeocigliephaaGreatDoor.Plain
def rowT : List Nat → Nat
  | [] => 0
  | a :: l => l.foldl sumT a
theorem rd_lt {l : List Nat} (hw : ∀ b ∈ l, b < 18446744073709551616) (i : Int) : rdOf (0 : Nat) l i < 18446744073709551616 := by
  unfold rdOf
  by_cases h : i.toNat < l.length
  · rw [List.getD_eq_getElem?_getD, List.getElem?_eq_getElem h]
    exact hw _ (List.getElem_mem h)
  · rw [List.getD_eq_getElem?_getD, List.getElem?_eq_none (by omega)]; simp
theorem relN_self (a : Nat) : relN a a := .inl rfl
theorem row_rel (A : Option Addr) (c : Nat) (l : List Nat) (w : World) (hr : Kd.C Kd.float w A l.length l) (hc : l.length ≤ c) (hn : l.length < 4611686018427387904) (hw : ∀ b ∈ l, b < 18446744073709551616) (hL : Laid w) :
    Calls Tryz.prog 12 #[.slice A l.length c] w (RetRel (rowT l) w) := by
  have HL := asd hL
  have HB := asd (Below.refl w.heap.size w)
  by_cases c2 : (l.length : Int) = 0
  · have c2b0 : ((l.length : Int) == 0) = true := beq_iff_eq.mpr c2
    obtain rfl : l = [] := List.length_eq_zero_iff.1 (by omega)
    clear c2 hL hn hw hr hc
    go_enter Tryz.func12, Tryz.ntmps12
    go_wp2
    go_ret
    exact ⟨0, .inl rfl, by omega, rfl, HB.out⟩
  · have c2b0 : ((l.length : Int) == 0) = false := beq_eq_false_iff_ne.mpr c2
    obtain ⟨T, hT⟩ : ∃ T, rowT l = T := ⟨_, rfl⟩
    rw [hT]
    have HT := asd (show (l.drop (1 + 0)).foldl sumT (rdOf (0 : Nat) l 0) = T by
      cases l with
      | nil => exact absurd rfl c2
      | cons a l => exact hT)
    have HW := asd hw
    have p157 : 0 ≤ (0 : Int) := by omega
    have q157 : 0 < (l.length : Int) := by omega
    obtain ⟨ad157, e157, hx157_0⟩ := Kd.at_float hr 0 p157 q157
    cases e157
    rw [show ((0 : Int)).toNat = 0 from rfl, Addr.add_zero'] at hx157_0
    obtain ⟨i05, hi05, _, hsz5, _⟩ := info_parts info25
    obtain ⟨A5, hcut5, hA5, hC5⟩ := print_drop_of (P := Tryz.prog) (Value.float .f64) (0 : Nat) 22 25 .i64 Tryz.underlying22 hi05 hsz5 (some ad157) c l 1 (by omega) (by omega) hc
    have HR := asd (show Kd.C Kd.float w A5 (l.drop 1).length (l.drop 1) from Kd.C_of_reads (h1 := fun _ => rfl) (hA5 _ (Kd.reads_of_C hr)))
    have HN := asd (show (l.drop 1).length < 4611686018427387904 by rw [List.length_drop]; omega)
    have H1 := asd (show 1 ≤ l.length by omega)
    have q1 : (1 : Int) ≤ (l.length : Int) := by omega
    have qi157 : (0 < l.length) = True := eq_true (by omega)
    replace p157 := eq_true p157
    replace q157 := eq_true q157
    replace q1 := eq_true q1
    clear hA5 hC5 hi05 hsz5 hL hr hc hn hw hT
    go_enter Tryz.func12, Tryz.ntmps12
    go_wp2
    go_loopg [3, 15] (l.drop 1).length (fun kq v3 v15 w' => ∃ (s t i : Nat), v3 = .float .f64 s ∧ v15 = .int .i64 (i : Int) ∧ Aside0 (relN s t ∧ s < 18446744073709551616 ∧ t < 18446744073709551616) ∧ Aside0 ((l.drop (1 + i)).foldl sumT t = T) ∧ Aside0 (kq + i = (l.drop 1).length) ∧ Aside0 (Below w.heap.size w w'))
    case atStart => exact ⟨rdOf (0 : Nat) l 0, rdOf (0 : Nat) l 0, 0, rfl, rfl, ⟨.inl rfl, rd_lt HW.out 0, rd_lt HW.out 0⟩, HT, ⟨by omega⟩, HB⟩
    case round =>
      clear HT HB p157 q157 q1 hx157_0 qi157 c2 c2b0
      obtain ⟨s, t, i, rfl, rfl, HS, HT, HK, HB⟩ := hrel
      have hi0 : (0 : Int) ≤ (i : Int) := by omega
      have hdl : (l.drop 1).length = l.length - 1 := List.length_drop
      cases gk with
      | zero =>
        have c1 : decide ((i : Int) < ((l.length - 1 : Nat) : Int)) = false := by have := HK.out; simp; omega
        have c1' : decide ((i : Int) < ((l.drop 1).length : Int)) = false := by have := HK.out; simp; omega
        have c1n : decide (i < l.length - 1) = false := by have := HK.out; simp; omega
        have hT := HT.out
        rw [List.drop_eq_nil_of_le (by have := HK.out; omega)] at hT
        obtain rfl : t = T := hT
        clear hdl
        go_wp2
        go_ret
        exact ⟨s, HS.out.1, HS.out.2.1, rfl, HB.out⟩
      | succ k1 =>
        have hi : i < (l.drop 1).length := by have := HK.out; omega
        have p1 : 0 ≤ (i : Int) := hi0
        have q1 : (i : Int) < ((l.drop 1).length : Int) := by omega
        have c1 : decide ((i : Int) < ((l.length - 1 : Nat) : Int)) = true := by simp; omega
        have c1' : decide ((i : Int) < ((l.drop 1).length : Int)) = true := by simp; omega
        have c1n : decide (i < l.length - 1) = true := by simp; omega
        obtain ⟨ad, e159, hx⟩ := Kd.at_float HR.out (i : Int) p1 q1
        cases e159
        replace hx := (HB.out.cell (World.block_lt_of_cell? w _ hx)).trans hx
        rw [Int.toNat_natCast] at hx
        have hT := HT.out
        have hd : l.drop (1 + i) = rdOf (0 : Nat) (l.drop 1) (i : Int) :: l.drop (1 + (i + 1)) := by
          rw [← List.drop_drop, drop_rd _ i hi, List.drop_drop]
        rw [hd, List.foldl_cons] at hT
        have HX := asd (rd_lt (fun b hb => HW.out b (List.mem_of_mem_drop hb)) (i : Int) : rdOf (0 : Nat) (l.drop 1) (i : Int) < 18446744073709551616)
        obtain ⟨x, hx0⟩ : ∃ x, rdOf (0 : Nat) (l.drop 1) (i : Int) = x := ⟨_, rfl⟩
        rw [hx0] at hx hT HX
        have HT2 := asd hT
        have HI := asd hi
        have q1x : ((i : Int) < ((l.length - 1 : Nat) : Int)) = True := eq_true (by omega)
        replace p1 := eq_true p1
        replace q1 := eq_true q1
        clear hT hd hx0 hdl hi HT
        go_wp2_with (go_at_call 39; refine (near_rel s x _ HS.out.2.1 HX.out (HL.out.step HB.out)).mono ?_; rintro e w1 ⟨r, n1, n2, rfl, d⟩; have N1 := asd (And.intro n1 n2); have HB2 := asd (below_post d HB.out); clear n1 n2 d)
        go_roundg k1
        case measure => omega
        case rel => exact ⟨r, sumT t x, i + 1, rfl, by congr 1; have := HI.out; have := HN.out; exact (w64_of (by omega) (by omega)).trans (by omega), ⟨relN_trans N1.out.1 (relN_sum HS.out.2.1 HX.out HS.out.2.2 HX.out HS.out.1 (relN_self x)), N1.out.2, sumT_lt HS.out.2.2 HX.out⟩, HT2, ⟨by have := HK.out; omega⟩, HB2⟩
end Go.Proofs.YthmeocigliephaaGreatDoor.Big
end
