/- Parts of the proof, behind one another; unused words are left out. -/
import Derived.Test.YthmeocigliephaaGreatDoorXe02
set_option linter.unusedVariables false
set_option linter.unusedSimpArgs false
set_option linter.unusedSectionVars false
set_option exponentiation.threshold 100000
section
namespace Go.Proofs.YthmeocigliephaaGreatDoor.PSu
open Go.RowKit Go.Proofs.YthmeocigliephaaGreatDoorW.PrintWords Go.Proofs.YthmeocigliephaaGreatDoorW.PrintLast Go.Proofs.YthmeocigliephaaGreatDoorW.PrintMore
attribute [local go_sem] neg_float f64bits_run f64from_run run_float_some max2_int min2_int max_two min_two max_three min_three max_four min_four
def round_to.f (a0_0 : Bool) (l0_1 : List Int) (a0_2 : Int) (a1 : Int) : Option (Nat) := (dyad_Round.f a0_0 l0_1 a0_2 a1).bind fun bt130 => (some bt130.1)
set_option maxHeartbeats 8000000 in
set_option maxRecDepth 100000 in
theorem round_to.calls (a0_0 : Bool) (A0_1 : Option Addr) (c0_1 : Nat) (l0_1 : List Int) (a0_2 : Int) (a1 : Int) (r : Nat) (w : World) (hr0_1 : Kd.C (Kd.int .u32) w A0_1 l0_1.length l0_1) (hc0_1 : l0_1.length ≤ c0_1) (h : round_to.f a0_0 l0_1 a0_2 a1 = some r) :
  Calls Tryz.prog 117 #[.agg #[.bool a0_0, .slice A0_1 l0_1.length c0_1, .int .i64 a0_2], .int .i64 a1] w fun e w' => e = .returned (.float .f64 r) ∧ Below w.heap.size w w' := by
 have hu60 := Tryz.underlying60
 have HR0_1 := Aside0.mk hr0_1
 have HC0_1 := Aside0.mk hc0_1
 clear hr0_1 hc0_1
 have HB := Aside0.mk (Below.refl w.heap.size w)
 have H : ((dyad_Round.f a0_0 l0_1 a0_2 a1).bind fun bt130 => (some bt130.1)) = some r := h
 clear h
 replace H := Option.bind_eq_some_iff.mp H
 obtain ⟨⟨t130, t131⟩, A30, H⟩ := H
 replace H : (some t130) = some r := H
 have A3 := Aside0.mk A30
 clear A30
 obtain rfl := Option.some.inj H
 go_enter Tryz.func117, Tryz.ntmps117
 go_wp2_with (first | ((with_reducible refine gate_dst (N := 2) rfl ?_); refine box_event ?hg (N := 2) ?hd (cs := #[.bool a0_0, .slice A0_1 l0_1.length c0_1, .int .i64 a0_2]) (t := 60) ?hr ?_; (case hd => rfl); (case hg => rfl); (case hr => first | (go_simp; done) | (go_simp; rfl)); intro gb129 hg w4 hbox hb; have n0_ := Aside0.mk (below_step hbw hb); have n1_ := Aside0.mk (hbox); have n2_ := Aside0.mk ((by rw [hg]; exact (below_size hbw) : w.heap.size ≤ gb129)); have n3_ := Aside0.mk ((by rw [hg]; exact (below_size hbw) : w.heap.size ≤ gb129)); clear HB; have HB := n0_; have BK129 := n1_; have GW129 := n2_; have GE129 := n3_; clear n0_ n1_ n2_ n3_; clear hb hbox hg; have hcz5_0 : w4.cell? ⟨gb129, 0, none⟩ = some (.bool a0_0) := (blk_cell BK129.out 0).trans rfl; have hcz5_1 : w4.cell? ⟨gb129, 1, none⟩ = some (.slice A0_1 l0_1.length c0_1) := (blk_cell BK129.out 1).trans rfl; have hcz5_2 : w4.cell? ⟨gb129, 2, none⟩ = some (.int .i64 a0_2) := (blk_cell BK129.out 2).trans rfl; have hfz5_0 := blk_frozen BK129.out 0; have hfz5_1 := blk_frozen BK129.out 1; have hfz5_2 := blk_frozen BK129.out 2) | ((with_reducible refine gate_callee (f := 47) rfl ?_); refine goesL_ (some 10) rfl rfl Tryz.func47 (by kernel_rfl) rfl #[.agg #[.bool a0_0, .slice A0_1 l0_1.length c0_1, .int .i64 a0_2], .int .i64 a1] rfl eqA ?_; (with_reducible refine (dyad_Round.calls a0_0 _ _ l0_1 a0_2 a1 t130 t131 _ ?side1 ?side2 A3.out).mono ?_); (case side1 => repeat (first | exact (Kd.C_below HR0_1.out HB.out) | (with_reducible refine Kd.C_alloc ?_ _) | (with_reducible refine Kd.C_drewN ?_ _) | (with_reducible refine Kd.C_drew ?_))); (case side2 => exact HC0_1.out); rintro e w6 ⟨rfl, hb⟩; refine ⟨_, rfl, ?_⟩; have n0_ := Aside0.mk (blk_below (g := gb129) (o := .cells #[.bool a0_0, .slice A0_1 l0_1.length c0_1, .int .i64 a0_2] 60 (0, 0)) (blkU BK129.out) hb); have n1_ := Aside0.mk (below_step (by repeat (first | (with_reducible first | exact HB.out | apply below_alloc | apply pw_below_drewN | apply below_drew1 | refine below_set ?_ GE129.out) | exact HB.out)) hb); clear BK129; clear HB; have BK129 := n0_; have HB := n1_; clear n0_ n1_; (try clear hb); (try clear hb2); (try clear hk); (try clear hi)))
 go_ret
 exact ⟨by first | rfl | (simp [errW_none, errW_some] <;> rfl) | (simp [*, errW_none, errW_some] <;> rfl), by repeat (first | (with_reducible first | exact HB.out | apply below_alloc | apply pw_below_drewN | apply below_drew1 | refine below_set ?_ GE129.out) | exact HB.out)⟩
def round_Add.j0 : Nat → Nat → Nat → Int → Bool → Option (Nat)
 | 0, _, _, _, _ => none
 | k + 1, x0, x1, x2, x9 => if x9 = true then ((math_NaN.f).bind fun t133 => (some t133)) else ((round_infinite.f x0).bind fun t134 => (if t134 = true then (if ((floatBits .add .f64 x0 x1).isSome) = true then (some ((floatBits .add .f64 x0 x1).getD 0)) else (none)) else ((round_infinite.f x1).bind fun t135 => (if t135 = true then (if ((floatBits .add .f64 x0 x1).isSome) = true then (some ((floatBits .add .f64 x0 x1).getD 0)) else (none)) else ((round_num.f x0).bind fun bt136 => ((round_num.f x1).bind fun bt141 => ((dyad_Add.f bt136.1 bt136.2.1 bt136.2.2 bt141.1 bt141.2.1 bt141.2.2).bind fun bt146 => ((dyad_Sign.f k bt146.1 bt146.2.1 bt146.2.2.1).bind fun t153 => (if t153 = 0 then ((round_nought.f k x0 x1 x2).bind fun t154 => (some t154)) else ((round_to.f bt146.1 bt146.2.1 bt146.2.2.1 x2).bind fun t155 => (some t155)))))))))))
def round_Add.f (k : Nat) (a0 : Nat) (a1 : Nat) (a2 : Int) : Option (Nat) := (round_Valid.f a2).bind fun t132 => (if t132 = 0 then (if ((FloatKind.f64.format.order a0 a0) != some .eq) = true then (round_Add.j0 k a0 a1 a2 true) else (round_Add.j0 k a0 a1 a2 ((FloatKind.f64.format.order a1 a1) != some .eq))) else (round_Add.j0 k a0 a1 a2 true))
set_option maxHeartbeats 8000000 in
set_option maxRecDepth 100000 in
theorem round_Add.calls (k : Nat) (a0 : Nat) (a1 : Nat) (a2 : Int) (r : Nat) (w : World) (h : round_Add.f k a0 a1 a2 = some r) (hL : Big.Laid w := by exact Big.Laid.step HL.out hbw) :
  Calls Tryz.prog 84 #[.float .f64 a0, .float .f64 a1, .int .i64 a2] w fun e w' => e = .returned (.float .f64 r) ∧ Below w.heap.size w w' := by
 have HL := Aside0.mk hL
 clear hL
 have hu60 := Tryz.underlying60
 have HB := Aside0.mk (Below.refl w.heap.size w)
 have H : ((round_Valid.f a2).bind fun t132 => (if t132 = 0 then (if ((FloatKind.f64.format.order a0 a0) != some .eq) = true then (round_Add.j0 k a0 a1 a2 true) else (round_Add.j0 k a0 a1 a2 ((FloatKind.f64.format.order a1 a1) != some .eq))) else (round_Add.j0 k a0 a1 a2 true))) = some r := h
 clear h
 have HC4 := Aside0.mk H
 clear H
 go_enter Tryz.func84, Tryz.ntmps84
 go_upto_region 1 with (fail)
 go_cut [9] (fun v9 wc => ∃ (kq : Nat) (x9_3 : Bool), v9 = .bool x9_3 ∧ Aside0 (round_Add.j0 kq a0 a1 a2 x9_3 = some r) ∧ Aside0 (kq ≤ k) ∧ Aside0 (Below w.heap.size w wc))
 case first =>
  have H := HC4.out
  clear HC4
  replace H := Option.bind_eq_some_iff.mp H
  obtain ⟨t132, A50, H⟩ := H
  replace H : (if t132 = 0 then (if ((FloatKind.f64.format.order a0 a0) != some .eq) = true then (round_Add.j0 k a0 a1 a2 true) else (round_Add.j0 k a0 a1 a2 ((FloatKind.f64.format.order a1 a1) != some .eq))) else (round_Add.j0 k a0 a1 a2 true)) = some r := H
  have A5 := Aside0.mk A50
  clear A50
  by_cases c6 : t132 = 0
  ·rw [if_pos c6] at H
   have c6b0 : (t132 == 0) = true := beq_iff_eq.mpr c6
   have c6b1 : (t132 != 0) = false := bne_eq_false_iff_eq.mpr c6
   clear c6
   (first | rw [c6b0] | (simp only [i64_w, i32_w]; rw [c6b0]) | skip)
   by_cases c7 : ((FloatKind.f64.format.order a0 a0) != some .eq) = true
   ·rw [if_pos c7] at H
    have c7b0 : ((FloatKind.f64.format.order a0 a0) != some .eq) = true := c7
    (try (have c7b1 : decide ((FloatKind.f64.format.order a0 a0) = some .eq) = false := by simpa using c7))
    (try (have c7b2 : ((FloatKind.f64.format.order a0 a0) == some .eq) = false := by simpa using c7))
    (try (have c7b3 : ¬ ((FloatKind.f64.format.order a0 a0) = some .eq) := by simpa using c7))
    clear c7
    have H' := Aside0.mk H
    clear H
    go_wp2_with (first | ((with_reducible refine gate_callee (f := 49) rfl ?_); refine goesL_ (some 11) rfl rfl Tryz.func49 (by kernel_rfl) rfl #[.int .i64 a2] rfl eqA ?_; (with_reducible refine (round_Valid.calls a2 t132 _ A5.out).mono ?_); rintro e w' ⟨rfl, ⟨nd, rfl⟩⟩; refine ⟨_, rfl, ?_⟩))
    go_meet
    case rel => exact ⟨_, (true), (by first | rfl | (simp; done) | (simp [*]; done)), H', ⟨by first | omega | exact Nat.le_refl _⟩, ⟨hbw⟩⟩
   ·rw [if_neg c7] at H
    have c7b0 : ((FloatKind.f64.format.order a0 a0) != some .eq) = false := by simpa using c7
    (try (have c7b1 : decide ((FloatKind.f64.format.order a0 a0) = some .eq) = true := by simpa using c7))
    (try (have c7b2 : ((FloatKind.f64.format.order a0 a0) == some .eq) = true := by simpa using c7))
    clear c7
    have H' := Aside0.mk H
    clear H
    go_wp2_with (first | ((with_reducible refine gate_callee (f := 49) rfl ?_); refine goesL_ (some 11) rfl rfl Tryz.func49 (by kernel_rfl) rfl #[.int .i64 a2] rfl eqA ?_; (with_reducible refine (round_Valid.calls a2 t132 _ A5.out).mono ?_); rintro e w' ⟨rfl, ⟨nd, rfl⟩⟩; refine ⟨_, rfl, ?_⟩))
    go_meet
    case rel => exact ⟨_, (((FloatKind.f64.format.order a1 a1) != some .eq)), (by first | rfl | (simp; done) | (simp [*]; done)), H', ⟨by first | omega | exact Nat.le_refl _⟩, ⟨hbw⟩⟩
  ·rw [if_neg c6] at H
   have c6b0 : (t132 == 0) = false := beq_eq_false_iff_ne.mpr c6
   have c6b1 : (t132 != 0) = true := bne_iff_ne.mpr c6
   (first | rw [c6b0] | (simp only [i64_w, i32_w]; rw [c6b0]) | skip)
   have H' := Aside0.mk H
   clear H
   go_wp2_with (first | ((with_reducible refine gate_callee (f := 49) rfl ?_); refine goesL_ (some 11) rfl rfl Tryz.func49 (by kernel_rfl) rfl #[.int .i64 a2] rfl eqA ?_; (with_reducible refine (round_Valid.calls a2 t132 _ A5.out).mono ?_); rintro e w' ⟨rfl, ⟨nd, rfl⟩⟩; refine ⟨_, rfl, ?_⟩))
   go_meet
   case rel => exact ⟨_, (true), (by first | rfl | (simp; done) | (simp [*]; done)), H', ⟨by first | omega | exact Nat.le_refl _⟩, ⟨hbw⟩⟩
 case rest =>
  clear HC4
  try clear p2
  try clear c4
  try clear c6
  try clear c6b0
  try clear c6b1
  try clear c7
  try clear c7b0
  try clear c7b1
  try clear c7b2
  obtain ⟨kq, x9_3, rfl, HA, HJ3, HB⟩ := hcut
  cases kq with
  | zero => exact absurd HA.out (by simp [round_Add.j0])
  | succ kj3 =>
   have H := HA.out
   clear HA
   simp only [round_Add.j0] at H
   by_cases c8 : x9_3 = true
   ·subst c8
    have H1 : ((math_NaN.f).bind fun t133 => (some t133)) = some r := by rw [if_pos rfl] at H; exact H
    clear H
    have H := H1
    clear H1
    replace H := Option.bind_eq_some_iff.mp H
    obtain ⟨t133, A90, H⟩ := H
    replace H : (some t133) = some r := H
    have A9 := Aside0.mk A90
    clear A90
    obtain rfl := Option.some.inj H
    go_wp2_with (first | ((with_reducible refine gate_callee (f := 113) rfl ?_); refine goesL_ (some 23) rfl rfl Tryz.func113 (by kernel_rfl) rfl #[] rfl eqA ?_; (with_reducible refine (math_NaN.calls  t133 _ A9.out).mono ?_); rintro e w' ⟨rfl, ⟨nd, rfl⟩⟩; refine ⟨_, rfl, ?_⟩))
    go_ret
    exact ⟨by first | rfl | (simp [errW_none, errW_some] <;> rfl) | (simp [*, errW_none, errW_some] <;> rfl), hbw⟩
   ·replace c8 := Bool.eq_false_iff.mpr c8
    subst c8
    have H1 : ((round_infinite.f a0).bind fun t134 => (if t134 = true then (if ((floatBits .add .f64 a0 a1).isSome) = true then (some ((floatBits .add .f64 a0 a1).getD 0)) else (none)) else ((round_infinite.f a1).bind fun t135 => (if t135 = true then (if ((floatBits .add .f64 a0 a1).isSome) = true then (some ((floatBits .add .f64 a0 a1).getD 0)) else (none)) else ((round_num.f a0).bind fun bt136 => ((round_num.f a1).bind fun bt141 => ((dyad_Add.f bt136.1 bt136.2.1 bt136.2.2 bt141.1 bt141.2.1 bt141.2.2).bind fun bt146 => ((dyad_Sign.f kj3 bt146.1 bt146.2.1 bt146.2.2.1).bind fun t153 => (if t153 = 0 then ((round_nought.f kj3 a0 a1 a2).bind fun t154 => (some t154)) else ((round_to.f bt146.1 bt146.2.1 bt146.2.2.1 a2).bind fun t155 => (some t155))))))))))) = some r := by rw [if_neg (show ¬ (false = true) by decide)] at H; exact H
    clear H
    have H := H1
    clear H1
    replace H := Option.bind_eq_some_iff.mp H
    obtain ⟨t134, A100, H⟩ := H
    replace H : (if t134 = true then (if ((floatBits .add .f64 a0 a1).isSome) = true then (some ((floatBits .add .f64 a0 a1).getD 0)) else (none)) else ((round_infinite.f a1).bind fun t135 => (if t135 = true then (if ((floatBits .add .f64 a0 a1).isSome) = true then (some ((floatBits .add .f64 a0 a1).getD 0)) else (none)) else ((round_num.f a0).bind fun bt136 => ((round_num.f a1).bind fun bt141 => ((dyad_Add.f bt136.1 bt136.2.1 bt136.2.2 bt141.1 bt141.2.1 bt141.2.2).bind fun bt146 => ((dyad_Sign.f kj3 bt146.1 bt146.2.1 bt146.2.2.1).bind fun t153 => (if t153 = 0 then ((round_nought.f kj3 a0 a1 a2).bind fun t154 => (some t154)) else ((round_to.f bt146.1 bt146.2.1 bt146.2.2.1 a2).bind fun t155 => (some t155)))))))))) = some r := H
    have A10 := Aside0.mk A100
    clear A100
    by_cases c11 : t134 = true
    ·subst c11
     have H1 : (if ((floatBits .add .f64 a0 a1).isSome) = true then (some ((floatBits .add .f64 a0 a1).getD 0)) else (none)) = some r := by rw [if_pos rfl] at H; exact H
     clear H
     have H := H1
     clear H1
     by_cases c12 : ((floatBits .add .f64 a0 a1).isSome) = true
     ·rw [if_pos c12] at H
      have c12b0 := eq_true c12
      have c12b1 : decide (((floatBits .add .f64 a0 a1).isSome) = true) = true := decide_eq_true c12
      clear c12
      obtain rfl := Option.some.inj H
      go_wp2_with (first | ((with_reducible refine gate_callee (f := 114) rfl ?_); refine goesL_ (some 26) rfl rfl Tryz.func114 (by kernel_rfl) rfl #[.float .f64 a0] rfl eqA ?_; (with_reducible refine (round_infinite.calls a0 true _ A10.out).mono ?_); rintro e w' ⟨rfl, ⟨nd, rfl⟩⟩; refine ⟨_, rfl, ?_⟩))
      go_ret
      exact ⟨by first | rfl | (simp [errW_none, errW_some] <;> rfl) | (simp [*, errW_none, errW_some] <;> rfl), hbw⟩
     ·rw [if_neg c12] at H
      exact absurd H (by simp)
    ·replace c11 := Bool.eq_false_iff.mpr c11
     subst c11
     have H1 : ((round_infinite.f a1).bind fun t135 => (if t135 = true then (if ((floatBits .add .f64 a0 a1).isSome) = true then (some ((floatBits .add .f64 a0 a1).getD 0)) else (none)) else ((round_num.f a0).bind fun bt136 => ((round_num.f a1).bind fun bt141 => ((dyad_Add.f bt136.1 bt136.2.1 bt136.2.2 bt141.1 bt141.2.1 bt141.2.2).bind fun bt146 => ((dyad_Sign.f kj3 bt146.1 bt146.2.1 bt146.2.2.1).bind fun t153 => (if t153 = 0 then ((round_nought.f kj3 a0 a1 a2).bind fun t154 => (some t154)) else ((round_to.f bt146.1 bt146.2.1 bt146.2.2.1 a2).bind fun t155 => (some t155))))))))) = some r := by rw [if_neg (show ¬ (false = true) by decide)] at H; exact H
     clear H
     have H := H1
     clear H1
     replace H := Option.bind_eq_some_iff.mp H
     obtain ⟨t135, A130, H⟩ := H
     replace H : (if t135 = true then (if ((floatBits .add .f64 a0 a1).isSome) = true then (some ((floatBits .add .f64 a0 a1).getD 0)) else (none)) else ((round_num.f a0).bind fun bt136 => ((round_num.f a1).bind fun bt141 => ((dyad_Add.f bt136.1 bt136.2.1 bt136.2.2 bt141.1 bt141.2.1 bt141.2.2).bind fun bt146 => ((dyad_Sign.f kj3 bt146.1 bt146.2.1 bt146.2.2.1).bind fun t153 => (if t153 = 0 then ((round_nought.f kj3 a0 a1 a2).bind fun t154 => (some t154)) else ((round_to.f bt146.1 bt146.2.1 bt146.2.2.1 a2).bind fun t155 => (some t155)))))))) = some r := H
     have A13 := Aside0.mk A130
     clear A130
     by_cases c14 : t135 = true
     ·subst c14
      have H1 : (if ((floatBits .add .f64 a0 a1).isSome) = true then (some ((floatBits .add .f64 a0 a1).getD 0)) else (none)) = some r := by rw [if_pos rfl] at H; exact H
      clear H
      have H := H1
      clear H1
      by_cases c15 : ((floatBits .add .f64 a0 a1).isSome) = true
      ·rw [if_pos c15] at H
       have c15b0 := eq_true c15
       have c15b1 : decide (((floatBits .add .f64 a0 a1).isSome) = true) = true := decide_eq_true c15
       clear c15
       obtain rfl := Option.some.inj H
       go_wp2_with (first | ((with_reducible refine gate_callee (f := 114) rfl ?_); refine goesL_ (some 26) rfl rfl Tryz.func114 (by kernel_rfl) rfl #[.float .f64 a0] rfl eqA ?_; (with_reducible refine (round_infinite.calls a0 false _ A10.out).mono ?_); rintro e w' ⟨rfl, ⟨nd, rfl⟩⟩; refine ⟨_, rfl, ?_⟩) | (go_at_call 114; (with_reducible refine (round_infinite.calls a1 true _ A13.out).mono ?_); rintro e w' ⟨rfl, ⟨nd, rfl⟩⟩))
       go_ret
       exact ⟨by first | rfl | (simp [errW_none, errW_some] <;> rfl) | (simp [*, errW_none, errW_some] <;> rfl), hbw⟩
      ·rw [if_neg c15] at H
       exact absurd H (by simp)
     ·replace c14 := Bool.eq_false_iff.mpr c14
      subst c14
      have H1 : ((round_num.f a0).bind fun bt136 => ((round_num.f a1).bind fun bt141 => ((dyad_Add.f bt136.1 bt136.2.1 bt136.2.2 bt141.1 bt141.2.1 bt141.2.2).bind fun bt146 => ((dyad_Sign.f kj3 bt146.1 bt146.2.1 bt146.2.2.1).bind fun t153 => (if t153 = 0 then ((round_nought.f kj3 a0 a1 a2).bind fun t154 => (some t154)) else ((round_to.f bt146.1 bt146.2.1 bt146.2.2.1 a2).bind fun t155 => (some t155))))))) = some r := by rw [if_neg (show ¬ (false = true) by decide)] at H; exact H
      clear H
      have H := H1
      clear H1
      replace H := Option.bind_eq_some_iff.mp H
      obtain ⟨⟨t136, t137, t140⟩, A160, H⟩ := H
      replace H : ((round_num.f a1).bind fun bt141 => ((dyad_Add.f t136 t137 t140 bt141.1 bt141.2.1 bt141.2.2).bind fun bt146 => ((dyad_Sign.f kj3 bt146.1 bt146.2.1 bt146.2.2.1).bind fun t153 => (if t153 = 0 then ((round_nought.f kj3 a0 a1 a2).bind fun t154 => (some t154)) else ((round_to.f bt146.1 bt146.2.1 bt146.2.2.1 a2).bind fun t155 => (some t155)))))) = some r := H
      have A16 := Aside0.mk A160
      clear A160
      replace H := Option.bind_eq_some_iff.mp H
      obtain ⟨⟨t141, t142, t145⟩, A170, H⟩ := H
      replace H : ((dyad_Add.f t136 t137 t140 t141 t142 t145).bind fun bt146 => ((dyad_Sign.f kj3 bt146.1 bt146.2.1 bt146.2.2.1).bind fun t153 => (if t153 = 0 then ((round_nought.f kj3 a0 a1 a2).bind fun t154 => (some t154)) else ((round_to.f bt146.1 bt146.2.1 bt146.2.2.1 a2).bind fun t155 => (some t155))))) = some r := H
      have A17 := Aside0.mk A170
      clear A170
      replace H := Option.bind_eq_some_iff.mp H
      obtain ⟨⟨t146, t147, t150, t151⟩, A180, H⟩ := H
      replace H : ((dyad_Sign.f kj3 t146 t147 t150).bind fun t153 => (if t153 = 0 then ((round_nought.f kj3 a0 a1 a2).bind fun t154 => (some t154)) else ((round_to.f t146 t147 t150 a2).bind fun t155 => (some t155)))) = some r := H
      have A18 := Aside0.mk A180
      clear A180
      replace H := Option.bind_eq_some_iff.mp H
      obtain ⟨t153, A190, H⟩ := H
      replace H : (if t153 = 0 then ((round_nought.f kj3 a0 a1 a2).bind fun t154 => (some t154)) else ((round_to.f t146 t147 t150 a2).bind fun t155 => (some t155))) = some r := H
      have A19 := Aside0.mk A190
      clear A190
      by_cases c20 : t153 = 0
      ·rw [if_pos c20] at H
       have c20b0 : (t153 == 0) = true := beq_iff_eq.mpr c20
       have c20b1 : (t153 != 0) = false := bne_eq_false_iff_eq.mpr c20
       clear c20
       replace H := Option.bind_eq_some_iff.mp H
       obtain ⟨t154, A210, H⟩ := H
       replace H : (some t154) = some r := H
       have A21 := Aside0.mk A210
       clear A210
       obtain rfl := Option.some.inj H
       go_wp2_with (first | ((with_reducible refine gate_callee (f := 114) rfl ?_); refine goesL_ (some 26) rfl rfl Tryz.func114 (by kernel_rfl) rfl #[.float .f64 a0] rfl eqA ?_; (with_reducible refine (round_infinite.calls a0 false _ A10.out).mono ?_); rintro e w' ⟨rfl, ⟨nd, rfl⟩⟩; refine ⟨_, rfl, ?_⟩; (try (rw [drewN_self wc]; generalize hq_ : World.drewN wc _ = wc; have n0_ : Aside0 (Below w.heap.size w wc) := ⟨by rw [← hq_]; exact hbw⟩; clear HB hq_; have HB := n0_; clear n0_))) | (go_at_call 114; (with_reducible refine (round_infinite.calls a1 false _ A13.out).mono ?_); rintro e w' ⟨rfl, ⟨nd, rfl⟩⟩; (try (rw [drewN_self wc]; generalize hq_ : World.drewN wc _ = wc; have n0_ : Aside0 (Below w.heap.size w wc) := ⟨by rw [← hq_]; exact hbw⟩; clear HB hq_; have HB := n0_; clear n0_))) | ((with_reducible refine gate_callee (f := 115) rfl ?_); refine goesL_ (some 36) rfl rfl Tryz.func115 (by kernel_rfl) rfl #[.float .f64 a0] rfl eqA ?_; (with_reducible refine (round_num.calls a0 t136 t137 t140 _ A16.out).mono ?_); rintro e w22 ⟨v138, rfl, ho0, hb⟩; refine ⟨_, rfl, ?_⟩; have n0_ := Aside0.mk (Kd.R_lower ho0 (below_size hbw)); have n1_ := Aside0.mk (below_step hbw hb); clear HB; have HO139 := n0_; have HB := n1_; clear n0_ n1_; (try clear hb); (try clear hb2); (try clear hk); (try clear hi); (try clear ho0)) | ((with_reducible refine gate_callee (f := 115) rfl ?_); refine goesL_ (some 38) rfl rfl Tryz.func115 (by kernel_rfl) rfl #[.float .f64 a1] rfl eqA ?_; (with_reducible refine (round_num.calls a1 t141 t142 t145 _ A17.out).mono ?_); rintro e w23 ⟨v143, rfl, ho0, hb⟩; refine ⟨_, rfl, ?_⟩; have n0_ := Aside0.mk (Kd.R_elder' (rUp HO139.out) (Kd.R_base ho0) hb); have n1_ := Aside0.mk (Kd.R_lower (Kd.R_new' ho0 (Kd.R_lt (rUp HO139.out))) (below_size hbw)); have n2_ := Aside0.mk (below_step hbw hb); clear HO139; clear HB; have HO139 := n0_; have HO144 := n1_; have HB := n2_; clear n0_ n1_ n2_; (try clear hb); (try clear hb2); (try clear hk); (try clear hi); (try clear ho0); obtain ⟨Ao24, co24, eo24⟩ := Kd.R_slice HO139.out; subst eo24; obtain ⟨Ao25, co25, eo25⟩ := Kd.R_slice HO144.out; subst eo25) | ((with_reducible refine gate_callee (f := 79) rfl ?_); refine goesL_ (some 39) rfl rfl Tryz.func79 (by kernel_rfl) rfl #[.agg #[.bool t136, .slice Ao24 t137.length co24, .int .i64 t140], .agg #[.bool t141, .slice Ao25 t142.length co25, .int .i64 t145]] rfl eqA ?_; (with_reducible refine (dyad_Add.calls t136 _ _ t137 t140 t141 _ _ t142 t145 t146 t147 t150 t151 _ ?side1 ?side2 ?side3 ?side4 A18.out).mono ?_); (case side1 => repeat (first | exact (Kd.R_reads' HO139.out).2.2 | (with_reducible refine Kd.C_alloc ?_ _) | (with_reducible refine Kd.C_drewN ?_ _) | (with_reducible refine Kd.C_drew ?_))); (case side2 => exact (Kd.R_reads' HO139.out).2.1); (case side3 => repeat (first | exact (Kd.R_reads' HO144.out).2.2 | (with_reducible refine Kd.C_alloc ?_ _) | (with_reducible refine Kd.C_drewN ?_ _) | (with_reducible refine Kd.C_drew ?_))); (case side4 => exact (Kd.R_reads' HO144.out).2.1); rintro e w26 ⟨v148, rfl, ho0, hb⟩; refine ⟨_, rfl, ?_⟩; have n0_ := Aside0.mk (Kd.R_elder' (rUp HO139.out) (Kd.R_base ho0) hb); have n1_ := Aside0.mk (Kd.R_elder' (rUp HO144.out) (Kd.R_base ho0) hb); have n2_ := Aside0.mk (Kd.R_lower (Kd.R_new' (Kd.R_new' ho0 (Kd.R_lt (rUp HO139.out))) (Kd.R_lt (rUp HO144.out))) (below_size hbw)); have n3_ := Aside0.mk (below_step hbw hb); clear HO139; clear HO144; clear HB; have HO139 := n0_; have HO144 := n1_; have HO149 := n2_; have HB := n3_; clear n0_ n1_ n2_ n3_; (try clear hb); (try clear hb2); (try clear hk); (try clear hi); (try clear ho0)) | ((with_reducible refine gate_dst (N := 7) rfl ?_); refine box_event ?hg (N := 7) ?hd (cs := #[.bool false, .slice none 0 0, .int .i64 0]) (t := 60) ?hr ?_; (case hd => rfl); (case hg => rfl); (case hr => first | (go_simp; done) | (go_simp; rfl)); intro gb152 hg w27 hbox hb; have n0_ := Aside0.mk (Kd.R_below (rUp HO139.out) hb); have n1_ := Aside0.mk (Kd.R_below (rUp HO144.out) hb); have n2_ := Aside0.mk (Kd.R_below (rUp HO149.out) hb); have n3_ := Aside0.mk (below_step hbw hb); have n4_ := Aside0.mk (hbox); have n5_ := Aside0.mk ((by rw [hg]; exact (below_size hbw) : w.heap.size ≤ gb152)); have n6_ := Aside0.mk ((by rw [hg]; exact (below_size hbw) : w.heap.size ≤ gb152)); clear HO139; clear HO144; clear HO149; clear HB; have HO139 := n0_; have HO144 := n1_; have HO149 := n2_; have HB := n3_; have BK152 := n4_; have GW152 := n5_; have GE152 := n6_; clear n0_ n1_ n2_ n3_ n4_ n5_ n6_; clear hb hbox hg; have hcz28_0 : w27.cell? ⟨gb152, 0, none⟩ = some (.bool false) := (blk_cell BK152.out 0).trans rfl; have hcz28_1 : w27.cell? ⟨gb152, 1, none⟩ = some (.slice none 0 0) := (blk_cell BK152.out 1).trans rfl; have hcz28_2 : w27.cell? ⟨gb152, 2, none⟩ = some (.int .i64 0) := (blk_cell BK152.out 2).trans rfl; have hfz28_0 := blk_frozen BK152.out 0; have hfz28_1 := blk_frozen BK152.out 1; have hfz28_2 := blk_frozen BK152.out 2; obtain ⟨Ao29, co29, eo29⟩ := Kd.R_slice HO149.out; subst eo29) | ((with_reducible refine gate_callee (f := 51) rfl ?_); refine goesL_ (some 43) rfl rfl Tryz.func51 (by kernel_rfl) rfl #[.agg #[.bool t146, .slice Ao29 t147.length co29, .int .i64 t150]] rfl eqA ?_; (with_reducible refine (dyad_Sign.calls kj3 t146 _ _ t147 t150 t153 _ ?side1 ?side2 A19.out).mono ?_); (case side1 => refine (Kd.R_reads' (e := 83) (base := w.heap.size) (ok := fun k_ => ((True ∧ some k_ ≠ (.slice Ao24 t137.length co24 : Value).ownBlock) ∧ some k_ ≠ (.slice Ao25 t142.length co25 : Value).ownBlock)) (n := t147.length) (c := co29) ?_).2.2; exact (by (with_reducible repeat (first | apply Kd.R_alloc | apply Kd.R_drewN | apply Kd.R_drew)); exact (Kd.R_mono (Kd.R_far (p := ⟨gb152, 2, none⟩) (Kd.R_far (p := ⟨gb152, 1, none⟩) (Kd.R_far (p := ⟨gb152, 0, none⟩) (Kd.R_types HO149.out BK152.out (by decide)) (fun _ hk => hk.2) (.bool t146)) (fun _ hk => hk.2) (.slice Ao29 t147.length co29)) (fun _ hk => hk.2) (.int .i64 t150)) (fun _ h_ => h_.1)))); (case side2 => exact (Kd.R_reads' HO149.out).2.1); rintro e w30 ⟨rfl, hb⟩; refine ⟨_, rfl, ?_⟩; have n0_ := Aside0.mk (Kd.R_below (by (with_reducible repeat (first | apply Kd.R_alloc | apply Kd.R_drewN | apply Kd.R_drew)); exact (Kd.R_mono (Kd.R_far (p := ⟨gb152, 2, none⟩) (Kd.R_far (p := ⟨gb152, 1, none⟩) (Kd.R_far (p := ⟨gb152, 0, none⟩) (Kd.R_types HO139.out BK152.out (by decide)) (fun _ hk => hk.2) (.bool t146)) (fun _ hk => hk.2) (.slice Ao29 t147.length co29)) (fun _ hk => hk.2) (.int .i64 t150)) (fun _ h_ => h_.1))) hb); have n1_ := Aside0.mk (Kd.R_below (by (with_reducible repeat (first | apply Kd.R_alloc | apply Kd.R_drewN | apply Kd.R_drew)); exact (Kd.R_mono (Kd.R_far (p := ⟨gb152, 2, none⟩) (Kd.R_far (p := ⟨gb152, 1, none⟩) (Kd.R_far (p := ⟨gb152, 0, none⟩) (Kd.R_types HO144.out BK152.out (by decide)) (fun _ hk => hk.2) (.bool t146)) (fun _ hk => hk.2) (.slice Ao29 t147.length co29)) (fun _ hk => hk.2) (.int .i64 t150)) (fun _ h_ => h_.1))) hb); have n2_ := Aside0.mk (Kd.R_below (by (with_reducible repeat (first | apply Kd.R_alloc | apply Kd.R_drewN | apply Kd.R_drew)); exact (Kd.R_mono (Kd.R_far (p := ⟨gb152, 2, none⟩) (Kd.R_far (p := ⟨gb152, 1, none⟩) (Kd.R_far (p := ⟨gb152, 0, none⟩) (Kd.R_types HO149.out BK152.out (by decide)) (fun _ hk => hk.2) (.bool t146)) (fun _ hk => hk.2) (.slice Ao29 t147.length co29)) (fun _ hk => hk.2) (.int .i64 t150)) (fun _ h_ => h_.1))) hb); have n3_ := Aside0.mk (blk_below (g := gb152) (o := .cells #[.bool t146, .slice Ao29 t147.length co29, .int .i64 t150] 60 (0, 0)) (by (with_reducible repeat (first | refine blk_drewN ?_ _ | refine blk_drew ?_ | refine blk_alloc ?_ _)); refine blk_put (cs := #[.bool t146, .slice Ao29 t147.length co29, .int .i64 0]) ?_ 2 _ rfl; (with_reducible repeat (first | refine blk_drewN ?_ _ | refine blk_drew ?_ | refine blk_alloc ?_ _)); refine blk_put (cs := #[.bool t146, .slice none 0 0, .int .i64 0]) ?_ 1 _ rfl; (with_reducible repeat (first | refine blk_drewN ?_ _ | refine blk_drew ?_ | refine blk_alloc ?_ _)); refine blk_put (cs := #[.bool false, .slice none 0 0, .int .i64 0]) ?_ 0 _ rfl; (with_reducible repeat (first | refine blk_drewN ?_ _ | refine blk_drew ?_ | refine blk_alloc ?_ _)); exact BK152.out) hb); have n4_ := Aside0.mk (below_step (by repeat (first | (with_reducible first | exact HB.out | apply below_alloc | apply pw_below_drewN | apply below_drew1 | refine below_set ?_ GE152.out) | exact HB.out)) hb); clear HO139; clear HO144; clear HO149; clear BK152; clear HB; have HO139 := n0_; have HO144 := n1_; have HO149 := n2_; have BK152 := n3_; have HB := n4_; clear n0_ n1_ n2_ n3_ n4_; (try clear hb); (try clear hb2); (try clear hk); (try clear hi)) | ((with_reducible refine gate_callee (f := 116) rfl ?_); refine goesL_ (some 48) rfl rfl Tryz.func116 (by kernel_rfl) rfl #[.float .f64 a0, .float .f64 a1, .int .i64 a2] rfl eqA ?_; (with_reducible refine (round_nought.calls kj3 a0 a1 a2 t154 _ A21.out).mono ?_); rintro e w' ⟨rfl, ⟨nd, rfl⟩⟩; refine ⟨_, rfl, ?_⟩))
       go_ret
       exact ⟨by first | rfl | (simp [errW_none, errW_some] <;> rfl) | (simp [*, errW_none, errW_some] <;> rfl), by repeat (first | (with_reducible first | exact HB.out | apply below_alloc | apply pw_below_drewN | apply below_drew1 | refine below_set ?_ GE152.out) | exact HB.out)⟩
      ·rw [if_neg c20] at H
       have c20b0 : (t153 == 0) = false := beq_eq_false_iff_ne.mpr c20
       have c20b1 : (t153 != 0) = true := bne_iff_ne.mpr c20
       replace H := Option.bind_eq_some_iff.mp H
       obtain ⟨t155, A310, H⟩ := H
       replace H : (some t155) = some r := H
       have A31 := Aside0.mk A310
       clear A310
       obtain rfl := Option.some.inj H
       go_wp2_with (first | ((with_reducible refine gate_callee (f := 114) rfl ?_); refine goesL_ (some 26) rfl rfl Tryz.func114 (by kernel_rfl) rfl #[.float .f64 a0] rfl eqA ?_; (with_reducible refine (round_infinite.calls a0 false _ A10.out).mono ?_); rintro e w' ⟨rfl, ⟨nd, rfl⟩⟩; refine ⟨_, rfl, ?_⟩; (try (rw [drewN_self wc]; generalize hq_ : World.drewN wc _ = wc; have n0_ : Aside0 (Below w.heap.size w wc) := ⟨by rw [← hq_]; exact hbw⟩; clear HB hq_; have HB := n0_; clear n0_))) | (go_at_call 114; (with_reducible refine (round_infinite.calls a1 false _ A13.out).mono ?_); rintro e w' ⟨rfl, ⟨nd, rfl⟩⟩; (try (rw [drewN_self wc]; generalize hq_ : World.drewN wc _ = wc; have n0_ : Aside0 (Below w.heap.size w wc) := ⟨by rw [← hq_]; exact hbw⟩; clear HB hq_; have HB := n0_; clear n0_))) | ((with_reducible refine gate_callee (f := 115) rfl ?_); refine goesL_ (some 36) rfl rfl Tryz.func115 (by kernel_rfl) rfl #[.float .f64 a0] rfl eqA ?_; (with_reducible refine (round_num.calls a0 t136 t137 t140 _ A16.out).mono ?_); rintro e w32 ⟨v138, rfl, ho0, hb⟩; refine ⟨_, rfl, ?_⟩; have n0_ := Aside0.mk (Kd.R_lower ho0 (below_size hbw)); have n1_ := Aside0.mk (below_step hbw hb); clear HB; have HO139 := n0_; have HB := n1_; clear n0_ n1_; (try clear hb); (try clear hb2); (try clear hk); (try clear hi); (try clear ho0)) | ((with_reducible refine gate_callee (f := 115) rfl ?_); refine goesL_ (some 38) rfl rfl Tryz.func115 (by kernel_rfl) rfl #[.float .f64 a1] rfl eqA ?_; (with_reducible refine (round_num.calls a1 t141 t142 t145 _ A17.out).mono ?_); rintro e w33 ⟨v143, rfl, ho0, hb⟩; refine ⟨_, rfl, ?_⟩; have n0_ := Aside0.mk (Kd.R_elder' (rUp HO139.out) (Kd.R_base ho0) hb); have n1_ := Aside0.mk (Kd.R_lower (Kd.R_new' ho0 (Kd.R_lt (rUp HO139.out))) (below_size hbw)); have n2_ := Aside0.mk (below_step hbw hb); clear HO139; clear HB; have HO139 := n0_; have HO144 := n1_; have HB := n2_; clear n0_ n1_ n2_; (try clear hb); (try clear hb2); (try clear hk); (try clear hi); (try clear ho0); obtain ⟨Ao34, co34, eo34⟩ := Kd.R_slice HO139.out; subst eo34; obtain ⟨Ao35, co35, eo35⟩ := Kd.R_slice HO144.out; subst eo35) | ((with_reducible refine gate_callee (f := 79) rfl ?_); refine goesL_ (some 39) rfl rfl Tryz.func79 (by kernel_rfl) rfl #[.agg #[.bool t136, .slice Ao34 t137.length co34, .int .i64 t140], .agg #[.bool t141, .slice Ao35 t142.length co35, .int .i64 t145]] rfl eqA ?_; (with_reducible refine (dyad_Add.calls t136 _ _ t137 t140 t141 _ _ t142 t145 t146 t147 t150 t151 _ ?side1 ?side2 ?side3 ?side4 A18.out).mono ?_); (case side1 => repeat (first | exact (Kd.R_reads' HO139.out).2.2 | (with_reducible refine Kd.C_alloc ?_ _) | (with_reducible refine Kd.C_drewN ?_ _) | (with_reducible refine Kd.C_drew ?_))); (case side2 => exact (Kd.R_reads' HO139.out).2.1); (case side3 => repeat (first | exact (Kd.R_reads' HO144.out).2.2 | (with_reducible refine Kd.C_alloc ?_ _) | (with_reducible refine Kd.C_drewN ?_ _) | (with_reducible refine Kd.C_drew ?_))); (case side4 => exact (Kd.R_reads' HO144.out).2.1); rintro e w36 ⟨v148, rfl, ho0, hb⟩; refine ⟨_, rfl, ?_⟩; have n0_ := Aside0.mk (Kd.R_elder' (rUp HO139.out) (Kd.R_base ho0) hb); have n1_ := Aside0.mk (Kd.R_elder' (rUp HO144.out) (Kd.R_base ho0) hb); have n2_ := Aside0.mk (Kd.R_lower (Kd.R_new' (Kd.R_new' ho0 (Kd.R_lt (rUp HO139.out))) (Kd.R_lt (rUp HO144.out))) (below_size hbw)); have n3_ := Aside0.mk (below_step hbw hb); clear HO139; clear HO144; clear HB; have HO139 := n0_; have HO144 := n1_; have HO149 := n2_; have HB := n3_; clear n0_ n1_ n2_ n3_; (try clear hb); (try clear hb2); (try clear hk); (try clear hi); (try clear ho0)) | ((with_reducible refine gate_dst (N := 7) rfl ?_); refine box_event ?hg (N := 7) ?hd (cs := #[.bool false, .slice none 0 0, .int .i64 0]) (t := 60) ?hr ?_; (case hd => rfl); (case hg => rfl); (case hr => first | (go_simp; done) | (go_simp; rfl)); intro gb152 hg w37 hbox hb; have n0_ := Aside0.mk (Kd.R_below (rUp HO139.out) hb); have n1_ := Aside0.mk (Kd.R_below (rUp HO144.out) hb); have n2_ := Aside0.mk (Kd.R_below (rUp HO149.out) hb); have n3_ := Aside0.mk (below_step hbw hb); have n4_ := Aside0.mk (hbox); have n5_ := Aside0.mk ((by rw [hg]; exact (below_size hbw) : w.heap.size ≤ gb152)); have n6_ := Aside0.mk ((by rw [hg]; exact (below_size hbw) : w.heap.size ≤ gb152)); clear HO139; clear HO144; clear HO149; clear HB; have HO139 := n0_; have HO144 := n1_; have HO149 := n2_; have HB := n3_; have BK152 := n4_; have GW152 := n5_; have GE152 := n6_; clear n0_ n1_ n2_ n3_ n4_ n5_ n6_; clear hb hbox hg; have hcz38_0 : w37.cell? ⟨gb152, 0, none⟩ = some (.bool false) := (blk_cell BK152.out 0).trans rfl; have hcz38_1 : w37.cell? ⟨gb152, 1, none⟩ = some (.slice none 0 0) := (blk_cell BK152.out 1).trans rfl; have hcz38_2 : w37.cell? ⟨gb152, 2, none⟩ = some (.int .i64 0) := (blk_cell BK152.out 2).trans rfl; have hfz38_0 := blk_frozen BK152.out 0; have hfz38_1 := blk_frozen BK152.out 1; have hfz38_2 := blk_frozen BK152.out 2; obtain ⟨Ao39, co39, eo39⟩ := Kd.R_slice HO149.out; subst eo39) | ((with_reducible refine gate_callee (f := 51) rfl ?_); refine goesL_ (some 43) rfl rfl Tryz.func51 (by kernel_rfl) rfl #[.agg #[.bool t146, .slice Ao39 t147.length co39, .int .i64 t150]] rfl eqA ?_; (with_reducible refine (dyad_Sign.calls kj3 t146 _ _ t147 t150 t153 _ ?side1 ?side2 A19.out).mono ?_); (case side1 => refine (Kd.R_reads' (e := 83) (base := w.heap.size) (ok := fun k_ => ((True ∧ some k_ ≠ (.slice Ao34 t137.length co34 : Value).ownBlock) ∧ some k_ ≠ (.slice Ao35 t142.length co35 : Value).ownBlock)) (n := t147.length) (c := co39) ?_).2.2; exact (by (with_reducible repeat (first | apply Kd.R_alloc | apply Kd.R_drewN | apply Kd.R_drew)); exact (Kd.R_mono (Kd.R_far (p := ⟨gb152, 2, none⟩) (Kd.R_far (p := ⟨gb152, 1, none⟩) (Kd.R_far (p := ⟨gb152, 0, none⟩) (Kd.R_types HO149.out BK152.out (by decide)) (fun _ hk => hk.2) (.bool t146)) (fun _ hk => hk.2) (.slice Ao39 t147.length co39)) (fun _ hk => hk.2) (.int .i64 t150)) (fun _ h_ => h_.1)))); (case side2 => exact (Kd.R_reads' HO149.out).2.1); rintro e w40 ⟨rfl, hb⟩; refine ⟨_, rfl, ?_⟩; have n0_ := Aside0.mk (Kd.R_below (by (with_reducible repeat (first | apply Kd.R_alloc | apply Kd.R_drewN | apply Kd.R_drew)); exact (Kd.R_mono (Kd.R_far (p := ⟨gb152, 2, none⟩) (Kd.R_far (p := ⟨gb152, 1, none⟩) (Kd.R_far (p := ⟨gb152, 0, none⟩) (Kd.R_types HO139.out BK152.out (by decide)) (fun _ hk => hk.2) (.bool t146)) (fun _ hk => hk.2) (.slice Ao39 t147.length co39)) (fun _ hk => hk.2) (.int .i64 t150)) (fun _ h_ => h_.1))) hb); have n1_ := Aside0.mk (Kd.R_below (by (with_reducible repeat (first | apply Kd.R_alloc | apply Kd.R_drewN | apply Kd.R_drew)); exact (Kd.R_mono (Kd.R_far (p := ⟨gb152, 2, none⟩) (Kd.R_far (p := ⟨gb152, 1, none⟩) (Kd.R_far (p := ⟨gb152, 0, none⟩) (Kd.R_types HO144.out BK152.out (by decide)) (fun _ hk => hk.2) (.bool t146)) (fun _ hk => hk.2) (.slice Ao39 t147.length co39)) (fun _ hk => hk.2) (.int .i64 t150)) (fun _ h_ => h_.1))) hb); have n2_ := Aside0.mk (Kd.R_below (by (with_reducible repeat (first | apply Kd.R_alloc | apply Kd.R_drewN | apply Kd.R_drew)); exact (Kd.R_mono (Kd.R_far (p := ⟨gb152, 2, none⟩) (Kd.R_far (p := ⟨gb152, 1, none⟩) (Kd.R_far (p := ⟨gb152, 0, none⟩) (Kd.R_types HO149.out BK152.out (by decide)) (fun _ hk => hk.2) (.bool t146)) (fun _ hk => hk.2) (.slice Ao39 t147.length co39)) (fun _ hk => hk.2) (.int .i64 t150)) (fun _ h_ => h_.1))) hb); have n3_ := Aside0.mk (blk_below (g := gb152) (o := .cells #[.bool t146, .slice Ao39 t147.length co39, .int .i64 t150] 60 (0, 0)) (by (with_reducible repeat (first | refine blk_drewN ?_ _ | refine blk_drew ?_ | refine blk_alloc ?_ _)); refine blk_put (cs := #[.bool t146, .slice Ao39 t147.length co39, .int .i64 0]) ?_ 2 _ rfl; (with_reducible repeat (first | refine blk_drewN ?_ _ | refine blk_drew ?_ | refine blk_alloc ?_ _)); refine blk_put (cs := #[.bool t146, .slice none 0 0, .int .i64 0]) ?_ 1 _ rfl; (with_reducible repeat (first | refine blk_drewN ?_ _ | refine blk_drew ?_ | refine blk_alloc ?_ _)); refine blk_put (cs := #[.bool false, .slice none 0 0, .int .i64 0]) ?_ 0 _ rfl; (with_reducible repeat (first | refine blk_drewN ?_ _ | refine blk_drew ?_ | refine blk_alloc ?_ _)); exact BK152.out) hb); have n4_ := Aside0.mk (below_step (by repeat (first | (with_reducible first | exact HB.out | apply below_alloc | apply pw_below_drewN | apply below_drew1 | refine below_set ?_ GE152.out) | exact HB.out)) hb); clear HO139; clear HO144; clear HO149; clear BK152; clear HB; have HO139 := n0_; have HO144 := n1_; have HO149 := n2_; have BK152 := n3_; have HB := n4_; clear n0_ n1_ n2_ n3_ n4_; (try clear hb); (try clear hb2); (try clear hk); (try clear hi); have hcz41_0 : w40.cell? ⟨gb152, 0, none⟩ = some (.bool t146) := (blk_cell BK152.out 0).trans rfl; have hcz41_1 : w40.cell? ⟨gb152, 1, none⟩ = some (.slice Ao39 t147.length co39) := (blk_cell BK152.out 1).trans rfl; have hcz41_2 : w40.cell? ⟨gb152, 2, none⟩ = some (.int .i64 t150) := (blk_cell BK152.out 2).trans rfl; have hfz41_0 := blk_frozen BK152.out 0; have hfz41_1 := blk_frozen BK152.out 1; have hfz41_2 := blk_frozen BK152.out 2) | ((with_reducible refine gate_callee (f := 117) rfl ?_); refine goesL_ (some 51) rfl rfl Tryz.func117 (by kernel_rfl) rfl #[.agg #[.bool t146, .slice Ao39 t147.length co39, .int .i64 t150], .int .i64 a2] rfl eqA ?_; (with_reducible refine (round_to.calls t146 _ _ t147 t150 a2 t155 _ ?side1 ?side2 A31.out).mono ?_); (case side1 => repeat (first | exact (Kd.R_reads' HO149.out).2.2 | (with_reducible refine Kd.C_alloc ?_ _) | (with_reducible refine Kd.C_drewN ?_ _) | (with_reducible refine Kd.C_drew ?_))); (case side2 => exact (Kd.R_reads' HO149.out).2.1); rintro e w42 ⟨rfl, hb⟩; refine ⟨_, rfl, ?_⟩; have n0_ := Aside0.mk (Kd.R_below (rUp HO139.out) hb); have n1_ := Aside0.mk (Kd.R_below (rUp HO144.out) hb); have n2_ := Aside0.mk (Kd.R_below (rUp HO149.out) hb); have n3_ := Aside0.mk (blk_below (g := gb152) (o := .cells #[.bool t146, .slice Ao39 t147.length co39, .int .i64 t150] 60 (0, 0)) (blkU BK152.out) hb); have n4_ := Aside0.mk (below_step (by repeat (first | (with_reducible first | exact HB.out | apply below_alloc | apply pw_below_drewN | apply below_drew1 | refine below_set ?_ GE152.out) | exact HB.out)) hb); clear HO139; clear HO144; clear HO149; clear BK152; clear HB; have HO139 := n0_; have HO144 := n1_; have HO149 := n2_; have BK152 := n3_; have HB := n4_; clear n0_ n1_ n2_ n3_ n4_; (try clear hb); (try clear hb2); (try clear hk); (try clear hi)))
       go_ret
       exact ⟨by first | rfl | (simp [errW_none, errW_some] <;> rfl) | (simp [*, errW_none, errW_some] <;> rfl), by repeat (first | (with_reducible first | exact HB.out | apply below_alloc | apply pw_below_drewN | apply below_drew1 | refine below_set ?_ GE152.out) | exact HB.out)⟩
def sums_near.f (k : Nat) (a0 : Nat) (a1 : Nat) : Option (Nat) := (round_Add.f k a0 a1 2).bind fun t156 => (some t156)
set_option maxHeartbeats 8000000 in
set_option maxRecDepth 100000 in
theorem sums_near.calls (k : Nat) (a0 : Nat) (a1 : Nat) (r : Nat) (w : World) (h : sums_near.f k a0 a1 = some r) (hL : Big.Laid w := by exact Big.Laid.step HL.out hbw) :
  Calls Tryz.prog 39 #[.float .f64 a0, .float .f64 a1] w fun e w' => e = .returned (.float .f64 r) ∧ Below w.heap.size w w' := by
 have HL := Aside0.mk hL
 clear hL
 have HB := Aside0.mk (Below.refl w.heap.size w)
 have H : ((round_Add.f k a0 a1 2).bind fun t156 => (some t156)) = some r := h
 clear h
 replace H := Option.bind_eq_some_iff.mp H
 obtain ⟨t156, A30, H⟩ := H
 replace H : (some t156) = some r := H
 have A3 := Aside0.mk A30
 clear A30
 obtain rfl := Option.some.inj H
 go_enter Tryz.func39, Tryz.ntmps39
 go_wp2_with (first | ((with_reducible refine gate_callee (f := 84) rfl ?_); refine goesL_ (some 7) rfl rfl Tryz.func84 (by kernel_rfl) rfl #[.float .f64 a0, .float .f64 a1, .int .i64 2] rfl eqA ?_; (with_reducible refine (round_Add.calls k a0 a1 2 t156 _ A3.out).mono ?_); rintro e w4 ⟨rfl, hb⟩; refine ⟨_, rfl, ?_⟩; have n0_ := Aside0.mk (below_step hbw hb); clear HB; have HB := n0_; clear n0_; (try clear hb); (try clear hb2); (try clear hk); (try clear hi)))
 go_ret
 exact ⟨by first | rfl | (simp [errW_none, errW_some] <;> rfl) | (simp [*, errW_none, errW_some] <;> rfl), hbw⟩
def sums_Row.l0 : Nat → Nat → List Nat → Int → Int → Option (Nat)
 | 0, _, _, _, _ => none
 | k + 1, x3, x13, x14, x15 => if x15 < x14 then (if 0 ≤ x15 then (if x15 < (x13.length : Int) then ((sums_near.f k x3 (rdOf (0 : Nat) x13 x15)).bind fun t160 => (sums_Row.l0 k t160 x13 x14 (wrap64 (x15 + 1)))) else (none)) else (none)) else (some x3)
def sums_Row.f (k : Nat) (l0 : List Nat) : Option (Nat) := if (l0.length : Int) = 0 then (some (0 : Nat)) else (if 0 < (l0.length : Int) then (if 1 ≤ (l0.length : Int) then (sums_Row.l0 k (rdOf (0 : Nat) l0 0) (l0.drop 1) ((l0.drop 1).length : Int) 0) else (none)) else (none))
set_option maxHeartbeats 8000000 in
set_option maxRecDepth 100000 in
theorem sums_Row.calls (k : Nat) (A0 : Option Addr) (c0 : Nat) (l0 : List Nat) (r : Nat) (w : World) (hr0 : Kd.C Kd.float w A0 l0.length l0) (hc0 : l0.length ≤ c0) (h : sums_Row.f k l0 = some r) (hL : Big.Laid w := by exact Big.Laid.step HL.out hbw) :
  Calls Tryz.prog 12 #[.slice A0 l0.length c0] w fun e w' => e = .returned (.float .f64 r) ∧ Below w.heap.size w w' := by
 have HL := Aside0.mk hL
 clear hL
 have HR0 := Aside0.mk hr0
 have HC0 := Aside0.mk hc0
 clear hr0 hc0
 have HB := Aside0.mk (Below.refl w.heap.size w)
 have H : (if (l0.length : Int) = 0 then (some (0 : Nat)) else (if 0 < (l0.length : Int) then (if 1 ≤ (l0.length : Int) then (sums_Row.l0 k (rdOf (0 : Nat) l0 0) (l0.drop 1) ((l0.drop 1).length : Int) 0) else (none)) else (none))) = some r := h
 clear h
 by_cases c2 : (l0.length : Int) = 0
 ·rw [if_pos c2] at H
  have c2b0 : ((l0.length : Int) == 0) = true := beq_iff_eq.mpr c2
  have c2b1 : ((l0.length : Int) != 0) = false := bne_eq_false_iff_eq.mpr c2
  clear c2
  obtain rfl := Option.some.inj H
  go_enter Tryz.func12, Tryz.ntmps12
  go_wp2
  go_ret
  exact ⟨by first | rfl | (simp [errW_none, errW_some] <;> rfl) | (simp [*, errW_none, errW_some] <;> rfl), hbw⟩
 ·rw [if_neg c2] at H
  have c2b0 : ((l0.length : Int) == 0) = false := beq_eq_false_iff_ne.mpr c2
  have c2b1 : ((l0.length : Int) != 0) = true := bne_iff_ne.mpr c2
  have c2b2 : ¬ (l0 = []) := fun h_ => c2 (by rw [h_]; rfl)
  by_cases c3 : 0 < (l0.length : Int)
  ·rw [if_pos c3] at H
   have c3b0 : decide (0 < (l0.length : Int)) = true := decide_eq_true c3
   have c3b1 : decide (0 < l0.length) = true := decide_eq_true (by omega)
   clear c3
   by_cases c4 : 1 ≤ (l0.length : Int)
   ·rw [if_pos c4] at H
    have c4b0 := eq_true c4
    have c4b1 : decide (1 ≤ (l0.length : Int)) = true := decide_eq_true c4
    clear c4
    have H' := Aside0.mk H
    clear H
    have p157 : 0 ≤ (0 : Int) := (by omega)
    have q157 : 0 < (l0.length : Int) := of_decide_eq_true (by first | (with_reducible assumption) | assumption)
    obtain ⟨ad157, e157, hx157_0⟩ := Kd.at_float HR0.out 0 p157 q157
    cases e157
    have qi157 : (0 < l0.length) = True := eq_true (by omega)
    (try rw [show ((0 : Int)).toNat = 0 from rfl] at hx157_0)
    (try rw [Addr.add_zero'] at hx157_0)
    replace p157 := eq_true p157
    replace q157 := eq_true q157
    obtain ⟨i05, hi05, _, hsz5, _⟩ := info_parts info25
    obtain ⟨A5, hcut5, hA5, hC5⟩ := print_drop_of (P := Tryz.prog) (Value.float .f64) (0 : Nat) 22 25 .i64 Tryz.underlying22 hi05 hsz5 (some ad157) c0 l0 1 (by omega) (of_decide_eq_true (by first | (with_reducible assumption) | assumption)) HC0.out
    have HR158 := Aside0.mk (Kd.C_of_reads (h1 := fun _ => rfl) (hA5 _ (Kd.reads_of_C HR0.out)))
    have HC158 := Aside0.mk hC5
    clear hA5 hC5 hi05 hsz5
    go_enter Tryz.func12, Tryz.ntmps12
    go_wp2
    go_loopg [3, 15] k (fun kq v3 v15 w' => ∃ (x3_1 : Nat) (x15_1 : Int), v3 = .float .f64 x3_1 ∧ v15 = .int .i64 x15_1 ∧ Aside0 (sums_Row.l0 kq x3_1 (l0.drop 1) ((l0.drop 1).length : Int) x15_1 = some r) ∧ Aside0 (kq ≤ k) ∧ Aside0 (Below w.heap.size w w'))
    case atStart => exact ⟨(rdOf (0 : Nat) l0 0), (0), (by first | rfl | (simp; done) | (simp [*]; done)), (by first | rfl | (simp; done) | (simp [*]; done)), H', ⟨Nat.le_refl _⟩, ⟨hbw⟩⟩
    case round =>
     clear H'
     try clear c1
     try clear p1
     try clear q1
     try clear hx1
     try clear qi1
     try clear c2
     try clear c2b0
     try clear c2b1
     try clear c2b2
     try clear p2
     try clear c3
     try clear c3b0
     try clear c3b1
     try clear c4
     try clear c4b0
     try clear c4b1
     try clear hx157_0
     try clear p157
     try clear q157
     obtain ⟨x3_1, x15_1, rfl, rfl, HA, HK1, HB⟩ := hrel
     cases gk with
     | zero => exact absurd HA.out (by simp [sums_Row.l0])
     | succ k1 =>
      have H := HA.out
      clear HA
      simp only [sums_Row.l0] at H
      by_cases c6 : x15_1 < ((l0.drop 1).length : Int)
      ·rw [if_pos c6] at H
       have c6b0 : decide (x15_1 < ((l0.drop 1).length : Int)) = true := decide_eq_true c6
       have c6b0x : decide (x15_1 < ((l0.length - 1 : Nat) : Int)) = true := by rw [← List.length_drop]; exact c6b0
       clear c6
       by_cases c7 : 0 ≤ x15_1
       ·rw [if_pos c7] at H
        have c7b0 : decide (0 ≤ x15_1) = true := decide_eq_true c7
        clear c7
        by_cases c8 : x15_1 < ((l0.drop 1).length : Int)
        ·rw [if_pos c8] at H
         have c8b0 : decide (x15_1 < ((l0.drop 1).length : Int)) = true := decide_eq_true c8
         have c8b0x : decide (x15_1 < ((l0.length - 1 : Nat) : Int)) = true := by rw [← List.length_drop]; exact c8b0
         clear c8
         replace H := Option.bind_eq_some_iff.mp H
         obtain ⟨t160, A90, H⟩ := H
         replace H : (sums_Row.l0 k1 t160 (l0.drop 1) ((l0.drop 1).length : Int) (wrap64 (x15_1 + 1))) = some r := H
         have A9 := Aside0.mk (show sums_near.f k1 x3_1 (rdOf (0 : Nat) l0.tail x15_1) = some t160 by rw [← List.drop_one]; exact A90)
         clear A90
         have H' := Aside0.mk H
         clear H
         have p159 : 0 ≤ (x15_1 : Int) := of_decide_eq_true (by first | (with_reducible assumption) | assumption)
         have q159 : x15_1 < ((l0.drop 1).length : Int) := of_decide_eq_true (by first | (with_reducible assumption) | assumption)
         obtain ⟨ad159, e159, hx159_0⟩ := Kd.at_float HR158.out x15_1 p159 q159
         cases e159
         replace hx159_0 := (HB.out.cell (World.block_lt_of_cell? w _ hx159_0)).trans hx159_0
         replace p159 := eq_true p159
         have q159x : (x15_1 < ((l0.length - 1 : Nat) : Int)) = True := eq_true (by rw [← List.length_drop]; exact q159)
         replace q159 := eq_true q159
         go_wp2_with (first | ((with_reducible refine gate_callee (f := 39) rfl ?_); refine goesL_ (some 21) rfl rfl Tryz.func39 (by kernel_rfl) rfl #[.float .f64 x3_1, .float .f64 (rdOf (0 : Nat) l0.tail x15_1)] rfl eqA ?_; (with_reducible refine (sums_near.calls k1 x3_1 (rdOf (0 : Nat) l0.tail x15_1) t160 _ A9.out).mono ?_); rintro e w10 ⟨rfl, hb⟩; refine ⟨_, rfl, ?_⟩; have n0_ := Aside0.mk (below_step hbw hb); clear HB; have HB := n0_; clear n0_; (try clear hb); (try clear hb2); (try clear hk); (try clear hi)))
         go_roundg k1
         case measure => have := HK1.out; omega
         case rel => exact ⟨(t160), (wrap64 (x15_1 + 1)), (by first | rfl | (simp; done) | (simp [*]; done)), (by first | rfl | (simp; done) | (simp [*]; done)), H', ⟨by have := HK1.out; omega⟩, ⟨hbw⟩⟩
        ·rw [if_neg c8] at H
         exact absurd H (by simp)
       ·rw [if_neg c7] at H
        exact absurd H (by simp)
      ·rw [if_neg c6] at H
       have c6b0 : decide (x15_1 < ((l0.drop 1).length : Int)) = false := decide_eq_false c6
       have c6b0x : decide (x15_1 < ((l0.length - 1 : Nat) : Int)) = false := by rw [← List.length_drop]; exact c6b0
       clear c6
       obtain rfl := Option.some.inj H
       go_wp2
       go_ret
       exact ⟨by first | rfl | (simp [errW_none, errW_some] <;> rfl) | (simp [*, errW_none, errW_some] <;> rfl), hbw⟩
   ·rw [if_neg c4] at H
    exact absurd H (by simp)
  ·rw [if_neg c3] at H
   exact absurd H (by simp)
def sums_Kept.l0 : Nat → Nat → Nat → List Nat → Int → Int → Option (Nat)
 | 0, _, _, _, _, _ => none
 | k + 1, x3, x4, x8, x9, x10 => if x10 < x9 then (if 0 ≤ x10 then (if x10 < (x8.length : Int) then ((sums_near.f k x3 (rdOf (0 : Nat) x8 x10)).bind fun t163 => ((math_Abs.f x3).bind fun t164 => ((math_Abs.f (rdOf (0 : Nat) x8 x10)).bind fun t165 => (if ((FloatKind.f64.format.order t164 t165) == some .gt || (FloatKind.f64.format.order t164 t165) == some .eq) = true then ((sums_near.f k x3 (Op.negFloat .f64 t163)).bind fun t166 => ((sums_near.f k t166 (rdOf (0 : Nat) x8 x10)).bind fun t167 => ((sums_near.f k x4 t167).bind fun t168 => (sums_Kept.l0 k t163 t168 x8 x9 (wrap64 (x10 + 1)))))) else ((sums_near.f k (rdOf (0 : Nat) x8 x10) (Op.negFloat .f64 t163)).bind fun t169 => ((sums_near.f k t169 x3).bind fun t170 => ((sums_near.f k x4 t170).bind fun t171 => (sums_Kept.l0 k t163 t171 x8 x9 (wrap64 (x10 + 1)))))))))) else (none)) else (none)) else ((sums_near.f k x3 x4).bind fun t161 => (some t161))
def sums_Kept.f (k : Nat) (l0 : List Nat) : Option (Nat) := sums_Kept.l0 k (0 : Nat) (0 : Nat) l0 (l0.length : Int) 0
set_option maxHeartbeats 8000000 in
set_option maxRecDepth 100000 in
theorem sums_Kept.calls (k : Nat) (A0 : Option Addr) (c0 : Nat) (l0 : List Nat) (r : Nat) (w : World) (hr0 : Kd.C Kd.float w A0 l0.length l0) (hc0 : l0.length ≤ c0) (h : sums_Kept.f k l0 = some r) (hL : Big.Laid w := by exact Big.Laid.step HL.out hbw) :
  Calls Tryz.prog 16 #[.slice A0 l0.length c0] w fun e w' => e = .returned (.float .f64 r) ∧ Below w.heap.size w w' := by
 have HL := Aside0.mk hL
 clear hL
 have HR0 := Aside0.mk hr0
 have HC0 := Aside0.mk hc0
 clear hr0 hc0
 have HB := Aside0.mk (Below.refl w.heap.size w)
 have H : (sums_Kept.l0 k (0 : Nat) (0 : Nat) l0 (l0.length : Int) 0) = some r := h
 clear h
 have H' := Aside0.mk H
 clear H
 go_enter Tryz.func16, Tryz.ntmps16
 go_wp2
 go_loopg [3, 4, 10] k (fun kq v3 v4 v10 w' => ∃ (x3_1 : Nat) (x4_1 : Nat) (x10_1 : Int), v3 = .float .f64 x3_1 ∧ v4 = .float .f64 x4_1 ∧ v10 = .int .i64 x10_1 ∧ Aside0 (sums_Kept.l0 kq x3_1 x4_1 l0 (l0.length : Int) x10_1 = some r) ∧ Aside0 (kq ≤ k) ∧ Aside0 (Below w.heap.size w w'))
 case atStart => exact ⟨((0 : Nat)), ((0 : Nat)), (0), (by first | rfl | (simp; done) | (simp [*]; done)), (by first | rfl | (simp; done) | (simp [*]; done)), (by first | rfl | (simp; done) | (simp [*]; done)), H', ⟨Nat.le_refl _⟩, ⟨hbw⟩⟩
 case round =>
  clear H'
  try clear c1
  obtain ⟨x3_1, x4_1, x10_1, rfl, rfl, rfl, HA, HK1, HB⟩ := hrel
  cases gk with
  | zero => exact absurd HA.out (by simp [sums_Kept.l0])
  | succ k1 =>
   have H := HA.out
   clear HA
   simp only [sums_Kept.l0] at H
   by_cases c2 : x10_1 < (l0.length : Int)
   ·rw [if_pos c2] at H
    have c2b0 : decide (x10_1 < (l0.length : Int)) = true := decide_eq_true c2
    clear c2
    by_cases c3 : 0 ≤ x10_1
    ·rw [if_pos c3] at H
     have c3b0 : decide (0 ≤ x10_1) = true := decide_eq_true c3
     clear c3
     by_cases c4 : x10_1 < (l0.length : Int)
     ·rw [if_pos c4] at H
      have c4b0 : decide (x10_1 < (l0.length : Int)) = true := decide_eq_true c4
      clear c4
      replace H := Option.bind_eq_some_iff.mp H
      obtain ⟨t163, A50, H⟩ := H
      replace H : ((math_Abs.f x3_1).bind fun t164 => ((math_Abs.f (rdOf (0 : Nat) l0 x10_1)).bind fun t165 => (if ((FloatKind.f64.format.order t164 t165) == some .gt || (FloatKind.f64.format.order t164 t165) == some .eq) = true then ((sums_near.f k1 x3_1 (Op.negFloat .f64 t163)).bind fun t166 => ((sums_near.f k1 t166 (rdOf (0 : Nat) l0 x10_1)).bind fun t167 => ((sums_near.f k1 x4_1 t167).bind fun t168 => (sums_Kept.l0 k1 t163 t168 l0 (l0.length : Int) (wrap64 (x10_1 + 1)))))) else ((sums_near.f k1 (rdOf (0 : Nat) l0 x10_1) (Op.negFloat .f64 t163)).bind fun t169 => ((sums_near.f k1 t169 x3_1).bind fun t170 => ((sums_near.f k1 x4_1 t170).bind fun t171 => (sums_Kept.l0 k1 t163 t171 l0 (l0.length : Int) (wrap64 (x10_1 + 1))))))))) = some r := H
      have A5 := Aside0.mk A50
      clear A50
      replace H := Option.bind_eq_some_iff.mp H
      obtain ⟨t164, A60, H⟩ := H
      replace H : ((math_Abs.f (rdOf (0 : Nat) l0 x10_1)).bind fun t165 => (if ((FloatKind.f64.format.order t164 t165) == some .gt || (FloatKind.f64.format.order t164 t165) == some .eq) = true then ((sums_near.f k1 x3_1 (Op.negFloat .f64 t163)).bind fun t166 => ((sums_near.f k1 t166 (rdOf (0 : Nat) l0 x10_1)).bind fun t167 => ((sums_near.f k1 x4_1 t167).bind fun t168 => (sums_Kept.l0 k1 t163 t168 l0 (l0.length : Int) (wrap64 (x10_1 + 1)))))) else ((sums_near.f k1 (rdOf (0 : Nat) l0 x10_1) (Op.negFloat .f64 t163)).bind fun t169 => ((sums_near.f k1 t169 x3_1).bind fun t170 => ((sums_near.f k1 x4_1 t170).bind fun t171 => (sums_Kept.l0 k1 t163 t171 l0 (l0.length : Int) (wrap64 (x10_1 + 1)))))))) = some r := H
      have A6 := Aside0.mk A60
      clear A60
      replace H := Option.bind_eq_some_iff.mp H
      obtain ⟨t165, A70, H⟩ := H
      replace H : (if ((FloatKind.f64.format.order t164 t165) == some .gt || (FloatKind.f64.format.order t164 t165) == some .eq) = true then ((sums_near.f k1 x3_1 (Op.negFloat .f64 t163)).bind fun t166 => ((sums_near.f k1 t166 (rdOf (0 : Nat) l0 x10_1)).bind fun t167 => ((sums_near.f k1 x4_1 t167).bind fun t168 => (sums_Kept.l0 k1 t163 t168 l0 (l0.length : Int) (wrap64 (x10_1 + 1)))))) else ((sums_near.f k1 (rdOf (0 : Nat) l0 x10_1) (Op.negFloat .f64 t163)).bind fun t169 => ((sums_near.f k1 t169 x3_1).bind fun t170 => ((sums_near.f k1 x4_1 t170).bind fun t171 => (sums_Kept.l0 k1 t163 t171 l0 (l0.length : Int) (wrap64 (x10_1 + 1))))))) = some r := H
      have A7 := Aside0.mk A70
      clear A70
      by_cases c8 : ((FloatKind.f64.format.order t164 t165) == some .gt || (FloatKind.f64.format.order t164 t165) == some .eq) = true
      ·rw [if_pos c8] at H
       have c8b0 : ((FloatKind.f64.format.order t164 t165) == some .gt || (FloatKind.f64.format.order t164 t165) == some .eq) = true := c8
       (try (have c8b1 : decide ((FloatKind.f64.format.order t164 t165) = some .gt || (FloatKind.f64.format.order t164 t165) == some .eq) = true := by simpa using c8))
       (try (have c8b2 : ((FloatKind.f64.format.order t164 t165) == some .gt || (FloatKind.f64.format.order t164 t165) == some .eq) = true := by simpa using c8))
       clear c8
       replace H := Option.bind_eq_some_iff.mp H
       obtain ⟨t166, A90, H⟩ := H
       replace H : ((sums_near.f k1 t166 (rdOf (0 : Nat) l0 x10_1)).bind fun t167 => ((sums_near.f k1 x4_1 t167).bind fun t168 => (sums_Kept.l0 k1 t163 t168 l0 (l0.length : Int) (wrap64 (x10_1 + 1))))) = some r := H
       have A9 := Aside0.mk A90
       clear A90
       replace H := Option.bind_eq_some_iff.mp H
       obtain ⟨t167, A100, H⟩ := H
       replace H : ((sums_near.f k1 x4_1 t167).bind fun t168 => (sums_Kept.l0 k1 t163 t168 l0 (l0.length : Int) (wrap64 (x10_1 + 1)))) = some r := H
       have A10 := Aside0.mk A100
       clear A100
       replace H := Option.bind_eq_some_iff.mp H
       obtain ⟨t168, A110, H⟩ := H
       replace H : (sums_Kept.l0 k1 t163 t168 l0 (l0.length : Int) (wrap64 (x10_1 + 1))) = some r := H
       have A11 := Aside0.mk A110
       clear A110
       have H' := Aside0.mk H
       clear H
       have p162 : 0 ≤ (x10_1 : Int) := of_decide_eq_true (by first | (with_reducible assumption) | assumption)
       have q162 : x10_1 < (l0.length : Int) := of_decide_eq_true (by first | (with_reducible assumption) | assumption)
       obtain ⟨ad162, e162, hx162_0⟩ := Kd.at_float HR0.out x10_1 p162 q162
       cases e162
       replace hx162_0 := (HB.out.cell (World.block_lt_of_cell? w _ hx162_0)).trans hx162_0
       replace p162 := eq_true p162
       replace q162 := eq_true q162
       go_wp2_with (first | ((with_reducible refine gate_callee (f := 39) rfl ?_); refine goesL_ (some 16) rfl rfl Tryz.func39 (by kernel_rfl) rfl #[.float .f64 x3_1, .float .f64 (rdOf (0 : Nat) l0 x10_1)] rfl eqA ?_; (with_reducible refine (sums_near.calls k1 x3_1 (rdOf (0 : Nat) l0 x10_1) t163 _ A5.out).mono ?_); rintro e w12 ⟨rfl, hb⟩; refine ⟨_, rfl, ?_⟩; have n0_ := Aside0.mk (below_step hbw hb); clear HB; have HB := n0_; clear n0_; (try clear hb); (try clear hb2); (try clear hk); (try clear hi)) | ((with_reducible refine gate_callee (f := 41) rfl ?_); refine goesL_ (some 18) rfl rfl Tryz.func41 (by kernel_rfl) rfl #[.float .f64 x3_1] rfl eqA ?_; (with_reducible refine (math_Abs.calls x3_1 t164 _ A6.out).mono ?_); rintro e w' ⟨rfl, ⟨nd, rfl⟩⟩; refine ⟨_, rfl, ?_⟩) | ((with_reducible refine gate_callee (f := 41) rfl ?_); refine goesL_ (some 20) rfl rfl Tryz.func41 (by kernel_rfl) rfl #[.float .f64 (rdOf (0 : Nat) l0 x10_1)] rfl eqA ?_; (with_reducible refine (math_Abs.calls (rdOf (0 : Nat) l0 x10_1) t165 _ A7.out).mono ?_); rintro e w' ⟨rfl, ⟨nd, rfl⟩⟩; refine ⟨_, rfl, ?_⟩) | ((with_reducible refine gate_callee (f := 39) rfl ?_); refine goesL_ (some 26) rfl rfl Tryz.func39 (by kernel_rfl) rfl #[.float .f64 x3_1, .float .f64 (Op.negFloat .f64 t163)] rfl eqA ?_; (with_reducible refine (sums_near.calls k1 x3_1 (Op.negFloat .f64 t163) t166 _ A9.out).mono ?_); rintro e w13 ⟨rfl, hb⟩; refine ⟨_, rfl, ?_⟩; have n0_ := Aside0.mk (below_step hbw hb); clear HB; have HB := n0_; clear n0_; (try clear hb); (try clear hb2); (try clear hk); (try clear hi)) | ((with_reducible refine gate_callee (f := 39) rfl ?_); refine goesL_ (some 28) rfl rfl Tryz.func39 (by kernel_rfl) rfl #[.float .f64 t166, .float .f64 (rdOf (0 : Nat) l0 x10_1)] rfl eqA ?_; (with_reducible refine (sums_near.calls k1 t166 (rdOf (0 : Nat) l0 x10_1) t167 _ A10.out).mono ?_); rintro e w14 ⟨rfl, hb⟩; refine ⟨_, rfl, ?_⟩; have n0_ := Aside0.mk (below_step hbw hb); clear HB; have HB := n0_; clear n0_; (try clear hb); (try clear hb2); (try clear hk); (try clear hi)) | ((with_reducible refine gate_callee (f := 39) rfl ?_); refine goesL_ (some 29) rfl rfl Tryz.func39 (by kernel_rfl) rfl #[.float .f64 x4_1, .float .f64 t167] rfl eqA ?_; (with_reducible refine (sums_near.calls k1 x4_1 t167 t168 _ A11.out).mono ?_); rintro e w15 ⟨rfl, hb⟩; refine ⟨_, rfl, ?_⟩; have n0_ := Aside0.mk (below_step hbw hb); clear HB; have HB := n0_; clear n0_; (try clear hb); (try clear hb2); (try clear hk); (try clear hi)))
       go_roundg k1
       case measure => have := HK1.out; omega
       case rel => exact ⟨(t163), (t168), (wrap64 (x10_1 + 1)), (by first | rfl | (simp; done) | (simp [*]; done)), (by first | rfl | (simp; done) | (simp [*]; done)), (by first | rfl | (simp; done) | (simp [*]; done)), H', ⟨by have := HK1.out; omega⟩, ⟨hbw⟩⟩
      ·rw [if_neg c8] at H
       have c8b0 : ((FloatKind.f64.format.order t164 t165) == some .gt || (FloatKind.f64.format.order t164 t165) == some .eq) = false := by simpa using c8
       (try (have c8b1 : decide ((FloatKind.f64.format.order t164 t165) = some .gt || (FloatKind.f64.format.order t164 t165) == some .eq) = false := by simpa using c8))
       (try (have c8b2 : ((FloatKind.f64.format.order t164 t165) == some .gt || (FloatKind.f64.format.order t164 t165) == some .eq) = false := by simpa using c8))
       (try (have c8b3 : ¬ ((FloatKind.f64.format.order t164 t165) = some .gt || (FloatKind.f64.format.order t164 t165) == some .eq) := by simpa using c8))
       clear c8
       replace H := Option.bind_eq_some_iff.mp H
       obtain ⟨t169, A160, H⟩ := H
       replace H : ((sums_near.f k1 t169 x3_1).bind fun t170 => ((sums_near.f k1 x4_1 t170).bind fun t171 => (sums_Kept.l0 k1 t163 t171 l0 (l0.length : Int) (wrap64 (x10_1 + 1))))) = some r := H
       have A16 := Aside0.mk A160
       clear A160
       replace H := Option.bind_eq_some_iff.mp H
       obtain ⟨t170, A170, H⟩ := H
       replace H : ((sums_near.f k1 x4_1 t170).bind fun t171 => (sums_Kept.l0 k1 t163 t171 l0 (l0.length : Int) (wrap64 (x10_1 + 1)))) = some r := H
       have A17 := Aside0.mk A170
       clear A170
       replace H := Option.bind_eq_some_iff.mp H
       obtain ⟨t171, A180, H⟩ := H
       replace H : (sums_Kept.l0 k1 t163 t171 l0 (l0.length : Int) (wrap64 (x10_1 + 1))) = some r := H
       have A18 := Aside0.mk A180
       clear A180
       have H' := Aside0.mk H
       clear H
       have p162 : 0 ≤ (x10_1 : Int) := of_decide_eq_true (by first | (with_reducible assumption) | assumption)
       have q162 : x10_1 < (l0.length : Int) := of_decide_eq_true (by first | (with_reducible assumption) | assumption)
       obtain ⟨ad162, e162, hx162_0⟩ := Kd.at_float HR0.out x10_1 p162 q162
       cases e162
       replace hx162_0 := (HB.out.cell (World.block_lt_of_cell? w _ hx162_0)).trans hx162_0
       replace p162 := eq_true p162
       replace q162 := eq_true q162
       go_wp2_with (first | ((with_reducible refine gate_callee (f := 39) rfl ?_); refine goesL_ (some 16) rfl rfl Tryz.func39 (by kernel_rfl) rfl #[.float .f64 x3_1, .float .f64 (rdOf (0 : Nat) l0 x10_1)] rfl eqA ?_; (with_reducible refine (sums_near.calls k1 x3_1 (rdOf (0 : Nat) l0 x10_1) t163 _ A5.out).mono ?_); rintro e w19 ⟨rfl, hb⟩; refine ⟨_, rfl, ?_⟩; have n0_ := Aside0.mk (below_step hbw hb); clear HB; have HB := n0_; clear n0_; (try clear hb); (try clear hb2); (try clear hk); (try clear hi)) | ((with_reducible refine gate_callee (f := 41) rfl ?_); refine goesL_ (some 18) rfl rfl Tryz.func41 (by kernel_rfl) rfl #[.float .f64 x3_1] rfl eqA ?_; (with_reducible refine (math_Abs.calls x3_1 t164 _ A6.out).mono ?_); rintro e w' ⟨rfl, ⟨nd, rfl⟩⟩; refine ⟨_, rfl, ?_⟩) | ((with_reducible refine gate_callee (f := 41) rfl ?_); refine goesL_ (some 20) rfl rfl Tryz.func41 (by kernel_rfl) rfl #[.float .f64 (rdOf (0 : Nat) l0 x10_1)] rfl eqA ?_; (with_reducible refine (math_Abs.calls (rdOf (0 : Nat) l0 x10_1) t165 _ A7.out).mono ?_); rintro e w' ⟨rfl, ⟨nd, rfl⟩⟩; refine ⟨_, rfl, ?_⟩) | ((with_reducible refine gate_callee (f := 39) rfl ?_); refine goesL_ (some 34) rfl rfl Tryz.func39 (by kernel_rfl) rfl #[.float .f64 (rdOf (0 : Nat) l0 x10_1), .float .f64 (Op.negFloat .f64 t163)] rfl eqA ?_; (with_reducible refine (sums_near.calls k1 (rdOf (0 : Nat) l0 x10_1) (Op.negFloat .f64 t163) t169 _ A16.out).mono ?_); rintro e w20 ⟨rfl, hb⟩; refine ⟨_, rfl, ?_⟩; have n0_ := Aside0.mk (below_step hbw hb); clear HB; have HB := n0_; clear n0_; (try clear hb); (try clear hb2); (try clear hk); (try clear hi)) | ((with_reducible refine gate_callee (f := 39) rfl ?_); refine goesL_ (some 36) rfl rfl Tryz.func39 (by kernel_rfl) rfl #[.float .f64 t169, .float .f64 x3_1] rfl eqA ?_; (with_reducible refine (sums_near.calls k1 t169 x3_1 t170 _ A17.out).mono ?_); rintro e w21 ⟨rfl, hb⟩; refine ⟨_, rfl, ?_⟩; have n0_ := Aside0.mk (below_step hbw hb); clear HB; have HB := n0_; clear n0_; (try clear hb); (try clear hb2); (try clear hk); (try clear hi)) | ((with_reducible refine gate_callee (f := 39) rfl ?_); refine goesL_ (some 37) rfl rfl Tryz.func39 (by kernel_rfl) rfl #[.float .f64 x4_1, .float .f64 t170] rfl eqA ?_; (with_reducible refine (sums_near.calls k1 x4_1 t170 t171 _ A18.out).mono ?_); rintro e w22 ⟨rfl, hb⟩; refine ⟨_, rfl, ?_⟩; have n0_ := Aside0.mk (below_step hbw hb); clear HB; have HB := n0_; clear n0_; (try clear hb); (try clear hb2); (try clear hk); (try clear hi)))
       go_roundg k1
       case measure => have := HK1.out; omega
       case rel => exact ⟨(t163), (t171), (wrap64 (x10_1 + 1)), (by first | rfl | (simp; done) | (simp [*]; done)), (by first | rfl | (simp; done) | (simp [*]; done)), (by first | rfl | (simp; done) | (simp [*]; done)), H', ⟨by have := HK1.out; omega⟩, ⟨hbw⟩⟩
     ·rw [if_neg c4] at H
      exact absurd H (by simp)
    ·rw [if_neg c3] at H
     exact absurd H (by simp)
   ·rw [if_neg c2] at H
    have c2b0 : decide (x10_1 < (l0.length : Int)) = false := decide_eq_false c2
    clear c2
    replace H := Option.bind_eq_some_iff.mp H
    obtain ⟨t161, A230, H⟩ := H
    replace H : (some t161) = some r := H
    have A23 := Aside0.mk A230
    clear A230
    obtain rfl := Option.some.inj H
    go_wp2_with (first | ((with_reducible refine gate_callee (f := 39) rfl ?_); refine goesL_ (some 42) rfl rfl Tryz.func39 (by kernel_rfl) rfl #[.float .f64 x3_1, .float .f64 x4_1] rfl eqA ?_; (with_reducible refine (sums_near.calls k1 x3_1 x4_1 t161 _ A23.out).mono ?_); rintro e w24 ⟨rfl, hb⟩; refine ⟨_, rfl, ?_⟩; have n0_ := Aside0.mk (below_step hbw hb); clear HB; have HB := n0_; clear n0_; (try clear hb); (try clear hb2); (try clear hk); (try clear hi)))
    go_ret
    exact ⟨by first | rfl | (simp [errW_none, errW_some] <;> rfl) | (simp [*, errW_none, errW_some] <;> rfl), hbw⟩
end Go.Proofs.YthmeocigliephaaGreatDoor.PSu
end
section
namespace Go.Proofs.YthmeocigliephaaGreatDoor.PSu
open Go.RowKit Go.Proofs.YthmeocigliephaaGreatDoorW.PrintWords Go.Proofs.YthmeocigliephaaGreatDoorW.PrintLast Go.Proofs.YthmeocigliephaaGreatDoorW.PrintMore
attribute [local go_sem] f64bits_run f64from_run run_float_some max2_int min2_int max_two min_two max_three min_three max_four min_four
def sums_Halves.f : Nat → List Nat → Option (Nat)
 | 0, _ => none
 | k + 1, l0 => if (l0.length : Int) = 0 then (some (0 : Nat)) else (if (l0.length : Int) = 1 then (if 0 < (l0.length : Int) then (some (rdOf (0 : Nat) l0 0)) else (none)) else (if 0 ≤ (wrap64 ((l0.length : Int) / 2)) then (if (wrap64 ((l0.length : Int) / 2)) ≤ (l0.length : Int) then ((sums_Halves.f k (l0.take ((wrap64 ((l0.length : Int) / 2)) : Int).toNat)).bind fun t174 => ((sums_Halves.f k (l0.drop ((wrap64 ((l0.length : Int) / 2)) : Int).toNat)).bind fun t176 => ((sums_near.f k t174 t176).bind fun t177 => (some t177)))) else (none)) else (none)))
def sums_Halves.T3 : Bool × List (List Nat × List Nat) := (true, [([], []), ([], []), ([1], [1]), ([0, 2], [0, 2]), ([3], [3]), ([], []), ([], []), ([6], [6]), ([5, 7], [5, 7]), ([8, 4], [8]), ([4, 9, 9], [4, 9]), ([10, 10, 0, 1, 2, 3, 4, 5, 6, 7, 8, 9, 10], [10])])
def sums_Halves.B3 : List Nat := [0, 0, 2, 7, 15, 0, 0, 64, 224, 511, 1023, 2047]
theorem sums_Halves.tab3 : rtab .any (opsOf Tryz.f14 3) = sums_Halves.T3 := by kernel_rfl
theorem sums_Halves.bits3 : waitsOk sums_Halves.T3.2 sums_Halves.B3 = true := by kernel_rfl
set_option maxHeartbeats 8000000 in
set_option maxRecDepth 100000 in
theorem sums_Halves.calls (k : Nat) : ∀ (A0 : Option Addr) (c0 : Nat) (l0 : List Nat) (r : Nat) (w : World) (hr0 : Kd.C Kd.float w A0 l0.length l0) (hc0 : l0.length ≤ c0) (h : sums_Halves.f k l0 = some r) (hL : Big.Laid w := by exact Big.Laid.step HL.out hbw),
  Calls Tryz.prog 14 #[.slice A0 l0.length c0] w fun e w' => e = .returned (.float .f64 r) ∧ Below w.heap.size w w' := by
 induction k using Nat.strongRecOn with
 | _ k ih =>
 intro A0 c0 l0 r w hr0 hc0 h hL
 have HL := Aside0.mk hL
 clear hL
 cases k with
 | zero => exact absurd h (by simp [sums_Halves.f])
 | succ k =>
 simp only [sums_Halves.f] at h
 have HR0 := Aside0.mk hr0
 have HC0 := Aside0.mk hc0
 clear hr0 hc0
 have HB := Aside0.mk (Below.refl w.heap.size w)
 have H : (if (l0.length : Int) = 0 then (some (0 : Nat)) else (if (l0.length : Int) = 1 then (if 0 < (l0.length : Int) then (some (rdOf (0 : Nat) l0 0)) else (none)) else (if 0 ≤ (wrap64 ((l0.length : Int) / 2)) then (if (wrap64 ((l0.length : Int) / 2)) ≤ (l0.length : Int) then ((sums_Halves.f k (l0.take ((wrap64 ((l0.length : Int) / 2)) : Int).toNat)).bind fun t174 => ((sums_Halves.f k (l0.drop ((wrap64 ((l0.length : Int) / 2)) : Int).toNat)).bind fun t176 => ((sums_near.f k t174 t176).bind fun t177 => (some t177)))) else (none)) else (none)))) = some r := h
 clear h
 by_cases c2 : (l0.length : Int) = 0
 ·rw [if_pos c2] at H
  have c2b0 : ((l0.length : Int) == 0) = true := beq_iff_eq.mpr c2
  have c2b1 : ((l0.length : Int) != 0) = false := bne_eq_false_iff_eq.mpr c2
  clear c2
  obtain rfl := Option.some.inj H
  go_enter Tryz.func14, Tryz.ntmps14
  go_wp2
  go_ret
  exact ⟨by first | rfl | (simp [errW_none, errW_some] <;> rfl) | (simp [*, errW_none, errW_some] <;> rfl), hbw⟩
 ·rw [if_neg c2] at H
  have c2b0 : ((l0.length : Int) == 0) = false := beq_eq_false_iff_ne.mpr c2
  have c2b1 : ((l0.length : Int) != 0) = true := bne_iff_ne.mpr c2
  have c2b2 : ¬ (l0 = []) := fun h_ => c2 (by rw [h_]; rfl)
  by_cases c3 : (l0.length : Int) = 1
  ·rw [if_pos c3] at H
   have c3b0 : ((l0.length : Int) == 1) = true := beq_iff_eq.mpr c3
   have c3b1 : ((l0.length : Int) != 1) = false := bne_eq_false_iff_eq.mpr c3
   clear c3
   by_cases c4 : 0 < (l0.length : Int)
   ·rw [if_pos c4] at H
    have c4b0 : decide (0 < (l0.length : Int)) = true := decide_eq_true c4
    have c4b1 : decide (0 < l0.length) = true := decide_eq_true (by omega)
    clear c4
    obtain rfl := Option.some.inj H
    have p172 : 0 ≤ (0 : Int) := (by omega)
    have q172 : 0 < (l0.length : Int) := of_decide_eq_true (by first | (with_reducible assumption) | assumption)
    obtain ⟨ad172, e172, hx172_0⟩ := Kd.at_float HR0.out 0 p172 q172
    cases e172
    have qi172 : (0 < l0.length) = True := eq_true (by omega)
    (try rw [show ((0 : Int)).toNat = 0 from rfl] at hx172_0)
    (try rw [Addr.add_zero'] at hx172_0)
    replace p172 := eq_true p172
    replace q172 := eq_true q172
    go_enter Tryz.func14, Tryz.ntmps14
    go_wp2
    go_ret
    exact ⟨by first | rfl | (simp [errW_none, errW_some] <;> rfl) | (simp [*, errW_none, errW_some] <;> rfl), hbw⟩
   ·rw [if_neg c4] at H
    exact absurd H (by simp)
  ·rw [if_neg c3] at H
   have c3b0 : ((l0.length : Int) == 1) = false := beq_eq_false_iff_ne.mpr c3
   have c3b1 : ((l0.length : Int) != 1) = true := bne_iff_ne.mpr c3
   obtain ⟨ji5, hji5⟩ : ∃ j_ : Int, (wrap64 ((l0.length : Int) / 2)) = j_ := ⟨_, rfl⟩
   replace H : (if 0 ≤ (ji5) then (if (ji5) ≤ (l0.length : Int) then ((sums_Halves.f k (l0.take ((ji5) : Int).toNat)).bind fun t174 => ((sums_Halves.f k (l0.drop ((ji5) : Int).toNat)).bind fun t176 => ((sums_near.f k t174 t176).bind fun t177 => (some t177)))) else (none)) else (none)) = some r := by first | (rw [hji5] at H; exact H) | (simp only [hji5] at H ⊢; exact H)
   have hji5w : (IntKind.i64.wrap ((l0.length : Int) / 2)) = ji5 := (i64_w _).trans hji5
   by_cases c6 : 0 ≤ (ji5)
   ·rw [if_pos c6] at H
    have c6b0 := eq_true c6
    have c6b1 : decide (0 ≤ (ji5)) = true := decide_eq_true c6
    clear c6
    by_cases c7 : (ji5) ≤ (l0.length : Int)
    ·rw [if_pos c7] at H
     have c7b0 := eq_true c7
     have c7b1 : decide ((ji5) ≤ (l0.length : Int)) = true := decide_eq_true c7
     clear c7
     replace H := Option.bind_eq_some_iff.mp H
     obtain ⟨t174, A80, H⟩ := H
     replace H : ((sums_Halves.f k (l0.drop ((ji5) : Int).toNat)).bind fun t176 => ((sums_near.f k t174 t176).bind fun t177 => (some t177))) = some r := H
     have A8 := Aside0.mk A80
     clear A80
     have c9b0 := eq_true (of_decide_eq_true (by first | (with_reducible assumption) | assumption) : 0 ≤ (ji5))
     have c10b0 := eq_true (of_decide_eq_true (by first | (with_reducible assumption) | assumption) : (ji5) ≤ (l0.length : Int))
     replace H := Option.bind_eq_some_iff.mp H
     obtain ⟨t176, A110, H⟩ := H
     replace H : ((sums_near.f k t174 t176).bind fun t177 => (some t177)) = some r := H
     have A11 := Aside0.mk A110
     clear A110
     replace H := Option.bind_eq_some_iff.mp H
     obtain ⟨t177, A120, H⟩ := H
     replace H : (some t177) = some r := H
     have A12 := Aside0.mk A120
     clear A120
     obtain rfl := Option.some.inj H
     go_enter Tryz.func14, Tryz.ntmps14
     try go_wp2
     have n0_ := Aside0.mk (below_drew1 HB.out)
     clear HB
     have HB := n0_
     clear n0_
     obtain ⟨i014, hi014, _, hsz14, _⟩ := info_parts info25
     obtain ⟨hcut14, hA14, hC14⟩ := print_take_of (P := Tryz.prog) (Value.float .f64) (0 : Nat) 22 25 .i64 Tryz.underlying22 hi014 hsz14 A0 c0 l0 (ji5) (of_decide_eq_true (by first | (with_reducible assumption) | assumption)) (of_decide_eq_true (by first | (with_reducible assumption) | assumption)) HC0.out
     have HR173 := Aside0.mk (Kd.C_of_reads (h1 := fun _ => rfl) (hA14 _ (Kd.reads_of_C HR0.out)))
     have HC173 := Aside0.mk hC14
     clear hA14 hC14 hi014 hsz14
     obtain ⟨i015, hi015, _, hsz15, _⟩ := info_parts info25
     obtain ⟨A15, hcut15, hA15, hC15⟩ := print_drop_of (P := Tryz.prog) (Value.float .f64) (0 : Nat) 22 25 .i64 Tryz.underlying22 hi015 hsz15 A0 c0 l0 (ji5) (of_decide_eq_true (by first | (with_reducible assumption) | assumption)) (of_decide_eq_true (by first | (with_reducible assumption) | assumption)) HC0.out
     have HR175 := Aside0.mk (Kd.C_of_reads (h1 := fun _ => rfl) (hA15 _ (Kd.reads_of_C HR0.out)))
     have HC175 := Aside0.mk hC15
     clear hA15 hC15 hi015 hsz15
     refine start_ (n := 12) (S := fun w' => True) (ds := []) #[false, false, false, false, false, false, false, false, false, false, false, false] (by kernel_rfl) rfl rfl trivial (fun hHeld => ?_); refine with_tabW sums_Halves.tab3 sums_Halves.bits3 (fun HT_ HW_ => ?_)
     generalize w.drew = w13 at HB HR173 HR175 hHeld ⊢
     refine pure_ (i := 0) (N := some 7) (v := ?_) (a' := ?_) #[true, false, false, false, false, false, false, false, false, false, false, false] rfl rfl (any_of HT_.out (by kernel_rfl)) (fun _ _ _ h => h) (Or.inl ⟨by rfl, ?_⟩) ?_ ?_
     rotate_left
     ·intro w'
      go_simp
      with_reducible rfl
     rotate_left
     ·simp only [Act.put, List.setIfInBounds_toArray, List.set_cons_zero, List.set_cons_succ, i64_w, i32_w]
      rfl
     refine pure_ (i := 1) (N := some 8) (v := ?_) (a' := ?_) #[true, true, false, false, false, false, false, false, false, false, false, false] rfl rfl (any_of HT_.out (by kernel_rfl)) (fun _ _ _ h => h) (Or.inl ⟨by rfl, ?_⟩) ?_ ?_
     rotate_left
     ·intro w'
      go_simp
      with_reducible rfl
     rotate_left
     ·simp only [Act.put, List.setIfInBounds_toArray, List.set_cons_zero, List.set_cons_succ, i64_w, i32_w]
      rfl
     refine pure_ (i := 2) (N := some 9) (v := ?_) (a' := ?_) #[true, true, true, false, false, false, false, false, false, false, false, false] rfl rfl (any_of HT_.out (by kernel_rfl)) (fun _ _ _ h => h) (Or.inl ⟨by rfl, ?_⟩) ?_ ?_
     rotate_left
     ·intro w'
      go_simp
      with_reducible rfl
     rotate_left
     ·simp only [Act.put, List.setIfInBounds_toArray, List.set_cons_zero, List.set_cons_succ, i64_w, i32_w]
      rfl
     refine pure_ (i := 3) (N := some 10) (v := ?_) (a' := ?_) #[true, true, true, true, false, false, false, false, false, false, false, false] rfl rfl (any_of HT_.out (by kernel_rfl)) (fun _ _ _ h => h) (Or.inl ⟨by rfl, ?_⟩) ?_ ?_
     rotate_left
     ·intro w'
      go_simp
      with_reducible rfl
     rotate_left
     ·simp only [Act.put, List.setIfInBounds_toArray, List.set_cons_zero, List.set_cons_succ, i64_w, i32_w]
      rfl
     refine pure_ (i := 5) (N := some 12) (v := ?_) (a' := ?_) #[true, true, true, true, false, true, false, false, false, false, false, false] rfl rfl (any_of HT_.out (by kernel_rfl)) (fun _ _ _ h => h) (Or.inl ⟨by rfl, ?_⟩) ?_ ?_
     rotate_left
     ·intro w'
      go_simp
      with_reducible rfl
     rotate_left
     ·simp only [Act.put, List.setIfInBounds_toArray, List.set_cons_zero, List.set_cons_succ, i64_w, i32_w]
      rfl
     refine pure_ (i := 6) (N := some 13) (v := ?_) (a' := ?_) #[true, true, true, true, false, true, true, false, false, false, false, false] rfl rfl (any_of HT_.out (by kernel_rfl)) (fun _ _ _ h => h) (Or.inl ⟨by rfl, ?_⟩) ?_ ?_
     rotate_left
     ·intro w'
      go_simp
      with_reducible rfl
     rotate_left
     ·simp only [Act.put, List.setIfInBounds_toArray, List.set_cons_zero, List.set_cons_succ, i64_w, i32_w]
      rfl
     refine pure_ (i := 7) (N := some 14) (v := ?_) (a' := ?_) #[true, true, true, true, false, true, true, true, false, false, false, false] rfl rfl (any_of HT_.out (by kernel_rfl)) (fun _ _ _ h => h) (Or.inl ⟨by rfl, ?_⟩) ?_ ?_
     rotate_left
     ·intro w'
      go_simp
      with_reducible rfl
     rotate_left
     ·simp only [Act.put, List.setIfInBounds_toArray, List.set_cons_zero, List.set_cons_succ, i64_w, i32_w]
      rfl
     refine pure_ (i := 8) (N := some 15) (v := ?_) (a' := ?_) #[true, true, true, true, false, true, true, true, true, false, false, false] rfl rfl (any_of HT_.out (by kernel_rfl)) (fun _ _ _ h => h) (Or.inl ⟨by rfl, ?_⟩) ?_ ?_
     rotate_left
     ·intro w'
      go_simp
      with_reducible rfl
     rotate_left
     ·simp only [Act.put, List.setIfInBounds_toArray, List.set_cons_zero, List.set_cons_succ, i64_w, i32_w]
      rfl
     refine one_ (i := 4) (N := some 11) #[true, true, true, true, true, true, true, true, true, false, false, false] rfl rfl (one_of HT_.out (by kernel_rfl)) (by decide) (fun K hK => ?_)
     refine goes_ Tryz.func14 (by kernel_rfl) rfl #[.slice A0 (l0.take ((ji5) : Int).toNat).length c0] (by rfl) rfl rfl (by (try simp only [List.map_toArray, List.map_cons, List.map_nil]); first | done | (rw [show (l0.take ((ji5) : Int).toNat).length = (ji5).toNat from (by rw [List.length_take]; have h_ : ((ji5) : Int) ≤ (l0.length : Int) := of_decide_eq_true (by first | (with_reducible assumption) | assumption); omega)] <;> rfl) | (simp only [hji5]; rfl) | rfl | (simp only [List.length_drop, List.length_take]; rfl)) ?_
     with_reducible refine (ih k (by omega) _ _ (l0.take ((ji5) : Int).toNat) t174 _ ?side1 ?side2 A8.out).mono ?_
     (case side1 => repeat (first | exact (Kd.C_below HR173.out HB.out) | (with_reducible refine Kd.C_alloc ?_ _) | (with_reducible refine Kd.C_drewN ?_ _) | (with_reducible refine Kd.C_drew ?_)))
     (case side2 => exact HC173.out)
     rintro e w16 ⟨rfl, hb⟩
     refine ⟨_, rfl, ?_⟩
     have n0_ := Aside0.mk (below_step hbw hb)
     clear HB
     have HB := n0_
     clear n0_
     (try clear hb)
     (try clear hb2)
     (try clear hk)
     (try clear hi)
     refine hK.out _ _ trivial (fun hHeld => ?_)
     clear hK K
     refine norm_ (a' := ?_) ?_ ?_
     rotate_left
     ·show Act.put _ (some 11) _ = _
      simp only [Act.put, List.setIfInBounds_toArray, List.set_cons_zero, List.set_cons_succ, i64_w, i32_w]
      rfl
     refine one_ (i := 9) (N := some 16) #[true, true, true, true, true, true, true, true, true, true, false, false] rfl rfl (one_of HT_.out (by kernel_rfl)) (by decide) (fun K hK => ?_)
     refine goes_ Tryz.func14 (by kernel_rfl) rfl #[.slice A15 (l0.drop ((ji5) : Int).toNat).length (c0 - (ji5).toNat)] (by rfl) rfl rfl (by (try simp only [List.map_toArray, List.map_cons, List.map_nil]); first | done | (rw [show (l0.drop ((ji5) : Int).toNat).length = (l0.length - (ji5).toNat) from List.length_drop] <;> rfl) | (simp only [hji5]; rfl) | rfl | (simp only [List.length_drop, List.length_take]; rfl)) ?_
     with_reducible refine (ih k (by omega) _ _ (l0.drop ((ji5) : Int).toNat) t176 _ ?side1 ?side2 A11.out).mono ?_
     (case side1 => repeat (first | exact (Kd.C_below HR175.out HB.out) | (with_reducible refine Kd.C_alloc ?_ _) | (with_reducible refine Kd.C_drewN ?_ _) | (with_reducible refine Kd.C_drew ?_)))
     (case side2 => exact HC175.out)
     rintro e w17 ⟨rfl, hb⟩
     refine ⟨_, rfl, ?_⟩
     have n0_ := Aside0.mk (below_step hbw hb)
     clear HB
     have HB := n0_
     clear n0_
     (try clear hb)
     (try clear hb2)
     (try clear hk)
     (try clear hi)
     refine hK.out _ _ trivial (fun hHeld => ?_)
     clear hK K
     refine norm_ (a' := ?_) ?_ ?_
     rotate_left
     ·show Act.put _ (some 16) _ = _
      simp only [Act.put, List.setIfInBounds_toArray, List.set_cons_zero, List.set_cons_succ, i64_w, i32_w]
      rfl
     refine one_ (i := 10) (N := some 17) #[true, true, true, true, true, true, true, true, true, true, true, false] rfl rfl (one_of HT_.out (by kernel_rfl)) (by decide) (fun K hK => ?_)
     refine goes_ Tryz.func39 (by kernel_rfl) rfl #[.float .f64 t174, .float .f64 t176] (by rfl) rfl rfl eqA ?_
     with_reducible refine (sums_near.calls k t174 t176 t177 _ A12.out).mono ?_
     rintro e w18 ⟨rfl, hb⟩
     refine ⟨_, rfl, ?_⟩
     have n0_ := Aside0.mk (below_step hbw hb)
     clear HB
     have HB := n0_
     clear n0_
     (try clear hb)
     (try clear hb2)
     (try clear hk)
     (try clear hi)
     refine hK.out _ _ trivial (fun hHeld => ?_)
     clear hK K
     refine norm_ (a' := ?_) ?_ ?_
     rotate_left
     ·show Act.put _ (some 17) _ = _
      simp only [Act.put, List.setIfInBounds_toArray, List.set_cons_zero, List.set_cons_succ, i64_w, i32_w]
      rfl
     refine pure_ (i := 11) (N := some 2) (v := ?_) (a' := ?_) #[true, true, true, true, true, true, true, true, true, true, true, true] rfl rfl (any_of HT_.out (by kernel_rfl)) (fun _ _ _ h => h) (Or.inl ⟨by rfl, ?_⟩) ?_ ?_
     rotate_left
     ·intro w'
      go_simp
      with_reducible rfl
     rotate_left
     ·simp only [Act.put, List.setIfInBounds_toArray, List.set_cons_zero, List.set_cons_succ, i64_w, i32_w]
      rfl
     refine done_ (done_of HT_.out (by kernel_rfl)) ?_
     try go_wp2
     go_ret
     exact ⟨by first | rfl | (simp [errW_none, errW_some] <;> rfl) | (simp only [← hji5]; first | rfl | (simp [errW_none, errW_some] <;> rfl)) | (simp [*, errW_none, errW_some] <;> rfl), hbw⟩
    ·rw [if_neg c7] at H
     exact absurd H (by simp)
   ·rw [if_neg c6] at H
    exact absurd H (by simp)
def dyad_valid.l0 : Nat → List (S60) → Int → Int → Option (Bool)
 | 0, _, _, _ => none
 | k + 1, x5, x6, x7 => if x7 < x6 then (if 0 ≤ x7 then (if x7 < (x5.length : Int) then ((dyad_Valid.f ((rd_T60 x5 x7).f0) ((rd_T60 x5 x7).f1) ((rd_T60 x5 x7).f2)).bind fun t180 => (if t180 = true then (dyad_valid.l0 k x5 x6 (wrap64 (x7 + 1))) else (some false))) else (none)) else (none)) else (some true)
def dyad_valid.f (k : Nat) (l0 : List (S60)) : Option (Bool) := dyad_valid.l0 k l0 (l0.length : Int) 0
set_option maxHeartbeats 8000000 in
set_option maxRecDepth 100000 in
theorem dyad_valid.calls (k : Nat) (A0 : Option Addr) (c0 : Nat) (l0 : List (S60)) (r : Bool) (w : World) (hr0 : Kd.C k60 w A0 l0.length l0) (hc0 : l0.length ≤ c0) (h : dyad_valid.f k l0 = some r) :
  Calls Tryz.prog 88 #[.slice A0 l0.length c0] w fun e w' => e = .returned (.bool r) ∧ Below w.heap.size w w' := by
 have hu60 := Tryz.underlying60
 have HR0 := Aside0.mk hr0
 have HC0 := Aside0.mk hc0
 clear hr0 hc0
 have HB := Aside0.mk (Below.refl w.heap.size w)
 have H : (dyad_valid.l0 k l0 (l0.length : Int) 0) = some r := h
 clear h
 have H' := Aside0.mk H
 clear H
 go_enter Tryz.func88, Tryz.ntmps88
 go_wp2
 go_loopg [7] k (fun kq v7 w' => ∃ (x7_1 : Int), v7 = .int .i64 x7_1 ∧ Aside0 (dyad_valid.l0 kq l0 (l0.length : Int) x7_1 = some r) ∧ Aside0 (kq ≤ k) ∧ Aside0 (Below w.heap.size w w'))
 case atStart => exact ⟨(0), (by first | rfl | (simp; done) | (simp [*]; done)), H', ⟨Nat.le_refl _⟩, ⟨hbw⟩⟩
 case round =>
  clear H'
  obtain ⟨x7_1, rfl, HA, HK1, HB⟩ := hrel
  cases gk with
  | zero => exact absurd HA.out (by simp [dyad_valid.l0])
  | succ k1 =>
   have H := HA.out
   clear HA
   simp only [dyad_valid.l0] at H
   by_cases c2 : x7_1 < (l0.length : Int)
   ·rw [if_pos c2] at H
    have c2b0 : decide (x7_1 < (l0.length : Int)) = true := decide_eq_true c2
    clear c2
    by_cases c3 : 0 ≤ x7_1
    ·rw [if_pos c3] at H
     have c3b0 : decide (0 ≤ x7_1) = true := decide_eq_true c3
     clear c3
     by_cases c4 : x7_1 < (l0.length : Int)
     ·rw [if_pos c4] at H
      have c4b0 : decide (x7_1 < (l0.length : Int)) = true := decide_eq_true c4
      clear c4
      replace H := Option.bind_eq_some_iff.mp H
      obtain ⟨t180, A50, H⟩ := H
      replace H : (if t180 = true then (dyad_valid.l0 k1 l0 (l0.length : Int) (wrap64 (x7_1 + 1))) else (some false)) = some r := H
      have A5 := Aside0.mk A50
      clear A50
      by_cases c6 : t180 = true
      ·subst c6
       have H1 : (dyad_valid.l0 k1 l0 (l0.length : Int) (wrap64 (x7_1 + 1))) = some r := by rw [if_pos rfl] at H; exact H
       clear H
       have H := H1
       clear H1
       have H' := Aside0.mk H
       clear H
       have p178 : 0 ≤ (x7_1 : Int) := of_decide_eq_true (by first | (with_reducible assumption) | assumption)
       have q178 : x7_1 < (l0.length : Int) := of_decide_eq_true (by first | (with_reducible assumption) | assumption)
       obtain ⟨ad178, A178_1, c178_1, e178, hx178_0, hx178_1, hx178_2, hl178_1, hi178_1⟩ := at_T60 HR0.out x7_1 p178 q178
       cases e178
       replace hx178_0 := (HB.out.cell (World.block_lt_of_cell? w _ hx178_0)).trans hx178_0
       replace hx178_1 := (HB.out.cell (World.block_lt_of_cell? w _ hx178_1)).trans hx178_1
       replace hx178_2 := (HB.out.cell (World.block_lt_of_cell? w _ hx178_2)).trans hx178_2
       have HR178_1 := Aside0.mk hi178_1
       have HC178_1 := Aside0.mk hl178_1
       clear hi178_1 hl178_1
       replace p178 := eq_true p178
       replace q178 := eq_true q178
       go_wp2_with (first | ((with_reducible refine gate_dst (N := 4) rfl ?_); refine box_event ?hg (N := 4) ?hd (cs := #[.bool false, .slice none 0 0, .int .i64 0]) (t := 60) ?hr ?_; (case hd => rfl); (case hg => rfl); (case hr => first | (go_simp; done) | (go_simp; rfl)); intro gb179 hg w7 hbox hb; have n0_ := Aside0.mk (below_step hbw hb); have n1_ := Aside0.mk (hbox); have n2_ := Aside0.mk ((by rw [hg]; exact (below_size hbw) : w.heap.size ≤ gb179)); have n3_ := Aside0.mk ((by rw [hg]; exact (below_size hbw) : w.heap.size ≤ gb179)); clear HB; have HB := n0_; have BK179 := n1_; have GW179 := n2_; have GE179 := n3_; clear n0_ n1_ n2_ n3_; clear hb hbox hg; have hcz8_0 : w7.cell? ⟨gb179, 0, none⟩ = some (.bool false) := (blk_cell BK179.out 0).trans rfl; have hcz8_1 : w7.cell? ⟨gb179, 1, none⟩ = some (.slice none 0 0) := (blk_cell BK179.out 1).trans rfl; have hcz8_2 : w7.cell? ⟨gb179, 2, none⟩ = some (.int .i64 0) := (blk_cell BK179.out 2).trans rfl; have hfz8_0 := blk_frozen BK179.out 0; have hfz8_1 := blk_frozen BK179.out 1; have hfz8_2 := blk_frozen BK179.out 2) | ((with_reducible refine gate_callee (f := 91) rfl ?_); refine goesL_ (some 12) rfl rfl Tryz.func91 (by kernel_rfl) rfl #[.agg #[.bool ((rd_T60 l0 x7_1).f0), .slice A178_1 ((rd_T60 l0 x7_1).f1).length c178_1, .int .i64 ((rd_T60 l0 x7_1).f2)]] rfl eqA ?_; (with_reducible refine (dyad_Valid.calls ((rd_T60 l0 x7_1).f0) _ _ ((rd_T60 l0 x7_1).f1) ((rd_T60 l0 x7_1).f2) true _ ?side1 ?side2 A5.out).mono ?_); (case side1 => exact Kd.C_below HR178_1.out (by repeat (first | (with_reducible first | exact HB.out | apply below_alloc | apply pw_below_drewN | apply below_drew1 | refine below_set ?_ GE179.out) | exact HB.out))); (case side2 => exact HC178_1.out); rintro e w9 ⟨rfl, hb⟩; refine ⟨_, rfl, ?_⟩; have n0_ := Aside0.mk (blk_below (g := gb179) (o := .cells #[.bool ((rd_T60 l0 x7_1).f0), .slice A178_1 ((rd_T60 l0 x7_1).f1).length c178_1, .int .i64 ((rd_T60 l0 x7_1).f2)] 60 (0, 0)) (by (with_reducible repeat (first | refine blk_drewN ?_ _ | refine blk_drew ?_ | refine blk_alloc ?_ _)); refine blk_put (cs := #[.bool ((rd_T60 l0 x7_1).f0), .slice A178_1 ((rd_T60 l0 x7_1).f1).length c178_1, .int .i64 0]) ?_ 2 _ rfl; (with_reducible repeat (first | refine blk_drewN ?_ _ | refine blk_drew ?_ | refine blk_alloc ?_ _)); refine blk_put (cs := #[.bool ((rd_T60 l0 x7_1).f0), .slice none 0 0, .int .i64 0]) ?_ 1 _ rfl; (with_reducible repeat (first | refine blk_drewN ?_ _ | refine blk_drew ?_ | refine blk_alloc ?_ _)); refine blk_put (cs := #[.bool false, .slice none 0 0, .int .i64 0]) ?_ 0 _ rfl; (with_reducible repeat (first | refine blk_drewN ?_ _ | refine blk_drew ?_ | refine blk_alloc ?_ _)); exact BK179.out) hb); have n1_ := Aside0.mk (below_step (by repeat (first | (with_reducible first | exact HB.out | apply below_alloc | apply pw_below_drewN | apply below_drew1 | refine below_set ?_ GE179.out) | exact HB.out)) hb); clear BK179; clear HB; have BK179 := n0_; have HB := n1_; clear n0_ n1_; (try clear hb); (try clear hb2); (try clear hk); (try clear hi)))
       go_roundg k1
       case measure => have := HK1.out; omega
       case rel => exact ⟨(wrap64 (x7_1 + 1)), (by first | rfl | (simp; done) | (simp [*]; done)), H', ⟨by have := HK1.out; omega⟩, ⟨by repeat (first | (with_reducible first | exact HB.out | apply below_alloc | apply pw_below_drewN | apply below_drew1 | refine below_set ?_ GE179.out) | exact HB.out)⟩⟩
      ·replace c6 := Bool.eq_false_iff.mpr c6
       subst c6
       have H1 : (some false) = some r := by rw [if_neg (show ¬ (false = true) by decide)] at H; exact H
       clear H
       have H := H1
       clear H1
       obtain rfl := Option.some.inj H
       have p178 : 0 ≤ (x7_1 : Int) := of_decide_eq_true (by first | (with_reducible assumption) | assumption)
       have q178 : x7_1 < (l0.length : Int) := of_decide_eq_true (by first | (with_reducible assumption) | assumption)
       obtain ⟨ad178, A178_1, c178_1, e178, hx178_0, hx178_1, hx178_2, hl178_1, hi178_1⟩ := at_T60 HR0.out x7_1 p178 q178
       cases e178
       replace hx178_0 := (HB.out.cell (World.block_lt_of_cell? w _ hx178_0)).trans hx178_0
       replace hx178_1 := (HB.out.cell (World.block_lt_of_cell? w _ hx178_1)).trans hx178_1
       replace hx178_2 := (HB.out.cell (World.block_lt_of_cell? w _ hx178_2)).trans hx178_2
       have HR178_1 := Aside0.mk hi178_1
       have HC178_1 := Aside0.mk hl178_1
       clear hi178_1 hl178_1
       replace p178 := eq_true p178
       replace q178 := eq_true q178
       go_wp2_with (first | ((with_reducible refine gate_dst (N := 4) rfl ?_); refine box_event ?hg (N := 4) ?hd (cs := #[.bool false, .slice none 0 0, .int .i64 0]) (t := 60) ?hr ?_; (case hd => rfl); (case hg => rfl); (case hr => first | (go_simp; done) | (go_simp; rfl)); intro gb179 hg w10 hbox hb; have n0_ := Aside0.mk (below_step hbw hb); have n1_ := Aside0.mk (hbox); have n2_ := Aside0.mk ((by rw [hg]; exact (below_size hbw) : w.heap.size ≤ gb179)); have n3_ := Aside0.mk ((by rw [hg]; exact (below_size hbw) : w.heap.size ≤ gb179)); clear HB; have HB := n0_; have BK179 := n1_; have GW179 := n2_; have GE179 := n3_; clear n0_ n1_ n2_ n3_; clear hb hbox hg; have hcz11_0 : w10.cell? ⟨gb179, 0, none⟩ = some (.bool false) := (blk_cell BK179.out 0).trans rfl; have hcz11_1 : w10.cell? ⟨gb179, 1, none⟩ = some (.slice none 0 0) := (blk_cell BK179.out 1).trans rfl; have hcz11_2 : w10.cell? ⟨gb179, 2, none⟩ = some (.int .i64 0) := (blk_cell BK179.out 2).trans rfl; have hfz11_0 := blk_frozen BK179.out 0; have hfz11_1 := blk_frozen BK179.out 1; have hfz11_2 := blk_frozen BK179.out 2) | ((with_reducible refine gate_callee (f := 91) rfl ?_); refine goesL_ (some 12) rfl rfl Tryz.func91 (by kernel_rfl) rfl #[.agg #[.bool ((rd_T60 l0 x7_1).f0), .slice A178_1 ((rd_T60 l0 x7_1).f1).length c178_1, .int .i64 ((rd_T60 l0 x7_1).f2)]] rfl eqA ?_; (with_reducible refine (dyad_Valid.calls ((rd_T60 l0 x7_1).f0) _ _ ((rd_T60 l0 x7_1).f1) ((rd_T60 l0 x7_1).f2) false _ ?side1 ?side2 A5.out).mono ?_); (case side1 => exact Kd.C_below HR178_1.out (by repeat (first | (with_reducible first | exact HB.out | apply below_alloc | apply pw_below_drewN | apply below_drew1 | refine below_set ?_ GE179.out) | exact HB.out))); (case side2 => exact HC178_1.out); rintro e w12 ⟨rfl, hb⟩; refine ⟨_, rfl, ?_⟩; have n0_ := Aside0.mk (blk_below (g := gb179) (o := .cells #[.bool ((rd_T60 l0 x7_1).f0), .slice A178_1 ((rd_T60 l0 x7_1).f1).length c178_1, .int .i64 ((rd_T60 l0 x7_1).f2)] 60 (0, 0)) (by (with_reducible repeat (first | refine blk_drewN ?_ _ | refine blk_drew ?_ | refine blk_alloc ?_ _)); refine blk_put (cs := #[.bool ((rd_T60 l0 x7_1).f0), .slice A178_1 ((rd_T60 l0 x7_1).f1).length c178_1, .int .i64 0]) ?_ 2 _ rfl; (with_reducible repeat (first | refine blk_drewN ?_ _ | refine blk_drew ?_ | refine blk_alloc ?_ _)); refine blk_put (cs := #[.bool ((rd_T60 l0 x7_1).f0), .slice none 0 0, .int .i64 0]) ?_ 1 _ rfl; (with_reducible repeat (first | refine blk_drewN ?_ _ | refine blk_drew ?_ | refine blk_alloc ?_ _)); refine blk_put (cs := #[.bool false, .slice none 0 0, .int .i64 0]) ?_ 0 _ rfl; (with_reducible repeat (first | refine blk_drewN ?_ _ | refine blk_drew ?_ | refine blk_alloc ?_ _)); exact BK179.out) hb); have n1_ := Aside0.mk (below_step (by repeat (first | (with_reducible first | exact HB.out | apply below_alloc | apply pw_below_drewN | apply below_drew1 | refine below_set ?_ GE179.out) | exact HB.out)) hb); clear BK179; clear HB; have BK179 := n0_; have HB := n1_; clear n0_ n1_; (try clear hb); (try clear hb2); (try clear hk); (try clear hi)))
       go_ret
       exact ⟨by first | rfl | (simp [errW_none, errW_some] <;> rfl) | (simp [*, errW_none, errW_some] <;> rfl), by repeat (first | (with_reducible first | exact HB.out | apply below_alloc | apply pw_below_drewN | apply below_drew1 | refine below_set ?_ GE179.out) | exact HB.out)⟩
     ·rw [if_neg c4] at H
      exact absurd H (by simp)
    ·rw [if_neg c3] at H
     exact absurd H (by simp)
   ·rw [if_neg c2] at H
    have c2b0 : decide (x7_1 < (l0.length : Int)) = false := decide_eq_false c2
    clear c2
    obtain rfl := Option.some.inj H
    go_wp2
    go_ret
    exact ⟨by first | rfl | (simp [errW_none, errW_some] <;> rfl) | (simp [*, errW_none, errW_some] <;> rfl), hbw⟩
def dyad_Neg.f (a0_0 : Bool) (l0_1 : List Int) (a0_2 : Int) : Option (Bool × List Int × Int) := (dyad_Valid.f a0_0 l0_1 a0_2).bind fun t183 => (if t183 = true then (if (l0_1.length : Int) = 0 then (some (false, ([] : List Int), 0)) else ((some (([] : List Int) : List Int)).bind fun y184 => (if y184.length + l0_1.length < 35184372088832 then (some (!a0_0, (y184 ++ l0_1), a0_2)) else (none)))) else (some (false, ([] : List Int), 0)))
def dyad_Neg.T3 : Bool × List (List Nat × List Nat) := (true, [([], []), ([0], [0]), ([1], [1]), ([], []), ([], []), ([4], [4]), ([3, 5], [3, 5]), ([], []), ([7], [7]), ([2, 6, 8], [2, 6, 8]), ([9, 6, 0, 1, 2, 3, 4, 5, 6, 7, 8, 9], [9])])
def dyad_Neg.B3 : List Nat := [0, 1, 3, 0, 0, 16, 56, 0, 128, 511, 1023]
theorem dyad_Neg.tab3 : rtab .any (opsOf Tryz.f89 3) = dyad_Neg.T3 := by kernel_rfl
theorem dyad_Neg.bits3 : waitsOk dyad_Neg.T3.2 dyad_Neg.B3 = true := by kernel_rfl
set_option maxHeartbeats 8000000 in
set_option maxRecDepth 100000 in
theorem dyad_Neg.calls (a0_0 : Bool) (A0_1 : Option Addr) (c0_1 : Nat) (l0_1 : List Int) (a0_2 : Int) (r1 : Bool) (r2 : List Int) (r3 : Int) (w : World) (hr0_1 : Kd.C (Kd.int .u32) w A0_1 l0_1.length l0_1) (hc0_1 : l0_1.length ≤ c0_1) (h : dyad_Neg.f a0_0 l0_1 a0_2 = some (r1, r2, r3)) :
  Calls Tryz.prog 89 #[.agg #[.bool a0_0, .slice A0_1 l0_1.length c0_1, .int .i64 a0_2]] w fun e w' => ∃ v1_ : Value, e = .returned (.agg #[.bool r1, v1_, .int .i64 r3]) ∧ Kd.R (Kd.int .u32) 83 w' w.heap.size (fun _ => True) v1_ r2 ∧ Below w.heap.size w w' := by
 have hu60 := Tryz.underlying60
 have HR0_1 := Aside0.mk hr0_1
 have HC0_1 := Aside0.mk hc0_1
 clear hr0_1 hc0_1
 have HB := Aside0.mk (Below.refl w.heap.size w)
 have H : ((dyad_Valid.f a0_0 l0_1 a0_2).bind fun t183 => (if t183 = true then (if (l0_1.length : Int) = 0 then (some (false, ([] : List Int), 0)) else ((some (([] : List Int) : List Int)).bind fun y184 => (if y184.length + l0_1.length < 35184372088832 then (some (!a0_0, (y184 ++ l0_1), a0_2)) else (none)))) else (some (false, ([] : List Int), 0)))) = some (r1, r2, r3) := h
 clear h
 replace H := Option.bind_eq_some_iff.mp H
 obtain ⟨t183, A20, H⟩ := H
 replace H : (if t183 = true then (if (l0_1.length : Int) = 0 then (some (false, ([] : List Int), 0)) else ((some (([] : List Int) : List Int)).bind fun y184 => (if y184.length + l0_1.length < 35184372088832 then (some (!a0_0, (y184 ++ l0_1), a0_2)) else (none)))) else (some (false, ([] : List Int), 0))) = some (r1, r2, r3) := H
 have A2 := Aside0.mk A20
 clear A20
 by_cases c3 : t183 = true
 ·subst c3
  have H1 : (if (l0_1.length : Int) = 0 then (some (false, ([] : List Int), 0)) else ((some (([] : List Int) : List Int)).bind fun y184 => (if y184.length + l0_1.length < 35184372088832 then (some (!a0_0, (y184 ++ l0_1), a0_2)) else (none)))) = some (r1, r2, r3) := by rw [if_pos rfl] at H; exact H
  clear H
  have H := H1
  clear H1
  by_cases c4 : (l0_1.length : Int) = 0
  ·rw [if_pos c4] at H
   have c4b0 : ((l0_1.length : Int) == 0) = true := beq_iff_eq.mpr c4
   have c4b1 : ((l0_1.length : Int) != 0) = false := bne_eq_false_iff_eq.mpr c4
   clear c4
   simp only [Option.some.injEq, Prod.mk.injEq] at H
   obtain ⟨rfl, rfl, rfl⟩ := H
   go_enter Tryz.func89, Tryz.ntmps89
   go_wp2_with (first | ((with_reducible refine gate_dst (N := 1) rfl ?_); (try (refine gate_guard (by rfl) ?_; dsimp only)); refine box_event ?hg (N := 1) ?hd (cs := #[.bool a0_0, .slice A0_1 l0_1.length c0_1, .int .i64 a0_2]) (t := 60) ?hr ?_; (case hd => rfl); (case hg => rfl); (case hr => first | (go_simp; done) | (go_simp; rfl)); intro gb181 hg w5 hbox hb; have n0_ := Aside0.mk (below_step hbw hb); have n1_ := Aside0.mk (hbox); have n2_ := Aside0.mk ((by rw [hg]; exact (below_size hbw) : w.heap.size ≤ gb181)); have n3_ := Aside0.mk ((by rw [hg]; exact (below_size hbw) : w.heap.size ≤ gb181)); clear HB; have HB := n0_; have BK181 := n1_; have GW181 := n2_; have GE181 := n3_; clear n0_ n1_ n2_ n3_; clear hb hbox hg) | ((with_reducible refine gate_dst (N := 2) rfl ?_); (try (refine gate_guard (by rfl) ?_; dsimp only)); refine box_event ?hg (N := 2) ?hd (cs := #[.bool false, .slice none 0 0, .int .i64 0]) (t := 60) ?hr ?_; (case hd => rfl); (case hg => rfl); (case hr => first | (go_simp; done) | (go_simp; rfl)); intro gb182 hg w6 hbox hb; have n0_ := Aside0.mk (blk_below (g := gb181) (o := .cells #[.bool a0_0, .slice A0_1 l0_1.length c0_1, .int .i64 a0_2] 60 (0, 0)) (blkU BK181.out) hb); have n1_ := Aside0.mk (below_step (by repeat (first | (with_reducible first | exact HB.out | apply below_alloc | apply pw_below_drewN | apply below_drew1 | refine below_set ?_ GE181.out) | exact HB.out)) hb); have n2_ := Aside0.mk (hbox); have n3_ := Aside0.mk ((by rw [hg]; exact (below_size (by repeat (first | (with_reducible first | exact HB.out | apply below_alloc | apply pw_below_drewN | apply below_drew1 | refine below_set ?_ GE181.out) | exact HB.out))) : w.heap.size ≤ gb182)); have n4_ := Aside0.mk ((by rw [hg]; exact (below_size (by repeat (first | (with_reducible first | exact HB.out | apply below_alloc | apply pw_below_drewN | apply below_drew1 | refine below_set ?_ GE181.out) | exact HB.out))) : w.heap.size ≤ gb182)); have n5_ := Aside0.mk ((by rw [hg]; exact Nat.ne_of_lt (blk_lt (g := gb181) (o := .cells #[.bool a0_0, .slice A0_1 l0_1.length c0_1, .int .i64 a0_2] 60 (0, 0)) (blkU BK181.out)) : gb181 ≠ gb182)); have n6_ := Aside0.mk ((by rw [hg]; exact Nat.ne_of_gt (blk_lt (g := gb181) (o := .cells #[.bool a0_0, .slice A0_1 l0_1.length c0_1, .int .i64 a0_2] 60 (0, 0)) (blkU BK181.out)) : gb182 ≠ gb181)); clear BK181; clear HB; have BK181 := n0_; have HB := n1_; have BK182 := n2_; have GW182 := n3_; have GE182 := n4_; have NB181_182 := n5_; have NB182_181 := n6_; clear n0_ n1_ n2_ n3_ n4_ n5_ n6_; clear hb hbox hg; have hnb7 := NB181_182.out; have hnc7 := NB182_181.out; have hcz8_0 : w6.cell? ⟨gb181, 0, none⟩ = some (.bool a0_0) := (blk_cell BK181.out 0).trans rfl; have hcz8_1 : w6.cell? ⟨gb181, 1, none⟩ = some (.slice A0_1 l0_1.length c0_1) := (blk_cell BK181.out 1).trans rfl; have hcz8_2 : w6.cell? ⟨gb181, 2, none⟩ = some (.int .i64 a0_2) := (blk_cell BK181.out 2).trans rfl; have hfz8_0 := blk_frozen BK181.out 0; have hfz8_1 := blk_frozen BK181.out 1; have hfz8_2 := blk_frozen BK181.out 2) | ((with_reducible refine gate_callee (f := 91) rfl ?_); refine goesL_ (some 4) rfl rfl Tryz.func91 (by kernel_rfl) rfl #[.agg #[.bool a0_0, .slice A0_1 l0_1.length c0_1, .int .i64 a0_2]] rfl eqA ?_; (with_reducible refine (dyad_Valid.calls a0_0 _ _ l0_1 a0_2 true _ ?side1 ?side2 A2.out).mono ?_); (case side1 => repeat (first | exact (Kd.C_below HR0_1.out HB.out) | (with_reducible refine Kd.C_alloc ?_ _) | (with_reducible refine Kd.C_drewN ?_ _) | (with_reducible refine Kd.C_drew ?_))); (case side2 => exact HC0_1.out); rintro e w9 ⟨rfl, hb⟩; refine ⟨_, rfl, ?_⟩; have n0_ := Aside0.mk (blk_below (g := gb181) (o := .cells #[.bool a0_0, .slice A0_1 l0_1.length c0_1, .int .i64 a0_2] 60 (0, 0)) (blkU BK181.out) hb); have n1_ := Aside0.mk (blk_below (g := gb182) (o := .cells #[.bool false, .slice none 0 0, .int .i64 0] 60 (0, 0)) (blkU BK182.out) hb); have n2_ := Aside0.mk (below_step (by repeat (first | (with_reducible first | exact HB.out | apply below_alloc | apply pw_below_drewN | apply below_drew1 | refine below_set ?_ GE181.out | refine below_set ?_ GE182.out) | exact HB.out)) hb); clear BK181; clear BK182; clear HB; have BK181 := n0_; have BK182 := n1_; have HB := n2_; clear n0_ n1_ n2_; (try clear hb); (try clear hb2); (try clear hk); (try clear hi); have hcz10_0 : w9.cell? ⟨gb181, 0, none⟩ = some (.bool a0_0) := (blk_cell BK181.out 0).trans rfl; have hcz10_1 : w9.cell? ⟨gb181, 1, none⟩ = some (.slice A0_1 l0_1.length c0_1) := (blk_cell BK181.out 1).trans rfl; have hcz10_2 : w9.cell? ⟨gb181, 2, none⟩ = some (.int .i64 a0_2) := (blk_cell BK181.out 2).trans rfl; have hfz10_0 := blk_frozen BK181.out 0; have hfz10_1 := blk_frozen BK181.out 1; have hfz10_2 := blk_frozen BK181.out 2; have hcz11_0 : w9.cell? ⟨gb182, 0, none⟩ = some (.bool false) := (blk_cell BK182.out 0).trans rfl; have hcz11_1 : w9.cell? ⟨gb182, 1, none⟩ = some (.slice none 0 0) := (blk_cell BK182.out 1).trans rfl; have hcz11_2 : w9.cell? ⟨gb182, 2, none⟩ = some (.int .i64 0) := (blk_cell BK182.out 2).trans rfl; have hfz11_0 := blk_frozen BK182.out 0; have hfz11_1 := blk_frozen BK182.out 1; have hfz11_2 := blk_frozen BK182.out 2))
   refine bodyPost_ret (results_cell_row rfl _ _ gb182 60 #[.bool false, .slice none 0 0, .int .i64 0] (0, 0) _ rfl (by (with_reducible repeat (first | refine blk_drewN ?_ _ | refine blk_drew ?_ | refine blk_alloc ?_ _)); refine blk_put (cs := #[.bool false, .slice none 0 0, .int .i64 0]) ?_ 2 _ rfl; (with_reducible repeat (first | refine blk_drewN ?_ _ | refine blk_drew ?_ | refine blk_alloc ?_ _)); refine blk_put (cs := #[.bool false, .slice none 0 0, .int .i64 0]) ?_ 1 _ rfl; (with_reducible repeat (first | refine blk_drewN ?_ _ | refine blk_drew ?_ | refine blk_alloc ?_ _)); refine blk_put (cs := #[.bool false, .slice none 0 0, .int .i64 0]) ?_ 0 _ rfl; (with_reducible repeat (first | refine blk_drewN ?_ _ | refine blk_drew ?_ | refine blk_alloc ?_ _)); exact BK182.out) Tryz.underlying60 rfl (by kernel_rfl)) rfl ?_
   exact ⟨_, by first | rfl | (simp [errW_none, errW_some] <;> rfl) | (simp [*, errW_none, errW_some] <;> rfl), by first | exact Kd.R_nil _ _ _ _ _ | exact Kd.N_nil _ _ _ _ _ | exact Kd.V_nil _ _ _ _ _ | exact Kd.Q_nil _ _ _ _ _ | exact Kd.S_nil _ _ _ _ _, by repeat (first | (with_reducible first | exact HB.out | apply below_alloc | apply pw_below_drewN | apply below_drew1 | refine below_set ?_ GE181.out | refine below_set ?_ GE182.out) | exact HB.out)⟩
  ·rw [if_neg c4] at H
   have c4b0 : ((l0_1.length : Int) == 0) = false := beq_eq_false_iff_ne.mpr c4
   have c4b1 : ((l0_1.length : Int) != 0) = true := bne_iff_ne.mpr c4
   have c4b2 : ¬ (l0_1 = []) := fun h_ => c4 (by rw [h_]; rfl)
   obtain ⟨y184, hy184⟩ : ∃ y_ : List Int, y_ = (([] : List Int)) := ⟨_, rfl⟩
   replace H : (if y184.length + l0_1.length < 35184372088832 then (some (!a0_0, (y184 ++ l0_1), a0_2)) else (none)) = some (r1, r2, r3) := by first | (rw [hy184]; with_reducible exact H) | (have H2_ := (Option.bind_some _ _).symm.trans H; rw [hy184]; with_reducible exact H2_) | (have H2_ := (Option.bind_some _ _).symm.trans H; with_reducible exact H2_) | with_reducible exact H | (rw [hy184]; exact H) | exact H
   have Ny184 := Aside0.mk hy184
   clear hy184
   by_cases c12 : y184.length + l0_1.length < 35184372088832
   ·rw [if_pos c12] at H
    have LMc12 := Aside0.mk c12
    clear c12
    obtain ⟨y187, hy187⟩ : ∃ y_ : List Int, y_ = (y184 ++ l0_1) := ⟨_, rfl⟩
    replace H : (some (!a0_0, y187, a0_2)) = some (r1, r2, r3) := by first | (rw [hy187]; with_reducible exact H) | (have H2_ := (Option.bind_some _ _).symm.trans H; rw [hy187]; with_reducible exact H2_) | (have H2_ := (Option.bind_some _ _).symm.trans H; with_reducible exact H2_) | with_reducible exact H | (rw [hy187]; exact H) | exact H
    have Ny187 := Aside0.mk hy187
    clear hy187
    simp only [Option.some.injEq, Prod.mk.injEq] at H
    obtain ⟨rfl, rfl, rfl⟩ := H
    go_enter Tryz.func89, Tryz.ntmps89
    try go_wp2_with (first | ((with_reducible refine gate_dst (N := 1) rfl ?_); (try (refine gate_guard (by rfl) ?_; dsimp only)); refine box_event ?hg (N := 1) ?hd (cs := #[.bool a0_0, .slice A0_1 l0_1.length c0_1, .int .i64 a0_2]) (t := 60) ?hr ?_; (case hd => rfl); (case hg => rfl); (case hr => first | (go_simp; done) | (go_simp; rfl)); intro gb181 hg w13 hbox hb; have n0_ := Aside0.mk (below_step hbw hb); have n1_ := Aside0.mk (hbox); have n2_ := Aside0.mk ((by rw [hg]; exact (below_size hbw) : w.heap.size ≤ gb181)); have n3_ := Aside0.mk ((by rw [hg]; exact (below_size hbw) : w.heap.size ≤ gb181)); clear HB; have HB := n0_; have BK181 := n1_; have GW181 := n2_; have GE181 := n3_; clear n0_ n1_ n2_ n3_; clear hb hbox hg) | ((with_reducible refine gate_dst (N := 2) rfl ?_); (try (refine gate_guard (by rfl) ?_; dsimp only)); refine box_event ?hg (N := 2) ?hd (cs := #[.bool false, .slice none 0 0, .int .i64 0]) (t := 60) ?hr ?_; (case hd => rfl); (case hg => rfl); (case hr => first | (go_simp; done) | (go_simp; rfl)); intro gb182 hg w14 hbox hb; have n0_ := Aside0.mk (blk_below (g := gb181) (o := .cells #[.bool a0_0, .slice A0_1 l0_1.length c0_1, .int .i64 a0_2] 60 (0, 0)) (blkU BK181.out) hb); have n1_ := Aside0.mk (below_step (by repeat (first | (with_reducible first | exact HB.out | apply below_alloc | apply pw_below_drewN | apply below_drew1 | refine below_set ?_ GE181.out) | exact HB.out)) hb); have n2_ := Aside0.mk (hbox); have n3_ := Aside0.mk ((by rw [hg]; exact (below_size (by repeat (first | (with_reducible first | exact HB.out | apply below_alloc | apply pw_below_drewN | apply below_drew1 | refine below_set ?_ GE181.out) | exact HB.out))) : w.heap.size ≤ gb182)); have n4_ := Aside0.mk ((by rw [hg]; exact (below_size (by repeat (first | (with_reducible first | exact HB.out | apply below_alloc | apply pw_below_drewN | apply below_drew1 | refine below_set ?_ GE181.out) | exact HB.out))) : w.heap.size ≤ gb182)); have n5_ := Aside0.mk ((by rw [hg]; exact Nat.ne_of_lt (blk_lt (g := gb181) (o := .cells #[.bool a0_0, .slice A0_1 l0_1.length c0_1, .int .i64 a0_2] 60 (0, 0)) (blkU BK181.out)) : gb181 ≠ gb182)); have n6_ := Aside0.mk ((by rw [hg]; exact Nat.ne_of_gt (blk_lt (g := gb181) (o := .cells #[.bool a0_0, .slice A0_1 l0_1.length c0_1, .int .i64 a0_2] 60 (0, 0)) (blkU BK181.out)) : gb182 ≠ gb181)); clear BK181; clear HB; have BK181 := n0_; have HB := n1_; have BK182 := n2_; have GW182 := n3_; have GE182 := n4_; have NB181_182 := n5_; have NB182_181 := n6_; clear n0_ n1_ n2_ n3_ n4_ n5_ n6_; clear hb hbox hg; have hnb15 := NB181_182.out; have hnc15 := NB182_181.out; have hcz16_0 : w14.cell? ⟨gb181, 0, none⟩ = some (.bool a0_0) := (blk_cell BK181.out 0).trans rfl; have hcz16_1 : w14.cell? ⟨gb181, 1, none⟩ = some (.slice A0_1 l0_1.length c0_1) := (blk_cell BK181.out 1).trans rfl; have hcz16_2 : w14.cell? ⟨gb181, 2, none⟩ = some (.int .i64 a0_2) := (blk_cell BK181.out 2).trans rfl; have hfz16_0 := blk_frozen BK181.out 0; have hfz16_1 := blk_frozen BK181.out 1; have hfz16_2 := blk_frozen BK181.out 2) | ((with_reducible refine gate_callee (f := 91) rfl ?_); refine goesL_ (some 4) rfl rfl Tryz.func91 (by kernel_rfl) rfl #[.agg #[.bool a0_0, .slice A0_1 l0_1.length c0_1, .int .i64 a0_2]] rfl eqA ?_; (with_reducible refine (dyad_Valid.calls a0_0 _ _ l0_1 a0_2 true _ ?side1 ?side2 A2.out).mono ?_); (case side1 => repeat (first | exact (Kd.C_below HR0_1.out HB.out) | (with_reducible refine Kd.C_alloc ?_ _) | (with_reducible refine Kd.C_drewN ?_ _) | (with_reducible refine Kd.C_drew ?_))); (case side2 => exact HC0_1.out); rintro e w17 ⟨rfl, hb⟩; refine ⟨_, rfl, ?_⟩; have n0_ := Aside0.mk (blk_below (g := gb181) (o := .cells #[.bool a0_0, .slice A0_1 l0_1.length c0_1, .int .i64 a0_2] 60 (0, 0)) (blkU BK181.out) hb); have n1_ := Aside0.mk (blk_below (g := gb182) (o := .cells #[.bool false, .slice none 0 0, .int .i64 0] 60 (0, 0)) (blkU BK182.out) hb); have n2_ := Aside0.mk (below_step (by repeat (first | (with_reducible first | exact HB.out | apply below_alloc | apply pw_below_drewN | apply below_drew1 | refine below_set ?_ GE181.out | refine below_set ?_ GE182.out) | exact HB.out)) hb); clear BK181; clear BK182; clear HB; have BK181 := n0_; have BK182 := n1_; have HB := n2_; clear n0_ n1_ n2_; (try clear hb); (try clear hb2); (try clear hk); (try clear hi); have hcz18_0 : w17.cell? ⟨gb181, 0, none⟩ = some (.bool a0_0) := (blk_cell BK181.out 0).trans rfl; have hcz18_1 : w17.cell? ⟨gb181, 1, none⟩ = some (.slice A0_1 l0_1.length c0_1) := (blk_cell BK181.out 1).trans rfl; have hcz18_2 : w17.cell? ⟨gb181, 2, none⟩ = some (.int .i64 a0_2) := (blk_cell BK181.out 2).trans rfl; have hfz18_0 := blk_frozen BK181.out 0; have hfz18_1 := blk_frozen BK181.out 1; have hfz18_2 := blk_frozen BK181.out 2))
    have n0_ := Aside0.mk (blk_drew BK181.out)
    have n1_ := Aside0.mk (blk_drew BK182.out)
    have n2_ := Aside0.mk (below_drew1 HB.out)
    clear BK181
    clear BK182
    clear HB
    have BK181 := n0_
    have BK182 := n1_
    have HB := n2_
    clear n0_ n1_ n2_
    refine start_ (n := 11) (S := fun w' => w'.cell? ⟨gb181, 0, none⟩ = some (.bool a0_0) ∧ w'.cell? ⟨gb181, 1, none⟩ = some (.slice A0_1 l0_1.length c0_1) ∧ w'.cell? ⟨gb181, 2, none⟩ = some (.int .i64 a0_2)) (ds := []) #[false, false, false, false, false, false, false, false, false, false, false] (by kernel_rfl) rfl rfl ⟨(blk_cell BK181.out 0).trans rfl, (blk_cell BK181.out 1).trans rfl, (blk_cell BK181.out 2).trans rfl⟩ (fun hHeld => ?_); refine with_tabW dyad_Neg.tab3 dyad_Neg.bits3 (fun HT_ HW_ => ?_)
    generalize w17.drew = w19 at BK181 BK182 HB hHeld ⊢
    refine pure_ (i := 0) (N := some 13) (v := ?_) (a' := ?_) #[true, false, false, false, false, false, false, false, false, false, false] rfl rfl (any_of HT_.out (by kernel_rfl)) (fun _ _ _ h => h) (Or.inl ⟨by rfl, ?_⟩) ?_ ?_
    rotate_left
    ·intro w'
     go_simp
     with_reducible rfl
    rotate_left
    ·simp only [Act.put, List.setIfInBounds_toArray, List.set_cons_zero, List.set_cons_succ, i64_w, i32_w]
     rfl
    refine pure_ (i := 4) (N := some 17) (v := ?_) (a' := ?_) #[true, false, false, false, true, false, false, false, false, false, false] rfl rfl (any_of HT_.out (by kernel_rfl)) (fun _ _ _ h => h) (Or.inl ⟨by rfl, ?_⟩) ?_ ?_
    rotate_left
    ·intro w'
     go_simp
     with_reducible rfl
    rotate_left
    ·simp only [Act.put, List.setIfInBounds_toArray, List.set_cons_zero, List.set_cons_succ, i64_w, i32_w]
     rfl
    refine pure_ (i := 7) (N := some 20) (v := ?_) (a' := ?_) #[true, false, false, false, true, false, false, true, false, false, false] rfl rfl (any_of HT_.out (by kernel_rfl)) (fun _ _ _ h => h) (Or.inl ⟨by rfl, ?_⟩) ?_ ?_
    rotate_left
    ·intro w'
     go_simp
     with_reducible rfl
    rotate_left
    ·simp only [Act.put, List.setIfInBounds_toArray, List.set_cons_zero, List.set_cons_succ, i64_w, i32_w]
     rfl
    refine take_ (i := 1) (N := some 14) (v := ?_) (a' := ?_) #[true, true, false, false, true, false, false, true, false, false, false] rfl rfl (take_ofW HT_.out HW_.out (by kernel_rfl)) (fun _ _ _ h => h) (Or.inl ⟨by rfl, ?_⟩) hHeld ?_ ?_
    rotate_left
    ·rintro w' ⟨s0, s1, s2⟩
     go_simp
     with_reducible rfl
    rotate_left
    ·simp only [Act.put, List.setIfInBounds_toArray, List.set_cons_zero, List.set_cons_succ, i64_w, i32_w]
     rfl
    refine pure_ (i := 2) (N := some 15) (v := ?_) (a' := ?_) #[true, true, true, false, true, false, false, true, false, false, false] rfl rfl (any_of HT_.out (by kernel_rfl)) (fun _ _ _ h => h) (Or.inl ⟨by rfl, ?_⟩) ?_ ?_
    rotate_left
    ·intro w'
     go_simp
     with_reducible rfl
    rotate_left
    ·simp only [Act.put, List.setIfInBounds_toArray, List.set_cons_zero, List.set_cons_succ, i64_w, i32_w]
     rfl
    refine take_ (i := 5) (N := some 18) (v := ?_) (a' := ?_) #[true, true, true, false, true, true, false, true, false, false, false] rfl rfl (take_ofW HT_.out HW_.out (by kernel_rfl)) (fun _ _ _ h => h) (Or.inl ⟨by rfl, ?_⟩) hHeld ?_ ?_
    rotate_left
    ·rintro w' ⟨s0, s1, s2⟩
     go_simp
     with_reducible rfl
    rotate_left
    ·simp only [Act.put, List.setIfInBounds_toArray, List.set_cons_zero, List.set_cons_succ, i64_w, i32_w]
     rfl
    refine take_ (i := 8) (N := some 21) (v := ?_) (a' := ?_) #[true, true, true, false, true, true, false, true, true, false, false] rfl rfl (take_ofW HT_.out HW_.out (by kernel_rfl)) (fun _ _ _ h => h) (Or.inl ⟨by rfl, ?_⟩) hHeld ?_ ?_
    rotate_left
    ·rintro w' ⟨s0, s1, s2⟩
     go_simp
     with_reducible rfl
    rotate_left
    ·simp only [Act.put, List.setIfInBounds_toArray, List.set_cons_zero, List.set_cons_succ, i64_w, i32_w]
     rfl
    refine one_ (i := 3) (N := some 16) #[true, true, true, true, true, true, false, true, true, false, false] rfl rfl (one_of HT_.out (by kernel_rfl)) (by decide) (fun K hK => ?_)
    refine Kd.R_lit_step (Kd.int .u32) _ 83 ?hg (N := 16) ?hd (xs := ([] : List Int)) (inner := []) (ok := fun _ => True) (okp := fun _ => True) ?hr ?hp (fun _ hk => hk) trivial (Below.refl _ _) (Nat.le_refl _) (by simp) ?_; (case hd => rfl); (case hg => rfl); (case hr => first | (go_simp; done) | (go_simp; rfl)); (case hp => exact (Reps.none _ _))
    intro v185 w20 ho21 hb hg_ hnew_
    clear hg_ hnew_
    (first | rw [← Ny184.out] at ho21 | (simp only [Int.reduceToNat] at ho21; rw [← Ny184.out] at ho21))
    have n0_ := Aside0.mk (Kd.R_lower ho21 (below_size (by repeat (first | (with_reducible first | exact HB.out | apply below_alloc | apply pw_below_drewN | apply below_drew1 | refine below_set ?_ GE181.out | refine below_set ?_ GE182.out) | exact HB.out))))
    have n1_ := Aside0.mk (blk_below (g := gb181) (o := .cells #[.bool a0_0, .slice A0_1 l0_1.length c0_1, .int .i64 a0_2] 60 (0, 0)) (blkU BK181.out) hb)
    have n2_ := Aside0.mk (blk_below (g := gb182) (o := .cells #[.bool false, .slice none 0 0, .int .i64 0] 60 (0, 0)) (blkU BK182.out) hb)
    have n3_ := Aside0.mk (below_step (by repeat (first | (with_reducible first | exact HB.out | apply below_alloc | apply pw_below_drewN | apply below_drew1 | refine below_set ?_ GE181.out | refine below_set ?_ GE182.out) | exact HB.out)) hb)
    clear BK181
    clear BK182
    clear HB
    have HO186 := n0_
    have BK181 := n1_
    have BK182 := n2_
    have HB := n3_
    clear n0_ n1_ n2_ n3_
    clear hb ho21
    refine hK.out _ _ ⟨(blk_cell BK181.out 0).trans rfl, (blk_cell BK181.out 1).trans rfl, (blk_cell BK181.out 2).trans rfl⟩ (fun hHeld => ?_)
    clear hK K
    refine norm_ (a' := ?_) ?_ ?_
    rotate_left
    ·show Act.put _ (some 16) _ = _
     simp only [Act.put, List.setIfInBounds_toArray, List.set_cons_zero, List.set_cons_succ, i64_w, i32_w]
     rfl
    refine one_ (i := 6) (N := some 19) #[true, true, true, true, true, true, true, true, true, false, false] rfl rfl (one_of HT_.out (by kernel_rfl)) (by decide) (fun K hK => ?_)
    refine Kd.R_append_rows_step (Kd.int .u32) (w0 := w) w.heap.size (by rfl) (.tmp 16) (.tmp 18) 39 83 (.int .u32 0) 4 rfl Tryz.underlying39 info83 rfl (by decide) (by omega) v185 y184 l0_1 _ _ _ (fun _ => True) (fun _ => False) rfl rfl ?aO ?aR (fun _ _ h => h) (fun _ h => h.elim) ?aF ?aB ?aS ?aL ?_
    (case aR => repeat (first | exact (Kd.C_below HR0_1.out HB.out) | (with_reducible refine Kd.C_alloc ?_ _) | (with_reducible refine Kd.C_drewN ?_ _) | (with_reducible refine Kd.C_drew ?_)))
    (case aB => exact (by repeat (first | (with_reducible first | exact HB.out | apply below_alloc | apply pw_below_drewN | apply below_drew1 | refine below_set ?_ GE181.out | refine below_set ?_ GE182.out) | exact HB.out)))
    (case aF => exact (fun _ _ => trivial))
    (case aO => exact (rUp HO186.out))
    (case aS => exact (below_size (by repeat (first | (with_reducible first | exact HB.out | apply below_alloc | apply pw_below_drewN | apply below_drew1 | refine below_set ?_ GE181.out | refine below_set ?_ GE182.out) | exact HB.out))))
    (case aL => have := LMc12.out; omega)
    intro v188 w22 ho hb hg hat
    rw [← Ny187.out] at ho
    have n0_ := Aside0.mk (blk_grown (g := gb181) (o := .cells #[.bool a0_0, .slice A0_1 l0_1.length c0_1, .int .i64 a0_2] 60 (0, 0)) (blkU BK181.out) hg (Kd.R_ne HO186.out BK181.out (by decide)))
    have n1_ := Aside0.mk (blk_grown (g := gb182) (o := .cells #[.bool false, .slice none 0 0, .int .i64 0] 60 (0, 0)) (blkU BK182.out) hg (Kd.R_ne HO186.out BK182.out (by decide)))
    have n2_ := Aside0.mk (hb)
    have n3_ := Aside0.mk (ho)
    clear BK181
    clear BK182
    clear HB
    clear HO186
    have BK181 := n0_
    have BK182 := n1_
    have HB := n2_
    have HO189 := n3_
    clear n0_ n1_ n2_ n3_
    clear ho hb hg hat
    obtain ⟨Ao23, co23, eo23⟩ := Kd.R_slice HO189.out
    (first | subst eo23 | (injection eo23 with f1_ f2_ f3_; have f4_ := f1_.symm; have f5_ := f3_.symm; clear f1_ f2_ f3_; subst f4_; subst f5_))
    refine hK.out _ _ ⟨(blk_cell BK181.out 0).trans rfl, (blk_cell BK181.out 1).trans rfl, (blk_cell BK181.out 2).trans rfl⟩ (fun hHeld => ?_)
    clear hK K
    refine norm_ (a' := ?_) ?_ ?_
    rotate_left
    ·show Act.put _ (some 19) _ = _
     simp only [Act.put, List.setIfInBounds_toArray, List.set_cons_zero, List.set_cons_succ, i64_w, i32_w]
     rfl
    refine pure_ (i := 9) (N := some 22) (v := ?_) (a' := ?_) #[true, true, true, true, true, true, true, true, true, true, false] rfl rfl (any_of HT_.out (by kernel_rfl)) (fun _ _ _ h => h) (Or.inl ⟨by rfl, ?_⟩) ?_ ?_
    rotate_left
    ·intro w'
     go_simp
     with_reducible rfl
    rotate_left
    ·simp only [Act.put, List.setIfInBounds_toArray, List.set_cons_zero, List.set_cons_succ, i64_w, i32_w]
     rfl
    refine one_ (i := 10) (N := none) #[true, true, true, true, true, true, true, true, true, true, true] rfl rfl (one_of HT_.out (by kernel_rfl)) (by decide) (fun K hK => ?_)
    have hs24 : w22.cell? ⟨gb182, 0, none⟩ = some (.bool false) := (blk_cell BK182.out 0).trans rfl
    have hfs24 := blk_frozen BK182.out 0
    have hns24_0 := NB181_182.out
    have hms24_0 := NB182_181.out
    have hs25 : w22.cell? ⟨gb182, 1, none⟩ = some (.slice none 0 0) := (blk_cell BK182.out 1).trans rfl
    have hfs25 := blk_frozen BK182.out 1
    have hns25_0 := NB181_182.out
    have hms25_0 := NB182_181.out
    have hs26 : w22.cell? ⟨gb182, 2, none⟩ = some (.int .i64 0) := (blk_cell BK182.out 2).trans rfl
    have hfs26 := blk_frozen BK182.out 2
    have hns26_0 := NB181_182.out
    have hms26_0 := NB182_181.out
    refine skip_ (w1 := ?_) (by rfl) rfl ?_ ?_
    rotate_left
    ·go_simp
     rfl
    refine hK.out _ _ ⟨((cell_far (p := ⟨gb182, _, none⟩) NB181_182.out _).trans (((cell_far (p := ⟨gb182, _, none⟩) NB181_182.out _).trans (((cell_far (p := ⟨gb182, _, none⟩) NB181_182.out _).trans (hHeld.1)))))), ((cell_far (p := ⟨gb182, _, none⟩) NB181_182.out _).trans (((cell_far (p := ⟨gb182, _, none⟩) NB181_182.out _).trans (((cell_far (p := ⟨gb182, _, none⟩) NB181_182.out _).trans (hHeld.2.1)))))), ((cell_far (p := ⟨gb182, _, none⟩) NB181_182.out _).trans (((cell_far (p := ⟨gb182, _, none⟩) NB181_182.out _).trans (((cell_far (p := ⟨gb182, _, none⟩) NB181_182.out _).trans (hHeld.2.2))))))⟩ (fun hHeld => ?_)
    clear hK K
    refine done_ (done_of HT_.out (by kernel_rfl)) ?_
    try go_wp2
    refine bodyPost_ret (results_cell_row rfl _ _ gb182 60 #[.bool (!a0_0), .slice Ao23 y187.length co23, .int .i64 a0_2] (0, 0) _ rfl (by (with_reducible repeat (first | refine blk_drewN ?_ _ | refine blk_drew ?_ | refine blk_alloc ?_ _)); refine blk_put (cs := #[.bool (!a0_0), .slice Ao23 y187.length co23, .int .i64 0]) ?_ 2 _ rfl; (with_reducible repeat (first | refine blk_drewN ?_ _ | refine blk_drew ?_ | refine blk_alloc ?_ _)); refine blk_put (cs := #[.bool (!a0_0), .slice none 0 0, .int .i64 0]) ?_ 1 _ rfl; (with_reducible repeat (first | refine blk_drewN ?_ _ | refine blk_drew ?_ | refine blk_alloc ?_ _)); refine blk_put (cs := #[.bool false, .slice none 0 0, .int .i64 0]) ?_ 0 _ rfl; (with_reducible repeat (first | refine blk_drewN ?_ _ | refine blk_drew ?_ | refine blk_alloc ?_ _)); exact BK182.out) Tryz.underlying60 rfl (by kernel_rfl)) rfl ?_
    exact ⟨_, by first | rfl | (simp [errW_none, errW_some] <;> rfl) | (simp [*, errW_none, errW_some] <;> rfl), by (with_reducible repeat (first | apply Kd.R_alloc | apply Kd.R_drewN | apply Kd.R_drew)); exact Kd.R_mono (Kd.R_far (p := ⟨gb182, 2, none⟩) (Kd.R_far (p := ⟨gb182, 1, none⟩) (Kd.R_far (p := ⟨gb182, 0, none⟩) (Kd.R_types HO189.out BK182.out (by decide)) (fun _ hk => hk.2) (.bool (!a0_0))) (fun _ hk => hk.2) (.slice Ao23 y187.length co23)) (fun _ hk => hk.2) (.int .i64 a0_2)) (fun _ hk => trivial), by repeat (first | (with_reducible first | exact HB.out | apply below_alloc | apply pw_below_drewN | apply below_drew1 | refine below_set ?_ GE181.out | refine below_set ?_ GE182.out) | exact HB.out)⟩
   ·rw [if_neg c12] at H
    exact absurd H (by simp)
 ·replace c3 := Bool.eq_false_iff.mpr c3
  subst c3
  have H1 : (some (false, ([] : List Int), 0)) = some (r1, r2, r3) := by rw [if_neg (show ¬ (false = true) by decide)] at H; exact H
  clear H
  have H := H1
  clear H1
  simp only [Option.some.injEq, Prod.mk.injEq] at H
  obtain ⟨rfl, rfl, rfl⟩ := H
  go_enter Tryz.func89, Tryz.ntmps89
  go_wp2_with (first | ((with_reducible refine gate_dst (N := 1) rfl ?_); (try (refine gate_guard (by rfl) ?_; dsimp only)); refine box_event ?hg (N := 1) ?hd (cs := #[.bool a0_0, .slice A0_1 l0_1.length c0_1, .int .i64 a0_2]) (t := 60) ?hr ?_; (case hd => rfl); (case hg => rfl); (case hr => first | (go_simp; done) | (go_simp; rfl)); intro gb181 hg w27 hbox hb; have n0_ := Aside0.mk (below_step hbw hb); have n1_ := Aside0.mk (hbox); have n2_ := Aside0.mk ((by rw [hg]; exact (below_size hbw) : w.heap.size ≤ gb181)); have n3_ := Aside0.mk ((by rw [hg]; exact (below_size hbw) : w.heap.size ≤ gb181)); clear HB; have HB := n0_; have BK181 := n1_; have GW181 := n2_; have GE181 := n3_; clear n0_ n1_ n2_ n3_; clear hb hbox hg) | ((with_reducible refine gate_dst (N := 2) rfl ?_); (try (refine gate_guard (by rfl) ?_; dsimp only)); refine box_event ?hg (N := 2) ?hd (cs := #[.bool false, .slice none 0 0, .int .i64 0]) (t := 60) ?hr ?_; (case hd => rfl); (case hg => rfl); (case hr => first | (go_simp; done) | (go_simp; rfl)); intro gb182 hg w28 hbox hb; have n0_ := Aside0.mk (blk_below (g := gb181) (o := .cells #[.bool a0_0, .slice A0_1 l0_1.length c0_1, .int .i64 a0_2] 60 (0, 0)) (blkU BK181.out) hb); have n1_ := Aside0.mk (below_step (by repeat (first | (with_reducible first | exact HB.out | apply below_alloc | apply pw_below_drewN | apply below_drew1 | refine below_set ?_ GE181.out) | exact HB.out)) hb); have n2_ := Aside0.mk (hbox); have n3_ := Aside0.mk ((by rw [hg]; exact (below_size (by repeat (first | (with_reducible first | exact HB.out | apply below_alloc | apply pw_below_drewN | apply below_drew1 | refine below_set ?_ GE181.out) | exact HB.out))) : w.heap.size ≤ gb182)); have n4_ := Aside0.mk ((by rw [hg]; exact (below_size (by repeat (first | (with_reducible first | exact HB.out | apply below_alloc | apply pw_below_drewN | apply below_drew1 | refine below_set ?_ GE181.out) | exact HB.out))) : w.heap.size ≤ gb182)); have n5_ := Aside0.mk ((by rw [hg]; exact Nat.ne_of_lt (blk_lt (g := gb181) (o := .cells #[.bool a0_0, .slice A0_1 l0_1.length c0_1, .int .i64 a0_2] 60 (0, 0)) (blkU BK181.out)) : gb181 ≠ gb182)); have n6_ := Aside0.mk ((by rw [hg]; exact Nat.ne_of_gt (blk_lt (g := gb181) (o := .cells #[.bool a0_0, .slice A0_1 l0_1.length c0_1, .int .i64 a0_2] 60 (0, 0)) (blkU BK181.out)) : gb182 ≠ gb181)); clear BK181; clear HB; have BK181 := n0_; have HB := n1_; have BK182 := n2_; have GW182 := n3_; have GE182 := n4_; have NB181_182 := n5_; have NB182_181 := n6_; clear n0_ n1_ n2_ n3_ n4_ n5_ n6_; clear hb hbox hg; have hnb29 := NB181_182.out; have hnc29 := NB182_181.out; have hcz30_0 : w28.cell? ⟨gb181, 0, none⟩ = some (.bool a0_0) := (blk_cell BK181.out 0).trans rfl; have hcz30_1 : w28.cell? ⟨gb181, 1, none⟩ = some (.slice A0_1 l0_1.length c0_1) := (blk_cell BK181.out 1).trans rfl; have hcz30_2 : w28.cell? ⟨gb181, 2, none⟩ = some (.int .i64 a0_2) := (blk_cell BK181.out 2).trans rfl; have hfz30_0 := blk_frozen BK181.out 0; have hfz30_1 := blk_frozen BK181.out 1; have hfz30_2 := blk_frozen BK181.out 2) | ((with_reducible refine gate_callee (f := 91) rfl ?_); refine goesL_ (some 4) rfl rfl Tryz.func91 (by kernel_rfl) rfl #[.agg #[.bool a0_0, .slice A0_1 l0_1.length c0_1, .int .i64 a0_2]] rfl eqA ?_; (with_reducible refine (dyad_Valid.calls a0_0 _ _ l0_1 a0_2 false _ ?side1 ?side2 A2.out).mono ?_); (case side1 => repeat (first | exact (Kd.C_below HR0_1.out HB.out) | (with_reducible refine Kd.C_alloc ?_ _) | (with_reducible refine Kd.C_drewN ?_ _) | (with_reducible refine Kd.C_drew ?_))); (case side2 => exact HC0_1.out); rintro e w31 ⟨rfl, hb⟩; refine ⟨_, rfl, ?_⟩; have n0_ := Aside0.mk (blk_below (g := gb181) (o := .cells #[.bool a0_0, .slice A0_1 l0_1.length c0_1, .int .i64 a0_2] 60 (0, 0)) (blkU BK181.out) hb); have n1_ := Aside0.mk (blk_below (g := gb182) (o := .cells #[.bool false, .slice none 0 0, .int .i64 0] 60 (0, 0)) (blkU BK182.out) hb); have n2_ := Aside0.mk (below_step (by repeat (first | (with_reducible first | exact HB.out | apply below_alloc | apply pw_below_drewN | apply below_drew1 | refine below_set ?_ GE181.out | refine below_set ?_ GE182.out) | exact HB.out)) hb); clear BK181; clear BK182; clear HB; have BK181 := n0_; have BK182 := n1_; have HB := n2_; clear n0_ n1_ n2_; (try clear hb); (try clear hb2); (try clear hk); (try clear hi); have hcz32_0 : w31.cell? ⟨gb182, 0, none⟩ = some (.bool false) := (blk_cell BK182.out 0).trans rfl; have hcz32_1 : w31.cell? ⟨gb182, 1, none⟩ = some (.slice none 0 0) := (blk_cell BK182.out 1).trans rfl; have hcz32_2 : w31.cell? ⟨gb182, 2, none⟩ = some (.int .i64 0) := (blk_cell BK182.out 2).trans rfl; have hfz32_0 := blk_frozen BK182.out 0; have hfz32_1 := blk_frozen BK182.out 1; have hfz32_2 := blk_frozen BK182.out 2))
  refine bodyPost_ret (results_cell_row rfl _ _ gb182 60 #[.bool false, .slice none 0 0, .int .i64 0] (0, 0) _ rfl (by (with_reducible repeat (first | refine blk_drewN ?_ _ | refine blk_drew ?_ | refine blk_alloc ?_ _)); refine blk_put (cs := #[.bool false, .slice none 0 0, .int .i64 0]) ?_ 2 _ rfl; (with_reducible repeat (first | refine blk_drewN ?_ _ | refine blk_drew ?_ | refine blk_alloc ?_ _)); refine blk_put (cs := #[.bool false, .slice none 0 0, .int .i64 0]) ?_ 1 _ rfl; (with_reducible repeat (first | refine blk_drewN ?_ _ | refine blk_drew ?_ | refine blk_alloc ?_ _)); refine blk_put (cs := #[.bool false, .slice none 0 0, .int .i64 0]) ?_ 0 _ rfl; (with_reducible repeat (first | refine blk_drewN ?_ _ | refine blk_drew ?_ | refine blk_alloc ?_ _)); exact BK182.out) Tryz.underlying60 rfl (by kernel_rfl)) rfl ?_
  exact ⟨_, by first | rfl | (simp [errW_none, errW_some] <;> rfl) | (simp [*, errW_none, errW_some] <;> rfl), by first | exact Kd.R_nil _ _ _ _ _ | exact Kd.N_nil _ _ _ _ _ | exact Kd.V_nil _ _ _ _ _ | exact Kd.Q_nil _ _ _ _ _ | exact Kd.S_nil _ _ _ _ _, by repeat (first | (with_reducible first | exact HB.out | apply below_alloc | apply pw_below_drewN | apply below_drew1 | refine below_set ?_ GE181.out | refine below_set ?_ GE182.out) | exact HB.out)⟩
end Go.Proofs.YthmeocigliephaaGreatDoor.PSu
end
section
namespace Go.Proofs.YthmeocigliephaaGreatDoor.PSu
open Go.RowKit Go.Proofs.YthmeocigliephaaGreatDoorW.PrintWords Go.Proofs.YthmeocigliephaaGreatDoorW.PrintLast Go.Proofs.YthmeocigliephaaGreatDoorW.PrintMore
attribute [local go_sem] f64bits_run f64from_run run_float_some max2_int min2_int max_two min_two max_three min_three max_four min_four
def dyad_Sub.f (k : Nat) (a0_0 : Bool) (l0_1 : List Int) (a0_2 : Int) (a1_0 : Bool) (l1_1 : List Int) (a1_2 : Int) : Option (Bool × List Int × Int × Int) := (dyad_valid.f k (([(⟨a0_0, l0_1, a0_2⟩ : S60), (⟨a1_0, l1_1, a1_2⟩ : S60)] : List (S60)))).bind fun t196 => (if t196 = true then ((dyad_Neg.f a1_0 l1_1 a1_2).bind fun bt197 => ((dyad_Add.f a0_0 l0_1 a0_2 bt197.1 bt197.2.1 bt197.2.2).bind fun bt202 => (some (bt202.1, bt202.2.1, bt202.2.2.1, bt202.2.2.2)))) else (some (false, ([] : List Int), 0, 1)))
def dyad_Sub.T3 : Bool × List (List Nat × List Nat) := (true, [([], []), ([], []), ([1], [1]), ([0, 2, 2], [0, 2]), ([3], [3]), ([3], [3]), ([4, 3, 0, 1, 2, 3, 4, 5], [4]), ([5, 6, 0, 1, 2, 3, 4, 5, 6], [5])])
def dyad_Sub.B3 : List Nat := [0, 0, 2, 7, 15, 15, 63, 127]
theorem dyad_Sub.tab3 : rtab .any (opsOf Tryz.f44 3) = dyad_Sub.T3 := by kernel_rfl
theorem dyad_Sub.bits3 : waitsOk dyad_Sub.T3.2 dyad_Sub.B3 = true := by kernel_rfl
set_option maxHeartbeats 8000000 in
set_option maxRecDepth 100000 in
theorem dyad_Sub.calls (k : Nat) (a0_0 : Bool) (P0_1_ : Nat → Prop) (A0_1 : Option Addr) (c0_1 : Nat) (l0_1 : List Int) (a0_2 : Int) (a1_0 : Bool) (P1_1_ : Nat → Prop) (A1_1 : Option Addr) (c1_1 : Nat) (l1_1 : List Int) (a1_2 : Int) (r1 : Bool) (r2 : List Int) (r3 : Int) (r4 : Int) (w : World) (hs0_1 : Kd.V (Kd.int .u32) 83 w w.heap.size (fun k_ => P0_1_ k_) (.slice A0_1 l0_1.length c0_1) l0_1) (hs1_1 : Kd.V (Kd.int .u32) 83 w w.heap.size (fun k_ => P1_1_ k_) (.slice A1_1 l1_1.length c1_1) l1_1) (h : dyad_Sub.f k a0_0 l0_1 a0_2 a1_0 l1_1 a1_2 = some (r1, r2, r3, r4)) (hL : Big.Laid w := by exact Big.Laid.step HL.out hbw) :
  Calls Tryz.prog 44 #[.agg #[.bool a0_0, .slice A0_1 l0_1.length c0_1, .int .i64 a0_2], .agg #[.bool a1_0, .slice A1_1 l1_1.length c1_1, .int .i64 a1_2]] w fun e w' => ∃ v1_ : Value, e = .returned (.tuple #[.agg #[.bool r1, v1_, .int .i64 r3], .int .i64 r4]) ∧ Kd.R (Kd.int .u32) 83 w' w.heap.size (fun k_ => (w.heap.size ≤ k_)) v1_ r2 ∧ Below w.heap.size w w' := by
 have HL := Aside0.mk hL
 clear hL
 have hu60 := Tryz.underlying60
 have HO0_1 := Aside0.mk (show Kd.V (Kd.int .u32) 83 w w.heap.size (fun k_ => ((P0_1_ k_ ∨ P1_1_ k_) ∨ w.heap.size ≤ k_)) (.slice A0_1 l0_1.length c0_1) l0_1 from Kd.V_mono hs0_1 (fun k_ hk => .inl (.inl hk)))
 have HO1_1 := Aside0.mk (show Kd.V (Kd.int .u32) 83 w w.heap.size (fun k_ => ((P0_1_ k_ ∨ P1_1_ k_) ∨ w.heap.size ≤ k_)) (.slice A1_1 l1_1.length c1_1) l1_1 from Kd.V_mono hs1_1 (fun k_ hk => .inl (.inr hk)))
 have HB := Aside0.mk (Below.refl w.heap.size w)
 have H : ((dyad_valid.f k (([(⟨a0_0, l0_1, a0_2⟩ : S60), (⟨a1_0, l1_1, a1_2⟩ : S60)] : List (S60)))).bind fun t196 => (if t196 = true then ((dyad_Neg.f a1_0 l1_1 a1_2).bind fun bt197 => ((dyad_Add.f a0_0 l0_1 a0_2 bt197.1 bt197.2.1 bt197.2.2).bind fun bt202 => (some (bt202.1, bt202.2.1, bt202.2.2.1, bt202.2.2.2)))) else (some (false, ([] : List Int), 0, 1)))) = some (r1, r2, r3, r4) := h
 clear h
 obtain ⟨y193, hy193⟩ : ∃ y_ : List (S60), y_ = (([(⟨a0_0, l0_1, a0_2⟩ : S60), (⟨a1_0, l1_1, a1_2⟩ : S60)] : List (S60))) := ⟨_, rfl⟩
 replace H : ((dyad_valid.f k y193).bind fun t196 => (if t196 = true then ((dyad_Neg.f a1_0 l1_1 a1_2).bind fun bt197 => ((dyad_Add.f a0_0 l0_1 a0_2 bt197.1 bt197.2.1 bt197.2.2).bind fun bt202 => (some (bt202.1, bt202.2.1, bt202.2.2.1, bt202.2.2.2)))) else (some (false, ([] : List Int), 0, 1)))) = some (r1, r2, r3, r4) := by first | (rw [hy193]; with_reducible exact H) | (have H2_ := (Option.bind_some _ _).symm.trans H; rw [hy193]; with_reducible exact H2_) | (have H2_ := (Option.bind_some _ _).symm.trans H; with_reducible exact H2_) | with_reducible exact H | (rw [hy193]; exact H) | exact H
 have Ny193 := Aside0.mk hy193
 clear hy193
 replace H := Option.bind_eq_some_iff.mp H
 obtain ⟨t196, A30, H⟩ := H
 replace H : (if t196 = true then ((dyad_Neg.f a1_0 l1_1 a1_2).bind fun bt197 => ((dyad_Add.f a0_0 l0_1 a0_2 bt197.1 bt197.2.1 bt197.2.2).bind fun bt202 => (some (bt202.1, bt202.2.1, bt202.2.2.1, bt202.2.2.2)))) else (some (false, ([] : List Int), 0, 1))) = some (r1, r2, r3, r4) := H
 have A3 := Aside0.mk A30
 clear A30
 by_cases c4 : t196 = true
 ·subst c4
  have H1 : ((dyad_Neg.f a1_0 l1_1 a1_2).bind fun bt197 => ((dyad_Add.f a0_0 l0_1 a0_2 bt197.1 bt197.2.1 bt197.2.2).bind fun bt202 => (some (bt202.1, bt202.2.1, bt202.2.2.1, bt202.2.2.2)))) = some (r1, r2, r3, r4) := by rw [if_pos rfl] at H; exact H
  clear H
  have H := H1
  clear H1
  replace H := Option.bind_eq_some_iff.mp H
  obtain ⟨⟨t197, t198, t201⟩, A50, H⟩ := H
  replace H : ((dyad_Add.f a0_0 l0_1 a0_2 t197 t198 t201).bind fun bt202 => (some (bt202.1, bt202.2.1, bt202.2.2.1, bt202.2.2.2))) = some (r1, r2, r3, r4) := H
  have A5 := Aside0.mk A50
  clear A50
  replace H := Option.bind_eq_some_iff.mp H
  obtain ⟨⟨t202, t203, t206, t207⟩, A60, H⟩ := H
  replace H : (some (t202, t203, t206, t207)) = some (r1, r2, r3, r4) := H
  have A6 := Aside0.mk A60
  clear A60
  simp only [Option.some.injEq, Prod.mk.injEq] at H
  obtain ⟨rfl, rfl, rfl, rfl⟩ := H
  go_enter Tryz.func44, Tryz.ntmps44
  try go_wp2_with (first | ((with_reducible refine gate_dst (N := 2) rfl ?_); refine box_event ?hg (N := 2) ?hd (cs := #[.bool a0_0, .slice A0_1 l0_1.length c0_1, .int .i64 a0_2]) (t := 60) ?hr ?_; (case hd => rfl); (case hg => rfl); (case hr => first | (go_simp; done) | (go_simp; rfl)); intro gb190 hg w7 hbox hb; have n0_ := Aside0.mk (Kd.V_below (Kd.V_elderB (by (with_reducible repeat (first | apply Kd.V_alloc | apply Kd.V_drewN | apply Kd.V_drew)); exact HO0_1.out) gb190 (Nat.le_of_eq hg.symm)) hb); have n1_ := Aside0.mk (Kd.V_below (Kd.V_elderB (by (with_reducible repeat (first | apply Kd.V_alloc | apply Kd.V_drewN | apply Kd.V_drew)); exact HO1_1.out) gb190 (Nat.le_of_eq hg.symm)) hb); have n2_ := Aside0.mk (below_step hbw hb); have n3_ := Aside0.mk (hbox); have n4_ := Aside0.mk ((by rw [hg]; exact (below_size hbw) : w.heap.size ≤ gb190)); have n5_ := Aside0.mk ((by rw [hg]; exact (below_size hbw) : w.heap.size ≤ gb190)); clear HO0_1; clear HO1_1; clear HB; have HO0_1 := n0_; have HO1_1 := n1_; have HB := n2_; have BK190 := n3_; have GW190 := n4_; have GE190 := n5_; clear n0_ n1_ n2_ n3_ n4_ n5_; clear hb hbox hg) | ((with_reducible refine gate_dst (N := 3) rfl ?_); refine box_event ?hg (N := 3) ?hd (cs := #[.bool a1_0, .slice A1_1 l1_1.length c1_1, .int .i64 a1_2]) (t := 60) ?hr ?_; (case hd => rfl); (case hg => rfl); (case hr => first | (go_simp; done) | (go_simp; rfl)); intro gb191 hg w8 hbox hb; have n0_ := Aside0.mk (Kd.V_below (Kd.V_elderB (by (with_reducible repeat (first | apply Kd.V_alloc | apply Kd.V_drewN | apply Kd.V_drew)); exact HO0_1.out) gb191 (Nat.le_of_eq hg.symm)) hb); have n1_ := Aside0.mk (Kd.V_below (Kd.V_elderB (by (with_reducible repeat (first | apply Kd.V_alloc | apply Kd.V_drewN | apply Kd.V_drew)); exact HO1_1.out) gb191 (Nat.le_of_eq hg.symm)) hb); have n2_ := Aside0.mk (blk_below (g := gb190) (o := .cells #[.bool a0_0, .slice A0_1 l0_1.length c0_1, .int .i64 a0_2] 60 (0, 0)) (blkU BK190.out) hb); have n3_ := Aside0.mk (below_step (by repeat (first | (with_reducible first | exact HB.out | apply below_alloc | apply pw_below_drewN | apply below_drew1 | refine below_set ?_ GE190.out) | exact HB.out)) hb); have n4_ := Aside0.mk (hbox); have n5_ := Aside0.mk ((by rw [hg]; exact (below_size (by repeat (first | (with_reducible first | exact HB.out | apply below_alloc | apply pw_below_drewN | apply below_drew1 | refine below_set ?_ GE190.out) | exact HB.out))) : w.heap.size ≤ gb191)); have n6_ := Aside0.mk ((by rw [hg]; exact (below_size (by repeat (first | (with_reducible first | exact HB.out | apply below_alloc | apply pw_below_drewN | apply below_drew1 | refine below_set ?_ GE190.out) | exact HB.out))) : w.heap.size ≤ gb191)); have n7_ := Aside0.mk ((by rw [hg]; exact Nat.ne_of_lt (blk_lt (g := gb190) (o := .cells #[.bool a0_0, .slice A0_1 l0_1.length c0_1, .int .i64 a0_2] 60 (0, 0)) (blkU BK190.out)) : gb190 ≠ gb191)); have n8_ := Aside0.mk ((by rw [hg]; exact Nat.ne_of_gt (blk_lt (g := gb190) (o := .cells #[.bool a0_0, .slice A0_1 l0_1.length c0_1, .int .i64 a0_2] 60 (0, 0)) (blkU BK190.out)) : gb191 ≠ gb190)); clear HO0_1; clear HO1_1; clear BK190; clear HB; have HO0_1 := n0_; have HO1_1 := n1_; have BK190 := n2_; have HB := n3_; have BK191 := n4_; have GW191 := n5_; have GE191 := n6_; have NB190_191 := n7_; have NB191_190 := n8_; clear n0_ n1_ n2_ n3_ n4_ n5_ n6_ n7_ n8_; clear hb hbox hg) | ((with_reducible refine gate_dst (N := 4) rfl ?_); refine box_event ?hg (N := 4) ?hd (cs := #[.bool false, .slice none 0 0, .int .i64 0]) (t := 60) ?hr ?_; (case hd => rfl); (case hg => rfl); (case hr => first | (go_simp; done) | (go_simp; rfl)); intro gb192 hg w9 hbox hb; have n0_ := Aside0.mk (Kd.V_below (Kd.V_elderB (by (with_reducible repeat (first | apply Kd.V_alloc | apply Kd.V_drewN | apply Kd.V_drew)); exact HO0_1.out) gb192 (Nat.le_of_eq hg.symm)) hb); have n1_ := Aside0.mk (Kd.V_below (Kd.V_elderB (by (with_reducible repeat (first | apply Kd.V_alloc | apply Kd.V_drewN | apply Kd.V_drew)); exact HO1_1.out) gb192 (Nat.le_of_eq hg.symm)) hb); have n2_ := Aside0.mk (blk_below (g := gb190) (o := .cells #[.bool a0_0, .slice A0_1 l0_1.length c0_1, .int .i64 a0_2] 60 (0, 0)) (blkU BK190.out) hb); have n3_ := Aside0.mk (blk_below (g := gb191) (o := .cells #[.bool a1_0, .slice A1_1 l1_1.length c1_1, .int .i64 a1_2] 60 (0, 0)) (blkU BK191.out) hb); have n4_ := Aside0.mk (below_step (by repeat (first | (with_reducible first | exact HB.out | apply below_alloc | apply pw_below_drewN | apply below_drew1 | refine below_set ?_ GE190.out | refine below_set ?_ GE191.out) | exact HB.out)) hb); have n5_ := Aside0.mk (hbox); have n6_ := Aside0.mk ((by rw [hg]; exact (below_size (by repeat (first | (with_reducible first | exact HB.out | apply below_alloc | apply pw_below_drewN | apply below_drew1 | refine below_set ?_ GE190.out | refine below_set ?_ GE191.out) | exact HB.out))) : w.heap.size ≤ gb192)); have n7_ := Aside0.mk ((by rw [hg]; exact (below_size (by repeat (first | (with_reducible first | exact HB.out | apply below_alloc | apply pw_below_drewN | apply below_drew1 | refine below_set ?_ GE190.out | refine below_set ?_ GE191.out) | exact HB.out))) : w.heap.size ≤ gb192)); have n8_ := Aside0.mk ((by rw [hg]; exact Nat.ne_of_lt (blk_lt (g := gb190) (o := .cells #[.bool a0_0, .slice A0_1 l0_1.length c0_1, .int .i64 a0_2] 60 (0, 0)) (blkU BK190.out)) : gb190 ≠ gb192)); have n9_ := Aside0.mk ((by rw [hg]; exact Nat.ne_of_gt (blk_lt (g := gb190) (o := .cells #[.bool a0_0, .slice A0_1 l0_1.length c0_1, .int .i64 a0_2] 60 (0, 0)) (blkU BK190.out)) : gb192 ≠ gb190)); have n10_ := Aside0.mk ((by rw [hg]; exact Nat.ne_of_lt (blk_lt (g := gb191) (o := .cells #[.bool a1_0, .slice A1_1 l1_1.length c1_1, .int .i64 a1_2] 60 (0, 0)) (blkU BK191.out)) : gb191 ≠ gb192)); have n11_ := Aside0.mk ((by rw [hg]; exact Nat.ne_of_gt (blk_lt (g := gb191) (o := .cells #[.bool a1_0, .slice A1_1 l1_1.length c1_1, .int .i64 a1_2] 60 (0, 0)) (blkU BK191.out)) : gb192 ≠ gb191)); clear HO0_1; clear HO1_1; clear BK190; clear BK191; clear HB; have HO0_1 := n0_; have HO1_1 := n1_; have BK190 := n2_; have BK191 := n3_; have HB := n4_; have BK192 := n5_; have GW192 := n6_; have GE192 := n7_; have NB190_192 := n8_; have NB192_190 := n9_; have NB191_192 := n10_; have NB192_191 := n11_; clear n0_ n1_ n2_ n3_ n4_ n5_ n6_ n7_ n8_ n9_ n10_ n11_; clear hb hbox hg; have hnb10 := NB190_191.out; have hnc10 := NB191_190.out; have hnb11 := NB190_192.out; have hnc11 := NB192_190.out; have hcz12_0 : w9.cell? ⟨gb190, 0, none⟩ = some (.bool a0_0) := (blk_cell BK190.out 0).trans rfl; have hcz12_1 : w9.cell? ⟨gb190, 1, none⟩ = some (.slice A0_1 l0_1.length c0_1) := (blk_cell BK190.out 1).trans rfl; have hcz12_2 : w9.cell? ⟨gb190, 2, none⟩ = some (.int .i64 a0_2) := (blk_cell BK190.out 2).trans rfl; have hfz12_0 := blk_frozen BK190.out 0; have hfz12_1 := blk_frozen BK190.out 1; have hfz12_2 := blk_frozen BK190.out 2; have hnb13 := NB191_192.out; have hnc13 := NB192_191.out; have hcz14_0 : w9.cell? ⟨gb191, 0, none⟩ = some (.bool a1_0) := (blk_cell BK191.out 0).trans rfl; have hcz14_1 : w9.cell? ⟨gb191, 1, none⟩ = some (.slice A1_1 l1_1.length c1_1) := (blk_cell BK191.out 1).trans rfl; have hcz14_2 : w9.cell? ⟨gb191, 2, none⟩ = some (.int .i64 a1_2) := (blk_cell BK191.out 2).trans rfl; have hfz14_0 := blk_frozen BK191.out 0; have hfz14_1 := blk_frozen BK191.out 1; have hfz14_2 := blk_frozen BK191.out 2) | ((with_reducible refine gate_dst (N := 8) rfl ?_); refine Kd.N_lit k60 _ 60 ?hg (N' := 8) ?hd (xs := ([(⟨a0_0, l0_1, a0_2⟩ : S60), (⟨a1_0, l1_1, a1_2⟩ : S60)] : List (S60))) (inner := [.bool a0_0, .slice A0_1 l0_1.length c0_1, .int .i64 a0_2, .bool a1_0, .slice A1_1 l1_1.length c1_1, .int .i64 a1_2]) (ok := (fun k_ => ((P0_1_ k_ ∨ P1_1_ k_) ∨ w.heap.size ≤ k_) ∧ k_ ≠ gb190 ∧ k_ ≠ gb191 ∧ k_ ≠ gb192)) (okp := (fun k_ => ((P0_1_ k_ ∨ P1_1_ k_) ∨ w.heap.size ≤ k_) ∧ k_ ≠ gb190 ∧ k_ ≠ gb191 ∧ k_ ≠ gb192)) ?hr ?hp (fun _ hk => hk) ((show ∀ k_, w9.heap.size ≤ k_ → (fun k_ => ((P0_1_ k_ ∨ P1_1_ k_) ∨ w.heap.size ≤ k_) ∧ k_ ≠ gb190 ∧ k_ ≠ gb191 ∧ k_ ≠ gb192) k_ from fun k_ hk => ⟨(.inr (Nat.le_trans (below_size (by repeat (first | (with_reducible first | exact HB.out | apply below_alloc | apply pw_below_drewN | apply below_drew1 | refine below_set ?_ GE190.out | refine below_set ?_ GE191.out | refine below_set ?_ GE192.out) | exact HB.out))) hk)), Kd.freshB (g := gb190) (o := .cells #[.bool a0_0, .slice A0_1 l0_1.length c0_1, .int .i64 a0_2] 60 (0, 0)) (blkU BK190.out) k_ hk, Kd.freshB (g := gb191) (o := .cells #[.bool a1_0, .slice A1_1 l1_1.length c1_1, .int .i64 a1_2] 60 (0, 0)) (blkU BK191.out) k_ hk, Kd.freshB (g := gb192) (o := .cells #[.bool false, .slice none 0 0, .int .i64 0] 60 (0, 0)) (blkU BK192.out) k_ hk⟩) _ (Nat.le_refl _)) (Below.refl _ _) (Nat.le_refl _) (by simp) ?_; (case hd => rfl); (case hg => rfl); (case hr => first | (go_simp; done) | (go_simp; rfl)); (case hp => exact (Reps.c3 (show Kd.FK k60 _ _ (⟨a0_0, l0_1, a0_2⟩ : S60) [.bool a0_0, .slice A0_1 l0_1.length c0_1, .int .i64 a0_2] from (k60_mkF _ _ (⟨a0_0, l0_1, a0_2⟩ : S60) (Kd.V_reads' (Kd.V_mono (ok' := (fun k_ => ((P0_1_ k_ ∨ P1_1_ k_) ∨ w.heap.size ≤ k_) ∧ k_ ≠ gb190 ∧ k_ ≠ gb191 ∧ k_ ≠ gb192)) (HO0_1.out) (fun k_ hk => ⟨hk.1.1.1, ⟨hk.1.1.2, ⟨hk.1.2, hk.2⟩⟩⟩))).2.1 (Kd.V_F (Kd.V_mono (ok' := (fun k_ => ((P0_1_ k_ ∨ P1_1_ k_) ∨ w.heap.size ≤ k_) ∧ k_ ≠ gb190 ∧ k_ ≠ gb191 ∧ k_ ≠ gb192)) (HO0_1.out) (fun k_ hk => ⟨hk.1.1.1, ⟨hk.1.1.2, ⟨hk.1.2, hk.2⟩⟩⟩))))) (Reps.c3 (show Kd.FK k60 _ _ (⟨a1_0, l1_1, a1_2⟩ : S60) [.bool a1_0, .slice A1_1 l1_1.length c1_1, .int .i64 a1_2] from (k60_mkF _ _ (⟨a1_0, l1_1, a1_2⟩ : S60) (Kd.V_reads' (Kd.V_mono (ok' := (fun k_ => ((P0_1_ k_ ∨ P1_1_ k_) ∨ w.heap.size ≤ k_) ∧ k_ ≠ gb190 ∧ k_ ≠ gb191 ∧ k_ ≠ gb192)) (HO1_1.out) (fun k_ hk => ⟨hk.1.1.1, ⟨hk.1.1.2, ⟨hk.1.2, hk.2⟩⟩⟩))).2.1 (Kd.V_F (Kd.V_mono (ok' := (fun k_ => ((P0_1_ k_ ∨ P1_1_ k_) ∨ w.heap.size ≤ k_) ∧ k_ ≠ gb190 ∧ k_ ≠ gb191 ∧ k_ ≠ gb192)) (HO1_1.out) (fun k_ hk => ⟨hk.1.1.1, ⟨hk.1.1.2, ⟨hk.1.2, hk.2⟩⟩⟩))))) (Reps.none _ _)))); intro v194 w15 ho16 hb hg_ hnew_; clear hg_ hnew_; (first | rw [← Ny193.out] at ho16 | (simp only [Int.reduceToNat] at ho16; rw [← Ny193.out] at ho16)); have n0_ := Aside0.mk (Kd.V_elder' (by (with_reducible repeat (first | apply Kd.V_alloc | apply Kd.V_drewN | apply Kd.V_drew)); exact HO0_1.out) (Kd.N_base ho16) hb); have n1_ := Aside0.mk (Kd.V_elder' (by (with_reducible repeat (first | apply Kd.V_alloc | apply Kd.V_drewN | apply Kd.V_drew)); exact HO1_1.out) (Kd.N_base ho16) hb); have n2_ := Aside0.mk (Kd.N_lower ho16 (below_size (by repeat (first | (with_reducible first | exact HB.out | apply below_alloc | apply pw_below_drewN | apply below_drew1 | refine below_set ?_ GE190.out | refine below_set ?_ GE191.out | refine below_set ?_ GE192.out) | exact HB.out)))); have n3_ := Aside0.mk (blk_below (g := gb190) (o := .cells #[.bool a0_0, .slice A0_1 l0_1.length c0_1, .int .i64 a0_2] 60 (0, 0)) (blkU BK190.out) hb); have n4_ := Aside0.mk (blk_below (g := gb191) (o := .cells #[.bool a1_0, .slice A1_1 l1_1.length c1_1, .int .i64 a1_2] 60 (0, 0)) (blkU BK191.out) hb); have n5_ := Aside0.mk (blk_below (g := gb192) (o := .cells #[.bool false, .slice none 0 0, .int .i64 0] 60 (0, 0)) (blkU BK192.out) hb); have n6_ := Aside0.mk (below_step (by repeat (first | (with_reducible first | exact HB.out | apply below_alloc | apply pw_below_drewN | apply below_drew1 | refine below_set ?_ GE190.out | refine below_set ?_ GE191.out | refine below_set ?_ GE192.out) | exact HB.out)) hb); clear HO0_1; clear HO1_1; clear BK190; clear BK191; clear BK192; clear HB; have HO0_1 := n0_; have HO1_1 := n1_; have HO195 := n2_; have BK190 := n3_; have BK191 := n4_; have BK192 := n5_; have HB := n6_; clear n0_ n1_ n2_ n3_ n4_ n5_ n6_; clear hb ho16; obtain ⟨Ao17, co17, eo17⟩ := Kd.N_slice HO195.out; subst eo17) | ((with_reducible refine gate_callee (f := 88) rfl ?_); refine goesL_ (some 9) rfl rfl Tryz.func88 (by kernel_rfl) rfl #[.slice Ao17 y193.length co17] rfl eqA ?_; (with_reducible refine (dyad_valid.calls k _ _ y193 true _ ?side1 ?side2 A3.out).mono ?_); (case side1 => repeat (first | exact (Kd.N_reads' HO195.out).2.2 | (with_reducible refine Kd.C_alloc ?_ _) | (with_reducible refine Kd.C_drewN ?_ _) | (with_reducible refine Kd.C_drew ?_))); (case side2 => exact (Kd.N_reads' HO195.out).2.1); rintro e w18 ⟨rfl, hb⟩; refine ⟨_, rfl, ?_⟩; have n0_ := Aside0.mk (Kd.V_below (by (with_reducible repeat (first | apply Kd.V_alloc | apply Kd.V_drewN | apply Kd.V_drew)); exact HO0_1.out) hb); have n1_ := Aside0.mk (Kd.V_below (by (with_reducible repeat (first | apply Kd.V_alloc | apply Kd.V_drewN | apply Kd.V_drew)); exact HO1_1.out) hb); have n2_ := Aside0.mk (Kd.N_below (by (with_reducible repeat (first | apply Kd.N_alloc | apply Kd.N_drewN | apply Kd.N_drew)); exact HO195.out) hb); have n3_ := Aside0.mk (blk_below (g := gb190) (o := .cells #[.bool a0_0, .slice A0_1 l0_1.length c0_1, .int .i64 a0_2] 60 (0, 0)) (blkU BK190.out) hb); have n4_ := Aside0.mk (blk_below (g := gb191) (o := .cells #[.bool a1_0, .slice A1_1 l1_1.length c1_1, .int .i64 a1_2] 60 (0, 0)) (blkU BK191.out) hb); have n5_ := Aside0.mk (blk_below (g := gb192) (o := .cells #[.bool false, .slice none 0 0, .int .i64 0] 60 (0, 0)) (blkU BK192.out) hb); have n6_ := Aside0.mk (below_step (by repeat (first | (with_reducible first | exact HB.out | apply below_alloc | apply pw_below_drewN | apply below_drew1 | refine below_set ?_ GE190.out | refine below_set ?_ GE191.out | refine below_set ?_ GE192.out) | exact HB.out)) hb); clear HO0_1; clear HO1_1; clear HO195; clear BK190; clear BK191; clear BK192; clear HB; have HO0_1 := n0_; have HO1_1 := n1_; have HO195 := n2_; have BK190 := n3_; have BK191 := n4_; have BK192 := n5_; have HB := n6_; clear n0_ n1_ n2_ n3_ n4_ n5_ n6_; (try clear hb); (try clear hb2); (try clear hk); (try clear hi)))
  have n0_ := Aside0.mk (Kd.V_drew HO0_1.out)
  have n1_ := Aside0.mk (Kd.V_drew HO1_1.out)
  have n2_ := Aside0.mk (Kd.N_drew HO195.out)
  have n3_ := Aside0.mk (blk_drew BK190.out)
  have n4_ := Aside0.mk (blk_drew BK191.out)
  have n5_ := Aside0.mk (blk_drew BK192.out)
  have n6_ := Aside0.mk (below_drew1 HB.out)
  clear HO0_1
  clear HO1_1
  clear HO195
  clear BK190
  clear BK191
  clear BK192
  clear HB
  have HO0_1 := n0_
  have HO1_1 := n1_
  have HO195 := n2_
  have BK190 := n3_
  have BK191 := n4_
  have BK192 := n5_
  have HB := n6_
  clear n0_ n1_ n2_ n3_ n4_ n5_ n6_
  refine start_ (n := 8) (S := fun w' => w'.cell? ⟨gb190, 0, none⟩ = some (.bool a0_0) ∧ w'.cell? ⟨gb190, 1, none⟩ = some (.slice A0_1 l0_1.length c0_1) ∧ w'.cell? ⟨gb190, 2, none⟩ = some (.int .i64 a0_2) ∧ w'.cell? ⟨gb191, 0, none⟩ = some (.bool a1_0) ∧ w'.cell? ⟨gb191, 1, none⟩ = some (.slice A1_1 l1_1.length c1_1) ∧ w'.cell? ⟨gb191, 2, none⟩ = some (.int .i64 a1_2)) (ds := []) #[false, false, false, false, false, false, false, false] (by kernel_rfl) rfl rfl ⟨(blk_cell BK190.out 0).trans rfl, (blk_cell BK190.out 1).trans rfl, (blk_cell BK190.out 2).trans rfl, (blk_cell BK191.out 0).trans rfl, (blk_cell BK191.out 1).trans rfl, (blk_cell BK191.out 2).trans rfl⟩ (fun hHeld => ?_); refine with_tabW dyad_Sub.tab3 dyad_Sub.bits3 (fun HT_ HW_ => ?_)
  generalize w18.drew = w19 at HO0_1 HO1_1 HO195 BK190 BK191 BK192 HB hHeld ⊢
  refine take_ (i := 0) (N := some 12) (v := ?_) (a' := ?_) #[true, false, false, false, false, false, false, false] rfl rfl (take_ofW HT_.out HW_.out (by kernel_rfl)) (fun _ _ _ h => h) (Or.inl ⟨by rfl, ?_⟩) hHeld ?_ ?_
  rotate_left
  ·rintro w' ⟨s0, s1, s2, s3, s4, s5⟩
   go_simp
   with_reducible rfl
  rotate_left
  ·simp only [Act.put, List.setIfInBounds_toArray, List.set_cons_zero, List.set_cons_succ, i64_w, i32_w]
   rfl
  refine take_ (i := 1) (N := some 13) (v := ?_) (a' := ?_) #[true, true, false, false, false, false, false, false] rfl rfl (take_ofW HT_.out HW_.out (by kernel_rfl)) (fun _ _ _ h => h) (Or.inl ⟨by rfl, ?_⟩) hHeld ?_ ?_
  rotate_left
  ·rintro w' ⟨s0, s1, s2, s3, s4, s5⟩
   go_simp
   with_reducible rfl
  rotate_left
  ·simp only [Act.put, List.setIfInBounds_toArray, List.set_cons_zero, List.set_cons_succ, i64_w, i32_w]
   rfl
  refine one_ (i := 2) (N := some 14) #[true, true, true, false, false, false, false, false] rfl rfl (one_of HT_.out (by kernel_rfl)) (by decide) (fun K hK => ?_)
  refine goes_ Tryz.func89 (by kernel_rfl) rfl #[.agg #[.bool a1_0, .slice A1_1 l1_1.length c1_1, .int .i64 a1_2]] (by rfl) rfl rfl eqA ?_
  with_reducible refine (dyad_Neg.calls a1_0 _ _ l1_1 a1_2 t197 t198 t201 _ ?side1 ?side2 A5.out).mono ?_
  (case side1 => repeat (first | exact (Kd.V_reads' HO1_1.out).2.2 | (with_reducible refine Kd.C_alloc ?_ _) | (with_reducible refine Kd.C_drewN ?_ _) | (with_reducible refine Kd.C_drew ?_)))
  (case side2 => exact (Kd.V_reads' HO1_1.out).2.1)
  rintro e w20 ⟨v199, rfl, ho0, hb⟩
  refine ⟨_, rfl, ?_⟩
  have n0_ := Aside0.mk (Kd.V_elder' (by (with_reducible repeat (first | apply Kd.V_alloc | apply Kd.V_drewN | apply Kd.V_drew)); exact HO0_1.out) (Kd.R_base ho0) hb)
  have n1_ := Aside0.mk (Kd.V_elder' (by (with_reducible repeat (first | apply Kd.V_alloc | apply Kd.V_drewN | apply Kd.V_drew)); exact HO1_1.out) (Kd.R_base ho0) hb)
  have n2_ := Aside0.mk (Kd.N_elder' (by (with_reducible repeat (first | apply Kd.N_alloc | apply Kd.N_drewN | apply Kd.N_drew)); exact HO195.out) (Kd.R_base ho0) hb)
  have n3_ := Aside0.mk (Kd.R_lower (Kd.R_newM (M := fun k_ => (w.heap.size ≤ k_)) ho0 (below_size (by repeat (first | (with_reducible first | exact HB.out | apply below_alloc | apply pw_below_drewN | apply below_drew1 | refine below_set ?_ GE190.out | refine below_set ?_ GE191.out | refine below_set ?_ GE192.out) | exact HB.out))) (fun k_ h_ => h_)) (below_size (by repeat (first | (with_reducible first | exact HB.out | apply below_alloc | apply pw_below_drewN | apply below_drew1 | refine below_set ?_ GE190.out | refine below_set ?_ GE191.out | refine below_set ?_ GE192.out) | exact HB.out))))
  have n4_ := Aside0.mk (blk_below (g := gb190) (o := .cells #[.bool a0_0, .slice A0_1 l0_1.length c0_1, .int .i64 a0_2] 60 (0, 0)) (blkU BK190.out) hb)
  have n5_ := Aside0.mk (blk_below (g := gb191) (o := .cells #[.bool a1_0, .slice A1_1 l1_1.length c1_1, .int .i64 a1_2] 60 (0, 0)) (blkU BK191.out) hb)
  have n6_ := Aside0.mk (blk_below (g := gb192) (o := .cells #[.bool false, .slice none 0 0, .int .i64 0] 60 (0, 0)) (blkU BK192.out) hb)
  have n7_ := Aside0.mk (below_step (by repeat (first | (with_reducible first | exact HB.out | apply below_alloc | apply pw_below_drewN | apply below_drew1 | refine below_set ?_ GE190.out | refine below_set ?_ GE191.out | refine below_set ?_ GE192.out) | exact HB.out)) hb)
  clear HO0_1
  clear HO1_1
  clear HO195
  clear BK190
  clear BK191
  clear BK192
  clear HB
  have HO0_1 := n0_
  have HO1_1 := n1_
  have HO195 := n2_
  have HO200 := n3_
  have BK190 := n4_
  have BK191 := n5_
  have BK192 := n6_
  have HB := n7_
  clear n0_ n1_ n2_ n3_ n4_ n5_ n6_ n7_
  (try clear hb)
  (try clear hb2)
  (try clear hk)
  (try clear hi)
  (try clear ho0)
  obtain ⟨Ao21, co21, eo21⟩ := Kd.R_slice HO200.out
  (first | subst eo21 | (injection eo21 with f1_ f2_ f3_; have f4_ := f1_.symm; have f5_ := f3_.symm; clear f1_ f2_ f3_; subst f4_; subst f5_))
  refine hK.out _ _ ⟨(blk_cell BK190.out 0).trans rfl, (blk_cell BK190.out 1).trans rfl, (blk_cell BK190.out 2).trans rfl, (blk_cell BK191.out 0).trans rfl, (blk_cell BK191.out 1).trans rfl, (blk_cell BK191.out 2).trans rfl⟩ (fun hHeld => ?_)
  clear hK K
  refine norm_ (a' := ?_) ?_ ?_
  rotate_left
  ·show Act.put _ (some 14) _ = _
   simp only [Act.put, List.setIfInBounds_toArray, List.set_cons_zero, List.set_cons_succ, i64_w, i32_w]
   rfl
  refine one_ (i := 3) (N := some 15) #[true, true, true, true, false, false, false, false] rfl rfl (one_of HT_.out (by kernel_rfl)) (by decide) (fun K hK => ?_)
  refine goes_ Tryz.func79 (by kernel_rfl) rfl #[.agg #[.bool a0_0, .slice A0_1 l0_1.length c0_1, .int .i64 a0_2], .agg #[.bool t197, .slice Ao21 t198.length co21, .int .i64 t201]] (by rfl) rfl rfl eqA ?_
  with_reducible refine (dyad_Add.calls a0_0 _ _ l0_1 a0_2 t197 _ _ t198 t201 t202 t203 t206 t207 _ ?side1 ?side2 ?side3 ?side4 A6.out).mono ?_
  (case side1 => repeat (first | exact (Kd.V_reads' HO0_1.out).2.2 | (with_reducible refine Kd.C_alloc ?_ _) | (with_reducible refine Kd.C_drewN ?_ _) | (with_reducible refine Kd.C_drew ?_)))
  (case side2 => exact (Kd.V_reads' HO0_1.out).2.1)
  (case side3 => repeat (first | exact (Kd.R_reads' HO200.out).2.2 | (with_reducible refine Kd.C_alloc ?_ _) | (with_reducible refine Kd.C_drewN ?_ _) | (with_reducible refine Kd.C_drew ?_)))
  (case side4 => exact (Kd.R_reads' HO200.out).2.1)
  rintro e w22 ⟨v204, rfl, ho0, hb⟩
  refine ⟨_, rfl, ?_⟩
  have n0_ := Aside0.mk (Kd.V_elder' (by (with_reducible repeat (first | apply Kd.V_alloc | apply Kd.V_drewN | apply Kd.V_drew)); exact HO0_1.out) (Kd.R_base ho0) hb)
  have n1_ := Aside0.mk (Kd.V_elder' (by (with_reducible repeat (first | apply Kd.V_alloc | apply Kd.V_drewN | apply Kd.V_drew)); exact HO1_1.out) (Kd.R_base ho0) hb)
  have n2_ := Aside0.mk (Kd.N_elder' (by (with_reducible repeat (first | apply Kd.N_alloc | apply Kd.N_drewN | apply Kd.N_drew)); exact HO195.out) (Kd.R_base ho0) hb)
  have n3_ := Aside0.mk (Kd.R_elder' (rUp HO200.out) (Kd.R_base ho0) hb)
  have n4_ := Aside0.mk (Kd.R_lower (Kd.R_new' (Kd.R_newM (M := fun k_ => (w.heap.size ≤ k_)) ho0 (below_size (by repeat (first | (with_reducible first | exact HB.out | apply below_alloc | apply pw_below_drewN | apply below_drew1 | refine below_set ?_ GE190.out | refine below_set ?_ GE191.out | refine below_set ?_ GE192.out) | exact HB.out))) (fun k_ h_ => h_)) (Kd.R_lt (rUp HO200.out))) (below_size (by repeat (first | (with_reducible first | exact HB.out | apply below_alloc | apply pw_below_drewN | apply below_drew1 | refine below_set ?_ GE190.out | refine below_set ?_ GE191.out | refine below_set ?_ GE192.out) | exact HB.out))))
  have n5_ := Aside0.mk (blk_below (g := gb190) (o := .cells #[.bool a0_0, .slice A0_1 l0_1.length c0_1, .int .i64 a0_2] 60 (0, 0)) (blkU BK190.out) hb)
  have n6_ := Aside0.mk (blk_below (g := gb191) (o := .cells #[.bool a1_0, .slice A1_1 l1_1.length c1_1, .int .i64 a1_2] 60 (0, 0)) (blkU BK191.out) hb)
  have n7_ := Aside0.mk (blk_below (g := gb192) (o := .cells #[.bool false, .slice none 0 0, .int .i64 0] 60 (0, 0)) (blkU BK192.out) hb)
  have n8_ := Aside0.mk (below_step (by repeat (first | (with_reducible first | exact HB.out | apply below_alloc | apply pw_below_drewN | apply below_drew1 | refine below_set ?_ GE190.out | refine below_set ?_ GE191.out | refine below_set ?_ GE192.out) | exact HB.out)) hb)
  clear HO0_1
  clear HO1_1
  clear HO195
  clear HO200
  clear BK190
  clear BK191
  clear BK192
  clear HB
  have HO0_1 := n0_
  have HO1_1 := n1_
  have HO195 := n2_
  have HO200 := n3_
  have HO205 := n4_
  have BK190 := n5_
  have BK191 := n6_
  have BK192 := n7_
  have HB := n8_
  clear n0_ n1_ n2_ n3_ n4_ n5_ n6_ n7_ n8_
  (try clear hb)
  (try clear hb2)
  (try clear hk)
  (try clear hi)
  (try clear ho0)
  obtain ⟨Ao24, co24, eo24⟩ := Kd.R_slice HO205.out
  (first | subst eo24 | (injection eo24 with f1_ f2_ f3_; have f4_ := f1_.symm; have f5_ := f3_.symm; clear f1_ f2_ f3_; subst f4_; subst f5_))
  refine hK.out _ _ ⟨(blk_cell BK190.out 0).trans rfl, (blk_cell BK190.out 1).trans rfl, (blk_cell BK190.out 2).trans rfl, (blk_cell BK191.out 0).trans rfl, (blk_cell BK191.out 1).trans rfl, (blk_cell BK191.out 2).trans rfl⟩ (fun hHeld => ?_)
  clear hK K
  refine norm_ (a' := ?_) ?_ ?_
  rotate_left
  ·show Act.put _ (some 15) _ = _
   simp only [Act.put, List.setIfInBounds_toArray, List.set_cons_zero, List.set_cons_succ, i64_w, i32_w]
   rfl
  refine pure_ (i := 4) (N := some 16) (v := ?_) (a' := ?_) #[true, true, true, true, true, false, false, false] rfl rfl (any_of HT_.out (by kernel_rfl)) (fun _ _ _ h => h) (Or.inl ⟨by rfl, ?_⟩) ?_ ?_
  rotate_left
  ·intro w'
   go_simp
   with_reducible rfl
  rotate_left
  ·simp only [Act.put, List.setIfInBounds_toArray, List.set_cons_zero, List.set_cons_succ, i64_w, i32_w]
   rfl
  refine pure_ (i := 5) (N := some 17) (v := ?_) (a' := ?_) #[true, true, true, true, true, true, false, false] rfl rfl (any_of HT_.out (by kernel_rfl)) (fun _ _ _ h => h) (Or.inl ⟨by rfl, ?_⟩) ?_ ?_
  rotate_left
  ·intro w'
   go_simp
   with_reducible rfl
  rotate_left
  ·simp only [Act.put, List.setIfInBounds_toArray, List.set_cons_zero, List.set_cons_succ, i64_w, i32_w]
   rfl
  refine one_ (i := 6) (N := none) #[true, true, true, true, true, true, true, false] rfl rfl (one_of HT_.out (by kernel_rfl)) (by decide) (fun K hK => ?_)
  have hs23 : w22.cell? ⟨gb192, 0, none⟩ = some (.bool false) := (blk_cell BK192.out 0).trans rfl
  have hfs23 := blk_frozen BK192.out 0
  have hns23_0 := NB190_192.out
  have hns23_1 := NB191_192.out
  have hms23_0 := NB192_190.out
  have hms23_1 := NB192_191.out
  have hs25 : w22.cell? ⟨gb192, 1, none⟩ = some (.slice none 0 0) := (blk_cell BK192.out 1).trans rfl
  have hfs25 := blk_frozen BK192.out 1
  have hns25_0 := NB190_192.out
  have hns25_1 := NB191_192.out
  have hms25_0 := NB192_190.out
  have hms25_1 := NB192_191.out
  have hs26 : w22.cell? ⟨gb192, 2, none⟩ = some (.int .i64 0) := (blk_cell BK192.out 2).trans rfl
  have hfs26 := blk_frozen BK192.out 2
  have hns26_0 := NB190_192.out
  have hns26_1 := NB191_192.out
  have hms26_0 := NB192_190.out
  have hms26_1 := NB192_191.out
  refine skip_ (w1 := ?_) (by rfl) rfl ?_ ?_
  rotate_left
  ·go_simp
   rfl
  refine hK.out _ _ ⟨((cell_far (p := ⟨gb192, _, none⟩) NB190_192.out _).trans (((cell_far (p := ⟨gb192, _, none⟩) NB190_192.out _).trans (((cell_far (p := ⟨gb192, _, none⟩) NB190_192.out _).trans (hHeld.1)))))), ((cell_far (p := ⟨gb192, _, none⟩) NB190_192.out _).trans (((cell_far (p := ⟨gb192, _, none⟩) NB190_192.out _).trans (((cell_far (p := ⟨gb192, _, none⟩) NB190_192.out _).trans (hHeld.2.1)))))), ((cell_far (p := ⟨gb192, _, none⟩) NB190_192.out _).trans (((cell_far (p := ⟨gb192, _, none⟩) NB190_192.out _).trans (((cell_far (p := ⟨gb192, _, none⟩) NB190_192.out _).trans (hHeld.2.2.1)))))), ((cell_far (p := ⟨gb192, _, none⟩) NB191_192.out _).trans (((cell_far (p := ⟨gb192, _, none⟩) NB191_192.out _).trans (((cell_far (p := ⟨gb192, _, none⟩) NB191_192.out _).trans (hHeld.2.2.2.1)))))), ((cell_far (p := ⟨gb192, _, none⟩) NB191_192.out _).trans (((cell_far (p := ⟨gb192, _, none⟩) NB191_192.out _).trans (((cell_far (p := ⟨gb192, _, none⟩) NB191_192.out _).trans (hHeld.2.2.2.2.1)))))), ((cell_far (p := ⟨gb192, _, none⟩) NB191_192.out _).trans (((cell_far (p := ⟨gb192, _, none⟩) NB191_192.out _).trans (((cell_far (p := ⟨gb192, _, none⟩) NB191_192.out _).trans (hHeld.2.2.2.2.2))))))⟩ (fun hHeld => ?_)
  clear hK K
  refine pure_ (i := 7) (N := some 5) (v := ?_) (a' := ?_) #[true, true, true, true, true, true, true, true] rfl rfl (any_of HT_.out (by kernel_rfl)) (fun _ _ _ h => h) (Or.inl ⟨by rfl, ?_⟩) ?_ ?_
  rotate_left
  ·intro w'
   go_simp
   with_reducible rfl
  rotate_left
  ·simp only [Act.put, List.setIfInBounds_toArray, List.set_cons_zero, List.set_cons_succ, i64_w, i32_w]
   rfl
  refine done_ (done_of HT_.out (by kernel_rfl)) ?_
  try go_wp2
  refine bodyPost_ret (results_ct rfl _ _ gb192 60 #[.bool t202, .slice Ao24 t203.length co24, .int .i64 t206] (0, 0) _ rfl (by (with_reducible repeat (first | refine blk_drewN ?_ _ | refine blk_drew ?_ | refine blk_alloc ?_ _)); refine blk_put (cs := #[.bool t202, .slice Ao24 t203.length co24, .int .i64 0]) ?_ 2 _ rfl; (with_reducible repeat (first | refine blk_drewN ?_ _ | refine blk_drew ?_ | refine blk_alloc ?_ _)); refine blk_put (cs := #[.bool t202, .slice none 0 0, .int .i64 0]) ?_ 1 _ rfl; (with_reducible repeat (first | refine blk_drewN ?_ _ | refine blk_drew ?_ | refine blk_alloc ?_ _)); refine blk_put (cs := #[.bool false, .slice none 0 0, .int .i64 0]) ?_ 0 _ rfl; (with_reducible repeat (first | refine blk_drewN ?_ _ | refine blk_drew ?_ | refine blk_alloc ?_ _)); exact BK192.out) Tryz.underlying60 rfl (by kernel_rfl)) rfl ?_
  exact ⟨_, by first | rfl | (simp [errW_none, errW_some] <;> rfl) | (simp [*, errW_none, errW_some] <;> rfl), by (with_reducible repeat (first | apply Kd.R_alloc | apply Kd.R_drewN | apply Kd.R_drew)); exact Kd.R_mono (Kd.R_far (p := ⟨gb192, 2, none⟩) (Kd.R_far (p := ⟨gb192, 1, none⟩) (Kd.R_far (p := ⟨gb192, 0, none⟩) (Kd.R_types HO205.out BK192.out (by decide)) (fun _ hk => hk.2) (.bool t202)) (fun _ hk => hk.2) (.slice Ao24 t203.length co24)) (fun _ hk => hk.2) (.int .i64 t206)) (fun _ hk => hk.1.1.1), by repeat (first | (with_reducible first | exact HB.out | apply below_alloc | apply pw_below_drewN | apply below_drew1 | refine below_set ?_ GE190.out | refine below_set ?_ GE191.out | refine below_set ?_ GE192.out) | exact HB.out)⟩
 ·replace c4 := Bool.eq_false_iff.mpr c4
  subst c4
  have H1 : (some (false, ([] : List Int), 0, 1)) = some (r1, r2, r3, r4) := by rw [if_neg (show ¬ (false = true) by decide)] at H; exact H
  clear H
  have H := H1
  clear H1
  simp only [Option.some.injEq, Prod.mk.injEq] at H
  obtain ⟨rfl, rfl, rfl, rfl⟩ := H
  go_enter Tryz.func44, Tryz.ntmps44
  go_wp2_with (first | ((with_reducible refine gate_dst (N := 2) rfl ?_); refine box_event ?hg (N := 2) ?hd (cs := #[.bool a0_0, .slice A0_1 l0_1.length c0_1, .int .i64 a0_2]) (t := 60) ?hr ?_; (case hd => rfl); (case hg => rfl); (case hr => first | (go_simp; done) | (go_simp; rfl)); intro gb190 hg w27 hbox hb; have n0_ := Aside0.mk (Kd.V_below (Kd.V_elderB (by (with_reducible repeat (first | apply Kd.V_alloc | apply Kd.V_drewN | apply Kd.V_drew)); exact HO0_1.out) gb190 (Nat.le_of_eq hg.symm)) hb); have n1_ := Aside0.mk (Kd.V_below (Kd.V_elderB (by (with_reducible repeat (first | apply Kd.V_alloc | apply Kd.V_drewN | apply Kd.V_drew)); exact HO1_1.out) gb190 (Nat.le_of_eq hg.symm)) hb); have n2_ := Aside0.mk (below_step hbw hb); have n3_ := Aside0.mk (hbox); have n4_ := Aside0.mk ((by rw [hg]; exact (below_size hbw) : w.heap.size ≤ gb190)); have n5_ := Aside0.mk ((by rw [hg]; exact (below_size hbw) : w.heap.size ≤ gb190)); clear HO0_1; clear HO1_1; clear HB; have HO0_1 := n0_; have HO1_1 := n1_; have HB := n2_; have BK190 := n3_; have GW190 := n4_; have GE190 := n5_; clear n0_ n1_ n2_ n3_ n4_ n5_; clear hb hbox hg) | ((with_reducible refine gate_dst (N := 3) rfl ?_); refine box_event ?hg (N := 3) ?hd (cs := #[.bool a1_0, .slice A1_1 l1_1.length c1_1, .int .i64 a1_2]) (t := 60) ?hr ?_; (case hd => rfl); (case hg => rfl); (case hr => first | (go_simp; done) | (go_simp; rfl)); intro gb191 hg w28 hbox hb; have n0_ := Aside0.mk (Kd.V_below (Kd.V_elderB (by (with_reducible repeat (first | apply Kd.V_alloc | apply Kd.V_drewN | apply Kd.V_drew)); exact HO0_1.out) gb191 (Nat.le_of_eq hg.symm)) hb); have n1_ := Aside0.mk (Kd.V_below (Kd.V_elderB (by (with_reducible repeat (first | apply Kd.V_alloc | apply Kd.V_drewN | apply Kd.V_drew)); exact HO1_1.out) gb191 (Nat.le_of_eq hg.symm)) hb); have n2_ := Aside0.mk (blk_below (g := gb190) (o := .cells #[.bool a0_0, .slice A0_1 l0_1.length c0_1, .int .i64 a0_2] 60 (0, 0)) (blkU BK190.out) hb); have n3_ := Aside0.mk (below_step (by repeat (first | (with_reducible first | exact HB.out | apply below_alloc | apply pw_below_drewN | apply below_drew1 | refine below_set ?_ GE190.out) | exact HB.out)) hb); have n4_ := Aside0.mk (hbox); have n5_ := Aside0.mk ((by rw [hg]; exact (below_size (by repeat (first | (with_reducible first | exact HB.out | apply below_alloc | apply pw_below_drewN | apply below_drew1 | refine below_set ?_ GE190.out) | exact HB.out))) : w.heap.size ≤ gb191)); have n6_ := Aside0.mk ((by rw [hg]; exact (below_size (by repeat (first | (with_reducible first | exact HB.out | apply below_alloc | apply pw_below_drewN | apply below_drew1 | refine below_set ?_ GE190.out) | exact HB.out))) : w.heap.size ≤ gb191)); have n7_ := Aside0.mk ((by rw [hg]; exact Nat.ne_of_lt (blk_lt (g := gb190) (o := .cells #[.bool a0_0, .slice A0_1 l0_1.length c0_1, .int .i64 a0_2] 60 (0, 0)) (blkU BK190.out)) : gb190 ≠ gb191)); have n8_ := Aside0.mk ((by rw [hg]; exact Nat.ne_of_gt (blk_lt (g := gb190) (o := .cells #[.bool a0_0, .slice A0_1 l0_1.length c0_1, .int .i64 a0_2] 60 (0, 0)) (blkU BK190.out)) : gb191 ≠ gb190)); clear HO0_1; clear HO1_1; clear BK190; clear HB; have HO0_1 := n0_; have HO1_1 := n1_; have BK190 := n2_; have HB := n3_; have BK191 := n4_; have GW191 := n5_; have GE191 := n6_; have NB190_191 := n7_; have NB191_190 := n8_; clear n0_ n1_ n2_ n3_ n4_ n5_ n6_ n7_ n8_; clear hb hbox hg) | ((with_reducible refine gate_dst (N := 4) rfl ?_); refine box_event ?hg (N := 4) ?hd (cs := #[.bool false, .slice none 0 0, .int .i64 0]) (t := 60) ?hr ?_; (case hd => rfl); (case hg => rfl); (case hr => first | (go_simp; done) | (go_simp; rfl)); intro gb192 hg w29 hbox hb; have n0_ := Aside0.mk (Kd.V_below (Kd.V_elderB (by (with_reducible repeat (first | apply Kd.V_alloc | apply Kd.V_drewN | apply Kd.V_drew)); exact HO0_1.out) gb192 (Nat.le_of_eq hg.symm)) hb); have n1_ := Aside0.mk (Kd.V_below (Kd.V_elderB (by (with_reducible repeat (first | apply Kd.V_alloc | apply Kd.V_drewN | apply Kd.V_drew)); exact HO1_1.out) gb192 (Nat.le_of_eq hg.symm)) hb); have n2_ := Aside0.mk (blk_below (g := gb190) (o := .cells #[.bool a0_0, .slice A0_1 l0_1.length c0_1, .int .i64 a0_2] 60 (0, 0)) (blkU BK190.out) hb); have n3_ := Aside0.mk (blk_below (g := gb191) (o := .cells #[.bool a1_0, .slice A1_1 l1_1.length c1_1, .int .i64 a1_2] 60 (0, 0)) (blkU BK191.out) hb); have n4_ := Aside0.mk (below_step (by repeat (first | (with_reducible first | exact HB.out | apply below_alloc | apply pw_below_drewN | apply below_drew1 | refine below_set ?_ GE190.out | refine below_set ?_ GE191.out) | exact HB.out)) hb); have n5_ := Aside0.mk (hbox); have n6_ := Aside0.mk ((by rw [hg]; exact (below_size (by repeat (first | (with_reducible first | exact HB.out | apply below_alloc | apply pw_below_drewN | apply below_drew1 | refine below_set ?_ GE190.out | refine below_set ?_ GE191.out) | exact HB.out))) : w.heap.size ≤ gb192)); have n7_ := Aside0.mk ((by rw [hg]; exact (below_size (by repeat (first | (with_reducible first | exact HB.out | apply below_alloc | apply pw_below_drewN | apply below_drew1 | refine below_set ?_ GE190.out | refine below_set ?_ GE191.out) | exact HB.out))) : w.heap.size ≤ gb192)); have n8_ := Aside0.mk ((by rw [hg]; exact Nat.ne_of_lt (blk_lt (g := gb190) (o := .cells #[.bool a0_0, .slice A0_1 l0_1.length c0_1, .int .i64 a0_2] 60 (0, 0)) (blkU BK190.out)) : gb190 ≠ gb192)); have n9_ := Aside0.mk ((by rw [hg]; exact Nat.ne_of_gt (blk_lt (g := gb190) (o := .cells #[.bool a0_0, .slice A0_1 l0_1.length c0_1, .int .i64 a0_2] 60 (0, 0)) (blkU BK190.out)) : gb192 ≠ gb190)); have n10_ := Aside0.mk ((by rw [hg]; exact Nat.ne_of_lt (blk_lt (g := gb191) (o := .cells #[.bool a1_0, .slice A1_1 l1_1.length c1_1, .int .i64 a1_2] 60 (0, 0)) (blkU BK191.out)) : gb191 ≠ gb192)); have n11_ := Aside0.mk ((by rw [hg]; exact Nat.ne_of_gt (blk_lt (g := gb191) (o := .cells #[.bool a1_0, .slice A1_1 l1_1.length c1_1, .int .i64 a1_2] 60 (0, 0)) (blkU BK191.out)) : gb192 ≠ gb191)); clear HO0_1; clear HO1_1; clear BK190; clear BK191; clear HB; have HO0_1 := n0_; have HO1_1 := n1_; have BK190 := n2_; have BK191 := n3_; have HB := n4_; have BK192 := n5_; have GW192 := n6_; have GE192 := n7_; have NB190_192 := n8_; have NB192_190 := n9_; have NB191_192 := n10_; have NB192_191 := n11_; clear n0_ n1_ n2_ n3_ n4_ n5_ n6_ n7_ n8_ n9_ n10_ n11_; clear hb hbox hg; have hnb30 := NB190_191.out; have hnc30 := NB191_190.out; have hnb31 := NB190_192.out; have hnc31 := NB192_190.out; have hcz32_0 : w29.cell? ⟨gb190, 0, none⟩ = some (.bool a0_0) := (blk_cell BK190.out 0).trans rfl; have hcz32_1 : w29.cell? ⟨gb190, 1, none⟩ = some (.slice A0_1 l0_1.length c0_1) := (blk_cell BK190.out 1).trans rfl; have hcz32_2 : w29.cell? ⟨gb190, 2, none⟩ = some (.int .i64 a0_2) := (blk_cell BK190.out 2).trans rfl; have hfz32_0 := blk_frozen BK190.out 0; have hfz32_1 := blk_frozen BK190.out 1; have hfz32_2 := blk_frozen BK190.out 2; have hnb33 := NB191_192.out; have hnc33 := NB192_191.out; have hcz34_0 : w29.cell? ⟨gb191, 0, none⟩ = some (.bool a1_0) := (blk_cell BK191.out 0).trans rfl; have hcz34_1 : w29.cell? ⟨gb191, 1, none⟩ = some (.slice A1_1 l1_1.length c1_1) := (blk_cell BK191.out 1).trans rfl; have hcz34_2 : w29.cell? ⟨gb191, 2, none⟩ = some (.int .i64 a1_2) := (blk_cell BK191.out 2).trans rfl; have hfz34_0 := blk_frozen BK191.out 0; have hfz34_1 := blk_frozen BK191.out 1; have hfz34_2 := blk_frozen BK191.out 2) | ((with_reducible refine gate_dst (N := 8) rfl ?_); refine Kd.N_lit k60 _ 60 ?hg (N' := 8) ?hd (xs := ([(⟨a0_0, l0_1, a0_2⟩ : S60), (⟨a1_0, l1_1, a1_2⟩ : S60)] : List (S60))) (inner := [.bool a0_0, .slice A0_1 l0_1.length c0_1, .int .i64 a0_2, .bool a1_0, .slice A1_1 l1_1.length c1_1, .int .i64 a1_2]) (ok := (fun k_ => ((P0_1_ k_ ∨ P1_1_ k_) ∨ w.heap.size ≤ k_) ∧ k_ ≠ gb190 ∧ k_ ≠ gb191 ∧ k_ ≠ gb192)) (okp := (fun k_ => ((P0_1_ k_ ∨ P1_1_ k_) ∨ w.heap.size ≤ k_) ∧ k_ ≠ gb190 ∧ k_ ≠ gb191 ∧ k_ ≠ gb192)) ?hr ?hp (fun _ hk => hk) ((show ∀ k_, w29.heap.size ≤ k_ → (fun k_ => ((P0_1_ k_ ∨ P1_1_ k_) ∨ w.heap.size ≤ k_) ∧ k_ ≠ gb190 ∧ k_ ≠ gb191 ∧ k_ ≠ gb192) k_ from fun k_ hk => ⟨(.inr (Nat.le_trans (below_size (by repeat (first | (with_reducible first | exact HB.out | apply below_alloc | apply pw_below_drewN | apply below_drew1 | refine below_set ?_ GE190.out | refine below_set ?_ GE191.out | refine below_set ?_ GE192.out) | exact HB.out))) hk)), Kd.freshB (g := gb190) (o := .cells #[.bool a0_0, .slice A0_1 l0_1.length c0_1, .int .i64 a0_2] 60 (0, 0)) (blkU BK190.out) k_ hk, Kd.freshB (g := gb191) (o := .cells #[.bool a1_0, .slice A1_1 l1_1.length c1_1, .int .i64 a1_2] 60 (0, 0)) (blkU BK191.out) k_ hk, Kd.freshB (g := gb192) (o := .cells #[.bool false, .slice none 0 0, .int .i64 0] 60 (0, 0)) (blkU BK192.out) k_ hk⟩) _ (Nat.le_refl _)) (Below.refl _ _) (Nat.le_refl _) (by simp) ?_; (case hd => rfl); (case hg => rfl); (case hr => first | (go_simp; done) | (go_simp; rfl)); (case hp => exact (Reps.c3 (show Kd.FK k60 _ _ (⟨a0_0, l0_1, a0_2⟩ : S60) [.bool a0_0, .slice A0_1 l0_1.length c0_1, .int .i64 a0_2] from (k60_mkF _ _ (⟨a0_0, l0_1, a0_2⟩ : S60) (Kd.V_reads' (Kd.V_mono (ok' := (fun k_ => ((P0_1_ k_ ∨ P1_1_ k_) ∨ w.heap.size ≤ k_) ∧ k_ ≠ gb190 ∧ k_ ≠ gb191 ∧ k_ ≠ gb192)) (HO0_1.out) (fun k_ hk => ⟨hk.1.1.1, ⟨hk.1.1.2, ⟨hk.1.2, hk.2⟩⟩⟩))).2.1 (Kd.V_F (Kd.V_mono (ok' := (fun k_ => ((P0_1_ k_ ∨ P1_1_ k_) ∨ w.heap.size ≤ k_) ∧ k_ ≠ gb190 ∧ k_ ≠ gb191 ∧ k_ ≠ gb192)) (HO0_1.out) (fun k_ hk => ⟨hk.1.1.1, ⟨hk.1.1.2, ⟨hk.1.2, hk.2⟩⟩⟩))))) (Reps.c3 (show Kd.FK k60 _ _ (⟨a1_0, l1_1, a1_2⟩ : S60) [.bool a1_0, .slice A1_1 l1_1.length c1_1, .int .i64 a1_2] from (k60_mkF _ _ (⟨a1_0, l1_1, a1_2⟩ : S60) (Kd.V_reads' (Kd.V_mono (ok' := (fun k_ => ((P0_1_ k_ ∨ P1_1_ k_) ∨ w.heap.size ≤ k_) ∧ k_ ≠ gb190 ∧ k_ ≠ gb191 ∧ k_ ≠ gb192)) (HO1_1.out) (fun k_ hk => ⟨hk.1.1.1, ⟨hk.1.1.2, ⟨hk.1.2, hk.2⟩⟩⟩))).2.1 (Kd.V_F (Kd.V_mono (ok' := (fun k_ => ((P0_1_ k_ ∨ P1_1_ k_) ∨ w.heap.size ≤ k_) ∧ k_ ≠ gb190 ∧ k_ ≠ gb191 ∧ k_ ≠ gb192)) (HO1_1.out) (fun k_ hk => ⟨hk.1.1.1, ⟨hk.1.1.2, ⟨hk.1.2, hk.2⟩⟩⟩))))) (Reps.none _ _)))); intro v194 w35 ho36 hb hg_ hnew_; clear hg_ hnew_; (first | rw [← Ny193.out] at ho36 | (simp only [Int.reduceToNat] at ho36; rw [← Ny193.out] at ho36)); have n0_ := Aside0.mk (Kd.V_elder' (by (with_reducible repeat (first | apply Kd.V_alloc | apply Kd.V_drewN | apply Kd.V_drew)); exact HO0_1.out) (Kd.N_base ho36) hb); have n1_ := Aside0.mk (Kd.V_elder' (by (with_reducible repeat (first | apply Kd.V_alloc | apply Kd.V_drewN | apply Kd.V_drew)); exact HO1_1.out) (Kd.N_base ho36) hb); have n2_ := Aside0.mk (Kd.N_lower ho36 (below_size (by repeat (first | (with_reducible first | exact HB.out | apply below_alloc | apply pw_below_drewN | apply below_drew1 | refine below_set ?_ GE190.out | refine below_set ?_ GE191.out | refine below_set ?_ GE192.out) | exact HB.out)))); have n3_ := Aside0.mk (blk_below (g := gb190) (o := .cells #[.bool a0_0, .slice A0_1 l0_1.length c0_1, .int .i64 a0_2] 60 (0, 0)) (blkU BK190.out) hb); have n4_ := Aside0.mk (blk_below (g := gb191) (o := .cells #[.bool a1_0, .slice A1_1 l1_1.length c1_1, .int .i64 a1_2] 60 (0, 0)) (blkU BK191.out) hb); have n5_ := Aside0.mk (blk_below (g := gb192) (o := .cells #[.bool false, .slice none 0 0, .int .i64 0] 60 (0, 0)) (blkU BK192.out) hb); have n6_ := Aside0.mk (below_step (by repeat (first | (with_reducible first | exact HB.out | apply below_alloc | apply pw_below_drewN | apply below_drew1 | refine below_set ?_ GE190.out | refine below_set ?_ GE191.out | refine below_set ?_ GE192.out) | exact HB.out)) hb); clear HO0_1; clear HO1_1; clear BK190; clear BK191; clear BK192; clear HB; have HO0_1 := n0_; have HO1_1 := n1_; have HO195 := n2_; have BK190 := n3_; have BK191 := n4_; have BK192 := n5_; have HB := n6_; clear n0_ n1_ n2_ n3_ n4_ n5_ n6_; clear hb ho36; obtain ⟨Ao37, co37, eo37⟩ := Kd.N_slice HO195.out; subst eo37) | ((with_reducible refine gate_callee (f := 88) rfl ?_); refine goesL_ (some 9) rfl rfl Tryz.func88 (by kernel_rfl) rfl #[.slice Ao37 y193.length co37] rfl eqA ?_; (with_reducible refine (dyad_valid.calls k _ _ y193 false _ ?side1 ?side2 A3.out).mono ?_); (case side1 => repeat (first | exact (Kd.N_reads' HO195.out).2.2 | (with_reducible refine Kd.C_alloc ?_ _) | (with_reducible refine Kd.C_drewN ?_ _) | (with_reducible refine Kd.C_drew ?_))); (case side2 => exact (Kd.N_reads' HO195.out).2.1); rintro e w38 ⟨rfl, hb⟩; refine ⟨_, rfl, ?_⟩; have n0_ := Aside0.mk (Kd.V_below (by (with_reducible repeat (first | apply Kd.V_alloc | apply Kd.V_drewN | apply Kd.V_drew)); exact HO0_1.out) hb); have n1_ := Aside0.mk (Kd.V_below (by (with_reducible repeat (first | apply Kd.V_alloc | apply Kd.V_drewN | apply Kd.V_drew)); exact HO1_1.out) hb); have n2_ := Aside0.mk (Kd.N_below (by (with_reducible repeat (first | apply Kd.N_alloc | apply Kd.N_drewN | apply Kd.N_drew)); exact HO195.out) hb); have n3_ := Aside0.mk (blk_below (g := gb190) (o := .cells #[.bool a0_0, .slice A0_1 l0_1.length c0_1, .int .i64 a0_2] 60 (0, 0)) (blkU BK190.out) hb); have n4_ := Aside0.mk (blk_below (g := gb191) (o := .cells #[.bool a1_0, .slice A1_1 l1_1.length c1_1, .int .i64 a1_2] 60 (0, 0)) (blkU BK191.out) hb); have n5_ := Aside0.mk (blk_below (g := gb192) (o := .cells #[.bool false, .slice none 0 0, .int .i64 0] 60 (0, 0)) (blkU BK192.out) hb); have n6_ := Aside0.mk (below_step (by repeat (first | (with_reducible first | exact HB.out | apply below_alloc | apply pw_below_drewN | apply below_drew1 | refine below_set ?_ GE190.out | refine below_set ?_ GE191.out | refine below_set ?_ GE192.out) | exact HB.out)) hb); clear HO0_1; clear HO1_1; clear HO195; clear BK190; clear BK191; clear BK192; clear HB; have HO0_1 := n0_; have HO1_1 := n1_; have HO195 := n2_; have BK190 := n3_; have BK191 := n4_; have BK192 := n5_; have HB := n6_; clear n0_ n1_ n2_ n3_ n4_ n5_ n6_; (try clear hb); (try clear hb2); (try clear hk); (try clear hi); have hcz39_0 : w38.cell? ⟨gb192, 0, none⟩ = some (.bool false) := (blk_cell BK192.out 0).trans rfl; have hcz39_1 : w38.cell? ⟨gb192, 1, none⟩ = some (.slice none 0 0) := (blk_cell BK192.out 1).trans rfl; have hcz39_2 : w38.cell? ⟨gb192, 2, none⟩ = some (.int .i64 0) := (blk_cell BK192.out 2).trans rfl; have hfz39_0 := blk_frozen BK192.out 0; have hfz39_1 := blk_frozen BK192.out 1; have hfz39_2 := blk_frozen BK192.out 2))
  refine bodyPost_ret (results_ct rfl _ _ gb192 60 #[.bool false, .slice none 0 0, .int .i64 0] (0, 0) _ rfl (by (with_reducible repeat (first | refine blk_drewN ?_ _ | refine blk_drew ?_ | refine blk_alloc ?_ _)); refine blk_put (cs := #[.bool false, .slice none 0 0, .int .i64 0]) ?_ 2 _ rfl; (with_reducible repeat (first | refine blk_drewN ?_ _ | refine blk_drew ?_ | refine blk_alloc ?_ _)); refine blk_put (cs := #[.bool false, .slice none 0 0, .int .i64 0]) ?_ 1 _ rfl; (with_reducible repeat (first | refine blk_drewN ?_ _ | refine blk_drew ?_ | refine blk_alloc ?_ _)); refine blk_put (cs := #[.bool false, .slice none 0 0, .int .i64 0]) ?_ 0 _ rfl; (with_reducible repeat (first | refine blk_drewN ?_ _ | refine blk_drew ?_ | refine blk_alloc ?_ _)); exact BK192.out) Tryz.underlying60 rfl (by kernel_rfl)) rfl ?_
  exact ⟨_, by first | rfl | (simp [errW_none, errW_some] <;> rfl) | (simp [*, errW_none, errW_some] <;> rfl), by first | exact Kd.R_nil _ _ _ _ _ | exact Kd.N_nil _ _ _ _ _ | exact Kd.V_nil _ _ _ _ _ | exact Kd.Q_nil _ _ _ _ _ | exact Kd.S_nil _ _ _ _ _, by repeat (first | (with_reducible first | exact HB.out | apply below_alloc | apply pw_below_drewN | apply below_drew1 | refine below_set ?_ GE190.out | refine below_set ?_ GE191.out | refine below_set ?_ GE192.out) | exact HB.out)⟩
def sums_num.f (a0 : Nat) : Option (Bool × List Int × Int) := (dyad_Of.f a0).bind fun bt209 => (some (bt209.1, bt209.2.1, bt209.2.2.1))
set_option maxHeartbeats 8000000 in
set_option maxRecDepth 100000 in
theorem sums_num.calls (a0 : Nat) (r1 : Bool) (r2 : List Int) (r3 : Int) (w : World) (h : sums_num.f a0 = some (r1, r2, r3)) (hL : Big.Laid w := by exact Big.Laid.step HL.out hbw) :
  Calls Tryz.prog 46 #[.float .f64 a0] w fun e w' => ∃ v1_ : Value, e = .returned (.agg #[.bool r1, v1_, .int .i64 r3]) ∧ Kd.R (Kd.int .u32) 83 w' w.heap.size (fun _ => True) v1_ r2 ∧ Below w.heap.size w w' := by
 have HL := Aside0.mk hL
 clear hL
 have hu60 := Tryz.underlying60
 have HB := Aside0.mk (Below.refl w.heap.size w)
 have H : ((dyad_Of.f a0).bind fun bt209 => (some (bt209.1, bt209.2.1, bt209.2.2.1))) = some (r1, r2, r3) := h
 clear h
 replace H := Option.bind_eq_some_iff.mp H
 obtain ⟨⟨t209, t210, t213, t214⟩, A20, H⟩ := H
 replace H : (some (t209, t210, t213)) = some (r1, r2, r3) := H
 have A2 := Aside0.mk A20
 clear A20
 simp only [Option.some.injEq, Prod.mk.injEq] at H
 obtain ⟨rfl, rfl, rfl⟩ := H
 go_enter Tryz.func46, Tryz.ntmps46
 go_wp2_with (first | ((with_reducible refine gate_dst (N := 2) rfl ?_); refine box_event ?hg (N := 2) ?hd (cs := #[.bool false, .slice none 0 0, .int .i64 0]) (t := 60) ?hr ?_; (case hd => rfl); (case hg => rfl); (case hr => first | (go_simp; done) | (go_simp; rfl)); intro gb208 hg w3 hbox hb; have n0_ := Aside0.mk (below_step hbw hb); have n1_ := Aside0.mk (hbox); have n2_ := Aside0.mk ((by rw [hg]; exact (below_size hbw) : w.heap.size ≤ gb208)); have n3_ := Aside0.mk ((by rw [hg]; exact (below_size hbw) : w.heap.size ≤ gb208)); clear HB; have HB := n0_; have BK208 := n1_; have GW208 := n2_; have GE208 := n3_; clear n0_ n1_ n2_ n3_; clear hb hbox hg) | ((with_reducible refine gate_callee (f := 90) rfl ?_); refine goesL_ (some 7) rfl rfl Tryz.func90 (by kernel_rfl) rfl #[.float .f64 a0] rfl eqA ?_; (with_reducible refine (dyad_Of.calls a0 t209 t210 t213 t214 _ A2.out).mono ?_); rintro e w4 ⟨v211, rfl, ho0, hb⟩; refine ⟨_, rfl, ?_⟩; have n0_ := Aside0.mk (Kd.R_lower ho0 (below_size (by repeat (first | (with_reducible first | exact HB.out | apply below_alloc | apply pw_below_drewN | apply below_drew1 | refine below_set ?_ GE208.out) | exact HB.out)))); have n1_ := Aside0.mk (blk_below (g := gb208) (o := .cells #[.bool false, .slice none 0 0, .int .i64 0] 60 (0, 0)) (blkU BK208.out) hb); have n2_ := Aside0.mk (below_step (by repeat (first | (with_reducible first | exact HB.out | apply below_alloc | apply pw_below_drewN | apply below_drew1 | refine below_set ?_ GE208.out) | exact HB.out)) hb); clear BK208; clear HB; have HO212 := n0_; have BK208 := n1_; have HB := n2_; clear n0_ n1_ n2_; (try clear hb); (try clear hb2); (try clear hk); (try clear hi); (try clear ho0)) | ((with_reducible refine gate_dst (N := 3) rfl ?_); refine box_event ?hg (N := 3) ?hd (cs := #[.bool false, .slice none 0 0, .int .i64 0]) (t := 60) ?hr ?_; (case hd => rfl); (case hg => rfl); (case hr => first | (go_simp; done) | (go_simp; rfl)); intro gb215 hg w5 hbox hb; have n0_ := Aside0.mk (Kd.R_below (rUp HO212.out) hb); have n1_ := Aside0.mk (blk_below (g := gb208) (o := .cells #[.bool false, .slice none 0 0, .int .i64 0] 60 (0, 0)) (blkU BK208.out) hb); have n2_ := Aside0.mk (below_step (by repeat (first | (with_reducible first | exact HB.out | apply below_alloc | apply pw_below_drewN | apply below_drew1 | refine below_set ?_ GE208.out) | exact HB.out)) hb); have n3_ := Aside0.mk (hbox); have n4_ := Aside0.mk ((by rw [hg]; exact (below_size (by repeat (first | (with_reducible first | exact HB.out | apply below_alloc | apply pw_below_drewN | apply below_drew1 | refine below_set ?_ GE208.out) | exact HB.out))) : w.heap.size ≤ gb215)); have n5_ := Aside0.mk ((by rw [hg]; exact (below_size (by repeat (first | (with_reducible first | exact HB.out | apply below_alloc | apply pw_below_drewN | apply below_drew1 | refine below_set ?_ GE208.out) | exact HB.out))) : w.heap.size ≤ gb215)); have n6_ := Aside0.mk ((by rw [hg]; exact Nat.ne_of_lt (blk_lt (g := gb208) (o := .cells #[.bool false, .slice none 0 0, .int .i64 0] 60 (0, 0)) (blkU BK208.out)) : gb208 ≠ gb215)); have n7_ := Aside0.mk ((by rw [hg]; exact Nat.ne_of_gt (blk_lt (g := gb208) (o := .cells #[.bool false, .slice none 0 0, .int .i64 0] 60 (0, 0)) (blkU BK208.out)) : gb215 ≠ gb208)); clear HO212; clear BK208; clear HB; have HO212 := n0_; have BK208 := n1_; have HB := n2_; have BK215 := n3_; have GW215 := n4_; have GE215 := n5_; have NB208_215 := n6_; have NB215_208 := n7_; clear n0_ n1_ n2_ n3_ n4_ n5_ n6_ n7_; clear hb hbox hg; have hnb6 := NB215_208.out; have hnc6 := NB208_215.out; have hcz7_0 : w5.cell? ⟨gb215, 0, none⟩ = some (.bool false) := (blk_cell BK215.out 0).trans rfl; have hcz7_1 : w5.cell? ⟨gb215, 1, none⟩ = some (.slice none 0 0) := (blk_cell BK215.out 1).trans rfl; have hcz7_2 : w5.cell? ⟨gb215, 2, none⟩ = some (.int .i64 0) := (blk_cell BK215.out 2).trans rfl; have hfz7_0 := blk_frozen BK215.out 0; have hfz7_1 := blk_frozen BK215.out 1; have hfz7_2 := blk_frozen BK215.out 2; obtain ⟨Ao8, co8, eo8⟩ := Kd.R_slice HO212.out; subst eo8; have hcz9_0 : w5.cell? ⟨gb208, 0, none⟩ = some (.bool false) := (blk_cell BK208.out 0).trans rfl; have hcz9_1 : w5.cell? ⟨gb208, 1, none⟩ = some (.slice none 0 0) := (blk_cell BK208.out 1).trans rfl; have hcz9_2 : w5.cell? ⟨gb208, 2, none⟩ = some (.int .i64 0) := (blk_cell BK208.out 2).trans rfl; have hfz9_0 := blk_frozen BK208.out 0; have hfz9_1 := blk_frozen BK208.out 1; have hfz9_2 := blk_frozen BK208.out 2))
 refine bodyPost_ret (results_cell_row rfl _ _ gb208 60 #[.bool t209, .slice Ao8 t210.length co8, .int .i64 t213] (0, 0) _ rfl (by (with_reducible repeat (first | refine blk_drewN ?_ _ | refine blk_drew ?_ | refine blk_alloc ?_ _)); refine blk_put (cs := #[.bool t209, .slice Ao8 t210.length co8, .int .i64 0]) ?_ 2 _ rfl; (with_reducible repeat (first | refine blk_drewN ?_ _ | refine blk_drew ?_ | refine blk_alloc ?_ _)); refine blk_put (cs := #[.bool t209, .slice none 0 0, .int .i64 0]) ?_ 1 _ rfl; (with_reducible repeat (first | refine blk_drewN ?_ _ | refine blk_drew ?_ | refine blk_alloc ?_ _)); refine blk_put (cs := #[.bool false, .slice none 0 0, .int .i64 0]) ?_ 0 _ rfl; (with_reducible repeat (first | refine blk_drewN ?_ _ | refine blk_drew ?_ | refine blk_alloc ?_ _)); refine blk_far ?_ NB208_215.out _; (with_reducible repeat (first | refine blk_drewN ?_ _ | refine blk_drew ?_ | refine blk_alloc ?_ _)); refine blk_far ?_ NB208_215.out _; (with_reducible repeat (first | refine blk_drewN ?_ _ | refine blk_drew ?_ | refine blk_alloc ?_ _)); refine blk_far ?_ NB208_215.out _; (with_reducible repeat (first | refine blk_drewN ?_ _ | refine blk_drew ?_ | refine blk_alloc ?_ _)); exact BK208.out) Tryz.underlying60 rfl (by kernel_rfl)) rfl ?_
 exact ⟨_, by first | rfl | (simp [errW_none, errW_some] <;> rfl) | (simp [*, errW_none, errW_some] <;> rfl), by (with_reducible repeat (first | apply Kd.R_alloc | apply Kd.R_drewN | apply Kd.R_drew)); exact Kd.R_mono (Kd.R_far (p := ⟨gb208, 2, none⟩) (Kd.R_far (p := ⟨gb208, 1, none⟩) (Kd.R_far (p := ⟨gb208, 0, none⟩) (Kd.R_far (p := ⟨gb215, 2, none⟩) (Kd.R_far (p := ⟨gb215, 1, none⟩) (Kd.R_far (p := ⟨gb215, 0, none⟩) (Kd.R_types (Kd.R_types HO212.out BK215.out (by decide)) BK208.out (by decide)) (fun _ hk => hk.1.2) (.bool t209)) (fun _ hk => hk.1.2) (.slice Ao8 t210.length co8)) (fun _ hk => hk.1.2) (.int .i64 t213)) (fun _ hk => hk.2) (.bool t209)) (fun _ hk => hk.2) (.slice Ao8 t210.length co8)) (fun _ hk => hk.2) (.int .i64 t213)) (fun _ hk => trivial), by repeat (first | (with_reducible first | exact HB.out | apply below_alloc | apply pw_below_drewN | apply below_drew1 | refine below_set ?_ GE208.out | refine below_set ?_ GE215.out) | exact HB.out)⟩
def sums_total.l0 : Nat → List Nat → Int → Int → Bool → List Int → Int → Option (Bool × List Int × Int)
 | 0, _, _, _, _, _, _ => none
 | k + 1, x6, x7, x8, x218000, x218001, x218002 => if x8 < x7 then (if 0 ≤ x8 then (if x8 < (x6.length : Int) then ((sums_num.f (rdOf (0 : Nat) x6 x8)).bind fun bt219 => ((dyad_Add.f x218000 x218001 x218002 bt219.1 bt219.2.1 bt219.2.2).bind fun bt224 => (sums_total.l0 k x6 x7 (wrap64 (x8 + 1)) bt224.1 bt224.2.1 bt224.2.2.1))) else (none)) else (none)) else (some (x218000, x218001, x218002))
def sums_total.f (k : Nat) (l0 : List Nat) : Option (Bool × List Int × Int) := sums_total.l0 k l0 (l0.length : Int) 0 false ([] : List Int) 0
def sums_total.T5 : Bool × List (List Nat × List Nat) := (true, [([], []), ([], []), ([1], [1]), ([0, 2, 2], [0, 2]), ([3], [3]), ([4], [4]), ([4], [4]), ([5, 3, 0, 1, 2, 3, 4, 5], [5])])
def sums_total.B5 : List Nat := [0, 0, 2, 7, 15, 31, 31, 63]
theorem sums_total.tab5 : rtab .any (opsOf Tryz.f45 5) = sums_total.T5 := by kernel_rfl
theorem sums_total.bits5 : waitsOk sums_total.T5.2 sums_total.B5 = true := by kernel_rfl
set_option maxHeartbeats 8000000 in
set_option maxRecDepth 100000 in
theorem sums_total.calls (k : Nat) (A0 : Option Addr) (c0 : Nat) (l0 : List Nat) (r1 : Bool) (r2 : List Int) (r3 : Int) (w : World) (hr0 : Kd.C Kd.float w A0 l0.length l0) (hc0 : l0.length ≤ c0) (h : sums_total.f k l0 = some (r1, r2, r3)) (hL : Big.Laid w := by exact Big.Laid.step HL.out hbw) :
  Calls Tryz.prog 45 #[.slice A0 l0.length c0] w fun e w' => ∃ v1_ : Value, e = .returned (.agg #[.bool r1, v1_, .int .i64 r3]) ∧ Kd.R (Kd.int .u32) 83 w' w.heap.size (fun _ => True) v1_ r2 ∧ Below w.heap.size w w' := by
 have HL := Aside0.mk hL
 clear hL
 have hu60 := Tryz.underlying60
 have HR0 := Aside0.mk hr0
 have HC0 := Aside0.mk hc0
 clear hr0 hc0
 have HB := Aside0.mk (Below.refl w.heap.size w)
 have H : (sums_total.l0 k l0 (l0.length : Int) 0 false ([] : List Int) 0) = some (r1, r2, r3) := h
 clear h
 have H' := Aside0.mk H
 clear H
 go_enter Tryz.func45, Tryz.ntmps45
 go_wp2_with (first | ((with_reducible refine gate_dst (N := 2) rfl ?_); refine box_event ?hg (N := 2) ?hd (cs := #[.bool false, .slice none 0 0, .int .i64 0]) (t := 60) ?hr ?_; (case hd => rfl); (case hg => rfl); (case hr => first | (go_simp; done) | (go_simp; rfl)); intro gb216 hg w2 hbox hb; have n0_ := Aside0.mk (below_step hbw hb); have n1_ := Aside0.mk (hbox); have n2_ := Aside0.mk ((by rw [hg]; exact (below_size hbw) : w.heap.size ≤ gb216)); have n3_ := Aside0.mk ((by rw [hg]; exact (below_size hbw) : w.heap.size ≤ gb216)); clear HB; have HB := n0_; have BK216 := n1_; have GW216 := n2_; have GE216 := n3_; clear n0_ n1_ n2_ n3_; clear hb hbox hg) | ((with_reducible refine gate_dst (N := 3) rfl ?_); refine box_event ?hg (N := 3) ?hd (cs := #[.bool false, .slice none 0 0, .int .i64 0]) (t := 60) ?hr ?_; (case hd => rfl); (case hg => rfl); (case hr => first | (go_simp; done) | (go_simp; rfl)); intro gb217 hg w3 hbox hb; have n0_ := Aside0.mk (blk_below (g := gb216) (o := .cells #[.bool false, .slice none 0 0, .int .i64 0] 60 (0, 0)) (blkU BK216.out) hb); have n1_ := Aside0.mk (below_step (by repeat (first | (with_reducible first | exact HB.out | apply below_alloc | apply pw_below_drewN | apply below_drew1 | refine below_set ?_ GE216.out) | exact HB.out)) hb); have n2_ := Aside0.mk (hbox); have n3_ := Aside0.mk ((by rw [hg]; exact (below_size (by repeat (first | (with_reducible first | exact HB.out | apply below_alloc | apply pw_below_drewN | apply below_drew1 | refine below_set ?_ GE216.out) | exact HB.out))) : w.heap.size ≤ gb217)); have n4_ := Aside0.mk ((by rw [hg]; exact (below_size (by repeat (first | (with_reducible first | exact HB.out | apply below_alloc | apply pw_below_drewN | apply below_drew1 | refine below_set ?_ GE216.out) | exact HB.out))) : w.heap.size ≤ gb217)); have n5_ := Aside0.mk ((by rw [hg]; exact Nat.ne_of_lt (blk_lt (g := gb216) (o := .cells #[.bool false, .slice none 0 0, .int .i64 0] 60 (0, 0)) (blkU BK216.out)) : gb216 ≠ gb217)); have n6_ := Aside0.mk ((by rw [hg]; exact Nat.ne_of_gt (blk_lt (g := gb216) (o := .cells #[.bool false, .slice none 0 0, .int .i64 0] 60 (0, 0)) (blkU BK216.out)) : gb217 ≠ gb216)); clear BK216; clear HB; have BK216 := n0_; have HB := n1_; have BK217 := n2_; have GW217 := n3_; have GE217 := n4_; have NB216_217 := n5_; have NB217_216 := n6_; clear n0_ n1_ n2_ n3_ n4_ n5_ n6_; clear hb hbox hg))
 go_loopg [8] k (fun kq v8 w' => ∃ (x8_1 : Int) (x218000_1 : Bool) (x218001_1 : List Int) (x218002_1 : Int) (u218001 : Value), v8 = .int .i64 x8_1 ∧ Aside0 (sums_total.l0 kq l0 (l0.length : Int) x8_1 x218000_1 x218001_1 x218002_1 = some (r1, r2, r3)) ∧ Aside0 (kq ≤ k) ∧ Aside0 (Kd.R (Kd.int .u32) 83 w' w.heap.size (fun _ => True) u218001 x218001_1) ∧ Aside0 (w'.heap[gb216]? = some (.cells #[.bool false, (.slice none 0 0), .int .i64 0] 60 (0, 0))) ∧ Aside0 (w'.heap[gb217]? = some (.cells #[.bool x218000_1, u218001, .int .i64 x218002_1] 60 (0, 0))) ∧ Aside0 (Below w.heap.size w w'))
 case atStart => exact ⟨(0), (false), (([] : List Int)), (0), (.slice none 0 0), (by first | rfl | (simp; done) | (simp [*]; done)), H', ⟨Nat.le_refl _⟩, ⟨by first | exact Kd.R_nil _ _ _ _ _ | exact Kd.N_nil _ _ _ _ _ | exact Kd.V_nil _ _ _ _ _ | exact Kd.Q_nil _ _ _ _ _ | exact Kd.S_nil _ _ _ _ _⟩, ⟨by (with_reducible repeat (first | refine blk_drewN ?_ _ | refine blk_drew ?_ | refine blk_alloc ?_ _)); exact BK216.out⟩, ⟨by (with_reducible repeat (first | refine blk_drewN ?_ _ | refine blk_drew ?_ | refine blk_alloc ?_ _)); exact BK217.out⟩, ⟨by repeat (first | (with_reducible first | exact HB.out | apply below_alloc | apply pw_below_drewN | apply below_drew1 | refine below_set ?_ GE216.out | refine below_set ?_ GE217.out) | exact HB.out)⟩⟩
 case round =>
  clear H'
  try clear p2
  obtain ⟨x8_1, x218000_1, x218001_1, x218002_1, u218001, rfl, HA, HK1, HO_218001, BK216, BK217, HB⟩ := hrel
  cases gk with
  | zero => exact absurd HA.out (by simp [sums_total.l0])
  | succ k1 =>
   have H := HA.out
   clear HA
   simp only [sums_total.l0] at H
   by_cases c4 : x8_1 < (l0.length : Int)
   ·rw [if_pos c4] at H
    have c4b0 : decide (x8_1 < (l0.length : Int)) = true := decide_eq_true c4
    clear c4
    by_cases c5 : 0 ≤ x8_1
    ·rw [if_pos c5] at H
     have c5b0 : decide (0 ≤ x8_1) = true := decide_eq_true c5
     clear c5
     by_cases c6 : x8_1 < (l0.length : Int)
     ·rw [if_pos c6] at H
      have c6b0 : decide (x8_1 < (l0.length : Int)) = true := decide_eq_true c6
      clear c6
      replace H := Option.bind_eq_some_iff.mp H
      obtain ⟨⟨t219, t220, t223⟩, A70, H⟩ := H
      replace H : ((dyad_Add.f x218000_1 x218001_1 x218002_1 t219 t220 t223).bind fun bt224 => (sums_total.l0 k1 l0 (l0.length : Int) (wrap64 (x8_1 + 1)) bt224.1 bt224.2.1 bt224.2.2.1)) = some (r1, r2, r3) := H
      have A7 := Aside0.mk A70
      clear A70
      replace H := Option.bind_eq_some_iff.mp H
      obtain ⟨⟨t224, t225, t228, t229⟩, A80, H⟩ := H
      replace H : (sums_total.l0 k1 l0 (l0.length : Int) (wrap64 (x8_1 + 1)) t224 t225 t228) = some (r1, r2, r3) := H
      have A8 := Aside0.mk A80
      clear A80
      have H' := Aside0.mk H
      clear H
      have p218 : 0 ≤ (x8_1 : Int) := of_decide_eq_true (by first | (with_reducible assumption) | assumption)
      have q218 : x8_1 < (l0.length : Int) := of_decide_eq_true (by first | (with_reducible assumption) | assumption)
      obtain ⟨ad218, e218, hx218_0⟩ := Kd.at_float HR0.out x8_1 p218 q218
      cases e218
      replace hx218_0 := (HB.out.cell (World.block_lt_of_cell? w _ hx218_0)).trans hx218_0
      replace p218 := eq_true p218
      replace q218 := eq_true q218
      try go_wp2
      have n0_ := Aside0.mk (Kd.R_drew HO_218001.out)
      have n1_ := Aside0.mk (blk_drew BK216.out)
      have n2_ := Aside0.mk (blk_drew BK217.out)
      have n3_ := Aside0.mk (below_drew1 HB.out)
      clear HO_218001
      clear BK216
      clear BK217
      clear HB
      have HO_218001 := n0_
      have BK216 := n1_
      have BK217 := n2_
      have HB := n3_
      clear n0_ n1_ n2_ n3_
      refine start_ (n := 8) (S := fun w' => w'.cell? ⟨gb217, 0, none⟩ = some (.bool x218000_1) ∧ w'.cell? ⟨gb217, 1, none⟩ = some (u218001) ∧ w'.cell? ⟨gb217, 2, none⟩ = some (.int .i64 x218002_1)) (ds := [7]) #[false, false, false, false, false, false, false, false] (by kernel_rfl) rfl rfl ⟨(blk_cell BK217.out 0).trans rfl, (blk_cell BK217.out 1).trans rfl, (blk_cell BK217.out 2).trans rfl⟩ (fun hHeld => ?_); refine with_tabW sums_total.tab5 sums_total.bits5 (fun HT_ HW_ => ?_)
      generalize wr.drew = w9 at HO_218001 BK216 BK217 HB hHeld ⊢
      refine pure_ (i := 1) (N := some 14) (v := ?_) (a' := ?_) #[false, true, false, false, false, false, false, false] rfl rfl (any_of HT_.out (by kernel_rfl)) (fun _ _ _ h => h) (Or.inl ⟨by rfl, ?_⟩) ?_ ?_
      rotate_left
      ·intro w'
       go_simp
       with_reducible rfl
      rotate_left
      ·simp only [Act.put, List.setIfInBounds_toArray, List.set_cons_zero, List.set_cons_succ, i64_w, i32_w]
       rfl
      refine take_ (i := 0) (N := some 13) (v := ?_) (a' := ?_) #[true, true, false, false, false, false, false, false] rfl rfl (take_ofW HT_.out HW_.out (by kernel_rfl)) (fun _ _ _ h => h) (Or.inl ⟨by rfl, ?_⟩) hHeld ?_ ?_
      rotate_left
      ·rintro w' ⟨s0, s1, s2⟩
       go_simp
       with_reducible rfl
      rotate_left
      ·simp only [Act.put, List.setIfInBounds_toArray, List.set_cons_zero, List.set_cons_succ, i64_w, i32_w]
       rfl
      refine one_ (i := 2) (N := some 15) #[true, true, true, false, false, false, false, false] rfl rfl (one_of HT_.out (by kernel_rfl)) (by decide) (fun K hK => ?_)
      refine goes_ Tryz.func46 (by kernel_rfl) rfl #[.float .f64 (rdOf (0 : Nat) l0 x8_1)] (by rfl) rfl rfl eqA ?_
      with_reducible refine (sums_num.calls (rdOf (0 : Nat) l0 x8_1) t219 t220 t223 _ A7.out).mono ?_
      rintro e w10 ⟨v221, rfl, ho0, hb⟩
      refine ⟨_, rfl, ?_⟩
      have n0_ := Aside0.mk (Kd.R_elder' (rUp HO_218001.out) (Kd.R_base ho0) hb)
      have n1_ := Aside0.mk (Kd.R_lower (Kd.R_new' ho0 (Kd.R_lt (rUp HO_218001.out))) (below_size (by repeat (first | (with_reducible first | exact HB.out | apply below_alloc | apply pw_below_drewN | apply below_drew1 | refine below_set ?_ GE216.out | refine below_set ?_ GE217.out) | exact HB.out))))
      have n2_ := Aside0.mk (blk_below (g := gb216) (o := .cells #[.bool false, .slice none 0 0, .int .i64 0] 60 (0, 0)) (blkU BK216.out) hb)
      have n3_ := Aside0.mk (blk_below (g := gb217) (o := .cells #[.bool x218000_1, u218001, .int .i64 x218002_1] 60 (0, 0)) (blkU BK217.out) hb)
      have n4_ := Aside0.mk (below_step (by repeat (first | (with_reducible first | exact HB.out | apply below_alloc | apply pw_below_drewN | apply below_drew1 | refine below_set ?_ GE216.out | refine below_set ?_ GE217.out) | exact HB.out)) hb)
      clear HO_218001
      clear BK216
      clear BK217
      clear HB
      have HO_218001 := n0_
      have HO222 := n1_
      have BK216 := n2_
      have BK217 := n3_
      have HB := n4_
      clear n0_ n1_ n2_ n3_ n4_
      (try clear hb)
      (try clear hb2)
      (try clear hk)
      (try clear hi)
      (try clear ho0)
      obtain ⟨Ao11, co11, eo11⟩ := Kd.R_slice HO_218001.out
      (first | subst eo11 | (injection eo11 with f1_ f2_ f3_; have f4_ := f1_.symm; have f5_ := f3_.symm; clear f1_ f2_ f3_; subst f4_; subst f5_))
      obtain ⟨Ao12, co12, eo12⟩ := Kd.R_slice HO222.out
      (first | subst eo12 | (injection eo12 with f1_ f2_ f3_; have f4_ := f1_.symm; have f5_ := f3_.symm; clear f1_ f2_ f3_; subst f4_; subst f5_))
      refine hK.out _ _ ⟨(blk_cell BK217.out 0).trans rfl, (blk_cell BK217.out 1).trans rfl, (blk_cell BK217.out 2).trans rfl⟩ (fun hHeld => ?_)
      clear hK K
      refine norm_ (a' := ?_) ?_ ?_
      rotate_left
      ·show Act.put _ (some 15) _ = _
       simp only [Act.put, List.setIfInBounds_toArray, List.set_cons_zero, List.set_cons_succ, i64_w, i32_w]
       rfl
      refine one_ (i := 3) (N := some 16) #[true, true, true, true, false, false, false, false] rfl rfl (one_of HT_.out (by kernel_rfl)) (by decide) (fun K hK => ?_)
      refine goes_ Tryz.func79 (by kernel_rfl) rfl #[.agg #[.bool x218000_1, .slice Ao11 x218001_1.length co11, .int .i64 x218002_1], .agg #[.bool t219, .slice Ao12 t220.length co12, .int .i64 t223]] (by rfl) rfl rfl eqA ?_
      with_reducible refine (dyad_Add.calls x218000_1 _ _ x218001_1 x218002_1 t219 _ _ t220 t223 t224 t225 t228 t229 _ ?side1 ?side2 ?side3 ?side4 A8.out).mono ?_
      (case side1 => repeat (first | exact (Kd.R_reads' HO_218001.out).2.2 | (with_reducible refine Kd.C_alloc ?_ _) | (with_reducible refine Kd.C_drewN ?_ _) | (with_reducible refine Kd.C_drew ?_)))
      (case side2 => exact (Kd.R_reads' HO_218001.out).2.1)
      (case side3 => repeat (first | exact (Kd.R_reads' HO222.out).2.2 | (with_reducible refine Kd.C_alloc ?_ _) | (with_reducible refine Kd.C_drewN ?_ _) | (with_reducible refine Kd.C_drew ?_)))
      (case side4 => exact (Kd.R_reads' HO222.out).2.1)
      rintro e w13 ⟨v226, rfl, ho0, hb⟩
      refine ⟨_, rfl, ?_⟩
      have n0_ := Aside0.mk (Kd.R_elder' (rUp HO_218001.out) (Kd.R_base ho0) hb)
      have n1_ := Aside0.mk (Kd.R_elder' (rUp HO222.out) (Kd.R_base ho0) hb)
      have n2_ := Aside0.mk (Kd.R_lower (Kd.R_new' (Kd.R_new' ho0 (Kd.R_lt (rUp HO_218001.out))) (Kd.R_lt (rUp HO222.out))) (below_size (by repeat (first | (with_reducible first | exact HB.out | apply below_alloc | apply pw_below_drewN | apply below_drew1 | refine below_set ?_ GE216.out | refine below_set ?_ GE217.out) | exact HB.out))))
      have n3_ := Aside0.mk (blk_below (g := gb216) (o := .cells #[.bool false, .slice none 0 0, .int .i64 0] 60 (0, 0)) (blkU BK216.out) hb)
      have n4_ := Aside0.mk (blk_below (g := gb217) (o := .cells #[.bool x218000_1, .slice Ao11 x218001_1.length co11, .int .i64 x218002_1] 60 (0, 0)) (blkU BK217.out) hb)
      have n5_ := Aside0.mk (below_step (by repeat (first | (with_reducible first | exact HB.out | apply below_alloc | apply pw_below_drewN | apply below_drew1 | refine below_set ?_ GE216.out | refine below_set ?_ GE217.out) | exact HB.out)) hb)
      clear HO_218001
      clear HO222
      clear BK216
      clear BK217
      clear HB
      have HO_218001 := n0_
      have HO222 := n1_
      have HO227 := n2_
      have BK216 := n3_
      have BK217 := n4_
      have HB := n5_
      clear n0_ n1_ n2_ n3_ n4_ n5_
      (try clear hb)
      (try clear hb2)
      (try clear hk)
      (try clear hi)
      (try clear ho0)
      obtain ⟨Ao15, co15, eo15⟩ := Kd.R_slice HO227.out
      (first | subst eo15 | (injection eo15 with f1_ f2_ f3_; have f4_ := f1_.symm; have f5_ := f3_.symm; clear f1_ f2_ f3_; subst f4_; subst f5_))
      refine hK.out _ _ ⟨(blk_cell BK217.out 0).trans rfl, (blk_cell BK217.out 1).trans rfl, (blk_cell BK217.out 2).trans rfl⟩ (fun hHeld => ?_)
      clear hK K
      refine norm_ (a' := ?_) ?_ ?_
      rotate_left
      ·show Act.put _ (some 16) _ = _
       simp only [Act.put, List.setIfInBounds_toArray, List.set_cons_zero, List.set_cons_succ, i64_w, i32_w]
       rfl
      refine pure_ (i := 4) (N := some 12) (v := ?_) (a' := ?_) #[true, true, true, true, true, false, false, false] rfl rfl (any_of HT_.out (by kernel_rfl)) (fun _ _ _ h => h) (Or.inl ⟨by rfl, ?_⟩) ?_ ?_
      rotate_left
      ·intro w'
       go_simp
       with_reducible rfl
      rotate_left
      ·simp only [Act.put, List.setIfInBounds_toArray, List.set_cons_zero, List.set_cons_succ, i64_w, i32_w]
       rfl
      refine pure_ (i := 5) (N := some 17) (v := ?_) (a' := ?_) #[true, true, true, true, true, true, false, false] rfl rfl (any_of HT_.out (by kernel_rfl)) (fun _ _ _ h => h) (Or.inl ⟨by rfl, ?_⟩) ?_ ?_
      rotate_left
      ·intro w'
       go_simp
       with_reducible rfl
      rotate_left
      ·simp only [Act.put, List.setIfInBounds_toArray, List.set_cons_zero, List.set_cons_succ, i64_w, i32_w]
       rfl
      refine pure_ (i := 6) (N := some 18) (v := ?_) (a' := ?_) #[true, true, true, true, true, true, true, false] rfl rfl (any_of HT_.out (by kernel_rfl)) (fun _ _ _ h => h) (Or.inl ⟨by rfl, ?_⟩) ?_ ?_
      rotate_left
      ·intro w'
       go_simp
       with_reducible rfl
      rotate_left
      ·simp only [Act.put, List.setIfInBounds_toArray, List.set_cons_zero, List.set_cons_succ, i64_w, i32_w]
       rfl
      refine last_ (i := 7) (N := none) #[true, true, true, true, true, true, true, true] rfl rfl (one_of HT_.out (by kernel_rfl)) (by decide) (fun K hK => ?_)
      have hs14 : w13.cell? ⟨gb217, 0, none⟩ = some (.bool x218000_1) := (blk_cell BK217.out 0).trans rfl
      have hfs14 := blk_frozen BK217.out 0
      have hns14_0 := NB216_217.out
      have hms14_0 := NB217_216.out
      have hs16 : w13.cell? ⟨gb217, 1, none⟩ = some (.slice Ao11 x218001_1.length co11) := (blk_cell BK217.out 1).trans rfl
      have hfs16 := blk_frozen BK217.out 1
      have hns16_0 := NB216_217.out
      have hms16_0 := NB217_216.out
      have hs17 : w13.cell? ⟨gb217, 2, none⟩ = some (.int .i64 x218002_1) := (blk_cell BK217.out 2).trans rfl
      have hfs17 := blk_frozen BK217.out 2
      have hns17_0 := NB216_217.out
      have hms17_0 := NB217_216.out
      refine skip_ (w1 := ?_) (by rfl) rfl ?_ ?_
      rotate_left
      ·go_simp
       rfl
      refine hK.out _ _ ?_
      clear hK K
      refine done_ (done_of HT_.out (by kernel_rfl)) ?_
      try go_wp2
      go_roundg k1
      case measure => have := HK1.out; omega
      case rel => exact ⟨(wrap64 (x8_1 + 1)), (t224), (t225), (t228), (.slice Ao15 t225.length co15), (by first | rfl | (simp; done) | (simp [*]; done)), H', ⟨by have := HK1.out; omega⟩, ⟨by (with_reducible repeat (first | apply Kd.R_alloc | apply Kd.R_drewN | apply Kd.R_drew)); exact Kd.R_mono (Kd.R_far (p := ⟨gb217, 2, none⟩) (Kd.R_far (p := ⟨gb217, 1, none⟩) (Kd.R_far (p := ⟨gb217, 0, none⟩) (Kd.R_types HO227.out BK217.out (by decide)) (fun _ hk => hk.2) (.bool t224)) (fun _ hk => hk.2) (.slice Ao15 t225.length co15)) (fun _ hk => hk.2) (.int .i64 t228)) (fun _ hk => trivial)⟩, ⟨by (with_reducible repeat (first | refine blk_drewN ?_ _ | refine blk_drew ?_ | refine blk_alloc ?_ _)); refine blk_far ?_ NB216_217.out _; (with_reducible repeat (first | refine blk_drewN ?_ _ | refine blk_drew ?_ | refine blk_alloc ?_ _)); refine blk_far ?_ NB216_217.out _; (with_reducible repeat (first | refine blk_drewN ?_ _ | refine blk_drew ?_ | refine blk_alloc ?_ _)); refine blk_far ?_ NB216_217.out _; (with_reducible repeat (first | refine blk_drewN ?_ _ | refine blk_drew ?_ | refine blk_alloc ?_ _)); exact BK216.out⟩, ⟨by (with_reducible repeat (first | refine blk_drewN ?_ _ | refine blk_drew ?_ | refine blk_alloc ?_ _)); refine blk_put (cs := #[.bool t224, .slice Ao15 t225.length co15, .int .i64 x218002_1]) ?_ 2 _ rfl; (with_reducible repeat (first | refine blk_drewN ?_ _ | refine blk_drew ?_ | refine blk_alloc ?_ _)); refine blk_put (cs := #[.bool t224, .slice Ao11 x218001_1.length co11, .int .i64 x218002_1]) ?_ 1 _ rfl; (with_reducible repeat (first | refine blk_drewN ?_ _ | refine blk_drew ?_ | refine blk_alloc ?_ _)); refine blk_put (cs := #[.bool x218000_1, .slice Ao11 x218001_1.length co11, .int .i64 x218002_1]) ?_ 0 _ rfl; (with_reducible repeat (first | refine blk_drewN ?_ _ | refine blk_drew ?_ | refine blk_alloc ?_ _)); exact BK217.out⟩, ⟨by repeat (first | (with_reducible first | exact HB.out | apply below_alloc | apply pw_below_drewN | apply below_drew1 | refine below_set ?_ GE216.out | refine below_set ?_ GE217.out) | exact HB.out)⟩⟩
     ·rw [if_neg c6] at H
      exact absurd H (by simp)
    ·rw [if_neg c5] at H
     exact absurd H (by simp)
   ·rw [if_neg c4] at H
    have c4b0 : decide (x8_1 < (l0.length : Int)) = false := decide_eq_false c4
    clear c4
    simp only [Option.some.injEq, Prod.mk.injEq] at H
    obtain ⟨rfl, rfl, rfl⟩ := H
    have hnb18 := NB217_216.out
    have hnc18 := NB216_217.out
    have hcz19_0 : wr.cell? ⟨gb217, 0, none⟩ = some (.bool x218000_1) := (blk_cell BK217.out 0).trans rfl
    have hcz19_1 : wr.cell? ⟨gb217, 1, none⟩ = some (u218001) := (blk_cell BK217.out 1).trans rfl
    have hcz19_2 : wr.cell? ⟨gb217, 2, none⟩ = some (.int .i64 x218002_1) := (blk_cell BK217.out 2).trans rfl
    have hfz19_0 := blk_frozen BK217.out 0
    have hfz19_1 := blk_frozen BK217.out 1
    have hfz19_2 := blk_frozen BK217.out 2
    have hcz20_0 : wr.cell? ⟨gb216, 0, none⟩ = some (.bool false) := (blk_cell BK216.out 0).trans rfl
    have hcz20_1 : wr.cell? ⟨gb216, 1, none⟩ = some (.slice none 0 0) := (blk_cell BK216.out 1).trans rfl
    have hcz20_2 : wr.cell? ⟨gb216, 2, none⟩ = some (.int .i64 0) := (blk_cell BK216.out 2).trans rfl
    have hfz20_0 := blk_frozen BK216.out 0
    have hfz20_1 := blk_frozen BK216.out 1
    have hfz20_2 := blk_frozen BK216.out 2
    obtain ⟨Ao21, co21, eo21⟩ := Kd.R_slice HO_218001.out
    subst eo21
    go_wp2
    refine bodyPost_ret (results_cell_row rfl _ _ gb216 60 #[.bool x218000_1, .slice Ao21 x218001_1.length co21, .int .i64 x218002_1] (0, 0) _ rfl (by (with_reducible repeat (first | refine blk_drewN ?_ _ | refine blk_drew ?_ | refine blk_alloc ?_ _)); refine blk_put (cs := #[.bool x218000_1, .slice Ao21 x218001_1.length co21, .int .i64 0]) ?_ 2 _ rfl; (with_reducible repeat (first | refine blk_drewN ?_ _ | refine blk_drew ?_ | refine blk_alloc ?_ _)); refine blk_put (cs := #[.bool x218000_1, .slice none 0 0, .int .i64 0]) ?_ 1 _ rfl; (with_reducible repeat (first | refine blk_drewN ?_ _ | refine blk_drew ?_ | refine blk_alloc ?_ _)); refine blk_put (cs := #[.bool false, .slice none 0 0, .int .i64 0]) ?_ 0 _ rfl; (with_reducible repeat (first | refine blk_drewN ?_ _ | refine blk_drew ?_ | refine blk_alloc ?_ _)); exact BK216.out) Tryz.underlying60 rfl (by kernel_rfl)) rfl ?_
    exact ⟨_, by first | rfl | (simp [errW_none, errW_some] <;> rfl) | (simp [*, errW_none, errW_some] <;> rfl), by (with_reducible repeat (first | apply Kd.R_alloc | apply Kd.R_drewN | apply Kd.R_drew)); exact Kd.R_mono (Kd.R_far (p := ⟨gb216, 2, none⟩) (Kd.R_far (p := ⟨gb216, 1, none⟩) (Kd.R_far (p := ⟨gb216, 0, none⟩) (Kd.R_types HO_218001.out BK216.out (by decide)) (fun _ hk => hk.2) (.bool x218000_1)) (fun _ hk => hk.2) (.slice Ao21 x218001_1.length co21)) (fun _ hk => hk.2) (.int .i64 x218002_1)) (fun _ hk => trivial), by repeat (first | (with_reducible first | exact HB.out | apply below_alloc | apply pw_below_drewN | apply below_drew1 | refine below_set ?_ GE216.out | refine below_set ?_ GE217.out) | exact HB.out)⟩
def sums_Two.j0 : Nat → Nat → Nat → Nat → Bool → Option (Nat × Nat)
 | 0, _, _, _, _ => none
 | k + 1, x0, x1, x6, x20 => if x20 = true then (some (x6, (0 : Nat))) else ((sums_total.f k (([x0, x1] : List Nat))).bind fun bt235 => ((sums_num.f x6).bind fun bt240 => ((dyad_Sub.f k bt235.1 bt235.2.1 bt235.2.2 bt240.1 bt240.2.1 bt240.2.2).bind fun bt245 => ((dyad_Round.f bt245.1 bt245.2.1 bt245.2.2.1 2).bind fun bt252 => (some (x6, bt252.1))))))
def sums_Two.f (k : Nat) (a0 : Nat) (a1 : Nat) : Option (Nat × Nat) := (sums_near.f k a0 a1).bind fun t230 => (if ((FloatKind.f64.format.order t230 t230) != some .eq) = true then (sums_Two.j0 k a0 a1 t230 true) else ((math_IsInf.f t230 0).bind fun t231 => (sums_Two.j0 k a0 a1 t230 t231)))
set_option maxHeartbeats 8000000 in
set_option maxRecDepth 100000 in
theorem sums_Two.calls (k : Nat) (a0 : Nat) (a1 : Nat) (r1 : Nat) (r2 : Nat) (w : World) (h : sums_Two.f k a0 a1 = some (r1, r2)) (hL : Big.Laid w := by exact Big.Laid.step HL.out hbw) :
  Calls Tryz.prog 20 #[.float .f64 a0, .float .f64 a1] w fun e w' => e = .returned (.tuple #[.float .f64 r1, .float .f64 r2]) ∧ Below w.heap.size w w' := by
 have HL := Aside0.mk hL
 clear hL
 have hu60 := Tryz.underlying60
 have HB := Aside0.mk (Below.refl w.heap.size w)
 have H : ((sums_near.f k a0 a1).bind fun t230 => (if ((FloatKind.f64.format.order t230 t230) != some .eq) = true then (sums_Two.j0 k a0 a1 t230 true) else ((math_IsInf.f t230 0).bind fun t231 => (sums_Two.j0 k a0 a1 t230 t231)))) = some (r1, r2) := h
 clear h
 replace H := Option.bind_eq_some_iff.mp H
 obtain ⟨t230, A30, H⟩ := H
 replace H : (if ((FloatKind.f64.format.order t230 t230) != some .eq) = true then (sums_Two.j0 k a0 a1 t230 true) else ((math_IsInf.f t230 0).bind fun t231 => (sums_Two.j0 k a0 a1 t230 t231))) = some (r1, r2) := H
 have A3 := Aside0.mk A30
 clear A30
 have HC4 := Aside0.mk H
 clear H
 go_enter Tryz.func20, Tryz.ntmps20
 go_upto_region 2 with (first | ((with_reducible refine gate_callee (f := 39) rfl ?_); refine goesL_ (some 13) rfl rfl Tryz.func39 (by kernel_rfl) rfl #[.float .f64 a0, .float .f64 a1] rfl eqA ?_; (with_reducible refine (sums_near.calls k a0 a1 t230 _ A3.out).mono ?_); rintro e w5 ⟨rfl, hb⟩; refine ⟨_, rfl, ?_⟩; have n0_ := Aside0.mk (below_step hbw hb); clear HB; have HB := n0_; clear n0_; (try clear hb); (try clear hb2); (try clear hk); (try clear hi)))
 (try simp only [Act.put, List.setIfInBounds_toArray, List.set_cons_zero, List.set_cons_succ])
 go_cut [20] (fun v20 wc => ∃ (kq : Nat) (x20_3 : Bool), v20 = .bool x20_3 ∧ Aside0 (sums_Two.j0 kq a0 a1 t230 x20_3 = some (r1, r2)) ∧ Aside0 (kq ≤ k) ∧ Aside0 (Below w.heap.size w wc))
 case first =>
  have H := HC4.out
  clear HC4
  by_cases c6 : ((FloatKind.f64.format.order t230 t230) != some .eq) = true
  ·rw [if_pos c6] at H
   have c6b0 : ((FloatKind.f64.format.order t230 t230) != some .eq) = true := c6
   (try (have c6b1 : decide ((FloatKind.f64.format.order t230 t230) = some .eq) = false := by simpa using c6))
   (try (have c6b2 : ((FloatKind.f64.format.order t230 t230) == some .eq) = false := by simpa using c6))
   (try (have c6b3 : ¬ ((FloatKind.f64.format.order t230 t230) = some .eq) := by simpa using c6))
   clear c6
   (first | rw [c6b0] | (simp only [i64_w, i32_w]; rw [c6b0]) | skip)
   have H' := Aside0.mk H
   clear H
   go_wp2
   go_meet
   case rel => exact ⟨_, (true), (by first | rfl | (simp; done) | (simp [*]; done)), H', ⟨by first | omega | exact Nat.le_refl _⟩, ⟨hbw⟩⟩
  ·rw [if_neg c6] at H
   have c6b0 : ((FloatKind.f64.format.order t230 t230) != some .eq) = false := by simpa using c6
   (try (have c6b1 : decide ((FloatKind.f64.format.order t230 t230) = some .eq) = true := by simpa using c6))
   (try (have c6b2 : ((FloatKind.f64.format.order t230 t230) == some .eq) = true := by simpa using c6))
   clear c6
   (first | rw [c6b0] | (simp only [i64_w, i32_w]; rw [c6b0]) | skip)
   replace H := Option.bind_eq_some_iff.mp H
   obtain ⟨t231, A70, H⟩ := H
   replace H : (sums_Two.j0 k a0 a1 t230 t231) = some (r1, r2) := H
   have A7 := Aside0.mk A70
   clear A70
   have H' := Aside0.mk H
   clear H
   go_wp2_with (first | (go_at_call 43; (with_reducible refine (math_IsInf.calls t230 0 t231 _ A7.out).mono ?_); rintro e w' ⟨rfl, ⟨nd, rfl⟩⟩))
   go_meet
   case rel => exact ⟨_, (t231), (by first | rfl | (simp; done) | (simp [*]; done)), H', ⟨by first | omega | exact Nat.le_refl _⟩, ⟨hbw⟩⟩
 case rest =>
  clear HC4
  try clear c2
  try clear p2
  try clear c3
  try clear c6
  try clear c6b0
  try clear c6b1
  try clear c6b2
  obtain ⟨kq, x20_3, rfl, HA, HJ3, HB⟩ := hcut
  cases kq with
  | zero => exact absurd HA.out (by simp [sums_Two.j0])
  | succ kj3 =>
   have H := HA.out
   clear HA
   simp only [sums_Two.j0] at H
   by_cases c8 : x20_3 = true
   ·subst c8
    have H1 : (some (t230, (0 : Nat))) = some (r1, r2) := by rw [if_pos rfl] at H; exact H
    clear H
    have H := H1
    clear H1
    simp only [Option.some.injEq, Prod.mk.injEq] at H
    obtain ⟨rfl, rfl⟩ := H
    go_wp2
    go_ret2
    exact ⟨by first | rfl | (simp [errW_none, errW_some] <;> rfl) | (simp [*, errW_none, errW_some] <;> rfl), hbw⟩
   ·replace c8 := Bool.eq_false_iff.mpr c8
    subst c8
    have H1 : ((sums_total.f kj3 (([a0, a1] : List Nat))).bind fun bt235 => ((sums_num.f t230).bind fun bt240 => ((dyad_Sub.f kj3 bt235.1 bt235.2.1 bt235.2.2 bt240.1 bt240.2.1 bt240.2.2).bind fun bt245 => ((dyad_Round.f bt245.1 bt245.2.1 bt245.2.2.1 2).bind fun bt252 => (some (t230, bt252.1)))))) = some (r1, r2) := by rw [if_neg (show ¬ (false = true) by decide)] at H; exact H
    clear H
    have H := H1
    clear H1
    obtain ⟨y232, hy232⟩ : ∃ y_ : List Nat, y_ = (([a0, a1] : List Nat)) := ⟨_, rfl⟩
    replace H : ((sums_total.f kj3 y232).bind fun bt235 => ((sums_num.f t230).bind fun bt240 => ((dyad_Sub.f kj3 bt235.1 bt235.2.1 bt235.2.2 bt240.1 bt240.2.1 bt240.2.2).bind fun bt245 => ((dyad_Round.f bt245.1 bt245.2.1 bt245.2.2.1 2).bind fun bt252 => (some (t230, bt252.1)))))) = some (r1, r2) := by first | (rw [hy232]; with_reducible exact H) | (have H2_ := (Option.bind_some _ _).symm.trans H; rw [hy232]; with_reducible exact H2_) | (have H2_ := (Option.bind_some _ _).symm.trans H; with_reducible exact H2_) | with_reducible exact H | (rw [hy232]; exact H) | exact H
    have Ny232 := Aside0.mk hy232
    clear hy232
    replace H := Option.bind_eq_some_iff.mp H
    obtain ⟨⟨t235, t236, t239⟩, A90, H⟩ := H
    replace H : ((sums_num.f t230).bind fun bt240 => ((dyad_Sub.f kj3 t235 t236 t239 bt240.1 bt240.2.1 bt240.2.2).bind fun bt245 => ((dyad_Round.f bt245.1 bt245.2.1 bt245.2.2.1 2).bind fun bt252 => (some (t230, bt252.1))))) = some (r1, r2) := H
    have A9 := Aside0.mk A90
    clear A90
    replace H := Option.bind_eq_some_iff.mp H
    obtain ⟨⟨t240, t241, t244⟩, A100, H⟩ := H
    replace H : ((dyad_Sub.f kj3 t235 t236 t239 t240 t241 t244).bind fun bt245 => ((dyad_Round.f bt245.1 bt245.2.1 bt245.2.2.1 2).bind fun bt252 => (some (t230, bt252.1)))) = some (r1, r2) := H
    have A10 := Aside0.mk A100
    clear A100
    replace H := Option.bind_eq_some_iff.mp H
    obtain ⟨⟨t245, t246, t249, t250⟩, A110, H⟩ := H
    replace H : ((dyad_Round.f t245 t246 t249 2).bind fun bt252 => (some (t230, bt252.1))) = some (r1, r2) := H
    have A11 := Aside0.mk A110
    clear A110
    replace H := Option.bind_eq_some_iff.mp H
    obtain ⟨⟨t252, t253⟩, A120, H⟩ := H
    replace H : (some (t230, t252)) = some (r1, r2) := H
    have A12 := Aside0.mk A120
    clear A120
    simp only [Option.some.injEq, Prod.mk.injEq] at H
    obtain ⟨rfl, rfl⟩ := H
    go_wp2_with (first | ((with_reducible refine gate_dst (N := 25) rfl ?_); refine Kd.R_lit Kd.float _ 25 ?hg (N := 25) ?hd (xs := ([a0, a1] : List Nat)) (inner := [.float .f64 a0, .float .f64 a1]) (ok := fun _ => True) (okp := fun _ => True) ?hr ?hp (fun _ hk => hk) trivial (Below.refl _ _) (Nat.le_refl _) (by simp) ?_; (case hd => rfl); (case hg => rfl); (case hr => first | (go_simp; done) | (go_simp; rfl)); (case hp => exact (Reps.one (show Kd.M Kd.float _ _ _ a0 [.float .f64 a0] from rfl) (Reps.one (show Kd.M Kd.float _ _ _ a1 [.float .f64 a1] from rfl) (Reps.none _ _)))); intro v233 w13 ho14 hb hg_ hnew_; clear hg_ hnew_; (first | rw [← Ny232.out] at ho14 | (simp only [Int.reduceToNat] at ho14; rw [← Ny232.out] at ho14)); have n0_ := Aside0.mk (Kd.R_lower ho14 (below_size hbw)); have n1_ := Aside0.mk (below_step hbw hb); clear HB; have HO234 := n0_; have HB := n1_; clear n0_ n1_; clear hb ho14; obtain ⟨Ao15, co15, eo15⟩ := Kd.R_slice HO234.out; subst eo15) | ((with_reducible refine gate_callee (f := 45) rfl ?_); refine goesL_ (some 26) rfl rfl Tryz.func45 (by kernel_rfl) rfl #[.slice Ao15 y232.length co15] rfl eqA ?_; (with_reducible refine (sums_total.calls kj3 _ _ y232 t235 t236 t239 _ ?side1 ?side2 A9.out).mono ?_); (case side1 => repeat (first | exact (Kd.R_reads' HO234.out).2.2 | (with_reducible refine Kd.C_alloc ?_ _) | (with_reducible refine Kd.C_drewN ?_ _) | (with_reducible refine Kd.C_drew ?_))); (case side2 => exact (Kd.R_reads' HO234.out).2.1); rintro e w16 ⟨v237, rfl, ho0, hb⟩; refine ⟨_, rfl, ?_⟩; have n0_ := Aside0.mk (Kd.R_below (rUp HO234.out) hb); have n1_ := Aside0.mk (Kd.R_lower ho0 (below_size hbw)); have n2_ := Aside0.mk (below_step hbw hb); clear HO234; clear HB; have HO234 := n0_; have HO238 := n1_; have HB := n2_; clear n0_ n1_ n2_; (try clear hb); (try clear hb2); (try clear hk); (try clear hi); (try clear ho0)) | ((with_reducible refine gate_callee (f := 46) rfl ?_); refine goesL_ (some 28) rfl rfl Tryz.func46 (by kernel_rfl) rfl #[.float .f64 t230] rfl eqA ?_; (with_reducible refine (sums_num.calls t230 t240 t241 t244 _ A10.out).mono ?_); rintro e w17 ⟨v242, rfl, ho0, hb⟩; refine ⟨_, rfl, ?_⟩; have n0_ := Aside0.mk (Kd.R_below (rUp HO234.out) hb); have n1_ := Aside0.mk (Kd.R_elder' (rUp HO238.out) (Kd.R_base ho0) hb); have n2_ := Aside0.mk (Kd.R_lower (Kd.R_new' ho0 (Kd.R_lt (rUp HO238.out))) (below_size hbw)); have n3_ := Aside0.mk (below_step hbw hb); clear HO234; clear HO238; clear HB; have HO234 := n0_; have HO238 := n1_; have HO243 := n2_; have HB := n3_; clear n0_ n1_ n2_ n3_; (try clear hb); (try clear hb2); (try clear hk); (try clear hi); (try clear ho0); obtain ⟨Ao18, co18, eo18⟩ := Kd.R_slice HO238.out; subst eo18; obtain ⟨Ao19, co19, eo19⟩ := Kd.R_slice HO243.out; subst eo19) | ((with_reducible refine gate_callee (f := 44) rfl ?_); refine goesL_ (some 29) rfl rfl Tryz.func44 (by kernel_rfl) rfl #[.agg #[.bool t235, .slice Ao18 t236.length co18, .int .i64 t239], .agg #[.bool t240, .slice Ao19 t241.length co19, .int .i64 t244]] rfl eqA ?_; (with_reducible refine (dyad_Sub.calls kj3 t235 (fun k_ => some k_ = (.slice Ao18 t236.length co18 : Value).ownBlock) _ _ t236 t239 t240 (fun k_ => some k_ = (.slice Ao19 t241.length co19 : Value).ownBlock) _ _ t241 t244 t245 t246 t249 t250 _ ?side1 ?side2 A11.out).mono ?_); (case side1 => exact Kd.R_V (Kd.R_tight rfl (Kd.R_apart' (HO238.out) (Kd.R_typed HO234.out) (by decide)))); (case side2 => exact Kd.R_V (Kd.R_tight rfl (Kd.R_apart' (HO243.out) (Kd.R_typed HO234.out) (by decide)))); rintro e w20 ⟨v247, rfl, ho0, hb⟩; refine ⟨_, rfl, ?_⟩; have n0_ := Aside0.mk (Kd.R_below (rUp HO234.out) hb); have n1_ := Aside0.mk (Kd.R_elder' (rUp HO238.out) (Kd.R_base ho0) hb); have n2_ := Aside0.mk (Kd.R_elder' (rUp HO243.out) (Kd.R_base ho0) hb); have n3_ := Aside0.mk (Kd.R_lower (Kd.R_new' (Kd.R_new' (Kd.R_mono (ok' := fun k_ => True) ho0 (fun _ hk_ => trivial)) (Kd.R_lt (rUp HO238.out))) (Kd.R_lt (rUp HO243.out))) (below_size hbw)); have n4_ := Aside0.mk (below_step hbw hb); clear HO234; clear HO238; clear HO243; clear HB; have HO234 := n0_; have HO238 := n1_; have HO243 := n2_; have HO248 := n3_; have HB := n4_; clear n0_ n1_ n2_ n3_ n4_; (try clear hb); (try clear hb2); (try clear hk); (try clear hi); (try clear ho0)) | ((with_reducible refine gate_dst (N := 7) rfl ?_); refine box_event ?hg (N := 7) ?hd (cs := #[.bool false, .slice none 0 0, .int .i64 0]) (t := 60) ?hr ?_; (case hd => rfl); (case hg => rfl); (case hr => first | (go_simp; done) | (go_simp; rfl)); intro gb251 hg w21 hbox hb; have n0_ := Aside0.mk (Kd.R_below (rUp HO234.out) hb); have n1_ := Aside0.mk (Kd.R_below (rUp HO238.out) hb); have n2_ := Aside0.mk (Kd.R_below (rUp HO243.out) hb); have n3_ := Aside0.mk (Kd.R_below (rUp HO248.out) hb); have n4_ := Aside0.mk (below_step hbw hb); have n5_ := Aside0.mk (hbox); have n6_ := Aside0.mk ((by rw [hg]; exact (below_size hbw) : w.heap.size ≤ gb251)); have n7_ := Aside0.mk ((by rw [hg]; exact (below_size hbw) : w.heap.size ≤ gb251)); clear HO234; clear HO238; clear HO243; clear HO248; clear HB; have HO234 := n0_; have HO238 := n1_; have HO243 := n2_; have HO248 := n3_; have HB := n4_; have BK251 := n5_; have GW251 := n6_; have GE251 := n7_; clear n0_ n1_ n2_ n3_ n4_ n5_ n6_ n7_; clear hb hbox hg; have hcz22_0 : w21.cell? ⟨gb251, 0, none⟩ = some (.bool false) := (blk_cell BK251.out 0).trans rfl; have hcz22_1 : w21.cell? ⟨gb251, 1, none⟩ = some (.slice none 0 0) := (blk_cell BK251.out 1).trans rfl; have hcz22_2 : w21.cell? ⟨gb251, 2, none⟩ = some (.int .i64 0) := (blk_cell BK251.out 2).trans rfl; have hfz22_0 := blk_frozen BK251.out 0; have hfz22_1 := blk_frozen BK251.out 1; have hfz22_2 := blk_frozen BK251.out 2; obtain ⟨Ao23, co23, eo23⟩ := Kd.R_slice HO248.out; subst eo23) | ((with_reducible refine gate_callee (f := 47) rfl ?_); refine goesL_ (some 34) rfl rfl Tryz.func47 (by kernel_rfl) rfl #[.agg #[.bool t245, .slice Ao23 t246.length co23, .int .i64 t249], .int .i64 2] rfl eqA ?_; (with_reducible refine (dyad_Round.calls t245 _ _ t246 t249 2 t252 t253 _ ?side1 ?side2 A12.out).mono ?_); (case side1 => refine (Kd.R_reads' (e := 83) (base := w.heap.size) (ok := fun k_ => ((True ∧ some k_ ≠ (.slice Ao18 t236.length co18 : Value).ownBlock) ∧ some k_ ≠ (.slice Ao19 t241.length co19 : Value).ownBlock)) (n := t246.length) (c := co23) ?_).2.2; exact (by (with_reducible repeat (first | apply Kd.R_alloc | apply Kd.R_drewN | apply Kd.R_drew)); exact (Kd.R_mono (Kd.R_far (p := ⟨gb251, 2, none⟩) (Kd.R_far (p := ⟨gb251, 1, none⟩) (Kd.R_far (p := ⟨gb251, 0, none⟩) (Kd.R_types HO248.out BK251.out (by decide)) (fun _ hk => hk.2) (.bool t245)) (fun _ hk => hk.2) (.slice Ao23 t246.length co23)) (fun _ hk => hk.2) (.int .i64 t249)) (fun _ h_ => h_.1)))); (case side2 => exact (Kd.R_reads' HO248.out).2.1); rintro e w24 ⟨rfl, hb⟩; refine ⟨_, rfl, ?_⟩; have n0_ := Aside0.mk (Kd.R_below (by (with_reducible repeat (first | apply Kd.R_alloc | apply Kd.R_drewN | apply Kd.R_drew)); exact (Kd.R_mono (Kd.R_far (p := ⟨gb251, 2, none⟩) (Kd.R_far (p := ⟨gb251, 1, none⟩) (Kd.R_far (p := ⟨gb251, 0, none⟩) (Kd.R_types HO234.out BK251.out (by decide)) (fun _ hk => hk.2) (.bool t245)) (fun _ hk => hk.2) (.slice Ao23 t246.length co23)) (fun _ hk => hk.2) (.int .i64 t249)) (fun _ h_ => h_.1))) hb); have n1_ := Aside0.mk (Kd.R_below (by (with_reducible repeat (first | apply Kd.R_alloc | apply Kd.R_drewN | apply Kd.R_drew)); exact (Kd.R_mono (Kd.R_far (p := ⟨gb251, 2, none⟩) (Kd.R_far (p := ⟨gb251, 1, none⟩) (Kd.R_far (p := ⟨gb251, 0, none⟩) (Kd.R_types HO238.out BK251.out (by decide)) (fun _ hk => hk.2) (.bool t245)) (fun _ hk => hk.2) (.slice Ao23 t246.length co23)) (fun _ hk => hk.2) (.int .i64 t249)) (fun _ h_ => h_.1))) hb); have n2_ := Aside0.mk (Kd.R_below (by (with_reducible repeat (first | apply Kd.R_alloc | apply Kd.R_drewN | apply Kd.R_drew)); exact (Kd.R_mono (Kd.R_far (p := ⟨gb251, 2, none⟩) (Kd.R_far (p := ⟨gb251, 1, none⟩) (Kd.R_far (p := ⟨gb251, 0, none⟩) (Kd.R_types HO243.out BK251.out (by decide)) (fun _ hk => hk.2) (.bool t245)) (fun _ hk => hk.2) (.slice Ao23 t246.length co23)) (fun _ hk => hk.2) (.int .i64 t249)) (fun _ h_ => h_.1))) hb); have n3_ := Aside0.mk (Kd.R_below (by (with_reducible repeat (first | apply Kd.R_alloc | apply Kd.R_drewN | apply Kd.R_drew)); exact (Kd.R_mono (Kd.R_far (p := ⟨gb251, 2, none⟩) (Kd.R_far (p := ⟨gb251, 1, none⟩) (Kd.R_far (p := ⟨gb251, 0, none⟩) (Kd.R_types HO248.out BK251.out (by decide)) (fun _ hk => hk.2) (.bool t245)) (fun _ hk => hk.2) (.slice Ao23 t246.length co23)) (fun _ hk => hk.2) (.int .i64 t249)) (fun _ h_ => h_.1))) hb); have n4_ := Aside0.mk (blk_below (g := gb251) (o := .cells #[.bool t245, .slice Ao23 t246.length co23, .int .i64 t249] 60 (0, 0)) (by (with_reducible repeat (first | refine blk_drewN ?_ _ | refine blk_drew ?_ | refine blk_alloc ?_ _)); refine blk_put (cs := #[.bool t245, .slice Ao23 t246.length co23, .int .i64 0]) ?_ 2 _ rfl; (with_reducible repeat (first | refine blk_drewN ?_ _ | refine blk_drew ?_ | refine blk_alloc ?_ _)); refine blk_put (cs := #[.bool t245, .slice none 0 0, .int .i64 0]) ?_ 1 _ rfl; (with_reducible repeat (first | refine blk_drewN ?_ _ | refine blk_drew ?_ | refine blk_alloc ?_ _)); refine blk_put (cs := #[.bool false, .slice none 0 0, .int .i64 0]) ?_ 0 _ rfl; (with_reducible repeat (first | refine blk_drewN ?_ _ | refine blk_drew ?_ | refine blk_alloc ?_ _)); exact BK251.out) hb); have n5_ := Aside0.mk (below_step (by repeat (first | (with_reducible first | exact HB.out | apply below_alloc | apply pw_below_drewN | apply below_drew1 | refine below_set ?_ GE251.out) | exact HB.out)) hb); clear HO234; clear HO238; clear HO243; clear HO248; clear BK251; clear HB; have HO234 := n0_; have HO238 := n1_; have HO243 := n2_; have HO248 := n3_; have BK251 := n4_; have HB := n5_; clear n0_ n1_ n2_ n3_ n4_ n5_; (try clear hb); (try clear hb2); (try clear hk); (try clear hi)))
    go_ret2
    exact ⟨by first | rfl | (simp [errW_none, errW_some] <;> rfl) | (simp [*, errW_none, errW_some] <;> rfl), by repeat (first | (with_reducible first | exact HB.out | apply below_alloc | apply pw_below_drewN | apply below_drew1 | refine below_set ?_ GE251.out) | exact HB.out)⟩
end Go.Proofs.YthmeocigliephaaGreatDoor.PSu
end
section
namespace Go.Proofs.YthmeocigliephaaGreatDoor.Big
open Go.RowKit Go.Proofs.YthmeocigliephaaGreatDoorW.PrintWords Go.Proofs.YthmeocigliephaaGreatDoorW.PrintLast Go.Proofs.YthmeocigliephaaGreatDoorW.PrintMore
open Go.Proofs.YthmeocigliephaaGreatDoor.PSu Go.Proofs.YthmeocigliephaaGreatDoor.Plain
def faultL (l : List Nat) : Int := if 65536 < l.length then 2 else if l.any nanB = true then 4 else if l.any infB? = true then 5 else 0
theorem faultL_eq (A : Option Addr) (c : Nat) (l : List Nat) : faultF [(A, c, l)] = faultL l := by
  unfold faultF faultL
  simp only [List.any_cons, List.any_nil, Bool.or_false, longB, scanF, Bool.false_or]
  by_cases h : 65536 < l.length
  · rw [if_pos h, if_pos (decide_eq_true h)]
  · rw [if_neg h, if_neg (by simpa using h)]
theorem fault_one (g : Nat) (A : Option Addr) (c : Nat) (l : List Nat) (q : Int) (w : World) (hg : w.cell? ⟨g, 0, none⟩ = some (.slice A l.length c)) (hr : Kd.C Kd.float w A l.length l) (hc : l.length ≤ c) (hn : l.length < 4611686018427387904) (hq : faultL l = q) :
    Calls Tryz.prog 50 #[.slice (some ⟨g, 0, none⟩) 1 1] w fun e w' => e = .returned (.int .i64 q) ∧ Below w.heap.size w w' := by
  have h := fault_any g [(A, c, l)] w
    (fun i hi => by
      obtain rfl : i = 0 := Nat.lt_one_iff.1 hi
      exact hg)
    (fun i hi => by
      obtain rfl : i = 0 := Nat.lt_one_iff.1 hi
      exact ⟨hr, hc, hn⟩) (by simp)
  rw [faultL_eq, hq] at h
  exact h
def exactW (l : List Nat) (mode : Int) (T : Bool × List Int × Int) : Nat × Int :=
  if 1 ≤ mode ∧ mode ≤ 3 then
    (if faultL l = 0 then
      (if T.2.1.length = 0 then (if 0 < l.length ∧ l.any oneB = false then (9223372036854775808, 0) else (0, 0)) else roundN T.1 T.2.1 T.2.2 mode)
     else (0, faultL l))
  else (0, 1)
theorem round_yes {m : Int} (h : 1 ≤ m ∧ m ≤ 3) : round_Valid.f m = some 0 := by
  unfold round_Valid.f
  by_cases h1 : m = 1
  · rw [if_pos h1]
  · by_cases h2 : m = 2
    · rw [if_neg h1, if_pos h2]
    · rw [if_neg h1, if_neg h2, if_pos (by omega)]
theorem round_no {m : Int} (h : ¬ (1 ≤ m ∧ m ≤ 3)) : round_Valid.f m = some 1 := by
  unfold round_Valid.f
  rw [if_neg (by omega), if_neg (by omega), if_neg (by omega)]
theorem sign_law {n : Bool} {m : List Int} {e : Int} (h : IsN n m e) : dyad_Sign.f 1 n m e = some (if m.length = 0 then (0 : Int) else if n = true then -1 else 1) := by
  unfold dyad_Sign.f
  rw [show PSu.dyad_Valid.f n m e = some true from h.1, Option.bind_some, if_pos rfl]
  simp only [dyad_Sign.j0]
  by_cases hm : m.length = 0
  · rw [if_pos hm, if_pos (by simp [List.length_eq_zero_iff.1 hm])]
  · rw [if_neg hm, if_neg (by simp; exact fun h => hm (by rw [h]; rfl))]
    split <;> rfl
section
variable (A : Option Addr) (c : Nat) (l : List Nat) (mode : Int) (w : World) (hr : Kd.C Kd.float w A l.length l) (hc : l.length ≤ c) (hn : l.length < 4611686018427387904) (hL : Laid w)
include hr hc hn hL
set_option maxRecDepth 100000 in
set_option maxHeartbeats 1000000 in
theorem exact_mode (hm : ¬ (1 ≤ mode ∧ mode ≤ 3))
    : Calls Tryz.prog 22 #[.slice A l.length c, .int .i64 mode] w (RetF (0, 1) w) := by
  have HR := Aside0.mk hr
  have HC := Aside0.mk hc
  have HL := Aside0.mk hL
  have HN := Aside0.mk hn
  have RV := Aside0.mk (round_no hm)
  clear hr hc hn hL hm
  go_enter Tryz.func22, Tryz.ntmps22
  go_wp2_with (first
    | (go_at_call 49; refine (round_Valid.calls mode 1 _ RV.out).mono ?_; rintro e w1 ⟨rfl, d⟩; have HB := Aside0.mk d.below; clear d))
  go_ret2
  exact ⟨rfl, HB.out⟩
set_option maxRecDepth 100000 in
set_option maxHeartbeats 1000000 in
theorem exact_fault (hm : 1 ≤ mode ∧ mode ≤ 3) (q : Int) (hq : faultL l = q) (hq0 : q ≠ 0)
    : Calls Tryz.prog 22 #[.slice A l.length c, .int .i64 mode] w (RetF (0, q) w) := by
  have HR := Aside0.mk hr
  have HC := Aside0.mk hc
  have HL := Aside0.mk hL
  have HN := Aside0.mk hn
  have RV := Aside0.mk (round_yes hm)
  have HF := Aside0.mk hq
  have hq1 : (q != 0) = true := by simpa using hq0
  clear hr hc hn hL hm hq hq0
  go_enter Tryz.func22, Tryz.ntmps22
  go_wp2_with (first
    | (go_at_call 49; refine (round_Valid.calls mode 0 _ RV.out).mono ?_; rintro e w1 ⟨rfl, d⟩; have HB := Aside0.mk d.below; clear d)
    | (go_at_call 50; refine (fault_one _ A c l q _ (by exact blk_cell (blk_new _ _) 0) (Kd.C_below HR.out (by exact HB.out.alloc HB.out.size _)) HC.out HN.out HF.out).mono ?_; rintro e w2 ⟨rfl, d⟩; have HB2 := Aside0.mk (below_post d (HB.out.alloc HB.out.size _)); clear d))
  go_ret2
  exact ⟨rfl, HB2.out⟩
set_option maxRecDepth 100000 in
set_option maxHeartbeats 1000000 in
theorem exact_empty (hm : 1 ≤ mode ∧ mode ≤ 3) (hq : faultL l = 0) (k : Nat) (n : Bool) (m : List Int) (ex : Int) (tt : sums_total.f k l = some (n, m, ex)) (tn : IsN n m ex) (hz : m.length = 0) (hl : l.length = 0)
    : Calls Tryz.prog 22 #[.slice A l.length c, .int .i64 mode] w (RetF (0, 0) w) := by
  have HR := Aside0.mk hr
  have HC := Aside0.mk hc
  have HL := Aside0.mk hL
  have HN := Aside0.mk hn
  have RV := Aside0.mk (round_yes hm)
  have HF := Aside0.mk hq
  have TT := Aside0.mk tt
  obtain ⟨SG, hSG⟩ : ∃ s, (0 : Int) = s := ⟨_, rfl⟩
  have SGN := Aside0.mk (show dyad_Sign.f 1 n m ex = some SG by rw [← hSG, sign_law tn, if_pos hz])
  have hs0 : (SG != 0) = false := by rw [← hSG]; rfl
  have c1 : decide ((l.length : Int) > 0) = false := decide_eq_false (by omega)
  have c2 : decide (0 < l.length) = false := decide_eq_false (by omega)
  clear hr hc hn hL hm hq tt tn hz hSG hl
  go_enter Tryz.func22, Tryz.ntmps22
  go_wp2_with (first
    | (go_at_call 49; refine (round_Valid.calls mode 0 _ RV.out).mono ?_; rintro e w1 ⟨rfl, d⟩; have HB := Aside0.mk d.below; clear d)
    | (go_at_call 50; refine (fault_one _ A c l 0 _ (by exact blk_cell (blk_new _ _) 0) (Kd.C_below HR.out (by exact HB.out.alloc HB.out.size _)) HC.out HN.out HF.out).mono ?_; rintro e w2 ⟨rfl, d⟩; have HB2 := Aside0.mk (below_post d (HB.out.alloc HB.out.size _)); clear d)
    | (go_at_call 45; refine (sums_total.calls k A c l n m ex _ (Kd.C_below HR.out HB2.out) HC.out TT.out (HL.out.step HB2.out)).mono ?_; rintro e w3 ⟨v3, rfl, r3, d⟩; obtain ⟨Au, cu, hu⟩ := Kd.R_slice r3; subst hu; have HB3 := Aside0.mk (below_post d HB2.out); have R3 := Aside0.mk r3; clear d r3; have N4 := Aside0.mk (show NumB (w3.alloc (Obj.cells #[Value.bool n, Value.slice Au m.length cu, Value.int IntKind.i64 ex] 60 (0, 0))) w3.heap.size n (.slice Au m.length cu) ex from blk_new _ _); have HB4 := Aside0.mk (HB3.out.alloc HB3.out.size (Obj.cells #[Value.bool n, Value.slice Au m.length cu, Value.int IntKind.i64 ex] 60 (0, 0))); have C4 := Aside0.mk (Kd.C_below (Kd.R_reads' R3.out).2.2 ((Below.refl w3.heap.size w3).alloc (Nat.le_refl _) (Obj.cells #[Value.bool n, Value.slice Au m.length cu, Value.int IntKind.i64 ex] 60 (0, 0)))); have CAP := Aside0.mk (Kd.R_reads' R3.out).2.1)
    | (go_at_call 51; refine (dyad_Sign.calls 1 n Au cu m ex SG _ C4.out CAP.out SGN.out).mono ?_; rintro e5 w5 ⟨rfl, d⟩; have HB5 := Aside0.mk (below_post d HB4.out); have N5 := Aside0.mk (N4.out.below d); have q0 := N5.out.c0; have q1 := N5.out.c1; have q2 := N5.out.c2; have bb5 := Aside0.mk d; clear d))
  go_ret2
  exact ⟨rfl, HB5.out⟩
set_option maxRecDepth 100000 in
set_option maxHeartbeats 1000000 in
theorem exact_zero (hm : 1 ≤ mode ∧ mode ≤ 3) (hq : faultL l = 0) (k : Nat) (n : Bool) (m : List Int) (ex : Int) (tt : sums_total.f k l = some (n, m, ex)) (tn : IsN n m ex) (hz : m.length = 0) (hl : 0 < l.length) (hu : l.any oneB = true)
    : Calls Tryz.prog 22 #[.slice A l.length c, .int .i64 mode] w (RetF (0, 0) w) := by
  have HR := Aside0.mk hr
  have HC := Aside0.mk hc
  have HL := Aside0.mk hL
  have HN := Aside0.mk hn
  have RV := Aside0.mk (round_yes hm)
  have HF := Aside0.mk hq
  have TT := Aside0.mk tt
  obtain ⟨SG, hSG⟩ : ∃ s, (0 : Int) = s := ⟨_, rfl⟩
  have SGN := Aside0.mk (show dyad_Sign.f 1 n m ex = some SG by rw [← hSG, sign_law tn, if_pos hz])
  have hs0 : (SG != 0) = false := by rw [← hSG]; rfl
  have c1 : decide ((l.length : Int) > 0) = true := by simp; omega
  have c2 : decide (0 < l.length) = true := by simp; omega
  have HU := Aside0.mk hu
  clear hr hc hn hL hm hq tt tn hz hSG hl hu
  go_enter Tryz.func22, Tryz.ntmps22
  go_wp2_with (first
    | (go_at_call 49; refine (round_Valid.calls mode 0 _ RV.out).mono ?_; rintro e w1 ⟨rfl, d⟩; have HB := Aside0.mk d.below; clear d)
    | (go_at_call 50; refine (fault_one _ A c l 0 _ (by exact blk_cell (blk_new _ _) 0) (Kd.C_below HR.out (by exact HB.out.alloc HB.out.size _)) HC.out HN.out HF.out).mono ?_; rintro e w2 ⟨rfl, d⟩; have HB2 := Aside0.mk (below_post d (HB.out.alloc HB.out.size _)); clear d)
    | (go_at_call 45; refine (sums_total.calls k A c l n m ex _ (Kd.C_below HR.out HB2.out) HC.out TT.out (HL.out.step HB2.out)).mono ?_; rintro e w3 ⟨v3, rfl, r3, d⟩; obtain ⟨Au, cu, hu⟩ := Kd.R_slice r3; subst hu; have HB3 := Aside0.mk (below_post d HB2.out); have R3 := Aside0.mk r3; clear d r3; have N4 := Aside0.mk (show NumB (w3.alloc (Obj.cells #[Value.bool n, Value.slice Au m.length cu, Value.int IntKind.i64 ex] 60 (0, 0))) w3.heap.size n (.slice Au m.length cu) ex from blk_new _ _); have HB4 := Aside0.mk (HB3.out.alloc HB3.out.size (Obj.cells #[Value.bool n, Value.slice Au m.length cu, Value.int IntKind.i64 ex] 60 (0, 0))); have C4 := Aside0.mk (Kd.C_below (Kd.R_reads' R3.out).2.2 ((Below.refl w3.heap.size w3).alloc (Nat.le_refl _) (Obj.cells #[Value.bool n, Value.slice Au m.length cu, Value.int IntKind.i64 ex] 60 (0, 0)))); have CAP := Aside0.mk (Kd.R_reads' R3.out).2.1)
    | (go_at_call 51; refine (dyad_Sign.calls 1 n Au cu m ex SG _ C4.out CAP.out SGN.out).mono ?_; rintro e5 w5 ⟨rfl, d⟩; have HB5 := Aside0.mk (below_post d HB4.out); have N5 := Aside0.mk (N4.out.below d); have q0 := N5.out.c0; have q1 := N5.out.c1; have q2 := N5.out.c2; have bb5 := Aside0.mk d; clear d)
    | (go_at_call 52; refine (contains_one A c l _ (Kd.C_below HR.out HB5.out) HC.out HN.out).mono ?_; rw [HU.out]; rintro e6 w6 ⟨rfl, d⟩; have HB6 := Aside0.mk (below_post d HB5.out); clear d))
  go_ret2
  exact ⟨rfl, HB6.out⟩
set_option maxRecDepth 100000 in
set_option maxHeartbeats 1000000 in
theorem exact_nought (hm : 1 ≤ mode ∧ mode ≤ 3) (hq : faultL l = 0) (k : Nat) (n : Bool) (m : List Int) (ex : Int) (tt : sums_total.f k l = some (n, m, ex)) (tn : IsN n m ex) (hz : m.length = 0) (hl : 0 < l.length) (hu : l.any oneB = false)
    : Calls Tryz.prog 22 #[.slice A l.length c, .int .i64 mode] w (RetF (9223372036854775808, 0) w) := by
  have HR := Aside0.mk hr
  have HC := Aside0.mk hc
  have HL := Aside0.mk hL
  have HN := Aside0.mk hn
  have RV := Aside0.mk (round_yes hm)
  have HF := Aside0.mk hq
  have TT := Aside0.mk tt
  obtain ⟨SG, hSG⟩ : ∃ s, (0 : Int) = s := ⟨_, rfl⟩
  have SGN := Aside0.mk (show dyad_Sign.f 1 n m ex = some SG by rw [← hSG, sign_law tn, if_pos hz])
  have hs0 : (SG != 0) = false := by rw [← hSG]; rfl
  have c1 : decide ((l.length : Int) > 0) = true := by simp; omega
  have c2 : decide (0 < l.length) = true := by simp; omega
  have HU := Aside0.mk hu
  clear hr hc hn hL hm hq tt tn hz hSG hl hu
  go_enter Tryz.func22, Tryz.ntmps22
  go_wp2_with (first
    | (go_at_call 49; refine (round_Valid.calls mode 0 _ RV.out).mono ?_; rintro e w1 ⟨rfl, d⟩; have HB := Aside0.mk d.below; clear d)
    | (go_at_call 50; refine (fault_one _ A c l 0 _ (by exact blk_cell (blk_new _ _) 0) (Kd.C_below HR.out (by exact HB.out.alloc HB.out.size _)) HC.out HN.out HF.out).mono ?_; rintro e w2 ⟨rfl, d⟩; have HB2 := Aside0.mk (below_post d (HB.out.alloc HB.out.size _)); clear d)
    | (go_at_call 45; refine (sums_total.calls k A c l n m ex _ (Kd.C_below HR.out HB2.out) HC.out TT.out (HL.out.step HB2.out)).mono ?_; rintro e w3 ⟨v3, rfl, r3, d⟩; obtain ⟨Au, cu, hu⟩ := Kd.R_slice r3; subst hu; have HB3 := Aside0.mk (below_post d HB2.out); have R3 := Aside0.mk r3; clear d r3; have N4 := Aside0.mk (show NumB (w3.alloc (Obj.cells #[Value.bool n, Value.slice Au m.length cu, Value.int IntKind.i64 ex] 60 (0, 0))) w3.heap.size n (.slice Au m.length cu) ex from blk_new _ _); have HB4 := Aside0.mk (HB3.out.alloc HB3.out.size (Obj.cells #[Value.bool n, Value.slice Au m.length cu, Value.int IntKind.i64 ex] 60 (0, 0))); have C4 := Aside0.mk (Kd.C_below (Kd.R_reads' R3.out).2.2 ((Below.refl w3.heap.size w3).alloc (Nat.le_refl _) (Obj.cells #[Value.bool n, Value.slice Au m.length cu, Value.int IntKind.i64 ex] 60 (0, 0)))); have CAP := Aside0.mk (Kd.R_reads' R3.out).2.1)
    | (go_at_call 51; refine (dyad_Sign.calls 1 n Au cu m ex SG _ C4.out CAP.out SGN.out).mono ?_; rintro e5 w5 ⟨rfl, d⟩; have HB5 := Aside0.mk (below_post d HB4.out); have N5 := Aside0.mk (N4.out.below d); have q0 := N5.out.c0; have q1 := N5.out.c1; have q2 := N5.out.c2; have bb5 := Aside0.mk d; clear d)
    | (go_at_call 52; refine (contains_one A c l _ (Kd.C_below HR.out HB5.out) HC.out HN.out).mono ?_; rw [HU.out]; rintro e6 w6 ⟨rfl, d⟩; have HB6 := Aside0.mk (below_post d HB5.out); clear d)
    | (go_at_call 55; refine (math_Copysign.calls 0 13830554455654793216 9223372036854775808 _ (by decide)).mono ?_; rintro e7 w7 ⟨rfl, d⟩; have HB7 := Aside0.mk (below_post d.below HB6.out); clear d))
  go_ret2
  exact ⟨rfl, HB7.out⟩
set_option maxRecDepth 100000 in
set_option maxHeartbeats 1000000 in
theorem exact_round (hm : 1 ≤ mode ∧ mode ≤ 3) (hq : faultL l = 0) (k : Nat) (n : Bool) (m : List Int) (ex : Int) (tt : sums_total.f k l = some (n, m, ex)) (tn : IsN n m ex) (hz : ¬ m.length = 0) (r1 : Nat) (r2 : Int) (hrv : roundN n m ex mode = (r1, r2))
    : Calls Tryz.prog 22 #[.slice A l.length c, .int .i64 mode] w (RetF (r1, r2) w) := by
  have HR := Aside0.mk hr
  have HC := Aside0.mk hc
  have HL := Aside0.mk hL
  have HN := Aside0.mk hn
  have RV := Aside0.mk (round_yes hm)
  have HF := Aside0.mk hq
  have TT := Aside0.mk tt
  obtain ⟨SG, hSG⟩ : ∃ s, (if n = true then (-1 : Int) else 1) = s := ⟨_, rfl⟩
  have SGN := Aside0.mk (show dyad_Sign.f 1 n m ex = some SG by rw [← hSG, sign_law tn, if_neg hz])
  have hs0 : (SG != 0) = true := by rw [← hSG]; split <;> rfl
  have RVV := Aside0.mk (show dyad_Round.f n m ex mode = some (r1, r2) by unfold dyad_Round.f; rw [if_pos tn, hrv])
  clear hr hc hn hL hm hq tt tn hz hSG hrv
  go_enter Tryz.func22, Tryz.ntmps22
  go_wp2_with (first
    | (go_at_call 49; refine (round_Valid.calls mode 0 _ RV.out).mono ?_; rintro e w1 ⟨rfl, d⟩; have HB := Aside0.mk d.below; clear d)
    | (go_at_call 50; refine (fault_one _ A c l 0 _ (by exact blk_cell (blk_new _ _) 0) (Kd.C_below HR.out (by exact HB.out.alloc HB.out.size _)) HC.out HN.out HF.out).mono ?_; rintro e w2 ⟨rfl, d⟩; have HB2 := Aside0.mk (below_post d (HB.out.alloc HB.out.size _)); clear d)
    | (go_at_call 45; refine (sums_total.calls k A c l n m ex _ (Kd.C_below HR.out HB2.out) HC.out TT.out (HL.out.step HB2.out)).mono ?_; rintro e w3 ⟨v3, rfl, r3, d⟩; obtain ⟨Au, cu, hu⟩ := Kd.R_slice r3; subst hu; have HB3 := Aside0.mk (below_post d HB2.out); have R3 := Aside0.mk r3; clear d r3; have N4 := Aside0.mk (show NumB (w3.alloc (Obj.cells #[Value.bool n, Value.slice Au m.length cu, Value.int IntKind.i64 ex] 60 (0, 0))) w3.heap.size n (.slice Au m.length cu) ex from blk_new _ _); have HB4 := Aside0.mk (HB3.out.alloc HB3.out.size (Obj.cells #[Value.bool n, Value.slice Au m.length cu, Value.int IntKind.i64 ex] 60 (0, 0))); have C4 := Aside0.mk (Kd.C_below (Kd.R_reads' R3.out).2.2 ((Below.refl w3.heap.size w3).alloc (Nat.le_refl _) (Obj.cells #[Value.bool n, Value.slice Au m.length cu, Value.int IntKind.i64 ex] 60 (0, 0)))); have CAP := Aside0.mk (Kd.R_reads' R3.out).2.1)
    | (go_at_call 51; refine (dyad_Sign.calls 1 n Au cu m ex SG _ C4.out CAP.out SGN.out).mono ?_; rintro e5 w5 ⟨rfl, d⟩; have HB5 := Aside0.mk (below_post d HB4.out); have N5 := Aside0.mk (N4.out.below d); have q0 := N5.out.c0; have q1 := N5.out.c1; have q2 := N5.out.c2; have bb5 := Aside0.mk d; clear d)
    | (go_at_call 47; refine (dyad_Round.calls n Au cu m ex mode r1 r2 _ (Kd.C_below C4.out bb5.out) CAP.out RVV.out).mono ?_; rintro e6 w6 ⟨rfl, d⟩; have HB6 := Aside0.mk (below_post d HB5.out); clear d))
  go_ret2
  exact ⟨rfl, HB6.out⟩
theorem exact_any (T : Bool × List Int × Int) (k : Nat) (hT : faultL l = 0 → sums_total.f k l = some T ∧ IsN T.1 T.2.1 T.2.2) :
    Calls Tryz.prog 22 #[.slice A l.length c, .int .i64 mode] w (RetF (exactW l mode T) w) := by
  unfold exactW
  by_cases hm : 1 ≤ mode ∧ mode ≤ 3
  · rw [if_pos hm]
    by_cases hf : faultL l = 0
    · rw [if_pos hf]
      obtain ⟨tt, tn⟩ := hT hf
      obtain ⟨n, m, ex⟩ := T
      by_cases hz : m.length = 0
      · rw [if_pos hz]
        by_cases hl : 0 < l.length
        · rcases hu : l.any oneB with _ | _
          · rw [if_pos ⟨hl, rfl⟩]; exact exact_nought A c l mode w hr hc hn hL hm hf k n m ex tt tn hz hl hu
          · rw [if_neg (by simp)]; exact exact_zero A c l mode w hr hc hn hL hm hf k n m ex tt tn hz hl hu
        · rw [if_neg (fun h => hl h.1)]; exact exact_empty A c l mode w hr hc hn hL hm hf k n m ex tt tn hz (by omega)
      · rw [if_neg hz]
        rcases hrv : roundN n m ex mode with ⟨r1, r2⟩
        exact exact_round A c l mode w hr hc hn hL hm hf k n m ex tt tn hz r1 r2 hrv
    · rw [if_neg hf]; exact exact_fault A c l mode w hr hc hn hL hm _ rfl hf
  · rw [if_neg hm]; exact exact_mode A c l mode w hr hc hn hL hm
end
end Go.Proofs.YthmeocigliephaaGreatDoor.Big
end
section
namespace Go.Proofs.YthmeocigliephaaGreatDoor.Big
open Go.RowKit Go.Proofs.YthmeocigliephaaGreatDoorW.PrintWords Go.Proofs.YthmeocigliephaaGreatDoorW.PrintLast Go.Proofs.YthmeocigliephaaGreatDoorW.PrintMore
open Go.Proofs.YthmeocigliephaaGreatDoor.PNa Go.Proofs.YthmeocigliephaaGreatDoor.Plain
def canN (z e : Int) : Bool × List Int × Int :=
  if z = 0 then (false, [], 0) else (decide (z < 0), dig (z.natAbs / 2 ^ tz z.natAbs), e + tz z.natAbs)
theorem canN_zero (e : Int) : canN 0 e = (false, [], 0) := if_pos rfl
theorem canN_ne {z : Int} (h : z ≠ 0) (e : Int) : canN z e = (decide (z < 0), dig (z.natAbs / 2 ^ tz z.natAbs), e + tz z.natAbs) := if_neg h
def odd (n : Nat) : Nat := n / 2 ^ tz n
theorem odd_mul {n : Nat} (h : n ≠ 0) : odd n * 2 ^ tz n = n := by
  obtain ⟨m, hm⟩ := tz_spec h
  unfold odd
  exact Nat.div_mul_cancel ⟨2 * m + 1, hm⟩
theorem odd_ne {n : Nat} (h : n ≠ 0) : odd n ≠ 0 := by
  intro h0; have := odd_mul h; rw [h0] at this; omega
theorem odd_odd {n : Nat} (h : n ≠ 0) : odd n % 2 = 1 := by
  obtain ⟨m, hm⟩ := tz_spec h
  have h2 := odd_mul h
  have hp : 0 < 2 ^ tz n := Nat.pow_pos (by omega)
  have e1 : odd n * 2 ^ tz n = (2 * m + 1) * 2 ^ tz n := by rw [h2, Nat.mul_comm (2 * m + 1)]; exact hm
  have := Nat.mul_right_cancel hp e1
  omega
theorem tz_shift {n : Nat} (h : n ≠ 0) (j : Nat) : tz (n * 2 ^ j) = tz n + j := by
  obtain ⟨m, hm⟩ := tz_spec h
  have : n * 2 ^ j = 2 ^ (tz n + j) * (2 * m + 1) := by
    rw [Nat.pow_add]
    calc n * 2 ^ j = (2 ^ tz n * (2 * m + 1)) * 2 ^ j := by rw [← hm]
      _ = _ := by rw [Nat.mul_assoc, Nat.mul_comm (2 * m + 1), ← Nat.mul_assoc]
  rw [this, tz_unique]
theorem odd_shift {n : Nat} (h : n ≠ 0) (j : Nat) : odd (n * 2 ^ j) = odd n := by
  have hp : 0 < 2 ^ tz (n * 2 ^ j) := Nat.pow_pos (by omega)
  have hn : n * 2 ^ j ≠ 0 := Nat.mul_ne_zero h (by have := Nat.pow_pos (n := j) (show 0 < 2 by omega); omega)
  apply Nat.mul_right_cancel hp
  rw [odd_mul hn, tz_shift h, Nat.pow_add, ← Nat.mul_assoc, odd_mul h]
theorem natAbs_shift (z : Int) (j : Nat) : (z * 2 ^ j).natAbs = z.natAbs * 2 ^ j := by rw [Int.natAbs_mul, Int.natAbs_pow]; rfl
theorem shift_ne {z : Int} (h : z ≠ 0) (j : Nat) : z * 2 ^ j ≠ 0 := Int.mul_ne_zero h (by have := Int.pow_pos (n := 2) (m := j) (by omega); omega)
theorem shift_lt (z : Int) (j : Nat) : decide (z * 2 ^ j < 0) = decide (z < 0) := by
  have hp : (0 : Int) < 2 ^ j := Int.pow_pos (by omega)
  by_cases h : z < 0
  · rw [decide_eq_true h, decide_eq_true (Int.mul_neg_of_neg_of_pos h hp)]
  · rw [decide_eq_false h, decide_eq_false (by have := Int.mul_nonneg (show 0 ≤ z by omega) (Int.le_of_lt hp); omega)]
theorem canN_shift (z e : Int) (j : Nat) : canN (z * 2 ^ j) e = canN z (e + j) := by
  by_cases h : z = 0
  · subst h; rw [Int.zero_mul, canN_zero, canN_zero]
  · have hn : z.natAbs ≠ 0 := by omega
    rw [canN_ne (shift_ne h j), canN_ne h, shift_lt, natAbs_shift]
    have h1 := odd_shift hn j
    unfold odd at h1
    rw [h1, tz_shift hn]
    congr 2; omega
theorem mkN_can {z e : Int} (h1 : bl z.natAbs ≤ 65536) (h2 : -65536 ≤ e) (h3 : e + (bl z.natAbs : Int) ≤ 65536) :
    mkN z e = ((canN z e).1, (canN z e).2.1, (canN z e).2.2, 0) := by
  unfold mkN
  by_cases h : z = 0
  · subst h; rfl
  · have hn : z.natAbs ≠ 0 := by omega
    have h4 := bl_mul_pow (odd_ne hn) (tz z.natAbs)
    rw [odd_mul hn] at h4
    unfold odd at h4
    rw [if_neg h, if_pos ⟨by omega, by omega, by omega⟩, canN_ne h]
theorem rd_last (l : List Int) (h : l ≠ []) : rd l ((l.length : Int) - 1) = l.getD (l.length - 1) 0 := by
  have := List.length_pos_iff.2 h
  rw [show ((l.length : Int) - 1) = ((l.length - 1 : Nat) : Int) by omega, rd_nat]
theorem bits_and1_u32 (d : Nat) (h : d < 4294967296) : bits .and .u32 (d : Int) 1 = ((d % 2 : Nat) : Int) := by
  have h1 : (BitVec.ofInt 32 (d : Int)).toNat = d := by
    rw [BitVec.ofInt_natCast, BitVec.toNat_ofNat]; exact Nat.mod_eq_of_lt (by omega)
  show IntKind.u32.wrap ((BitVec.ofInt 32 (d : Int) &&& BitVec.ofInt 32 (1 : Int)).toNat : Int) = _
  rw [BitVec.toNat_and, h1, show (BitVec.ofInt 32 1).toNat = 1 from rfl, Nat.and_one_is_mod, IntKind.wrap_u32]
  omega
theorem valid_dig {n : Nat} (h0 : n % 2 = 1) (hb : bl n ≤ 65536) (neg : Bool) {e : Int} (h2 : -65536 ≤ e) (h3 : e ≤ 65536) : IsN neg (dig n) e := by
  refine ⟨?_, dg_dig n⟩
  have hn : n ≠ 0 := by omega
  have hne := dig_ne hn
  have hl : (dig n).length ≤ 2048 := dig_length_le (Nat.lt_of_lt_of_le (bl_le.1 hb) (by exact Nat.pow_le_pow_right (by omega) (by omega)))
  have hl0 := List.length_pos_iff.2 hne
  have hlast : (dig n).getD ((dig n).length - 1) 0 ≠ 0 := by
    rcases (nrm_iff (dg_dig n)).1 (nrm_dig n) with h | h
    · exact absurd h hne
    · exact h
  have hlow : rd (dig n) 0 = ((n % 4294967296 : Nat) : Int) := by
    rw [show (0 : Int) = ((0 : Nat) : Int) from rfl, rd_nat, dig_pos hn]; rfl
  unfold dyad_Valid.f
  rw [if_neg (by omega), if_pos (by omega), w64_of (by omega) (by omega), if_pos (by omega), if_pos (by omega), rd_last _ hne, if_neg hlast, if_pos (by omega), hlow, bits_and1_u32 _ (by omega), if_pos (by omega), if_pos (by omega)]
  congr 1
  exact decide_eq_true h3
theorem isN_can {z e : Int} (h1 : bl z.natAbs ≤ 65536) (h2 : -65536 ≤ e) (h3 : e + (bl z.natAbs : Int) ≤ 65536) : IsN (canN z e).1 (canN z e).2.1 (canN z e).2.2 := by
  by_cases h : z = 0
  · subst h; rw [canN_zero]; exact ⟨rfl, Dg.nil⟩
  · have hn : z.natAbs ≠ 0 := by omega
    have h4 := bl_mul_pow (odd_ne hn) (tz z.natAbs)
    rw [odd_mul hn] at h4
    have h5 := odd_odd hn
    rw [canN_ne h]
    exact valid_dig h5 (by show bl (odd z.natAbs) ≤ 65536; omega) _ (by show -65536 ≤ e + (tz z.natAbs : Int); omega) (by show e + (tz z.natAbs : Int) ≤ 65536; omega)
theorem zv_can {z : Int} (h : z ≠ 0) (e : Int) : zv (canN z e).1 (canN z e).2.1 * 2 ^ tz z.natAbs = z ∧ val (canN z e).2.1 = odd z.natAbs ∧ (canN z e).2.2 = e + tz z.natAbs := by
  have hn : z.natAbs ≠ 0 := by omega
  rw [canN_ne h]
  refine ⟨?_, by show val (dig _) = _; rw [val_dig]; rfl, rfl⟩
  show zv (decide (z < 0)) (dig (odd z.natAbs)) * 2 ^ tz z.natAbs = z
  have h1 := odd_mul hn
  have e1 : ((odd z.natAbs : Nat) : Int) * 2 ^ tz z.natAbs = (z.natAbs : Int) := by
    have h := congrArg (fun n : Nat => (n : Int)) h1
    simp only [Int.natCast_mul, Int.natCast_pow] at h
    exact h
  unfold zv
  rw [val_dig]
  by_cases hz : z < 0
  · rw [decide_eq_true hz, if_pos rfl, Int.neg_mul, e1]; omega
  · rw [decide_eq_false hz, if_neg (by simp), e1]; omega
theorem mkN_shift (z e : Int) (j : Nat) : mkN (z * 2 ^ j) e = mkN z (e + j) := by
  by_cases h : z = 0
  · subst h; rw [Int.zero_mul]; rfl
  · have hn : z.natAbs ≠ 0 := by omega
    have h1 := odd_shift hn j
    unfold odd at h1
    unfold mkN
    rw [if_neg h, if_neg (shift_ne h j), natAbs_shift, h1, tz_shift hn, shift_lt]
    have hc : (bl (z.natAbs / 2 ^ tz z.natAbs) ≤ 65536 ∧ e ≤ 65536 - ((tz z.natAbs + j : Nat) : Int) ∧ -65536 - ((tz z.natAbs + j : Nat) : Int) ≤ e) ↔ (bl (z.natAbs / 2 ^ tz z.natAbs) ≤ 65536 ∧ e + (j : Int) ≤ 65536 - ((tz z.natAbs : Nat) : Int) ∧ -65536 - ((tz z.natAbs : Nat) : Int) ≤ e + (j : Int)) := by
      constructor
      · rintro ⟨a, b, c⟩; exact ⟨a, by omega, by omega⟩
      · rintro ⟨a, b, c⟩; exact ⟨a, by omega, by omega⟩
    simp only [hc]
    congr 1
    congr 2
    congr 1
    omega
theorem bl_can {z : Int} (h : z ≠ 0) (e : Int) : (bl (val (canN z e).2.1) : Int) + (canN z e).2.2 = bl z.natAbs + e := by
  have hn : z.natAbs ≠ 0 := by omega
  obtain ⟨_, h2, h3⟩ := zv_can h e
  have h4 := bl_mul_pow (odd_ne hn) (tz z.natAbs)
  rw [odd_mul hn] at h4
  rw [h2, h3, h4]; omega
theorem val_can_zero {z : Int} (e : Int) : val (canN z e).2.1 = 0 ↔ z = 0 := by
  constructor
  · intro h
    by_cases hz : z = 0
    · exact hz
    · have hn : z.natAbs ≠ 0 := by omega
      have := (zv_can hz e).2.1
      exact absurd (this.symm.trans h) (odd_ne hn)
  · rintro rfl; rw [canN_zero]; rfl
theorem can_nil {z : Int} (e : Int) : (canN z e).2.1 = [] ↔ z = 0 := by
  constructor
  · intro h; exact (val_can_zero e).1 (by rw [h]; rfl)
  · rintro rfl; rw [canN_zero]
theorem addV_can {x y e : Int} (hx : bl x.natAbs ≤ 60000) (hy : bl y.natAbs ≤ 60000) (he : -65000 ≤ e) (he1 : e ≤ 4000) :
    addV (canN x e).1 (canN x e).2.1 (canN x e).2.2 (canN y e).1 (canN y e).2.1 (canN y e).2.2 = mkN (x + y) e := by
  have hfar : farV (canN x e).2.1 (canN x e).2.2 (canN y e).2.1 (canN y e).2.2 = false := by
    unfold farV
    by_cases hx0 : x = 0
    · subst hx0; rw [canN_zero]; rfl
    · by_cases hy0 : y = 0
      · subst hy0; rw [canN_zero]; simp
      · have b1 := bl_can hx0 e
        have b2 := bl_can hy0 e
        have c1 := (zv_can hx0 e).2.2
        have c2 := (zv_can hy0 e).2.2
        rw [b1, b2]
        have : ¬ (mx ((bl x.natAbs : Int) + e) ((bl y.natAbs : Int) + e) - mn (canN x e).2.2 (canN y e).2.2 > 65538) := by
          rw [c1, c2]; unfold mx mn; split <;> split <;> omega
        rw [decide_eq_false this, Bool.and_false]
  unfold addV
  rw [hfar, if_neg (by simp)]
  unfold lvl
  by_cases hx0 : x = 0
  · rw [if_pos ((val_can_zero e).2 hx0)]
    by_cases hy0 : y = 0
    · rw [if_pos ((val_can_zero e).2 hy0)]; subst hx0; subst hy0; rfl
    · rw [if_neg (fun h => hy0 ((val_can_zero e).1 h))]
      obtain ⟨h1, h2, h3⟩ := zv_can hy0 e
      simp only
      rw [h3, ← mkN_shift, Int.zero_add, h1, hx0, Int.zero_add]
  · rw [if_neg (fun h => hx0 ((val_can_zero e).1 h))]
    obtain ⟨h1, h2, h3⟩ := zv_can hx0 e
    by_cases hy0 : y = 0
    · rw [if_pos ((val_can_zero e).2 hy0)]
      simp only
      rw [h3, ← mkN_shift, Int.add_zero, h1, hy0, Int.add_zero]
    · rw [if_neg (fun h => hy0 ((val_can_zero e).1 h))]
      obtain ⟨k1, k2, k3⟩ := zv_can hy0 e
      simp only
      have hm : ∃ j : Nat, mn (canN x e).2.2 (canN y e).2.2 = e + j ∧ ((canN x e).2.2 - mn (canN x e).2.2 (canN y e).2.2).toNat + j = tz x.natAbs ∧ ((canN y e).2.2 - mn (canN x e).2.2 (canN y e).2.2).toNat + j = tz y.natAbs := by
        rw [h3, k3]
        unfold mn
        split
        · exact ⟨tz y.natAbs, by omega, by omega, by omega⟩
        · exact ⟨tz x.natAbs, by omega, by omega, by omega⟩
      obtain ⟨j, j1, j2, j3⟩ := hm
      have hs : (zv (canN x e).1 (canN x e).2.1 * 2 ^ ((canN x e).2.2 - mn (canN x e).2.2 (canN y e).2.2).toNat + zv (canN y e).1 (canN y e).2.1 * 2 ^ ((canN y e).2.2 - mn (canN x e).2.2 (canN y e).2.2).toNat) * 2 ^ j = x + y := by
        rw [Int.add_mul, Int.mul_assoc, Int.mul_assoc, ← Int.pow_add, ← Int.pow_add, j2, j3, h1, k1]
      rw [j1] at hs ⊢
      rw [← mkN_shift, hs]
end Go.Proofs.YthmeocigliephaaGreatDoor.Big
end
section
namespace Go.Proofs.YthmeocigliephaaGreatDoor.Big
open Go.RowKit Go.Proofs.YthmeocigliephaaGreatDoorW.PrintWords Go.Proofs.YthmeocigliephaaGreatDoorW.PrintLast Go.Proofs.YthmeocigliephaaGreatDoorW.PrintMore
open Go.Proofs.YthmeocigliephaaGreatDoor.PSu Go.Proofs.YthmeocigliephaaGreatDoor.Plain Ieee
def flz (b : Nat) : Int := floV b * 2 ^ (expoV b + 1074).toNat
def sumZ : List Nat → Int
  | [] => 0
  | b :: l => flz b + sumZ l
theorem sumZ_append (l r : List Nat) : sumZ (l ++ r) = sumZ l + sumZ r := by
  induction l with
  | nil => simp [sumZ]
  | cons b l ih => rw [List.cons_append, sumZ, sumZ, ih]; omega
theorem expoV_range {b : Nat} (h : Fin64 b) : -1074 ≤ expoV b ∧ expoV b ≤ 971 := by
  have := expo_le h
  unfold expoV; split <;> omega
theorem can_flo {b : Nat} (h : Fin64 b) : canN (floV b) (expoV b) = canN (flz b) (-1074) := by
  have := expoV_range h
  unfold flz
  rw [canN_shift]; congr 1; omega
theorem flo_bl {b : Nat} : bl (floV b).natAbs ≤ 53 := by rw [floV_natAbs]; exact bl_le.2 (manti_lt b)
theorem flz_lt {b : Nat} (h : Fin64 b) : (flz b).natAbs < 2 ^ 2098 := by
  have := expoV_range h
  unfold flz
  rw [natAbs_shift, floV_natAbs]
  have h1 : manti b < 2 ^ 53 := manti_lt b
  have h2 : 2 ^ (expoV b + 1074).toNat ≤ 2 ^ 2045 := Nat.pow_le_pow_right (by omega) (by omega)
  calc manti b * 2 ^ (expoV b + 1074).toNat ≤ manti b * 2 ^ 2045 := Nat.mul_le_mul_left _ h2
    _ < 2 ^ 53 * 2 ^ 2045 := Nat.mul_lt_mul_of_pos_right h1 (Nat.pow_pos (by omega))
    _ = 2 ^ 2098 := by rw [← Nat.pow_add]
theorem sumZ_lt (l : List Nat) (h : ∀ b ∈ l, Fin64 b) : (sumZ l).natAbs ≤ l.length * 2 ^ 2098 := by
  induction l with
  | nil => simp [sumZ]
  | cons b l ih =>
    have h1 := flz_lt (h b List.mem_cons_self)
    have h2 := ih (fun b hb => h b (List.mem_cons_of_mem _ hb))
    have h3 := Int.natAbs_add_le (flz b) (sumZ l)
    rw [sumZ, List.length_cons, Nat.add_mul, Nat.one_mul]
    omega
theorem sumZ_bl (l : List Nat) (h : ∀ b ∈ l, Fin64 b) (hl : l.length ≤ 65536) : bl (sumZ l).natAbs ≤ 2115 := by
  refine bl_le.2 (Nat.lt_of_le_of_lt (sumZ_lt l h) ?_)
  calc l.length * 2 ^ 2098 ≤ 2 ^ 16 * 2 ^ 2098 := Nat.mul_le_mul_right _ (by omega)
    _ = 2 ^ 2114 := by rw [← Nat.pow_add]
    _ < 2 ^ 2115 := Nat.pow_lt_pow_right (by omega) (by omega)
theorem of_law {b : Nat} (h : Fin64 b) : dyad_Of.f b = some ((canN (flz b) (-1074)).1, (canN (flz b) (-1074)).2.1, (canN (flz b) (-1074)).2.2, 0) := by
  have := expoV_range h
  have hb := @flo_bl b
  unfold dyad_Of.f
  rw [if_pos h, mkN_can (by omega) (by omega) (by omega), can_flo h]
theorem num_law {b : Nat} (h : Fin64 b) : sums_num.f b = some (canN (flz b) (-1074)) := by
  unfold sums_num.f
  rw [of_law h]; rfl
theorem dadd_law {x y : Int} (hx : bl x.natAbs ≤ 50000) (hy : bl y.natAbs ≤ 50000) : dyad_Add.f (canN x (-1074)).1 (canN x (-1074)).2.1 (canN x (-1074)).2.2 (canN y (-1074)).1 (canN y (-1074)).2.1 (canN y (-1074)).2.2 = some ((canN (x + y) (-1074)).1, (canN (x + y) (-1074)).2.1, (canN (x + y) (-1074)).2.2, 0) := by
  have hs : bl (x + y).natAbs ≤ 50001 := by
    have := bl_add hx hy
    refine bl_le.2 (Nat.lt_of_le_of_lt (Int.natAbs_add_le x y) (bl_le.1 this))
  unfold dyad_Add.f
  rw [if_pos ⟨isN_can (by omega) (by omega) (by omega), isN_can (by omega) (by omega) (by omega)⟩, addV_can (by omega) (by omega) (by omega) (by omega), mkN_can (by omega) (by omega) (by omega)]
theorem rdOf_get (l : List Nat) (i : Nat) (h : i < l.length) : rdOf (0 : Nat) l (i : Int) = l[i] := by
  unfold rdOf
  rw [Int.toNat_natCast, List.getD_eq_getElem?_getD, List.getElem?_eq_getElem h]; rfl
theorem total_ev (l : List Nat) (hf : ∀ b ∈ l, Fin64 b) (hl : l.length ≤ 65536) : ∀ d i : Nat, i + d = l.length →
    sums_total.l0 (d + 1) l (l.length : Int) (i : Int) (canN (sumZ (l.take i)) (-1074)).1 (canN (sumZ (l.take i)) (-1074)).2.1 (canN (sumZ (l.take i)) (-1074)).2.2 = some (canN (sumZ l) (-1074)) := by
  intro d
  induction d with
  | zero =>
    intro i hi
    have : i = l.length := by omega
    subst this
    rw [sums_total.l0, if_neg (by omega), List.take_length]
  | succ d ih =>
    intro i hi
    have hil : i < l.length := by omega
    have hb := hf l[i] (List.getElem_mem hil)
    have ht : ∀ b ∈ l.take i, Fin64 b := fun b hb => hf b (List.mem_of_mem_take hb)
    have e1 : sumZ (l.take i) + flz l[i] = sumZ (l.take (i + 1)) := by
      rw [List.take_succ_eq_append_getElem hil, sumZ_append]; simp [sumZ]
    have b1 := sumZ_bl (l.take i) ht (by rw [List.length_take]; omega)
    have b2 : bl (flz l[i]).natAbs ≤ 2098 := bl_le.2 (flz_lt hb)
    rw [sums_total.l0, if_pos (by omega), if_pos (by omega), if_pos (by omega), rdOf_get l i hil, num_law hb, Option.bind_some, dadd_law (by omega) (by omega), Option.bind_some, e1, w64_succ (by omega)]
    exact ih (i + 1) (by omega)
theorem total_law (l : List Nat) (hf : ∀ b ∈ l, Fin64 b) (hl : l.length ≤ 65536) : sums_total.f (l.length + 1) l = some (canN (sumZ l) (-1074)) := by
  have h := total_ev l hf hl l.length 0 (by omega)
  unfold sums_total.f
  simpa [sumZ, canN_zero] using h
theorem fin_of {b : Nat} (h : b < 18446744073709551616) (h1 : nanB b = false) (h2 : infB? b = false) : Fin64 b := by
  refine ⟨h, ?_⟩
  rcases Nat.lt_trichotomy (b % 9223372036854775808) 9218868437227405312 with h3 | h3 | h3
  · exact h3
  · exfalso
    unfold infB? math_IsInf.f math_Abs.f at h2
    rw [if_pos rfl, Option.bind_some, bits_abs b h] at h2
    simp only [Int.toNat_natCast, Option.getD_some] at h2
    have : FloatKind.f64.format.order (b % 9223372036854775808) 9218868437227405311 = some .gt := by
      rw [h3]; decide
    rw [this] at h2
    cases h2
  · exfalso
    have : FloatKind.f64.format.order b b = none := by
      show double.order b b = none
      have hr : ∃ s f, double.read b = .nan s f := by
        unfold Format.read
        simp only [sw, bn, ir, lp]
        rw [if_neg (by omega), if_neg (by omega)]
        rw [if_neg (by omega)]
        exact ⟨_, _, rfl⟩
      obtain ⟨s, f, hr⟩ := hr
      unfold Format.order
      rw [hr]
      rfl
    unfold nanB at h1
    rw [this] at h1
    cases h1
theorem fault_zero {l : List Nat} (hw : ∀ b ∈ l, b < 18446744073709551616) (h : faultL l = 0) : l.length ≤ 65536 ∧ ∀ b ∈ l, Fin64 b := by
  unfold faultL at h
  split at h
  · cases h
  · split at h
    · cases h
    · split at h
      · cases h
      · rename_i h1 h2 h3
        refine ⟨by omega, fun b hb => fin_of (hw b hb) ?_ ?_⟩
        · cases hn : nanB b
          · rfl
          · exact absurd (List.any_eq_true.2 ⟨b, hb, hn⟩) h2
        · cases hn : infB? b
          · rfl
          · exact absurd (List.any_eq_true.2 ⟨b, hb, hn⟩) h3
theorem exact_list (A : Option Addr) (c : Nat) (l : List Nat) (mode : Int) (w : World) (hr : Kd.C Kd.float w A l.length l) (hc : l.length ≤ c) (hn : l.length < 4611686018427387904) (hw : ∀ b ∈ l, b < 18446744073709551616) (hL : Laid w) :
    Calls Tryz.prog 22 #[.slice A l.length c, .int .i64 mode] w (RetF (exactW l mode (canN (sumZ l) (-1074))) w) :=
  exact_any A c l mode w hr hc hn hL _ (l.length + 1) (fun h => by
    obtain ⟨h1, h2⟩ := fault_zero hw h
    have := sumZ_bl l h2 h1
    exact ⟨total_law l h2 h1, isN_can (by omega) (by omega) (by omega)⟩)
end Go.Proofs.YthmeocigliephaaGreatDoor.Big
end
