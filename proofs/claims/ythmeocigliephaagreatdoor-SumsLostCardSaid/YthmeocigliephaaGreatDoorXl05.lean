/- Parts of the proof, behind one another; unused words are left out. -/
import Derived.Test.YthmeocigliephaaGreatDoorXl04
set_option linter.unusedVariables false
set_option linter.unusedSimpArgs false
set_option linter.unusedSectionVars false
set_option exponentiation.threshold 100000
set_option maxRecDepth 100000
set_option maxHeartbeats 8000000
open Go.RowKit Go.Proofs.YthmeocigliephaaGreatDoorW.PrintWords Go.Proofs.YthmeocigliephaaGreatDoorW.PrintLast Go.Proofs.YthmeocigliephaaGreatDoorW.PrintMore
section
namespace Go.Proofs.YthmeocigliephaaGreatDoor.PSx
open Go.Proofs.YthmeocigliephaaGreatDoor.PSu Go.Proofs.YthmeocigliephaaGreatDoor.PSv Go.RowKit Go.Proofs.YthmeocigliephaaGreatDoorW.PrintWords Go.Proofs.YthmeocigliephaaGreatDoorW.PrintLast Go.Proofs.YthmeocigliephaaGreatDoorW.PrintMore
attribute [local go_sem] f64bits_run f64from_run run_float_some max2_int min2_int max_two min_two max_three min_three max_four min_four
def dyad_Abs.f (a0_0 : Bool) (l0_1 : List Int) (a0_2 : Int) : Option (Bool × List Int × Int) := (dyad_Valid.f a0_0 l0_1 a0_2).bind fun t133 => (if t133 = true then (if (l0_1.length : Int) = 0 then (some (false, ([] : List Int), 0)) else ((some (([] : List Int) : List Int)).bind fun y134 => (if y134.length + l0_1.length < 35184372088832 then (some (false, (y134 ++ l0_1), a0_2)) else (none)))) else (some (false, ([] : List Int), 0)))
def dyad_Abs.T3 : Bool × List (List Nat × List Nat) := (true, [([], []), ([], []), ([1], [1]), ([0, 2], [0, 2]), ([], []), ([4], [4]), ([3, 5], [3, 5]), ([6, 3, 0, 1, 2, 3, 4, 5, 6], [6])])
def dyad_Abs.B3 : List Nat := [0, 0, 2, 7, 0, 16, 63, 127]
theorem dyad_Abs.tab3 : rtab .any (opsOf Tryz.f81 3) = dyad_Abs.T3 := by kernel_rfl
theorem dyad_Abs.bits3 : waitsOk dyad_Abs.T3.2 dyad_Abs.B3 = true := by kernel_rfl
theorem dyad_Abs.calls (a0_0 : Bool) (A0_1 : Option Addr) (c0_1 : Nat) (l0_1 : List Int) (a0_2 : Int) (r1 : Bool) (r2 : List Int) (r3 : Int) (w : World) (hr0_1 : Kd.C (Kd.int .u32) w A0_1 l0_1.length l0_1) (hc0_1 : l0_1.length ≤ c0_1) (h : dyad_Abs.f a0_0 l0_1 a0_2 = some (r1, r2, r3)) :
  Calls Tryz.prog 81 #[.agg #[.bool a0_0, .slice A0_1 l0_1.length c0_1, .int .i64 a0_2]] w fun e w' => ∃ v1_ : Value, e = .returned (.agg #[.bool r1, v1_, .int .i64 r3]) ∧ Kd.R (Kd.int .u32) 83 w' w.heap.size (fun _ => True) v1_ r2 ∧ Below w.heap.size w w' := by
 have hu60 := Tryz.underlying60
 have HR0_1 := asd hr0_1
 have HC0_1 := asd hc0_1
 clear hr0_1 hc0_1
 have HB := asd (Below.refl w.heap.size w)
 have H := h
 clear h
 unfold dyad_Abs.f at H
 replace H := Option.bind_eq_some_iff.mp H
 obtain ⟨t133, A20, H⟩ := H
 have A2 := asd A20
 clear A20
 by_cases c3 : t133 = true
 ·subst c3
  rw [if_pos rfl] at H
  by_cases c4 : (l0_1.length : Int) = 0
  ·rw [if_pos c4] at H
   have c4b0 := beq_iff_eq.mpr c4
   have c4b1 := bne_eq_false_iff_eq.mpr c4
   clear c4
   simp only [Option.some.injEq, Prod.mk.injEq] at H
   obtain ⟨rfl, rfl, rfl⟩ := H
   go_enter Tryz.func81, Tryz.ntmps81
   go_wp2_with (first | ((with_reducible refine gate_dst (N := 1) rfl ?_); (try (refine gate_guard (by rfl) ?_; dsimp only)); refine box_ev (w := w) ?hg (N := 1) ?hd hbw (cs := #[.bool a0_0, .slice A0_1 l0_1.length c0_1, .int .i64 a0_2]) (t := 60) ?hr ?_; (case hd => rfl); (case hg => rfl); (case hr => first | (go_simp; done) | (go_simp; rfl)); clear HB; intro gb131 w5 HB BK131 GW131; have GE131 := GW131) | ((with_reducible refine gate_dst (N := 2) rfl ?_); (try (refine gate_guard (by rfl) ?_; dsimp only)); refine box_event ?hg (N := 2) ?hd (cs := #[.bool false, .slice none 0 0, .int .i64 0]) (t := 60) ?hr ?_; (case hd => rfl); (case hg => rfl); (case hr => first | (go_simp; done) | (go_simp; rfl)); intro gb132 hg w6 hbox hb; have n0_ := asd (blk_below (g := gb131) (o := .cells #[.bool a0_0, .slice A0_1 l0_1.length c0_1, .int .i64 a0_2] 60 (0, 0)) (blkU BK131.out) hb); have n1_ := asd (below_step hbs hb); have n2_ := asd (hbox); have n3_ := asd ((by rw [hg]; exact (below_size hbs) : w.heap.size ≤ gb132)); have n4_ := asd ((by rw [hg]; exact (below_size hbs) : w.heap.size ≤ gb132)); have n5_ := asd ((by rw [hg]; exact Nat.ne_of_lt (blk_lt (g := gb131) (o := .cells #[.bool a0_0, .slice A0_1 l0_1.length c0_1, .int .i64 a0_2] 60 (0, 0)) (blkU BK131.out)) : gb131 ≠ gb132)); have n6_ := asd ((by rw [hg]; exact Nat.ne_of_gt (blk_lt (g := gb131) (o := .cells #[.bool a0_0, .slice A0_1 l0_1.length c0_1, .int .i64 a0_2] 60 (0, 0)) (blkU BK131.out)) : gb132 ≠ gb131)); clear BK131; clear HB; have BK131 := n0_; have HB := n1_; have BK132 := n2_; have GW132 := n3_; have GE132 := n4_; have NB131_132 := n5_; have NB132_131 := n6_; clear n0_ n1_ n2_ n3_ n4_ n5_ n6_; clear hb hbox hg; have hnb7 := NB131_132.out; have hnc7 := NB132_131.out; obtain ⟨hcz8_0, hcz8_1, hcz8_2, hfz8_0, hfz8_1, hfz8_2⟩ := cz3 BK131.out) | ((with_reducible refine gate_callee (f := 91) rfl ?_); refine goesL_ (some 4) rfl rfl Tryz.func91 (by kernel_rfl) rfl #[.agg #[.bool a0_0, .slice A0_1 l0_1.length c0_1, .int .i64 a0_2]] rfl eqA ?_; (with_reducible refine (dyad_Valid.calls a0_0 _ _ l0_1 a0_2 true _ ?side1 ?side2 A2.out).mono ?_); (case side1 => repeat (first | exact (Kd.C_below HR0_1.out HB.out) | (with_reducible refine Kd.C_alloc ?_ _) | (with_reducible refine Kd.C_drewN ?_ _) | (with_reducible refine Kd.C_drew ?_))); (case side2 => exact HC0_1.out); rintro e w9 ⟨rfl, hb⟩; refine ⟨_, rfl, ?_⟩; have n0_ := asd (blk_below (g := gb131) (o := .cells #[.bool a0_0, .slice A0_1 l0_1.length c0_1, .int .i64 a0_2] 60 (0, 0)) (blkU BK131.out) hb); have n1_ := asd (blk_below (g := gb132) (o := .cells #[.bool false, .slice none 0 0, .int .i64 0] 60 (0, 0)) (blkU BK132.out) hb); have n2_ := asd (below_step hbs hb); clear BK131; clear BK132; clear HB; have BK131 := n0_; have BK132 := n1_; have HB := n2_; clear n0_ n1_ n2_; (try clear hb); obtain ⟨hcz10_0, hcz10_1, hcz10_2, hfz10_0, hfz10_1, hfz10_2⟩ := cz3 BK131.out; obtain ⟨hcz11_0, hcz11_1, hcz11_2, hfz11_0, hfz11_1, hfz11_2⟩ := cz3 BK132.out))
   refine bodyPost_ret (results_cell_row rfl _ _ gb132 60 #[.bool false, .slice none 0 0, .int .i64 0] (0, 0) _ rfl (by (with_reducible repeat (first | refine blk_drewN ?_ _ | refine blk_drew ?_ | refine blk_alloc ?_ _)); refine blk_put (cs := #[.bool false, .slice none 0 0, .int .i64 0]) ?_ 2 _ rfl; (with_reducible repeat (first | refine blk_drewN ?_ _ | refine blk_drew ?_ | refine blk_alloc ?_ _)); refine blk_put (cs := #[.bool false, .slice none 0 0, .int .i64 0]) ?_ 1 _ rfl; (with_reducible repeat (first | refine blk_drewN ?_ _ | refine blk_drew ?_ | refine blk_alloc ?_ _)); refine blk_put (cs := #[.bool false, .slice none 0 0, .int .i64 0]) ?_ 0 _ rfl; (with_reducible repeat (first | refine blk_drewN ?_ _ | refine blk_drew ?_ | refine blk_alloc ?_ _)); exact BK132.out) Tryz.underlying60 rfl (by kernel_rfl)) rfl ?_
   exact ⟨_, eqC, by first | exact Kd.R_nil _ _ _ _ _ | exact Kd.N_nil _ _ _ _ _ | exact Kd.V_nil _ _ _ _ _ | exact Kd.Q_nil _ _ _ _ _ | exact Kd.S_nil _ _ _ _ _, hbs⟩
  ·rw [if_neg c4] at H
   have c4b0 := beq_eq_false_iff_ne.mpr c4
   have c4b1 := bne_iff_ne.mpr c4
   have c4b2 : ¬ (l0_1 = []) := fun h_ => c4 (by rw [h_]; rfl)
   obtain ⟨y134, hy134⟩ : ∃ y_ : List Int, y_ = (([] : List Int)) := ⟨_, rfl⟩
   try rw [Option.bind_some] at H
   try rw [← hy134] at H
   have Ny134 := asd hy134
   clear hy134
   by_cases c12 : y134.length + l0_1.length < 35184372088832
   ·rw [if_pos c12] at H
    have LMc12 := asd c12
    clear c12
    obtain ⟨y137, hy137⟩ : ∃ y_ : List Int, y_ = (y134 ++ l0_1) := ⟨_, rfl⟩
    try rw [Option.bind_some] at H
    try rw [← hy137] at H
    have Ny137 := asd hy137
    clear hy137
    simp only [Option.some.injEq, Prod.mk.injEq] at H
    obtain ⟨rfl, rfl, rfl⟩ := H
    go_enter Tryz.func81, Tryz.ntmps81
    try go_wp2_with (first | ((with_reducible refine gate_dst (N := 1) rfl ?_); (try (refine gate_guard (by rfl) ?_; dsimp only)); refine box_ev (w := w) ?hg (N := 1) ?hd hbw (cs := #[.bool a0_0, .slice A0_1 l0_1.length c0_1, .int .i64 a0_2]) (t := 60) ?hr ?_; (case hd => rfl); (case hg => rfl); (case hr => first | (go_simp; done) | (go_simp; rfl)); clear HB; intro gb131 w13 HB BK131 GW131; have GE131 := GW131) | ((with_reducible refine gate_dst (N := 2) rfl ?_); (try (refine gate_guard (by rfl) ?_; dsimp only)); refine box_event ?hg (N := 2) ?hd (cs := #[.bool false, .slice none 0 0, .int .i64 0]) (t := 60) ?hr ?_; (case hd => rfl); (case hg => rfl); (case hr => first | (go_simp; done) | (go_simp; rfl)); intro gb132 hg w14 hbox hb; have n0_ := asd (blk_below (g := gb131) (o := .cells #[.bool a0_0, .slice A0_1 l0_1.length c0_1, .int .i64 a0_2] 60 (0, 0)) (blkU BK131.out) hb); have n1_ := asd (below_step hbs hb); have n2_ := asd (hbox); have n3_ := asd ((by rw [hg]; exact (below_size hbs) : w.heap.size ≤ gb132)); have n4_ := asd ((by rw [hg]; exact (below_size hbs) : w.heap.size ≤ gb132)); have n5_ := asd ((by rw [hg]; exact Nat.ne_of_lt (blk_lt (g := gb131) (o := .cells #[.bool a0_0, .slice A0_1 l0_1.length c0_1, .int .i64 a0_2] 60 (0, 0)) (blkU BK131.out)) : gb131 ≠ gb132)); have n6_ := asd ((by rw [hg]; exact Nat.ne_of_gt (blk_lt (g := gb131) (o := .cells #[.bool a0_0, .slice A0_1 l0_1.length c0_1, .int .i64 a0_2] 60 (0, 0)) (blkU BK131.out)) : gb132 ≠ gb131)); clear BK131; clear HB; have BK131 := n0_; have HB := n1_; have BK132 := n2_; have GW132 := n3_; have GE132 := n4_; have NB131_132 := n5_; have NB132_131 := n6_; clear n0_ n1_ n2_ n3_ n4_ n5_ n6_; clear hb hbox hg; have hnb15 := NB131_132.out; have hnc15 := NB132_131.out; obtain ⟨hcz16_0, hcz16_1, hcz16_2, hfz16_0, hfz16_1, hfz16_2⟩ := cz3 BK131.out) | ((with_reducible refine gate_callee (f := 91) rfl ?_); refine goesL_ (some 4) rfl rfl Tryz.func91 (by kernel_rfl) rfl #[.agg #[.bool a0_0, .slice A0_1 l0_1.length c0_1, .int .i64 a0_2]] rfl eqA ?_; (with_reducible refine (dyad_Valid.calls a0_0 _ _ l0_1 a0_2 true _ ?side1 ?side2 A2.out).mono ?_); (case side1 => repeat (first | exact (Kd.C_below HR0_1.out HB.out) | (with_reducible refine Kd.C_alloc ?_ _) | (with_reducible refine Kd.C_drewN ?_ _) | (with_reducible refine Kd.C_drew ?_))); (case side2 => exact HC0_1.out); rintro e w17 ⟨rfl, hb⟩; refine ⟨_, rfl, ?_⟩; have n0_ := asd (blk_below (g := gb131) (o := .cells #[.bool a0_0, .slice A0_1 l0_1.length c0_1, .int .i64 a0_2] 60 (0, 0)) (blkU BK131.out) hb); have n1_ := asd (blk_below (g := gb132) (o := .cells #[.bool false, .slice none 0 0, .int .i64 0] 60 (0, 0)) (blkU BK132.out) hb); have n2_ := asd (below_step hbs hb); clear BK131; clear BK132; clear HB; have BK131 := n0_; have BK132 := n1_; have HB := n2_; clear n0_ n1_ n2_; (try clear hb); obtain ⟨hcz18_0, hcz18_1, hcz18_2, hfz18_0, hfz18_1, hfz18_2⟩ := cz3 BK131.out))
    have n0_ := asd (blk_drew BK131.out)
    have n1_ := asd (blk_drew BK132.out)
    have n2_ := asd (below_drew1 HB.out)
    clear BK131
    clear BK132
    clear HB
    have BK131 := n0_
    have BK132 := n1_
    have HB := n2_
    clear n0_ n1_ n2_
    refine start_ (n := 8) (S := fun w' => w'.cell? ⟨gb131, 0, none⟩ = some (.bool a0_0) ∧ w'.cell? ⟨gb131, 1, none⟩ = some (.slice A0_1 l0_1.length c0_1) ∧ w'.cell? ⟨gb131, 2, none⟩ = some (.int .i64 a0_2)) (ds := []) #[false, false, false, false, false, false, false, false] (by kernel_rfl) rfl rfl ⟨(blk_cell BK131.out 0).trans rfl, (blk_cell BK131.out 1).trans rfl, (blk_cell BK131.out 2).trans rfl⟩ (fun hHeld => ?_); refine with_tabW dyad_Abs.tab3 dyad_Abs.bits3 (fun HT_ HW_ => ?_)
    generalize w17.drew = w19 at BK131 BK132 HB hHeld ⊢
    refine pure_ (i := 1) (N := some 14) (v := ?_) (a' := ?_) #[false, true, false, false, false, false, false, false] rfl rfl (any_of HT_.out (by kernel_rfl)) (fun _ _ _ h => h) (Or.inl ⟨by rfl, ?_⟩) ?_ ?_
    rotate_left
    ·intro w'
     go_simp
     with_reducible rfl
    rotate_left
    ·simp only [Act.put, List.setIfInBounds_toArray, List.set_cons_zero, List.set_cons_succ, i64_w, i32_w]
     rfl
    refine pure_ (i := 4) (N := some 17) (v := ?_) (a' := ?_) #[false, true, false, false, true, false, false, false] rfl rfl (any_of HT_.out (by kernel_rfl)) (fun _ _ _ h => h) (Or.inl ⟨by rfl, ?_⟩) ?_ ?_
    rotate_left
    ·intro w'
     go_simp
     with_reducible rfl
    rotate_left
    ·simp only [Act.put, List.setIfInBounds_toArray, List.set_cons_zero, List.set_cons_succ, i64_w, i32_w]
     rfl
    refine take_ (i := 2) (N := some 15) (v := ?_) (a' := ?_) #[false, true, true, false, true, false, false, false] rfl rfl (take_ofW HT_.out HW_.out (by kernel_rfl)) (fun _ _ _ h => h) (Or.inl ⟨by rfl, ?_⟩) hHeld ?_ ?_
    rotate_left
    ·rintro w' ⟨s0, s1, s2⟩
     go_simp
     with_reducible rfl
    rotate_left
    ·simp only [Act.put, List.setIfInBounds_toArray, List.set_cons_zero, List.set_cons_succ, i64_w, i32_w]
     rfl
    refine take_ (i := 5) (N := some 18) (v := ?_) (a' := ?_) #[false, true, true, false, true, true, false, false] rfl rfl (take_ofW HT_.out HW_.out (by kernel_rfl)) (fun _ _ _ h => h) (Or.inl ⟨by rfl, ?_⟩) hHeld ?_ ?_
    rotate_left
    ·rintro w' ⟨s0, s1, s2⟩
     go_simp
     with_reducible rfl
    rotate_left
    ·simp only [Act.put, List.setIfInBounds_toArray, List.set_cons_zero, List.set_cons_succ, i64_w, i32_w]
     rfl
    refine one_ (i := 0) (N := some 13) #[true, true, true, false, true, true, false, false] rfl rfl (one_of HT_.out (by kernel_rfl)) (by decide) (fun K hK => ?_)
    refine Kd.R_lit_step (Kd.int .u32) _ 83 ?hg (N := 13) ?hd (xs := ([] : List Int)) (inner := []) (ok := fun _ => True) (okp := fun _ => True) ?hr ?hp (fun _ hk => hk) trivial (Below.refl _ _) (Nat.le_refl _) (by simp) ?_; (case hd => rfl); (case hg => rfl); (case hr => first | (go_simp; done) | (go_simp; rfl)); (case hp => exact (Reps.none _ _))
    intro v135 w20 ho21 hb hg_ hnew_
    clear hg_ hnew_
    (first | rw [← Ny134.out] at ho21 | (simp only [Int.reduceToNat] at ho21; rw [← Ny134.out] at ho21))
    have n0_ := asd (Kd.R_lower ho21 (below_size hbs))
    have n1_ := asd (blk_below (g := gb131) (o := .cells #[.bool a0_0, .slice A0_1 l0_1.length c0_1, .int .i64 a0_2] 60 (0, 0)) (blkU BK131.out) hb)
    have n2_ := asd (blk_below (g := gb132) (o := .cells #[.bool false, .slice none 0 0, .int .i64 0] 60 (0, 0)) (blkU BK132.out) hb)
    have n3_ := asd (below_step hbs hb)
    clear BK131
    clear BK132
    clear HB
    have HO136 := n0_
    have BK131 := n1_
    have BK132 := n2_
    have HB := n3_
    clear n0_ n1_ n2_ n3_
    clear hb ho21
    refine hK.out _ _ ⟨(blk_cell BK131.out 0).trans rfl, (blk_cell BK131.out 1).trans rfl, (blk_cell BK131.out 2).trans rfl⟩ (fun hHeld => ?_)
    clear hK K
    refine norm_ (a' := ?_) ?_ ?_
    rotate_left
    ·show Act.put _ (some 13) _ = _
     simp only [Act.put, List.setIfInBounds_toArray, List.set_cons_zero, List.set_cons_succ, i64_w, i32_w]
     rfl
    refine one_ (i := 3) (N := some 16) #[true, true, true, true, true, true, false, false] rfl rfl (one_of HT_.out (by kernel_rfl)) (by decide) (fun K hK => ?_)
    refine Kd.R_append_rows_step (Kd.int .u32) (w0 := w) w.heap.size (by rfl) (.tmp 13) (.tmp 15) 39 83 (.int .u32 0) 4 rfl Tryz.underlying39 info83 rfl (by decide) (by omega) v135 y134 l0_1 _ _ _ (fun _ => True) (fun _ => False) rfl rfl ?aO ?aR (fun _ _ h => h) (fun _ h => h.elim) ?aF ?aB ?aS ?aL ?_
    (case aR => repeat (first | exact (Kd.C_below HR0_1.out HB.out) | (with_reducible refine Kd.C_alloc ?_ _) | (with_reducible refine Kd.C_drewN ?_ _) | (with_reducible refine Kd.C_drew ?_)))
    (case aB => exact hbs)
    (case aF => exact (fun _ _ => trivial))
    (case aO => exact (rUp HO136.out))
    (case aS => exact (below_size hbs))
    (case aL => have := LMc12.out; omega)
    intro v138 w22 ho hb hg hat
    rw [← Ny137.out] at ho
    have n0_ := asd (blk_grown (g := gb131) (o := .cells #[.bool a0_0, .slice A0_1 l0_1.length c0_1, .int .i64 a0_2] 60 (0, 0)) (blkU BK131.out) hg (Kd.R_ne HO136.out BK131.out (by decide)))
    have n1_ := asd (blk_grown (g := gb132) (o := .cells #[.bool false, .slice none 0 0, .int .i64 0] 60 (0, 0)) (blkU BK132.out) hg (Kd.R_ne HO136.out BK132.out (by decide)))
    have n2_ := asd (hb)
    have n3_ := asd (ho)
    clear BK131
    clear BK132
    clear HB
    clear HO136
    have BK131 := n0_
    have BK132 := n1_
    have HB := n2_
    have HO139 := n3_
    clear n0_ n1_ n2_ n3_
    clear ho hb hg hat
    obtain ⟨Ao23, co23, eo23⟩ := Kd.R_slice HO139.out
    (first | subst eo23 | (injection eo23 with f1_ f2_ f3_; have f4_ := f1_.symm; have f5_ := f3_.symm; clear f1_ f2_ f3_; subst f4_; subst f5_))
    refine hK.out _ _ ⟨(blk_cell BK131.out 0).trans rfl, (blk_cell BK131.out 1).trans rfl, (blk_cell BK131.out 2).trans rfl⟩ (fun hHeld => ?_)
    clear hK K
    refine norm_ (a' := ?_) ?_ ?_
    rotate_left
    ·show Act.put _ (some 16) _ = _
     simp only [Act.put, List.setIfInBounds_toArray, List.set_cons_zero, List.set_cons_succ, i64_w, i32_w]
     rfl
    refine pure_ (i := 6) (N := some 19) (v := ?_) (a' := ?_) #[true, true, true, true, true, true, true, false] rfl rfl (any_of HT_.out (by kernel_rfl)) (fun _ _ _ h => h) (Or.inl ⟨by rfl, ?_⟩) ?_ ?_
    rotate_left
    ·intro w'
     go_simp
     with_reducible rfl
    rotate_left
    ·simp only [Act.put, List.setIfInBounds_toArray, List.set_cons_zero, List.set_cons_succ, i64_w, i32_w]
     rfl
    refine one_ (i := 7) (N := none) #[true, true, true, true, true, true, true, true] rfl rfl (one_of HT_.out (by kernel_rfl)) (by decide) (fun K hK => ?_)
    have hs24 : w22.cell? ⟨gb132, 0, none⟩ = some (.bool false) := (blk_cell BK132.out 0).trans rfl
    have hfs24 := blk_frozen BK132.out 0
    have hns24_0 := NB131_132.out
    have hms24_0 := NB132_131.out
    have hs25 : w22.cell? ⟨gb132, 1, none⟩ = some (.slice none 0 0) := (blk_cell BK132.out 1).trans rfl
    have hfs25 := blk_frozen BK132.out 1
    have hns25_0 := NB131_132.out
    have hms25_0 := NB132_131.out
    have hs26 : w22.cell? ⟨gb132, 2, none⟩ = some (.int .i64 0) := (blk_cell BK132.out 2).trans rfl
    have hfs26 := blk_frozen BK132.out 2
    have hns26_0 := NB131_132.out
    have hms26_0 := NB132_131.out
    refine skip_ (w1 := ?_) (by rfl) rfl ?_ ?_
    rotate_left
    ·go_simp
     rfl
    refine hK.out _ _ ⟨((cell_far (p := ⟨gb132, _, none⟩) NB131_132.out _).trans (((cell_far (p := ⟨gb132, _, none⟩) NB131_132.out _).trans (((cell_far (p := ⟨gb132, _, none⟩) NB131_132.out _).trans (hHeld.1)))))), ((cell_far (p := ⟨gb132, _, none⟩) NB131_132.out _).trans (((cell_far (p := ⟨gb132, _, none⟩) NB131_132.out _).trans (((cell_far (p := ⟨gb132, _, none⟩) NB131_132.out _).trans (hHeld.2.1)))))), ((cell_far (p := ⟨gb132, _, none⟩) NB131_132.out _).trans (((cell_far (p := ⟨gb132, _, none⟩) NB131_132.out _).trans (((cell_far (p := ⟨gb132, _, none⟩) NB131_132.out _).trans (hHeld.2.2))))))⟩ (fun hHeld => ?_)
    clear hK K
    refine done_ (done_of HT_.out (by kernel_rfl)) ?_
    try go_wp2
    refine bodyPost_ret (results_cell_row rfl _ _ gb132 60 #[.bool false, .slice Ao23 y137.length co23, .int .i64 a0_2] (0, 0) _ rfl (by (with_reducible repeat (first | refine blk_drewN ?_ _ | refine blk_drew ?_ | refine blk_alloc ?_ _)); refine blk_put (cs := #[.bool false, .slice Ao23 y137.length co23, .int .i64 0]) ?_ 2 _ rfl; (with_reducible repeat (first | refine blk_drewN ?_ _ | refine blk_drew ?_ | refine blk_alloc ?_ _)); refine blk_put (cs := #[.bool false, .slice none 0 0, .int .i64 0]) ?_ 1 _ rfl; (with_reducible repeat (first | refine blk_drewN ?_ _ | refine blk_drew ?_ | refine blk_alloc ?_ _)); refine blk_put (cs := #[.bool false, .slice none 0 0, .int .i64 0]) ?_ 0 _ rfl; (with_reducible repeat (first | refine blk_drewN ?_ _ | refine blk_drew ?_ | refine blk_alloc ?_ _)); exact BK132.out) Tryz.underlying60 rfl (by kernel_rfl)) rfl ?_
    exact ⟨_, eqC, by (with_reducible repeat (first | apply Kd.R_alloc | apply Kd.R_drewN | apply Kd.R_drew)); exact Kd.R_mono (Kd.R_far (p := ⟨gb132, 2, none⟩) (Kd.R_far (p := ⟨gb132, 1, none⟩) (Kd.R_far (p := ⟨gb132, 0, none⟩) (Kd.R_types HO139.out BK132.out (by decide)) (fun _ hk => hk.2) (.bool false)) (fun _ hk => hk.2) (.slice Ao23 y137.length co23)) (fun _ hk => hk.2) (.int .i64 a0_2)) (fun _ hk => trivial), hbs⟩
   ·rw [if_neg c12] at H
    exact absurd H (by simp)
 ·replace c3 := Bool.eq_false_iff.mpr c3
  subst c3
  rw [if_neg (show ¬ (false = true) by decide)] at H
  simp only [Option.some.injEq, Prod.mk.injEq] at H
  obtain ⟨rfl, rfl, rfl⟩ := H
  go_enter Tryz.func81, Tryz.ntmps81
  go_wp2_with (first | ((with_reducible refine gate_dst (N := 1) rfl ?_); (try (refine gate_guard (by rfl) ?_; dsimp only)); refine box_ev (w := w) ?hg (N := 1) ?hd hbw (cs := #[.bool a0_0, .slice A0_1 l0_1.length c0_1, .int .i64 a0_2]) (t := 60) ?hr ?_; (case hd => rfl); (case hg => rfl); (case hr => first | (go_simp; done) | (go_simp; rfl)); clear HB; intro gb131 w27 HB BK131 GW131; have GE131 := GW131) | ((with_reducible refine gate_dst (N := 2) rfl ?_); (try (refine gate_guard (by rfl) ?_; dsimp only)); refine box_event ?hg (N := 2) ?hd (cs := #[.bool false, .slice none 0 0, .int .i64 0]) (t := 60) ?hr ?_; (case hd => rfl); (case hg => rfl); (case hr => first | (go_simp; done) | (go_simp; rfl)); intro gb132 hg w28 hbox hb; have n0_ := asd (blk_below (g := gb131) (o := .cells #[.bool a0_0, .slice A0_1 l0_1.length c0_1, .int .i64 a0_2] 60 (0, 0)) (blkU BK131.out) hb); have n1_ := asd (below_step hbs hb); have n2_ := asd (hbox); have n3_ := asd ((by rw [hg]; exact (below_size hbs) : w.heap.size ≤ gb132)); have n4_ := asd ((by rw [hg]; exact (below_size hbs) : w.heap.size ≤ gb132)); have n5_ := asd ((by rw [hg]; exact Nat.ne_of_lt (blk_lt (g := gb131) (o := .cells #[.bool a0_0, .slice A0_1 l0_1.length c0_1, .int .i64 a0_2] 60 (0, 0)) (blkU BK131.out)) : gb131 ≠ gb132)); have n6_ := asd ((by rw [hg]; exact Nat.ne_of_gt (blk_lt (g := gb131) (o := .cells #[.bool a0_0, .slice A0_1 l0_1.length c0_1, .int .i64 a0_2] 60 (0, 0)) (blkU BK131.out)) : gb132 ≠ gb131)); clear BK131; clear HB; have BK131 := n0_; have HB := n1_; have BK132 := n2_; have GW132 := n3_; have GE132 := n4_; have NB131_132 := n5_; have NB132_131 := n6_; clear n0_ n1_ n2_ n3_ n4_ n5_ n6_; clear hb hbox hg; have hnb29 := NB131_132.out; have hnc29 := NB132_131.out; obtain ⟨hcz30_0, hcz30_1, hcz30_2, hfz30_0, hfz30_1, hfz30_2⟩ := cz3 BK131.out) | ((with_reducible refine gate_callee (f := 91) rfl ?_); refine goesL_ (some 4) rfl rfl Tryz.func91 (by kernel_rfl) rfl #[.agg #[.bool a0_0, .slice A0_1 l0_1.length c0_1, .int .i64 a0_2]] rfl eqA ?_; (with_reducible refine (dyad_Valid.calls a0_0 _ _ l0_1 a0_2 false _ ?side1 ?side2 A2.out).mono ?_); (case side1 => repeat (first | exact (Kd.C_below HR0_1.out HB.out) | (with_reducible refine Kd.C_alloc ?_ _) | (with_reducible refine Kd.C_drewN ?_ _) | (with_reducible refine Kd.C_drew ?_))); (case side2 => exact HC0_1.out); rintro e w31 ⟨rfl, hb⟩; refine ⟨_, rfl, ?_⟩; have n0_ := asd (blk_below (g := gb131) (o := .cells #[.bool a0_0, .slice A0_1 l0_1.length c0_1, .int .i64 a0_2] 60 (0, 0)) (blkU BK131.out) hb); have n1_ := asd (blk_below (g := gb132) (o := .cells #[.bool false, .slice none 0 0, .int .i64 0] 60 (0, 0)) (blkU BK132.out) hb); have n2_ := asd (below_step hbs hb); clear BK131; clear BK132; clear HB; have BK131 := n0_; have BK132 := n1_; have HB := n2_; clear n0_ n1_ n2_; (try clear hb); obtain ⟨hcz32_0, hcz32_1, hcz32_2, hfz32_0, hfz32_1, hfz32_2⟩ := cz3 BK132.out))
  refine bodyPost_ret (results_cell_row rfl _ _ gb132 60 #[.bool false, .slice none 0 0, .int .i64 0] (0, 0) _ rfl (by (with_reducible repeat (first | refine blk_drewN ?_ _ | refine blk_drew ?_ | refine blk_alloc ?_ _)); refine blk_put (cs := #[.bool false, .slice none 0 0, .int .i64 0]) ?_ 2 _ rfl; (with_reducible repeat (first | refine blk_drewN ?_ _ | refine blk_drew ?_ | refine blk_alloc ?_ _)); refine blk_put (cs := #[.bool false, .slice none 0 0, .int .i64 0]) ?_ 1 _ rfl; (with_reducible repeat (first | refine blk_drewN ?_ _ | refine blk_drew ?_ | refine blk_alloc ?_ _)); refine blk_put (cs := #[.bool false, .slice none 0 0, .int .i64 0]) ?_ 0 _ rfl; (with_reducible repeat (first | refine blk_drewN ?_ _ | refine blk_drew ?_ | refine blk_alloc ?_ _)); exact BK132.out) Tryz.underlying60 rfl (by kernel_rfl)) rfl ?_
  exact ⟨_, eqC, by first | exact Kd.R_nil _ _ _ _ _ | exact Kd.N_nil _ _ _ _ _ | exact Kd.V_nil _ _ _ _ _ | exact Kd.Q_nil _ _ _ _ _ | exact Kd.S_nil _ _ _ _ _, hbs⟩
end Go.Proofs.YthmeocigliephaaGreatDoor.PSx
end
section
namespace Go.Proofs.YthmeocigliephaaGreatDoor.Big
open Go.Proofs.YthmeocigliephaaGreatDoor.PSu Go.Proofs.YthmeocigliephaaGreatDoor.PSx
def lostF (k : Nat) (l0 : List Nat) (a1 : Nat) : Option (Nat × Int) := (sums_fault.f l0 [a1]).bind fun t => if t = 0 then (sums_total.f k l0).bind fun x => (sums_num.f a1).bind fun y => (dyad_Sub.f k x.1 x.2.1 x.2.2 y.1 y.2.1 y.2.2).bind fun z => (dyad_Abs.f z.1 z.2.1 z.2.2.1).bind fun u => dyad_Round.f u.1 u.2.1 u.2.2 3 else some ((0 : Nat), t)
section
variable (k : Nat) (A0 : Option Addr) (c0 : Nat) (l0 : List Nat) (a1 : Nat) (w : World) (hr0 : Kd.C Kd.float w A0 l0.length l0) (hc0 : l0.length ≤ c0)
include hr0 hc0
theorem lost_bad (q : Int) (hq : q ≠ 0) (h3 : sums_fault.f l0 [a1] = some q) :
    Calls Tryz.prog 35 #[.slice A0 l0.length c0, .float .f64 a1] w fun e w' => e = .returned (.tuple #[.float .f64 0, .int .i64 q]) ∧ Below w.heap.size w w' := by
  have HR0 := asd hr0
  have HC0 := asd hc0
  have HB := asd (Below.refl w.heap.size w)
  have A3 := asd h3
  have c4b0 := beq_eq_false_iff_ne.mpr hq
  have c4b1 := bne_iff_ne.mpr hq
  clear hr0 hc0 h3 hq
  obtain ⟨y, hy⟩ : ∃ y, y = [a1] := ⟨_, rfl⟩
  rw [← hy] at A3
  have Ny := asd hy
  clear hy
  go_enter Tryz.func35, Tryz.ntmps35
  go_wp2_with (first
    | ((with_reducible refine gate_dst (N := 11) rfl ?_); refine Kd.R_lit Kd.float _ 25 ?hg (N := 11) ?hd (xs := ([a1] : List Nat)) (inner := [.float .f64 a1]) (ok := fun _ => True) (okp := fun _ => True) ?hr ?hp (fun _ hk => hk) trivial (Below.refl _ _) (Nat.le_refl _) (by simp) ?_; (case hd => rfl); (case hg => rfl); (case hr => first | (go_simp; done) | (go_simp; rfl)); (case hp => exact (Reps.one (show Kd.M Kd.float _ _ _ a1 [.float .f64 a1] from rfl) (Reps.none _ _))); intro v1 w1 h1 hb hg_ hn_; clear hg_ hn_; rw [← Ny.out] at h1; have n1 := asd (below_step HB.out hb); clear HB; have HB := n1; clear n1 hb; have HO := asd h1; clear h1; obtain ⟨A1, c1, e1⟩ := Kd.R_slice HO.out; subst e1)
    | (go_at_call 50; refine (sums_fault.calls2 _ _ _ _ _ l0 y q _ (by exact blk_cell (blk_new _ _) 0) (by exact blk_cell (blk_new _ _) 1) (Kd.C_below HR0.out (by exact HB.out.alloc HB.out.size _)) HC0.out (Kd.C_below (Kd.R_reads' HO.out).2.2 (by exact (Below.refl _ _).alloc (Nat.le_refl _) _)) (Kd.R_reads' HO.out).2.1 A3.out).mono ?_; rintro e w2 ⟨rfl, hb⟩; have n1 := asd (below_step (below_alloc HB.out _) hb); clear HB; have HB := n1; clear n1 hb))
  go_ret2
  exact ⟨rfl, HB.out⟩
theorem lost_ok (hL : Laid w) {n1 : Bool} {m1 : List Int} {e1 : Int} {n2 : Bool} {m2 : List Int} {e2 : Int} {n3 : Bool} {m3 : List Int} {e3 r3 : Int} {n4 : Bool} {m4 : List Int} {e4 : Int} {q : Nat} {r : Int} (h3 : sums_fault.f l0 [a1] = some 0)
    (h4 : sums_total.f k l0 = some (n1, m1, e1)) (h5 : sums_num.f a1 = some (n2, m2, e2)) (h6 : dyad_Sub.f k n1 m1 e1 n2 m2 e2 = some (n3, m3, e3, r3)) (h7 : dyad_Abs.f n3 m3 e3 = some (n4, m4, e4)) (h8 : dyad_Round.f n4 m4 e4 3 = some (q, r)) :
    Calls Tryz.prog 35 #[.slice A0 l0.length c0, .float .f64 a1] w fun e w' => e = .returned (.tuple #[.float .f64 q, .int .i64 r]) ∧ Below w.heap.size w w' := by
  have HL := asd hL
  have HR0 := asd hr0
  have HC0 := asd hc0
  have HB := asd (Below.refl w.heap.size w)
  have A4 := asd h4
  have A5 := asd h5
  have A6 := asd h6
  have A7 := asd h7
  have A8 := asd h8
  have hu60 := Tryz.underlying60
  clear hr0 hc0 h4 h5 h6 h7 h8 hL
  obtain ⟨y, hy⟩ : ∃ y, y = [a1] := ⟨_, rfl⟩
  rw [← hy] at h3
  have Ny := asd hy
  obtain ⟨t, ht⟩ : ∃ t : Int, t = 0 := ⟨_, rfl⟩
  rw [← ht] at h3
  have A3 := asd h3
  have c4b0 := beq_iff_eq.mpr ht
  have c4b1 := bne_eq_false_iff_eq.mpr ht
  clear hy h3 ht
  go_enter Tryz.func35, Tryz.ntmps35
  go_wp2_with (first
    | ((with_reducible refine gate_dst (N := 11) rfl ?_); refine Kd.R_lit Kd.float _ 25 ?hg (N := 11) ?hd (xs := ([a1] : List Nat)) (inner := [.float .f64 a1]) (ok := fun _ => True) (okp := fun _ => True) ?hr ?hp (fun _ hk => hk) trivial (Below.refl _ _) (Nat.le_refl _) (by simp) ?_; (case hd => rfl); (case hg => rfl); (case hr => first | (go_simp; done) | (go_simp; rfl)); (case hp => exact (Reps.one (show Kd.M Kd.float _ _ _ a1 [.float .f64 a1] from rfl) (Reps.none _ _))); intro v1 w1 h1 hb hg_ hn_; clear hg_ hn_; rw [← Ny.out] at h1; have n1_ := asd (below_step HB.out hb); clear HB; have HB := n1_; clear n1_ hb; have HO := asd h1; clear h1; obtain ⟨A1, c1, e1⟩ := Kd.R_slice HO.out; subst e1)
    | (go_at_call 50; refine (sums_fault.calls2 _ _ _ _ _ l0 y t _ (by exact blk_cell (blk_new _ _) 0) (by exact blk_cell (blk_new _ _) 1) (Kd.C_below HR0.out (by exact HB.out.alloc HB.out.size _)) HC0.out (Kd.C_below (Kd.R_reads' HO.out).2.2 (by exact (Below.refl _ _).alloc (Nat.le_refl _) _)) (Kd.R_reads' HO.out).2.1 A3.out).mono ?_; rintro e w2 ⟨rfl, hb⟩; have n1_ := asd (below_step (below_alloc HB.out _) hb); clear HB HO; have HB := n1_; clear n1_ hb)
    | ((with_reducible refine gate_callee (f := 45) rfl ?_); refine goesL_ (some 19) rfl rfl Tryz.func45 (by kernel_rfl) rfl #[.slice A0 l0.length c0] rfl eqA ?_; (with_reducible refine (sums_total.calls k _ _ l0 n1 m1 e1 _ (Kd.C_below HR0.out HB.out) HC0.out A4.out).mono ?_); rintro e w3 ⟨v1, rfl, ho, hb⟩; refine ⟨_, rfl, ?_⟩; have n1_ := asd (below_step HB.out hb); clear HB; have HB := n1_; clear n1_ hb; have H1 := asd ho; clear ho; obtain ⟨A1, c1, e1⟩ := Kd.R_slice H1.out; subst e1)
    | ((with_reducible refine gate_callee (f := 46) rfl ?_); refine goesL_ (some 21) rfl rfl Tryz.func46 (by kernel_rfl) rfl #[.float .f64 a1] rfl eqA ?_; (with_reducible refine (sums_num.calls a1 n2 m2 e2 _ A5.out).mono ?_); rintro e w4 ⟨v2, rfl, ho, hb⟩; refine ⟨_, rfl, ?_⟩; have n1_ := asd (below_step HB.out hb); have n2_ := asd (Kd.R_below H1.out hb); clear HB H1; have HB := n1_; have H1 := n2_; clear n1_ n2_ hb; have H2 := asd ho; clear ho; obtain ⟨A2, c2, e2⟩ := Kd.R_slice H2.out; subst e2)
    | ((with_reducible refine gate_callee (f := 44) rfl ?_); refine goesL_ (some 22) rfl rfl Tryz.func44 (by kernel_rfl) rfl #[.agg #[.bool n1, .slice A1 m1.length c1, .int .i64 e1], .agg #[.bool n2, .slice A2 m2.length c2, .int .i64 e2]] rfl eqA ?_; (with_reducible refine (dyad_Sub.calls k n1 (fun k_ => some k_ = (.slice A1 m1.length c1 : Value).ownBlock) _ _ m1 e1 n2 (fun k_ => some k_ = (.slice A2 m2.length c2 : Value).ownBlock) _ _ m2 e2 n3 m3 e3 r3 _ (Kd.R_V (Kd.R_tight rfl H1.out)) (Kd.R_V (Kd.R_tight rfl H2.out)) A6.out).mono ?_); rintro e w5 ⟨v3, rfl, ho, hb⟩; refine ⟨_, rfl, ?_⟩; have n1_ := asd (below_step HB.out hb); clear HB H1 H2; have HB := n1_; clear n1_ hb; have H3 := asd (Kd.R_mono (ok' := fun k_ => True) ho (fun _ hk_ => trivial)); clear ho; obtain ⟨A3_, c3, e3⟩ := Kd.R_slice H3.out; subst e3)
    | ((with_reducible refine gate_dst (N := 7) rfl ?_); refine box_event ?hg (N := 7) ?hd (cs := #[.bool false, .slice none 0 0, .int .i64 0]) (t := 60) ?hr ?_; (case hd => rfl); (case hg => rfl); (case hr => first | (go_simp; done) | (go_simp; rfl)); intro g hg w6 hbox hb; have n1_ := asd (below_step HB.out hb); have n2_ := asd (Kd.R_below H3.out hb); have GE := asd (by rw [hg]; exact below_size HB.out : w.heap.size ≤ g); clear HB H3; have HB := n1_; have H3 := n2_; clear n1_ n2_ hb hg; have BK := asd hbox; clear hbox; have z0 := (blk_cell BK.out 0).trans rfl; have z1 := (blk_cell BK.out 1).trans rfl; have z2 := (blk_cell BK.out 2).trans rfl; have f0 := blk_frozen BK.out 0; have f1 := blk_frozen BK.out 1; have f2 := blk_frozen BK.out 2)
    | ((with_reducible refine gate_callee (f := 81) rfl ?_); refine goesL_ (some 26) rfl rfl Tryz.func81 (by kernel_rfl) rfl #[.agg #[.bool n3, .slice A3_ m3.length c3, .int .i64 e3]] rfl eqA ?_; (with_reducible refine (dyad_Abs.calls n3 _ _ m3 e3 n4 m4 e4 _ ?side1 (Kd.R_reads' H3.out).2.1 A7.out).mono ?_); (case side1 => exact (Kd.R_reads' (Kd.R_far (p := ⟨g, 2, none⟩) (Kd.R_far (p := ⟨g, 1, none⟩) (Kd.R_far (p := ⟨g, 0, none⟩) (Kd.R_types H3.out BK.out (by decide)) (fun _ hk => hk.2) (.bool n3)) (fun _ hk => hk.2) (.slice A3_ m3.length c3)) (fun _ hk => hk.2) (.int .i64 e3))).2.2); rintro e w7 ⟨v4, rfl, ho, hb⟩; refine ⟨_, rfl, ?_⟩; have n1_ := asd (below_step (below_set (below_set (below_set HB.out GE.out) GE.out) GE.out) hb); clear HB H3 BK; have HB := n1_; clear n1_ hb; have H4 := asd ho; clear ho; obtain ⟨A4_, c4, e4⟩ := Kd.R_slice H4.out; subst e4)
    | ((with_reducible refine gate_callee (f := 47) rfl ?_); refine goesL_ (some 27) rfl rfl Tryz.func47 (by kernel_rfl) rfl #[.agg #[.bool n4, .slice A4_ m4.length c4, .int .i64 e4], .int .i64 3] rfl eqA ?_; (with_reducible refine (dyad_Round.calls n4 _ _ m4 e4 3 q r _ (Kd.R_reads' H4.out).2.2 (Kd.R_reads' H4.out).2.1 A8.out).mono ?_); rintro e w8 ⟨rfl, hb⟩; refine ⟨_, rfl, ?_⟩; have n1_ := asd (below_step HB.out hb); clear HB; have HB := n1_; clear n1_ hb))
  go_ret2
  exact ⟨rfl, HB.out⟩
end
theorem lost_calls (k : Nat) (A0 : Option Addr) (c0 : Nat) (l0 : List Nat) (a1 : Nat) (q : Nat) (r : Int) (w : World) (hr0 : Kd.C Kd.float w A0 l0.length l0) (hc0 : l0.length ≤ c0) (h : lostF k l0 a1 = some (q, r)) (hL : Laid w) :
    Calls Tryz.prog 35 #[.slice A0 l0.length c0, .float .f64 a1] w fun e w' => e = .returned (.tuple #[.float .f64 q, .int .i64 r]) ∧ Below w.heap.size w w' := by
  unfold lostF at h
  obtain ⟨t, h3, h⟩ := Option.bind_eq_some_iff.mp h
  by_cases ht : t = 0
  · subst ht
    rw [if_pos rfl] at h
    obtain ⟨⟨n1, m1, e1⟩, h4, h⟩ := Option.bind_eq_some_iff.mp h
    obtain ⟨⟨n2, m2, e2⟩, h5, h⟩ := Option.bind_eq_some_iff.mp h
    obtain ⟨⟨n3, m3, e3, r3⟩, h6, h⟩ := Option.bind_eq_some_iff.mp h
    obtain ⟨⟨n4, m4, e4⟩, h7, h⟩ := Option.bind_eq_some_iff.mp h
    exact lost_ok k A0 c0 l0 a1 w hr0 hc0 hL h3 h4 h5 h6 h7 h
  · rw [if_neg ht] at h
    obtain ⟨rfl, rfl⟩ := Prod.mk.inj (Option.some.inj h)
    exact lost_bad A0 c0 l0 a1 w hr0 hc0 t ht h3
end Go.Proofs.YthmeocigliephaaGreatDoor.Big
end
section
namespace Go.Proofs.YthmeocigliephaaGreatDoor.Big
open Go.Proofs.YthmeocigliephaaGreatDoor.PSv Go.Proofs.YthmeocigliephaaGreatDoor.PSu Go.Proofs.YthmeocigliephaaGreatDoor.Plain Ieee
theorem qN_err (n : Nat) : bl ((n : Int) - ((qN n * 2 ^ (bl n - 53) : Nat) : Int)).natAbs ≤ bl n - 53 := by
  obtain ⟨k, hk⟩ : ∃ k, bl n - 53 = k := ⟨_, rfl⟩
  unfold qN
  rw [hk]
  by_cases h0 : k = 0
  · subst h0
    rw [q_exact (by rw [Nat.pow_zero]; exact Nat.mod_one n), Int.sub_self]
    decide
  · have h1 := nearest n k (by omega) ((n / 2 ^ k : Nat) : Int)
    have h2 := Nat.div_add_mod n (2 ^ k)
    have h3 := Nat.mod_lt n (show 2 ^ k > 0 from Nat.pow_pos (by omega))
    rw [Int.natCast_mul]
    refine bl_le.2 (Nat.lt_of_le_of_lt h1 ?_)
    rw [← Int.natCast_mul]
    rw [Nat.mul_comm] at h2
    omega
theorem rnd_cases {z : Int} (hz : z ≠ 0) : (infB? (rndZ z 2) = true ∧ rndZ z 2 < 18446744073709551616) ∨ (infB? (rndZ z 2) = false ∧ Fin64 (rndZ z 2) ∧ bl (z - flz (rndZ z 2)).natAbs ≤ bl z.natAbs - 53) := by
  have hn : z.natAbs ≠ 0 := by omega
  have hle := magV_le z.natAbs (-1074) false true hn
  rw [rnd_eq hz]
  by_cases hlt : magV z.natAbs (-1074) false true < infB
  · right
    have hv := (magV_val z.natAbs hn).1 hlt
    obtain ⟨f1, f2⟩ := flz_sign hlt (decide (z < 0))
    have f3 : infB? (signV (decide (z < 0)) (magV z.natAbs (-1074) false true)) = false := by
      rw [inf_law f1.1, beq_eq_false_iff_ne]
      have := f1.2
      omega
    refine ⟨f3, f1, ?_⟩
    rw [f2, hv]
    have he := qN_err z.natAbs
    by_cases hneg : z < 0
    · rw [if_pos (decide_eq_true hneg)]
      rw [show (z - -((qN z.natAbs * 2 ^ (bl z.natAbs - 53) : Nat) : Int)).natAbs = ((z.natAbs : Int) - ((qN z.natAbs * 2 ^ (bl z.natAbs - 53) : Nat) : Int)).natAbs by omega]
      exact he
    · rw [if_neg (by simpa using hneg)]
      rw [show (z - ((qN z.natAbs * 2 ^ (bl z.natAbs - 53) : Nat) : Int)).natAbs = ((z.natAbs : Int) - ((qN z.natAbs * 2 ^ (bl z.natAbs - 53) : Nat) : Int)).natAbs by omega]
      exact he
  · left
    have he : magV z.natAbs (-1074) false true = infB := by omega
    rw [he]
    cases decide (z < 0)
    · exact ⟨by decide +kernel, by decide +kernel⟩
    · exact ⟨by decide +kernel, by decide +kernel⟩
theorem apartL_some : ∀ (k : Nat) (pre : List Nat) (z : Int), bl z.natAbs < k → bl z.natAbs ≤ 2200 → pre.length + bl z.natAbs < 50000 → ∃ L q, apartL k pre z = some (L, q)
  | 0, _, _, h, _, _ => absurd h (by omega)
  | k + 1, pre, z, h, h1, h2 => by
    rw [apartL]
    by_cases hz : z = 0
    · rw [if_pos hz]; exact ⟨_, _, rfl⟩
    · rw [if_neg hz, if_pos ⟨h1, by omega⟩]
      have hpos : bl z.natAbs ≠ 0 := fun h0 => by
        have := bl_le.1 (Nat.le_of_eq h0)
        omega
      rcases rnd_cases hz with ⟨hi, _⟩ | ⟨hi, hf, he⟩
      · rw [if_pos hi]; exact ⟨_, _, rfl⟩
      · rw [if_neg (by rw [hi]; decide), if_pos hf]
        exact apartL_some k _ _ (by omega) (by omega) (by rw [List.length_append, List.length_singleton]; omega)
theorem rsgn_can (z e : Int) : ∃ s : Int, cuspref02_Sgn.f (canN z e).1 (canN z e).2.1 (canN z e).2.2 = some s ∧ (s = 0 ↔ z = 0) := by
  unfold cuspref02_Sgn.f
  by_cases h : z = 0
  · rw [if_pos (by have := (can_length (e := e)).2 h; omega)]
    exact ⟨0, rfl, fun _ => h, fun _ => rfl⟩
  · rw [if_neg (fun h' => h ((can_length (e := e)).1 (by omega)))]
    split
    · exact ⟨_, rfl, fun h' => by omega, fun h' => absurd h' h⟩
    · exact ⟨_, rfl, fun h' => by omega, fun h' => absurd h' h⟩
theorem rapart_go : ∀ (k : Nat) (pre : List Nat) (z : Int) (L : List Nat) (q : Int), apartL k pre z = some (L, q) → Ev (fun n => PSe.cuspref05_Apart.l0 n pre (canN z (-1074)).1 (canN z (-1074)).2.1 (canN z (-1074)).2.2) (L, q)
  | 0, _, _, _, _, h => by cases h
  | k + 1, pre, z, L, q, h => by
    obtain ⟨s, hs, hs0⟩ := rsgn_can z (-1074)
    rw [apartL] at h
    by_cases hz : z = 0
    · rw [if_pos hz] at h
      cases h
      refine Ev.step (f := fun _ => some (pre, 0)) (fun n => ?_) (Ev.now _)
      rw [PSe.cuspref05_Apart.l0, hs, Option.bind_some, if_pos (hs0.2 hz)]
    · rw [if_neg hz] at h
      by_cases hg : bl z.natAbs ≤ 2200 ∧ pre.length < 100000
      · rw [if_pos hg] at h
        have hto := to_can (z := z) (mode := 2) (by omega) (by omega)
        rcases rnd_cases hz with ⟨hi, hlt⟩ | ⟨hi, hf, he⟩
        · rw [if_pos hi] at h
          cases h
          have hnf : decide (Fin64 (rndZ z 2)) = false := decide_eq_false (fun hf => by
            have h1 := inf_law hlt
            rw [hi] at h1
            have h2 := beq_iff_eq.1 h1.symm
            have := hf.2
            omega)
          refine Ev.step (f := fun _ => some (([] : List Nat), 5)) (fun n => ?_) (Ev.now _)
          rw [PSe.cuspref05_Apart.l0, hs, Option.bind_some, if_neg (fun h => hz (hs0.1 h)), hto, Option.bind_some, rfinite_law hlt, Option.bind_some, hnf, if_neg (by decide)]
        · rw [if_neg (by rw [hi]; decide), if_pos hf] at h
          have ih := rapart_go k _ _ L q h
          refine Ev.step (f := fun n => (cuspref02_Float.f n (rndZ z 2)).bind fun b => (cuspref02_Less.f (canN z (-1074)).1 (canN z (-1074)).2.1 (canN z (-1074)).2.2 b.1 b.2.1 b.2.2).bind fun d => PSe.cuspref05_Apart.l0 n (pre ++ [rndZ z 2]) d.1 d.2.1 d.2.2) (fun n => ?_) ?_
          · rw [PSe.cuspref05_Apart.l0, hs, Option.bind_some, if_neg (fun h => hz (hs0.1 h)), hto, Option.bind_some, rfinite_law hf.1, Option.bind_some, decide_eq_true hf, if_pos rfl, if_pos (by omega)]
          · have hfb : bl (flz (rndZ z 2)).natAbs ≤ 2098 := bl_le.2 (flz_lt hf)
            refine Ev.bind (rfloat_law hf) (Ev.congr (fun n => ?_) ih)
            rw [rless_can (by omega) (by omega), Option.bind_some]
      · rw [if_neg hg] at h; cases h
def apartT (l : List Nat) : List Nat × Int := if faultL l = 0 then (apartL 3000 [] (sumZ l)).getD ([], 0) else ([], faultL l)
theorem apart_sum {l : List Nat} (hf : ∀ b ∈ l, Fin64 b) (hl : l.length ≤ 65536) : ∃ L q, apartL 3000 [] (sumZ l) = some (L, q) := by
  have := sumZ_bl l hf hl
  exact apartL_some 3000 [] (sumZ l) (by omega) (by omega) (by rw [List.length_nil]; omega)
theorem apartL_len : ∀ (k : Nat) (pre : List Nat) (z : Int) (L : List Nat) (q : Int), apartL k pre z = some (L, q) → pre.length ≤ 100000 → L.length ≤ 100000
  | 0, _, _, _, _, h, _ => by cases h
  | k + 1, pre, z, L, q, h, hp => by
    rw [apartL] at h
    split at h
    · cases h; exact hp
    · split at h
      · rename_i hg
        split at h
        · cases h; simp
        · split at h
          · exact apartL_len k _ _ _ _ h (by rw [List.length_append, List.length_singleton]; omega)
          · cases h
      · cases h
theorem apartT_len {l L : List Nat} {q : Int} (h : apartT l = (L, q)) : L.length < 100000000 := by
  unfold apartT at h
  split at h
  · cases ha : apartL 3000 [] (sumZ l) with
    | none => rw [ha] at h; cases h; simp
    | some p =>
      rw [ha] at h
      obtain ⟨L', q'⟩ := p
      cases h
      have := apartL_len _ _ _ _ _ ha (by simp)
      omega
  · cases h; simp
theorem rapart_law (l : List Nat) (hw : ∀ b ∈ l, b < 18446744073709551616) : Ev (fun n => PSe.cuspref05_Apart.f n l) (apartT l) := by
  unfold PSe.cuspref05_Apart.f apartT
  by_cases hf : faultL l = 0
  · obtain ⟨h1, h2⟩ := fault_zero hw hf
    obtain ⟨L, q, hL⟩ := apart_sum h2 h1
    rw [if_pos hf, hL]
    refine Ev.bind (rfault_law l hw) ?_
    rw [hf]
    exact Ev.congr (fun n => if_pos rfl) (Ev.bind (rtotal_law l h2 h1) (rapart_go 3000 [] _ L q hL))
  · rw [if_neg hf]
    refine Ev.bind (rfault_law l hw) ?_
    exact Ev.congr (fun n => if_neg hf) (Ev.now _)
def lostZ (l : List Nat) (s : Nat) : Nat × Int := if faultT l [s] = 0 then (rndE (((sumZ l - flz s).natAbs : Nat) : Int) (-1074) 3, 0) else (0, faultT l [s])
theorem canN_abs (z e : Int) : canN ((z.natAbs : Nat) : Int) e = (false, (canN z e).2.1, (canN z e).2.2) := by
  by_cases h : z = 0
  · subst h; rw [show ((Int.natAbs 0 : Nat) : Int) = 0 from rfl, canN_zero]
  · rw [canN_ne h, canN_ne (show ((z.natAbs : Nat) : Int) ≠ 0 by omega), Int.natAbs_natCast, decide_eq_false (show ¬ ((z.natAbs : Nat) : Int) < 0 by omega)]
theorem dabs_law {z : Int} (h : bl z.natAbs ≤ 60000) : PSx.dyad_Abs.f (canN z (-1074)).1 (canN z (-1074)).2.1 (canN z (-1074)).2.2 = some (canN ((z.natAbs : Nat) : Int) (-1074)) := by
  have hv := isN_can (z := z) (e := -1074) (by omega) (by omega) (by omega)
  have hf := hv.facts
  unfold PSx.dyad_Abs.f
  rw [show PSu.dyad_Valid.f _ _ _ = some true from hv.1, Option.bind_some, if_pos rfl, canN_abs]
  by_cases h0 : z = 0
  · rw [if_pos (by have := can_length (e := -1074).2 h0; omega), h0, canN_zero]
  · rw [if_neg (fun h' => h0 ((can_length (e := -1074)).1 (by omega))), Option.bind_some, if_pos (by simp; omega)]
    rfl
theorem lostl_bl {l : List Nat} {s : Nat} (hf : ∀ b ∈ l, Fin64 b) (hl : l.length ≤ 65536) (hs : Fin64 s) : bl (sumZ l - flz s).natAbs ≤ 2200 := by
  have h1 := sumZ_bl l hf hl
  have h2 : bl (flz s).natAbs ≤ 2098 := bl_le.2 (flz_lt hs)
  have h3 := Int.natAbs_sub_le (sumZ l) (flz s)
  have h4 := bl_add (k := 2115) h1 (by omega : bl (flz s).natAbs ≤ 2115)
  have := bl_le.2 (Nat.lt_of_le_of_lt h3 (bl_le.1 h4))
  omega
theorem faultT_zero {l : List Nat} {s : Nat} (hw : ∀ b ∈ l, b < 18446744073709551616) (hs : s < 18446744073709551616) (h : faultT l [s] = 0) : (l.length ≤ 65536 ∧ ∀ b ∈ l, Fin64 b) ∧ Fin64 s := by
  have hL : ¬ (65536 < l.length ∨ 65536 < [s].length) := by
    intro h1
    unfold faultT at h
    rw [if_pos h1] at h; omega
  have hN : ¬ (l.any nanB = true ∨ [s].any nanB = true) := by
    intro h1
    unfold faultT at h
    rw [if_neg hL, if_pos h1] at h; omega
  have hI : ¬ (l.any infB? = true ∨ [s].any infB? = true) := by
    intro h1
    unfold faultT at h
    rw [if_neg hL, if_neg hN, if_pos h1] at h; omega
  refine ⟨fault_zero hw (by unfold faultL; rw [if_neg (fun h => hL (.inl h)), if_neg (fun h => hN (.inl h)), if_neg (fun h => hI (.inl h))]), ?_⟩
  exact (fault_zero (l := [s]) (fun b hb => by rw [List.mem_singleton] at hb; rw [hb]; exact hs) (by unfold faultL; rw [if_neg (fun h => hL (.inr h)), if_neg (fun h => hN (.inr h)), if_neg (fun h => hI (.inr h))])).2 s List.mem_cons_self
theorem lost_law (l : List Nat) (s : Nat) (hw : ∀ b ∈ l, b < 18446744073709551616) (hs : s < 18446744073709551616) (hn : l.length < 4611686018427387904) : Ev (fun k => lostF k l s) (lostZ l s) := by
  have hfl : sums_fault.f l [s] = some (faultT l [s]) := by unfold sums_fault.f; rw [if_pos ⟨hn, by simp⟩]
  unfold lostF lostZ
  rw [hfl]
  refine Ev.bind (Ev.now _) ?_
  by_cases hf : faultT l [s] = 0
  · obtain ⟨⟨h1, h2⟩, h3⟩ := faultT_zero hw hs hf
    have hb := lostl_bl h2 h1 h3
    have b1 := sumZ_bl l h2 h1
    have b2 : bl (flz s).natAbs ≤ 2098 := bl_le.2 (flz_lt h3)
    rw [if_pos hf]
    refine Ev.congr (fun k => if_pos hf) (Ev.bind (Ev.of (fun k => sums_total.mono l k) (total_law l h2 h1)) ?_)
    rw [num_law h3]
    refine Ev.bind (Ev.now _) (Ev.bind (a := ((canN (sumZ l - flz s) (-1074)).1, (canN (sumZ l - flz s) (-1074)).2.1, (canN (sumZ l - flz s) (-1074)).2.2, 0)) ⟨3, fun k hk => ?_⟩ ?_)
    · obtain ⟨j, rfl⟩ : ∃ j, k = j + 3 := ⟨k - 3, by omega⟩
      exact dsub_law j (by omega) (by omega)
    · simp only
      rw [dabs_law (by omega)]
      refine Ev.congr (f := fun _ => some (rndE (((sumZ l - flz s).natAbs : Nat) : Int) (-1074) 3, 0)) (fun k => ?_) (Ev.now _)
      rw [Option.bind_some]
      exact round_e (by rw [Int.natAbs_natCast]; omega) (by omega) (by omega)
  · rw [if_neg hf]
    exact Ev.congr (fun k => if_neg hf) (Ev.now _)
theorem rlost_law (l : List Nat) (s : Nat) (hw : ∀ b ∈ l, b < 18446744073709551616) (hs : s < 18446744073709551616) : Ev (fun k => PSd.cuspref05_Lost.f k l s) (lostZ l s) := by
  have hw1 : ∀ b ∈ [s], b < 18446744073709551616 := fun b hb => by rw [List.mem_singleton] at hb; rw [hb]; exact hs
  unfold PSd.cuspref05_Lost.f lostZ
  refine Ev.bind (rfault_law l hw) ?_
  by_cases hL : 65536 < l.length
  · have f1 : faultL l = 2 := by unfold faultL; rw [if_pos hL]
    have f2 : faultT l [s] = 2 := by unfold faultT; rw [if_pos (.inl hL)]
    rw [f1, f2, if_neg (by omega)]
    exact Ev.congr (fun k => if_pos rfl) (Ev.now _)
  · have n2 : faultL l ≠ 2 := by unfold faultL; rw [if_neg hL]; split <;> (try split) <;> omega
    have hM : ¬ 65536 < [s].length := by simp
    refine Ev.congr (fun k => if_neg n2) (Ev.bind (rfault_law [s] hw1) ?_)
    have v1 : faultL l = if l.any nanB = true then 4 else if l.any infB? = true then 5 else 0 := by unfold faultL; rw [if_neg hL]
    have v2 : faultL [s] = if [s].any nanB = true then 4 else if [s].any infB? = true then 5 else 0 := by unfold faultL; rw [if_neg hM]
    have v3 : faultT l [s] = if l.any nanB = true ∨ [s].any nanB = true then 4 else if l.any infB? = true ∨ [s].any infB? = true then 5 else 0 := by unfold faultT; rw [if_neg (fun h => h.elim hL hM)]
    by_cases N1 : l.any nanB = true
    · rw [show faultT l [s] = 4 by rw [v3, if_pos (.inl N1)], show faultL l = 4 by rw [v1, if_pos N1], if_neg (show ¬ ((4 : Int) = 0) by omega)]
      refine Ev.congr (fun k => if_pos rfl) (Ev.step (f := fun _ => some ((0 : Nat), 4)) (fun k => ?_) (Ev.now _))
      rw [PSd.cuspref05_Lost.j0, if_pos rfl]
    · rw [v1, if_neg N1]
      have t4 : ¬ ((if l.any infB? = true then (5 : Int) else 0) = 4) := by split <;> omega
      refine Ev.congr (fun k => if_neg t4) ?_
      by_cases N2 : [s].any nanB = true
      · rw [show faultT l [s] = 4 by rw [v3, if_pos (.inr N2)], show faultL [s] = 4 by rw [v2, if_pos N2], if_neg (show ¬ ((4 : Int) = 0) by omega)]
        refine Ev.step (f := fun _ => some ((0 : Nat), 4)) (fun k => ?_) (Ev.now _)
        rw [PSd.cuspref05_Lost.j0, if_pos (by decide)]
      · rw [v2, if_neg N2]
        have v4 : faultT l [s] = if l.any infB? = true ∨ [s].any infB? = true then 5 else 0 := by rw [v3, if_neg (fun h => h.elim N1 N2)]
        by_cases I1 : l.any infB? = true
        · rw [show faultT l [s] = 5 by rw [v4, if_pos (.inl I1)], if_pos I1, if_neg (show ¬ ((5 : Int) = 0) by omega)]
          refine Ev.step (f := fun _ => some ((0 : Nat), 5)) (fun k => ?_) (Ev.now _)
          rw [PSd.cuspref05_Lost.j0, if_neg (by split <;> decide), if_neg (by omega)]
        · rw [if_neg I1]
          by_cases I2 : [s].any infB? = true
          · rw [show faultT l [s] = 5 by rw [v4, if_pos (.inr I2)], if_pos I2, if_neg (show ¬ ((5 : Int) = 0) by omega)]
            refine Ev.step (f := fun _ => some ((0 : Nat), 5)) (fun k => ?_) (Ev.now _)
            rw [PSd.cuspref05_Lost.j0, if_neg (by decide), if_pos rfl, if_neg (by omega)]
          · have hz : faultT l [s] = 0 := by rw [v4, if_neg (fun h => h.elim I1 I2)]
            obtain ⟨⟨h1, h2⟩, h3⟩ := faultT_zero hw hs hz
            have hb := lostl_bl h2 h1 h3
            have b1 := sumZ_bl l h2 h1
            have b2 : bl (flz s).natAbs ≤ 2098 := bl_le.2 (flz_lt h3)
            rw [hz, if_neg I2, if_pos rfl]
            refine Ev.step (f := fun k => (cuspref05_Total.f k l).bind fun x => (cuspref02_Float.f k s).bind fun y => (cuspref02_Less.f x.1 x.2.1 x.2.2 y.1 y.2.1 y.2.2).bind fun d => (cuspref03_R.f false d.2.1 d.2.2 3 (0 : Nat)).bind fun t => some (t, 0)) (fun k => ?_) ?_
            · rw [PSd.cuspref05_Lost.j0, if_neg (by decide), if_pos rfl, if_pos rfl]
            · refine Ev.bind (rtotal_law l h2 h1) (Ev.bind (rfloat_law h3) (Ev.congr (f := fun _ => some (rndE (((sumZ l - flz s).natAbs : Nat) : Int) (-1074) 3, 0)) (fun k => ?_) (Ev.now _)))
              rw [rless_can (by omega) (by omega), Option.bind_some]
              have hr := rR_e (z := (((sumZ l - flz s).natAbs : Nat) : Int)) (e := -1074) (mode := 3) (by rw [Int.natAbs_natCast]; omega) (by omega) (by omega)
              rw [canN_abs] at hr
              simp only at hr ⊢
              rw [hr, Option.bind_some]
end Go.Proofs.YthmeocigliephaaGreatDoor.Big
end
section
namespace Go.Proofs.YthmeocigliephaaGreatDoor.Big
open Go.Proofs.YthmeocigliephaaGreatDoor.PSu Go.Proofs.YthmeocigliephaaGreatDoor.Plain Ieee
def halvesT : Nat → List Nat → Nat
  | 0, _ => 0
  | n + 1, l => if l.length = 0 then 0 else if l.length = 1 then rdOf (0 : Nat) l 0 else sumT (halvesT n (l.take (l.length / 2))) (halvesT n (l.drop (l.length / 2)))
theorem halvesT_lt : ∀ (n : Nat) (l : List Nat), (∀ b ∈ l, b < 18446744073709551616) → halvesT n l < 18446744073709551616
  | 0, _, _ => by unfold halvesT; omega
  | n + 1, l, h => by
    unfold halvesT
    split
    · omega
    · split
      · exact rd_lt h 0
      · exact sumT_lt (halvesT_lt n _ fun b hb => h b (List.mem_of_mem_take hb)) (halvesT_lt n _ fun b hb => h b (List.mem_of_mem_drop hb))
def halves_T : Bool × List (List Nat × List Nat) := (true, [([], []), ([], []), ([1], [1]), ([0, 2], [0, 2]), ([3], [3]), ([], []), ([], []), ([6], [6]), ([5, 7], [5, 7]), ([8, 4], [8]), ([4, 9, 9], [4, 9]), ([10, 10, 0, 1, 2, 3, 4, 5, 6, 7, 8, 9, 10], [10])])
def halves_B : List Nat := [0, 0, 2, 7, 15, 0, 0, 64, 224, 511, 1023, 2047]
theorem halves_tab : rtab .any (opsOf Tryz.f14 3) = halves_T := by kernel_rfl
theorem halves_bits : waitsOk halves_T.2 halves_B = true := by kernel_rfl
theorem halves_rel (n : Nat) : ∀ (A0 : Option Addr) (c0 : Nat) (l0 : List Nat) (w : World), l0.length ≤ n ∧ l0.length < 4611686018427387904 → Kd.C Kd.float w A0 l0.length l0 → l0.length ≤ c0 → (∀ b ∈ l0, b < 18446744073709551616) → Laid w →
    Calls Tryz.prog 14 #[.slice A0 l0.length c0] w (RetRel (halvesT n l0) w) := by
  induction n with
  | zero =>
    intro A0 c0 l0 w hn hr hc hw hL
    have HB := asd (Below.refl w.heap.size w)
    obtain rfl : l0 = [] := List.length_eq_zero_iff.1 (by omega)
    clear hn hr hc hw hL
    go_enter Tryz.func14, Tryz.ntmps14
    go_wp2
    go_ret
    exact ⟨0, .inl rfl, by omega, rfl, HB.out⟩
  | succ n ih =>
  intro A0 c0 l0 w hn hr hc hw hL
  have IH := asd ih
  have HL := asd hL
  have HB := asd (Below.refl w.heap.size w)
  clear ih
  obtain ⟨T, hT⟩ : ∃ T, halvesT (n + 1) l0 = T := ⟨_, rfl⟩
  rw [hT]
  unfold halvesT at hT
  by_cases c2 : (l0.length : Int) = 0
  · have c2b0 : ((l0.length : Int) == 0) = true := beq_iff_eq.mpr c2
    rw [if_pos (by omega)] at hT
    subst hT
    clear c2 hn hr hc hw hL
    go_enter Tryz.func14, Tryz.ntmps14
    go_wp2
    go_ret
    exact ⟨0, .inl rfl, by omega, rfl, HB.out⟩
  have c2b0 : ((l0.length : Int) == 0) = false := beq_eq_false_iff_ne.mpr c2
  have c2b1 : ((l0.length : Int) != 0) = true := bne_iff_ne.mpr c2
  have c2b2 : ¬ (l0 = []) := fun h_ => c2 (by rw [h_]; rfl)
  rw [if_neg (by omega)] at hT
  by_cases c3 : (l0.length : Int) = 1
  · have c3b0 : ((l0.length : Int) == 1) = true := beq_iff_eq.mpr c3
    have c3b1 : ((l0.length : Int) != 1) = false := bne_eq_false_iff_eq.mpr c3
    rw [if_pos (by omega)] at hT
    have HX := asd (rd_lt hw 0)
    have p172 : 0 ≤ (0 : Int) := (by omega)
    have q172 : 0 < (l0.length : Int) := by omega
    obtain ⟨ad172, e172, hx172_0⟩ := Kd.at_float hr 0 p172 q172
    cases e172
    rw [hT] at hx172_0 HX
    have qi172 : (0 < l0.length) = True := eq_true (by omega)
    rw [show ((0 : Int)).toNat = 0 from rfl, Addr.add_zero'] at hx172_0
    replace p172 := eq_true p172
    replace q172 := eq_true q172
    clear c3 hT hn hr hc hw hL c2
    go_enter Tryz.func14, Tryz.ntmps14
    go_wp2
    go_ret
    exact ⟨T, .inl rfl, HX.out, rfl, HB.out⟩
  · have c3b0 : ((l0.length : Int) == 1) = false := beq_eq_false_iff_ne.mpr c3
    have c3b1 : ((l0.length : Int) != 1) = true := bne_iff_ne.mpr c3
    rw [if_neg (by omega)] at hT
    obtain ⟨ji5, hji5⟩ : ∃ j_ : Int, (wrap64 ((l0.length : Int) / 2)) = j_ := ⟨_, rfl⟩
    have hji5w : (IntKind.i64.wrap ((l0.length : Int) / 2)) = ji5 := (i64_w _).trans hji5
    have hj : ji5 = (l0.length : Int) / 2 := by rw [← hji5]; exact w64_of (by omega) (by omega)
    have hj2 : (ji5 : Int).toNat = l0.length / 2 := by omega
    rw [← hj2] at hT
    have c6b1 : decide (0 ≤ (ji5)) = true := decide_eq_true (by omega)
    have c7b1 : decide ((ji5) ≤ (l0.length : Int)) = true := decide_eq_true (by omega)
    have J1 := asd (show (l0.take ((ji5) : Int).toNat).length ≤ n ∧ (l0.take ((ji5) : Int).toNat).length < 4611686018427387904 by rw [List.length_take]; omega)
    have J2 := asd (show ∀ b ∈ l0.take ((ji5) : Int).toNat, b < 18446744073709551616 from fun b hb => hw b (List.mem_of_mem_take hb))
    have J3 := asd (show (l0.drop ((ji5) : Int).toNat).length ≤ n ∧ (l0.drop ((ji5) : Int).toNat).length < 4611686018427387904 by rw [List.length_drop]; omega)
    have J4 := asd (show ∀ b ∈ l0.drop ((ji5) : Int).toNat, b < 18446744073709551616 from fun b hb => hw b (List.mem_of_mem_drop hb))
    have HT := asd hT
    have HR0 := asd hr
    have HC0 := asd hc
    have HJ0 := asd (show 0 ≤ ji5 ∧ ji5 ≤ (l0.length : Int) by omega)
    have c6b0 := eq_true HJ0.out.1
    have c7b0 := eq_true HJ0.out.2
    clear hj hj2 hT hn hr hc hw hL
    go_enter Tryz.func14, Tryz.ntmps14
    try go_wp2
    have n0_ := asd (below_drew1 HB.out)
    clear HB
    have HB := n0_
    clear n0_
    obtain ⟨i014, hi014, _, hsz14, _⟩ := info_parts info25
    obtain ⟨hcut14, hA14, hC14⟩ := print_take_of (P := Tryz.prog) (Value.float .f64) (0 : Nat) 22 25 .i64 Tryz.underlying22 hi014 hsz14 A0 c0 l0 (ji5) (odt) (odt) HC0.out
    have HR173 := asd (Kd.C_of_reads (h1 := fun _ => rfl) (hA14 _ (Kd.reads_of_C HR0.out)))
    have HC173 := asd hC14
    clear hA14 hC14 hi014 hsz14
    obtain ⟨i015, hi015, _, hsz15, _⟩ := info_parts info25
    obtain ⟨A15, hcut15, hA15, hC15⟩ := print_drop_of (P := Tryz.prog) (Value.float .f64) (0 : Nat) 22 25 .i64 Tryz.underlying22 hi015 hsz15 A0 c0 l0 (ji5) (odt) (odt) HC0.out
    have HR175 := asd (Kd.C_of_reads (h1 := fun _ => rfl) (hA15 _ (Kd.reads_of_C HR0.out)))
    have HC175 := asd hC15
    clear hA15 hC15 hi015 hsz15
    refine start_ (n := 12) (S := fun w' => True) (ds := []) #[false, false, false, false, false, false, false, false, false, false, false, false] (by kernel_rfl) rfl rfl trivial (fun hHeld => ?_); refine with_tabW halves_tab halves_bits (fun HT_ HW_ => ?_)
    generalize w.drew = w13 at HB HR173 HR175 hHeld ⊢
    refine pure_ (i := 0) (N := some 7) (v := ?_) (a' := ?_) #[true, false, false, false, false, false, false, false, false, false, false, false] rfl rfl (any_of HT_.out (by kernel_rfl)) (fun _ _ _ h => h) (Or.inl ⟨by rfl, ?_⟩) ?_ ?_
    rotate_left
    · intro w'
      go_simp
      with_reducible rfl
    rotate_left
    · simp only [Act.put, List.setIfInBounds_toArray, List.set_cons_zero, List.set_cons_succ, i64_w, i32_w]
      rfl
    refine pure_ (i := 1) (N := some 8) (v := ?_) (a' := ?_) #[true, true, false, false, false, false, false, false, false, false, false, false] rfl rfl (any_of HT_.out (by kernel_rfl)) (fun _ _ _ h => h) (Or.inl ⟨by rfl, ?_⟩) ?_ ?_
    rotate_left
    · intro w'
      go_simp
      with_reducible rfl
    rotate_left
    · simp only [Act.put, List.setIfInBounds_toArray, List.set_cons_zero, List.set_cons_succ, i64_w, i32_w]
      rfl
    refine pure_ (i := 2) (N := some 9) (v := ?_) (a' := ?_) #[true, true, true, false, false, false, false, false, false, false, false, false] rfl rfl (any_of HT_.out (by kernel_rfl)) (fun _ _ _ h => h) (Or.inl ⟨by rfl, ?_⟩) ?_ ?_
    rotate_left
    · intro w'
      go_simp
      with_reducible rfl
    rotate_left
    · simp only [Act.put, List.setIfInBounds_toArray, List.set_cons_zero, List.set_cons_succ, i64_w, i32_w]
      rfl
    refine pure_ (i := 3) (N := some 10) (v := ?_) (a' := ?_) #[true, true, true, true, false, false, false, false, false, false, false, false] rfl rfl (any_of HT_.out (by kernel_rfl)) (fun _ _ _ h => h) (Or.inl ⟨by rfl, ?_⟩) ?_ ?_
    rotate_left
    · intro w'
      go_simp
      with_reducible rfl
    rotate_left
    · simp only [Act.put, List.setIfInBounds_toArray, List.set_cons_zero, List.set_cons_succ, i64_w, i32_w]
      rfl
    refine pure_ (i := 5) (N := some 12) (v := ?_) (a' := ?_) #[true, true, true, true, false, true, false, false, false, false, false, false] rfl rfl (any_of HT_.out (by kernel_rfl)) (fun _ _ _ h => h) (Or.inl ⟨by rfl, ?_⟩) ?_ ?_
    rotate_left
    · intro w'
      go_simp
      with_reducible rfl
    rotate_left
    · simp only [Act.put, List.setIfInBounds_toArray, List.set_cons_zero, List.set_cons_succ, i64_w, i32_w]
      rfl
    refine pure_ (i := 6) (N := some 13) (v := ?_) (a' := ?_) #[true, true, true, true, false, true, true, false, false, false, false, false] rfl rfl (any_of HT_.out (by kernel_rfl)) (fun _ _ _ h => h) (Or.inl ⟨by rfl, ?_⟩) ?_ ?_
    rotate_left
    · intro w'
      go_simp
      with_reducible rfl
    rotate_left
    · simp only [Act.put, List.setIfInBounds_toArray, List.set_cons_zero, List.set_cons_succ, i64_w, i32_w]
      rfl
    refine pure_ (i := 7) (N := some 14) (v := ?_) (a' := ?_) #[true, true, true, true, false, true, true, true, false, false, false, false] rfl rfl (any_of HT_.out (by kernel_rfl)) (fun _ _ _ h => h) (Or.inl ⟨by rfl, ?_⟩) ?_ ?_
    rotate_left
    · intro w'
      go_simp
      with_reducible rfl
    rotate_left
    · simp only [Act.put, List.setIfInBounds_toArray, List.set_cons_zero, List.set_cons_succ, i64_w, i32_w]
      rfl
    refine pure_ (i := 8) (N := some 15) (v := ?_) (a' := ?_) #[true, true, true, true, false, true, true, true, true, false, false, false] rfl rfl (any_of HT_.out (by kernel_rfl)) (fun _ _ _ h => h) (Or.inl ⟨by rfl, ?_⟩) ?_ ?_
    rotate_left
    · intro w'
      go_simp
      with_reducible rfl
    rotate_left
    · simp only [Act.put, List.setIfInBounds_toArray, List.set_cons_zero, List.set_cons_succ, i64_w, i32_w]
      rfl
    refine one_ (i := 4) (N := some 11) #[true, true, true, true, true, true, true, true, true, false, false, false] rfl rfl (one_of HT_.out (by kernel_rfl)) (by decide) (fun K hK => ?_)
    refine goes_ Tryz.func14 (by kernel_rfl) rfl #[.slice A0 (l0.take ((ji5) : Int).toNat).length c0] (by rfl) rfl rfl (by (try simp only [List.map_toArray, List.map_cons, List.map_nil]); first | done | (rw [show (l0.take ((ji5) : Int).toNat).length = (ji5).toNat from (by rw [List.length_take]; have h_ : ((ji5) : Int) ≤ (l0.length : Int) := odt; omega)] <;> rfl) | (simp only [hji5]; rfl) | rfl | (simp only [List.length_drop, List.length_take]; rfl)) ?_
    refine (IH.out A0 c0 (l0.take ((ji5) : Int).toNat) _ J1.out (Kd.C_below HR173.out HB.out) HC173.out J2.out (HL.out.step HB.out)).mono ?_
    rintro e w16 ⟨t174, n1, n2, rfl, hb⟩
    have N1 := asd (And.intro n1 n2)
    clear n1 n2
    refine ⟨_, rfl, ?_⟩
    have n0_ := asd (below_step hbw hb)
    clear HB
    have HB := n0_
    clear n0_
    (try clear hb)
    (try clear hb2)
    (try clear hk)
    (try clear hi)
    refine hK.out _ _ trivial (fun hHeld => ?_)
    clear hK K
    refine norm_ (a' := ?_) ?_ ?_
    rotate_left
    · show Act.put _ (some 11) _ = _
      simp only [Act.put, List.setIfInBounds_toArray, List.set_cons_zero, List.set_cons_succ, i64_w, i32_w]
      rfl
    refine one_ (i := 9) (N := some 16) #[true, true, true, true, true, true, true, true, true, true, false, false] rfl rfl (one_of HT_.out (by kernel_rfl)) (by decide) (fun K hK => ?_)
    refine goes_ Tryz.func14 (by kernel_rfl) rfl #[.slice A15 (l0.drop ((ji5) : Int).toNat).length (c0 - (ji5).toNat)] (by rfl) rfl rfl (by (try simp only [List.map_toArray, List.map_cons, List.map_nil]); first | done | (rw [show (l0.drop ((ji5) : Int).toNat).length = (l0.length - (ji5).toNat) from List.length_drop] <;> rfl) | (simp only [hji5]; rfl) | rfl | (simp only [List.length_drop, List.length_take]; rfl)) ?_
    refine (IH.out A15 (c0 - (ji5).toNat) (l0.drop ((ji5) : Int).toNat) _ J3.out (Kd.C_below HR175.out HB.out) HC175.out J4.out (HL.out.step HB.out)).mono ?_
    rintro e w17 ⟨t176, n1, n2, rfl, hb⟩
    have N2 := asd (And.intro n1 n2)
    clear n1 n2
    refine ⟨_, rfl, ?_⟩
    have n0_ := asd (below_step hbw hb)
    clear HB
    have HB := n0_
    clear n0_
    (try clear hb)
    (try clear hb2)
    (try clear hk)
    (try clear hi)
    refine hK.out _ _ trivial (fun hHeld => ?_)
    clear hK K
    refine norm_ (a' := ?_) ?_ ?_
    rotate_left
    · show Act.put _ (some 16) _ = _
      simp only [Act.put, List.setIfInBounds_toArray, List.set_cons_zero, List.set_cons_succ, i64_w, i32_w]
      rfl
    refine one_ (i := 10) (N := some 17) #[true, true, true, true, true, true, true, true, true, true, true, false] rfl rfl (one_of HT_.out (by kernel_rfl)) (by decide) (fun K hK => ?_)
    refine goes_ Tryz.func39 (by kernel_rfl) rfl #[.float .f64 t174, .float .f64 t176] (by rfl) rfl rfl eqA ?_
    refine (near_rel t174 t176 _ N1.out.2 N2.out.2 (HL.out.step HB.out)).mono ?_
    rintro e w18 ⟨t177, n1, n2, rfl, hb⟩
    have N3 := asd (And.intro n1 n2)
    clear n1 n2
    refine ⟨_, rfl, ?_⟩
    have n0_ := asd (below_step hbw hb)
    clear HB
    have HB := n0_
    clear n0_
    (try clear hb)
    (try clear hb2)
    (try clear hk)
    (try clear hi)
    refine hK.out _ _ trivial (fun hHeld => ?_)
    clear hK K
    refine norm_ (a' := ?_) ?_ ?_
    rotate_left
    · show Act.put _ (some 17) _ = _
      simp only [Act.put, List.setIfInBounds_toArray, List.set_cons_zero, List.set_cons_succ, i64_w, i32_w]
      rfl
    refine pure_ (i := 11) (N := some 2) (v := ?_) (a' := ?_) #[true, true, true, true, true, true, true, true, true, true, true, true] rfl rfl (any_of HT_.out (by kernel_rfl)) (fun _ _ _ h => h) (Or.inl ⟨by rfl, ?_⟩) ?_ ?_
    rotate_left
    · intro w'
      go_simp
      with_reducible rfl
    rotate_left
    · simp only [Act.put, List.setIfInBounds_toArray, List.set_cons_zero, List.set_cons_succ, i64_w, i32_w]
      rfl
    refine done_ (done_of HT_.out (by kernel_rfl)) ?_
    try go_wp2
    go_ret
    refine ⟨t177, ?_, N3.out.2, rfl, HB.out⟩
    have := relN_sum N1.out.2 N2.out.2 (halvesT_lt n _ J2.out) (halvesT_lt n _ J4.out) N1.out.1 N2.out.1
    exact HT.out ▸ relN_trans N3.out.1 this
end Go.Proofs.YthmeocigliephaaGreatDoor.Big
end
section
namespace Go.Proofs.YthmeocigliephaaGreatDoor.Big
open Go.Proofs.YthmeocigliephaaGreatDoor.PSu Go.Proofs.YthmeocigliephaaGreatDoor.Plain
def sureM : List Nat := [4607182418800017408, 6103021453049119613, 4607182418800017408, 15326393489903895421]
theorem sureM_row : rowT sureM = 0 := by decide +kernel
theorem sureM_kept : keptT sureM 0 0 = 4611686018427387904 := by decide +kernel
theorem sureM_halves : halvesT 4 sureM = 0 := by decide +kernel
theorem sureM_sum : sumT 4846369599423283200 4607182418800017408 = 4846369599423283200 := by decide +kernel
theorem sureM_lost : lostT 4846369599423283200 4607182418800017408 = 4607182418800017408 := by decide +kernel
theorem sureM_exact : exactW sureM 2 (canN (sumZ sureM) (-1074)) = (4611686018427387904, 0) := by decide +kernel
theorem sureM_arg : exactW sureM 0 (canN (sumZ sureM) (-1074)) = (0, 1) := by decide +kernel
theorem sureM_fin : ∀ b ∈ sureM, b < 18446744073709551616 := by decide +kernel
theorem sureM_lit (w : World) : Kd.C Kd.float (w.alloc (.cells #[.float .f64 4607182418800017408, .float .f64 6103021453049119613, .float .f64 4607182418800017408, .float .f64 15326393489903895421] 25 (0, 0))) (some ⟨w.heap.size, 0, none⟩) sureM.length sureM := by
  refine Kd.C_of_reads (d := (0 : Nat)) ⟨rfl, by decide, fun _ => ⟨_, rfl, fun j hj => ?_⟩⟩
  have hb := blk_new w (.cells #[.float .f64 4607182418800017408, .float .f64 6103021453049119613, .float .f64 4607182418800017408, .float .f64 15326393489903895421] 25 (0, 0))
  have h4 : j < 4 := hj
  have hc := blk_cell hb
  have : j = 0 ∨ j = 1 ∨ j = 2 ∨ j = 3 := by omega
  rcases this with rfl | rfl | rfl | rfl
  · exact hc 0
  · exact hc 1
  · exact hc 2
  · exact hc 3
theorem sure_rel (w : World) (hL : Laid w) : Calls Tryz.prog 19 #[] w fun e w' => e = .returned (.bool true) ∧ Below w.heap.size w w' := by
  have HL := asd hL
  have B1 := asd ((Below.refl w.heap.size w).alloc (Nat.le_refl _) (.cells #[.float .f64 4607182418800017408, .float .f64 6103021453049119613, .float .f64 4607182418800017408, .float .f64 15326393489903895421] 25 (0, 0)))
  have C1 := asd (sureM_lit w)
  have E1 := asd sureM_exact
  have E2 := asd sureM_arg
  have V1 : (FloatKind.f64.format.order 0 0 == some .eq) = true := by decide +kernel
  have V2 : (FloatKind.f64.format.order 4611686018427387904 4611686018427387904 == some .eq) = true := by decide +kernel
  have V3 : (FloatKind.f64.format.order 4846369599423283200 4846369599423283200 == some .eq) = true := by decide +kernel
  have V4 : (FloatKind.f64.format.order 4607182418800017408 4607182418800017408 == some .eq) = true := by decide +kernel
  have N0 := asd (show nanB (rowT sureM) = false by rw [sureM_row]; decide +kernel)
  have N1 := asd (show nanB (keptT sureM 0 0) = false by rw [sureM_kept]; decide +kernel)
  have N2 := asd (show nanB (halvesT 4 sureM) = false by rw [sureM_halves]; decide +kernel)
  have N3 := asd (show nanB (sumT 4846369599423283200 4607182418800017408) = false by rw [sureM_sum]; decide +kernel)
  have tok1 : True := trivial
  clear hL
  go_enter Tryz.func19, Tryz.ntmps19
  go_wp2_with (first
    | (go_at_call 22; have _t := tok1; refine (exact_list (some ⟨w.heap.size, 0, none⟩) 4 sureM 2 _ C1.out (by decide) (by decide) sureM_fin (HL.out.step B1.out)).mono ?_; rw [E1.out]; rintro e w2 ⟨rfl, d⟩; have B2 := asd (below_post d B1.out); have C2 := asd (Kd.C_below C1.out d); clear d _t tok1)
    | (go_at_call 22; refine (exact_list (some ⟨w.heap.size, 0, none⟩) 4 sureM 0 _ C2.out (by decide) (by decide) sureM_fin (HL.out.step B2.out)).mono ?_; rw [E2.out]; rintro e w3 ⟨rfl, d⟩; have B3 := asd (below_post d B2.out); have C3 := asd (Kd.C_below C2.out d); clear d)
    | (go_at_call 20; refine (two_rel _ _ _ (by decide) (by decide) (HL.out.step B3.out)).mono ?_; rw [sureM_lost]; rintro e w4 ⟨r, h1, _, rfl, d⟩; obtain rfl := (relN_eq h1 N3.out).trans sureM_sum; have B4 := asd (below_post d B3.out); have C4 := asd (Kd.C_below C3.out d); clear d h1)
    | (go_at_call 12; refine (row_rel (some ⟨w.heap.size, 0, none⟩) 4 sureM _ C4.out (by decide) (by decide) sureM_fin (HL.out.step B4.out)).mono ?_; rintro e w5 ⟨r, h1, _, rfl, d⟩; obtain rfl := (relN_eq h1 N0.out).trans sureM_row; have B5 := asd (below_post d B4.out); have C5 := asd (Kd.C_below C4.out d); clear d h1)
    | (go_at_call 16; refine (kept_rel (some ⟨w.heap.size, 0, none⟩) 4 sureM _ C5.out (by decide) (by decide) sureM_fin (HL.out.step B5.out)).mono ?_; rintro e w6 ⟨r, h1, _, rfl, d⟩; obtain rfl := (relN_eq h1 N1.out).trans sureM_kept; have B6 := asd (below_post d B5.out); have C6 := asd (Kd.C_below C5.out d); clear d h1)
    | (go_at_call 14; refine (halves_rel 4 (some ⟨w.heap.size, 0, none⟩) 4 sureM _ ⟨by decide, by decide⟩ C6.out (by decide) sureM_fin (HL.out.step B6.out)).mono ?_; rintro e w7 ⟨r, h1, _, rfl, d⟩; obtain rfl := (relN_eq h1 N2.out).trans sureM_halves; have B7 := asd (below_post d B6.out); clear d h1))
  go_ret
  exact ⟨rfl, B7.out⟩
end Go.Proofs.YthmeocigliephaaGreatDoor.Big
end
section
namespace Go.Proofs.YthmeocigliephaaGreatDoor.PSv
open Go.Proofs.YthmeocigliephaaGreatDoor.PSu Go.RowKit Go.Proofs.YthmeocigliephaaGreatDoorW.PrintWords Go.Proofs.YthmeocigliephaaGreatDoorW.PrintLast Go.Proofs.YthmeocigliephaaGreatDoorW.PrintMore
attribute [local go_sem] f64bits_run f64from_run run_float_some max2_int min2_int max_two min_two max_three min_three max_four min_four
def cuspref02_magnitude.j0 : Nat → Bool → Bool → List Int → Int → Bool → List Int → Int → Option (Int)
 | 0, _, _, _, _, _, _, _ => none
 | k + 1, x6, x191000, x191001, x191002, x192000, x192001, x192002 => if x6 = true then (some (wrap64 ((x191001.length : Int) - (x192001.length : Int)))) else ((cuspref02_High.f k x191000 x191001 x191002).bind fun t192 => ((cuspref02_High.f k x192000 x192001 x192002).bind fun t193 => (if t192 = t193 then ((cuspref02_up.f k x191001 (wrap64 (x191002 - (mn x191002 x192002)))).bind fun t194 => ((cuspref02_up.f k x192001 (wrap64 (x192002 - (mn x191002 x192002)))).bind fun t197 => ((cuspref02_order.f k t194 t197).bind fun t200 => (some t200)))) else ((cuspref02_High.f k x191000 x191001 x191002).bind fun t201 => ((cuspref02_High.f k x192000 x192001 x192002).bind fun t202 => (some (wrap64 (t201 - t202))))))))
def cuspref02_magnitude.f (k : Nat) (a0_0 : Bool) (l0_1 : List Int) (a0_2 : Int) (a1_0 : Bool) (l1_1 : List Int) (a1_2 : Int) : Option (Int) := if (l0_1.length : Int) = 0 then (cuspref02_magnitude.j0 k true a0_0 l0_1 a0_2 a1_0 l1_1 a1_2) else (cuspref02_magnitude.j0 k ((l1_1.length : Int) == 0) a0_0 l0_1 a0_2 a1_0 l1_1 a1_2)
end Go.Proofs.YthmeocigliephaaGreatDoor.PSv
end
section
namespace Go.Proofs.YthmeocigliephaaGreatDoor.PSv
open Go.Proofs.YthmeocigliephaaGreatDoor.PSu Go.RowKit Go.Proofs.YthmeocigliephaaGreatDoorW.PrintWords Go.Proofs.YthmeocigliephaaGreatDoorW.PrintLast Go.Proofs.YthmeocigliephaaGreatDoorW.PrintMore
attribute [local go_sem] f64bits_run f64from_run run_float_some max2_int min2_int max_two min_two max_three min_three max_four min_four
def cuspref02_Order.j0 : Nat → Int → Option (Int)
 | 0, _ => none
 | k + 1, x7 => if x7 < 0 then (some (-1)) else (if x7 > 0 then (some 1) else (some 0))
def cuspref02_Order.f (k : Nat) (a0_0 : Bool) (l0_1 : List Int) (a0_2 : Int) (a1_0 : Bool) (l1_1 : List Int) (a1_2 : Int) : Option (Int) := (cuspref02_Sgn.f a0_0 l0_1 a0_2).bind fun t205 => ((cuspref02_Sgn.f a1_0 l1_1 a1_2).bind fun t206 => (if t205 = t206 then ((cuspref02_magnitude.f k a0_0 l0_1 a0_2 a1_0 l1_1 a1_2).bind fun t207 => (if t205 < 0 then (cuspref02_Order.j0 k (wrap64 (-t207))) else (cuspref02_Order.j0 k t207))) else (if t205 < t206 then (some (-1)) else (some 1))))
end Go.Proofs.YthmeocigliephaaGreatDoor.PSv
end
section
namespace Go.Proofs.YthmeocigliephaaGreatDoor.PSv
open Go.Proofs.YthmeocigliephaaGreatDoor.PSu Go.RowKit Go.Proofs.YthmeocigliephaaGreatDoorW.PrintWords Go.Proofs.YthmeocigliephaaGreatDoorW.PrintLast Go.Proofs.YthmeocigliephaaGreatDoorW.PrintMore
attribute [local go_sem] f64bits_run f64from_run run_float_some max2_int min2_int max_two min_two max_three min_three max_four min_four
def cusplaw05_SumsSplit.j0 : Nat → Nat → Nat → Nat → Nat → Bool → Option (Bool)
 | 0, _, _, _, _, _ => none
 | k + 1, x0, x1, x5, x6, x26 => if x26 = true then ((cusplaw05_same.f x6 (0 : Nat)).bind fun t213 => (if t213 = true then ((cusplaw05_sure.f).bind fun t214 => (some t214)) else (some false))) else ((cuspref01_Finite.f x6).bind fun t215 => (if t215 = true then ((cuspref02_Float.f k x0).bind fun bt216 => ((cuspref02_Float.f k x1).bind fun bt221 => ((cuspref02_Plus.f bt216.1 bt216.2.1 bt216.2.2 bt221.1 bt221.2.1 bt221.2.2).bind fun bt226 => ((cuspref02_Float.f k x5).bind fun bt232 => ((cuspref02_Float.f k x6).bind fun bt237 => ((cuspref02_Plus.f bt232.1 bt232.2.1 bt232.2.2 bt237.1 bt237.2.1 bt237.2.2).bind fun bt242 => ((cuspref02_Order.f k bt226.1 bt226.2.1 bt226.2.2 bt242.1 bt242.2.1 bt242.2.2).bind fun t247 => (if t247 = 0 then ((cusplaw05_sure.f).bind fun t248 => (some t248)) else (some false))))))))) else (some false)))
def cusplaw05_SumsSplit.f (k : Nat) (a0 : Nat) (a1 : Nat) : Option (Bool) := (sums_Two.f k a0 a1).bind fun bt208 => ((cuspref01_Finite.f a0).bind fun t210 => (if t210 = true then ((cuspref01_Finite.f a1).bind fun t211 => (if t211 = true then ((cuspref01_Finite.f bt208.1).bind fun t212 => (cusplaw05_SumsSplit.j0 k a0 a1 bt208.1 bt208.2 (!t212))) else (cusplaw05_SumsSplit.j0 k a0 a1 bt208.1 bt208.2 true))) else (cusplaw05_SumsSplit.j0 k a0 a1 bt208.1 bt208.2 true)))
def cusplaw05_twin.f (l0 : List Nat) : Option (List Nat) := if ([] : List Nat).length + l0.length < 17592186044416 then (some (([] : List Nat) ++ l0)) else (none)
end Go.Proofs.YthmeocigliephaaGreatDoor.PSv
end
section
namespace Go.Proofs.YthmeocigliephaaGreatDoor.PSv
open Go.Proofs.YthmeocigliephaaGreatDoor.PSu Go.RowKit Go.Proofs.YthmeocigliephaaGreatDoorW.PrintWords Go.Proofs.YthmeocigliephaaGreatDoorW.PrintLast Go.Proofs.YthmeocigliephaaGreatDoorW.PrintMore
attribute [local go_sem] f64bits_run f64from_run run_float_some max2_int min2_int max_two min_two max_three min_three max_four min_four
def cuspref05_Row.l0 : Nat → List Nat → Nat → Int → Option (Nat)
 | 0, _, _, _ => none
 | k + 1, x0, x3, x4 => if x4 < (x0.length : Int) then (if x4 = 0 then (if 0 < (x0.length : Int) then (cuspref05_Row.l0 k x0 (rdOf (0 : Nat) x0 0) (wrap64 (x4 + 1))) else (none)) else (if 0 ≤ x4 then ((cuspref05_add.f k x3 (rdOf (0 : Nat) x0 x4)).bind fun t254 => (cuspref05_Row.l0 k x0 t254 (wrap64 (x4 + 1)))) else (none))) else (some x3)
def cuspref05_Row.f (k : Nat) (l0 : List Nat) : Option (Nat) := cuspref05_Row.l0 k l0 (0 : Nat) 0
end Go.Proofs.YthmeocigliephaaGreatDoor.PSv
end
section
namespace Go.Proofs.YthmeocigliephaaGreatDoor.PSv
open Go.Proofs.YthmeocigliephaaGreatDoor.PSu Go.RowKit Go.Proofs.YthmeocigliephaaGreatDoorW.PrintWords Go.Proofs.YthmeocigliephaaGreatDoorW.PrintLast Go.Proofs.YthmeocigliephaaGreatDoorW.PrintMore
attribute [local go_sem] f64bits_run f64from_run run_float_some max2_int min2_int max_two min_two max_three min_three max_four min_four
def cuspref05_Halves.f : Nat → List Nat → Option (Nat)
 | 0, _ => none
 | k + 1, l0 => if (l0.length : Int) = 0 then (some (0 : Nat)) else (if (l0.length : Int) = 1 then (if 0 < (l0.length : Int) then (some (rdOf (0 : Nat) l0 0)) else (none)) else (if 0 ≤ (wrap64 ((l0.length : Int) / 2)) then (if (wrap64 ((l0.length : Int) / 2)) ≤ (l0.length : Int) then ((cuspref05_Halves.f k (l0.take ((wrap64 ((l0.length : Int) / 2)) : Int).toNat)).bind fun t257 => ((cuspref05_Halves.f k (l0.drop ((wrap64 ((l0.length : Int) / 2)) : Int).toNat)).bind fun t259 => ((cuspref05_add.f k t257 t259).bind fun t260 => (some t260)))) else (none)) else (none)))
end Go.Proofs.YthmeocigliephaaGreatDoor.PSv
end
section
namespace Go.Proofs.YthmeocigliephaaGreatDoor.PSv
open Go.Proofs.YthmeocigliephaaGreatDoor.PSu Go.RowKit Go.Proofs.YthmeocigliephaaGreatDoorW.PrintWords Go.Proofs.YthmeocigliephaaGreatDoorW.PrintLast Go.Proofs.YthmeocigliephaaGreatDoorW.PrintMore
attribute [local go_sem] f64bits_run f64from_run run_float_some max2_int min2_int max_two min_two max_three min_three max_four min_four
def cuspref01_Abs.f (a0 : Nat) : Option (Nat) := (cuspref01_mag.f a0).bind fun t261 => ((cuspref01_Of.f t261).bind fun t262 => (some t262))
end Go.Proofs.YthmeocigliephaaGreatDoor.PSv
end
section
namespace Go.Proofs.YthmeocigliephaaGreatDoor.PSv
open Go.Proofs.YthmeocigliephaaGreatDoor.PSu Go.RowKit Go.Proofs.YthmeocigliephaaGreatDoorW.PrintWords Go.Proofs.YthmeocigliephaaGreatDoorW.PrintLast Go.Proofs.YthmeocigliephaaGreatDoorW.PrintMore
attribute [local go_sem] f64bits_run f64from_run run_float_some max2_int min2_int max_two min_two max_three min_three max_four min_four
def cuspref01_Turned.f (a0 : Nat) : Option (Nat) := (cuspref01_Bits.f a0).bind fun t263 => ((cuspref01_Of.f (Go.bits .xor .u64 t263 9223372036854775808)).bind fun t264 => (some t264))
def cuspref03_Sub.f (k : Nat) (a0 : Nat) (a1 : Nat) (a2 : Int) : Option (Nat) := (cuspref01_IsNaN.f a1).bind fun t265 => (if t265 = true then ((cuspref01_Not.f).bind fun t266 => (some t266)) else ((cuspref01_Turned.f a1).bind fun t267 => ((cuspref03_Add.f k a0 t267 a2).bind fun t268 => (some t268))))
def cuspref05_sub.f (k : Nat) (a0 : Nat) (a1 : Nat) : Option (Nat) := (cuspref03_Sub.f k a0 a1 2).bind fun t269 => (some t269)
def cuspref05_Kept.l0 : Nat → List Nat → Nat → Nat → Int → Option (Nat)
 | 0, _, _, _, _ => none
 | k + 1, x0, x3, x4, x5 => if x5 < (x0.length : Int) then (if 0 ≤ x5 then ((cuspref05_add.f k x3 (rdOf (0 : Nat) x0 x5)).bind fun t272 => ((cuspref01_Abs.f x3).bind fun t273 => ((cuspref01_Abs.f (rdOf (0 : Nat) x0 x5)).bind fun t274 => (if ((FloatKind.f64.format.order t273 t274) == some .gt || (FloatKind.f64.format.order t273 t274) == some .eq) = true then ((cuspref05_sub.f k x3 t272).bind fun t275 => ((cuspref05_add.f k t275 (rdOf (0 : Nat) x0 x5)).bind fun t276 => ((cuspref05_add.f k x4 t276).bind fun t277 => (cuspref05_Kept.l0 k x0 t272 t277 (wrap64 (x5 + 1)))))) else ((cuspref05_sub.f k (rdOf (0 : Nat) x0 x5) t272).bind fun t278 => ((cuspref05_add.f k t278 x3).bind fun t279 => ((cuspref05_add.f k x4 t279).bind fun t280 => (cuspref05_Kept.l0 k x0 t272 t280 (wrap64 (x5 + 1)))))))))) else (none)) else ((cuspref05_add.f k x3 x4).bind fun t270 => (some t270))
def cuspref05_Kept.f (k : Nat) (l0 : List Nat) : Option (Nat) := cuspref05_Kept.l0 k l0 (0 : Nat) (0 : Nat) 0
def cusplaw05_all.l0 : Nat → List Nat → List Nat → Int → Option (Bool)
 | 0, _, _, _ => none
 | k + 1, x0, x1, x5 => if x5 < (x0.length : Int) then (if 0 ≤ x5 then (if x5 < (x1.length : Int) then ((cusplaw05_same.f (rdOf (0 : Nat) x0 x5) (rdOf (0 : Nat) x1 x5)).bind fun t283 => (if t283 = true then (cusplaw05_all.l0 k x0 x1 (wrap64 (x5 + 1))) else (some false))) else (none)) else (none)) else (some true)
def cusplaw05_all.f (k : Nat) (l0 : List Nat) (l1 : List Nat) : Option (Bool) := if (l0.length : Int) = (l1.length : Int) then (cusplaw05_all.l0 k l0 l1 0) else (some false)
theorem cusplaw05_all.calls (k : Nat) (A0 : Option Addr) (c0 : Nat) (l0 : List Nat) (A1 : Option Addr) (c1 : Nat) (l1 : List Nat) (r : Bool) (w : World) (hr0 : Kd.C Kd.float w A0 l0.length l0) (hc0 : l0.length ≤ c0) (hr1 : Kd.C Kd.float w A1 l1.length l1) (hc1 : l1.length ≤ c1) (h : cusplaw05_all.f k l0 l1 = some r) :
  Calls Tryz.prog 18 #[.slice A0 l0.length c0, .slice A1 l1.length c1] w fun e w' => e = .returned (.bool r) ∧ Drawn0 w w' := by
 have HR0 := asd hr0
 have HC0 := asd hc0
 clear hr0 hc0
 have HR1 := asd hr1
 have HC1 := asd hc1
 clear hr1 hc1
 have H := h
 clear h
 unfold cusplaw05_all.f at H
 by_cases c3 : (l0.length : Int) = (l1.length : Int)
 ·rw [if_pos c3] at H
  have c3b0 := beq_iff_eq.mpr c3
  have c3b1 := bne_eq_false_iff_eq.mpr c3
  have c3b2 : (l0.length == l1.length) = true := by first | simpa using c3 | (simp at c3 ⊢; omega)
  clear c3
  have H' := asd H
  clear H
  go_enter Tryz.func18, Tryz.ntmps18
  go_wp2
  repeat (go_quiet (fail); try go_wp2)
  go_loopg [5] k (fun kq v5 w' => ∃ (x5_1 : Int), v5 = .int .i64 x5_1 ∧ Aside0 (cusplaw05_all.l0 kq l0 l1 x5_1 = some r) ∧ Aside0 (kq ≤ k) ∧ Drawn0 w w')
  case atStart => exact ⟨(0), eqB, H', ⟨Nat.le_refl _⟩, dn0⟩
  case round =>
   clear H'
   try clear c1
   try clear p2
   try clear c3
   try clear c3b0
   try clear c3b1
   try clear c3b2
   obtain ⟨x5_1, rfl, HA, HK1, ⟨m1, rfl⟩⟩ := hrel
   cases gk with
   | zero => exact absurd HA.out (by simp [cusplaw05_all.l0])
   | succ k1 =>
    have H := HA.out
    clear HA
    simp only [cusplaw05_all.l0] at H
    by_cases c4 : x5_1 < (l0.length : Int)
    ·rw [if_pos c4] at H
     have c4b0 := decide_eq_true c4
     clear c4
     by_cases c5 : 0 ≤ x5_1
     ·rw [if_pos c5] at H
      have c5b0 := decide_eq_true c5
      clear c5
      by_cases c6 : x5_1 < (l1.length : Int)
      ·rw [if_pos c6] at H
       have c6b0 := decide_eq_true c6
       clear c6
       replace H := Option.bind_eq_some_iff.mp H
       obtain ⟨t283, A70, H⟩ := H
       have A7 := asd A70
       clear A70
       by_cases c8 : t283 = true
       ·subst c8
        rw [if_pos rfl] at H
        have H' := asd H
        clear H
        have p281 : 0 ≤ (x5_1 : Int) := odt
        have q281 : x5_1 < (l0.length : Int) := odt
        obtain ⟨ad281, e281, hx281_0⟩ := Kd.at_float HR0.out x5_1 p281 q281
        cases e281
        replace p281 := eq_true p281
        replace q281 := eq_true q281
        have p282 : 0 ≤ (x5_1 : Int) := odt
        have q282 : x5_1 < (l1.length : Int) := odt
        obtain ⟨ad282, e282, hx282_0⟩ := Kd.at_float HR1.out x5_1 p282 q282
        cases e282
        replace p282 := eq_true p282
        replace q282 := eq_true q282
        go_wp2_with (first | (go_at_call 11; (with_reducible refine (cusplaw05_same.calls (rdOf (0 : Nat) l0 x5_1) (rdOf (0 : Nat) l1 x5_1) true _ A7.out).mono ?_); rintro e w' ⟨rfl, ⟨nd, rfl⟩⟩; (try first | exact ⟨rfl, _, World.drewN_drewN _ _ _⟩ | exact ⟨rfl, _, Eq.trans (World.drewN_drewN _ _ _) (congrArg (World.drewN _) (Nat.add_assoc _ _ _))⟩)))
        repeat (go_quiet (first | (go_at_call 11; (with_reducible refine (cusplaw05_same.calls (rdOf (0 : Nat) l0 x5_1) (rdOf (0 : Nat) l1 x5_1) true _ A7.out).mono ?_); rintro e w' ⟨rfl, ⟨nd, rfl⟩⟩; (try first | exact ⟨rfl, _, World.drewN_drewN _ _ _⟩ | exact ⟨rfl, _, Eq.trans (World.drewN_drewN _ _ _) (congrArg (World.drewN _) (Nat.add_assoc _ _ _))⟩))); try go_wp2_with (first | (go_at_call 11; (with_reducible refine (cusplaw05_same.calls (rdOf (0 : Nat) l0 x5_1) (rdOf (0 : Nat) l1 x5_1) true _ A7.out).mono ?_); rintro e w' ⟨rfl, ⟨nd, rfl⟩⟩; (try first | exact ⟨rfl, _, World.drewN_drewN _ _ _⟩ | exact ⟨rfl, _, Eq.trans (World.drewN_drewN _ _ _) (congrArg (World.drewN _) (Nat.add_assoc _ _ _))⟩))))
        go_roundg k1
        case measure => have := HK1.out; omega
        case rel => exact ⟨(wrap64 (x5_1 + 1)), eqB, H', ⟨by have := HK1.out; omega⟩, dn0⟩
       ·replace c8 := Bool.eq_false_iff.mpr c8
        subst c8
        rw [if_neg (show ¬ (false = true) by decide)] at H
        obtain rfl := Option.some.inj H
        have p281 : 0 ≤ (x5_1 : Int) := odt
        have q281 : x5_1 < (l0.length : Int) := odt
        obtain ⟨ad281, e281, hx281_0⟩ := Kd.at_float HR0.out x5_1 p281 q281
        cases e281
        replace p281 := eq_true p281
        replace q281 := eq_true q281
        have p282 : 0 ≤ (x5_1 : Int) := odt
        have q282 : x5_1 < (l1.length : Int) := odt
        obtain ⟨ad282, e282, hx282_0⟩ := Kd.at_float HR1.out x5_1 p282 q282
        cases e282
        replace p282 := eq_true p282
        replace q282 := eq_true q282
        go_wp2_with (first | (go_at_call 11; (with_reducible refine (cusplaw05_same.calls (rdOf (0 : Nat) l0 x5_1) (rdOf (0 : Nat) l1 x5_1) false _ A7.out).mono ?_); rintro e w' ⟨rfl, ⟨nd, rfl⟩⟩; (try first | exact ⟨rfl, _, World.drewN_drewN _ _ _⟩ | exact ⟨rfl, _, Eq.trans (World.drewN_drewN _ _ _) (congrArg (World.drewN _) (Nat.add_assoc _ _ _))⟩)))
        repeat (go_quiet (first | (go_at_call 11; (with_reducible refine (cusplaw05_same.calls (rdOf (0 : Nat) l0 x5_1) (rdOf (0 : Nat) l1 x5_1) false _ A7.out).mono ?_); rintro e w' ⟨rfl, ⟨nd, rfl⟩⟩; (try first | exact ⟨rfl, _, World.drewN_drewN _ _ _⟩ | exact ⟨rfl, _, Eq.trans (World.drewN_drewN _ _ _) (congrArg (World.drewN _) (Nat.add_assoc _ _ _))⟩))); try go_wp2_with (first | (go_at_call 11; (with_reducible refine (cusplaw05_same.calls (rdOf (0 : Nat) l0 x5_1) (rdOf (0 : Nat) l1 x5_1) false _ A7.out).mono ?_); rintro e w' ⟨rfl, ⟨nd, rfl⟩⟩; (try first | exact ⟨rfl, _, World.drewN_drewN _ _ _⟩ | exact ⟨rfl, _, Eq.trans (World.drewN_drewN _ _ _) (congrArg (World.drewN _) (Nat.add_assoc _ _ _))⟩))))
        go_ret
        exact ⟨eqB, dn0⟩
      ·rw [if_neg c6] at H
       exact absurd H (by simp)
     ·rw [if_neg c5] at H
      exact absurd H (by simp)
    ·rw [if_neg c4] at H
     have c4b0 := decide_eq_false c4
     clear c4
     obtain rfl := Option.some.inj H
     go_wp2
     repeat (go_quiet (fail); try go_wp2)
     go_ret
     exact ⟨eqB, dn0⟩
 ·rw [if_neg c3] at H
  have c3b0 := beq_eq_false_iff_ne.mpr c3
  have c3b1 := bne_iff_ne.mpr c3
  have c3b2 : (l0.length == l1.length) = false := by first | simpa using c3 | (simp at c3 ⊢; omega)
  obtain rfl := Option.some.inj H
  go_enter Tryz.func18, Tryz.ntmps18
  go_wp2
  repeat (go_quiet (fail); try go_wp2)
  go_ret
  exact ⟨eqB, dn0⟩
def cusplaw05_SumsRows.f (k : Nat) (l0 : List Nat) : Option (Bool) := (cusplaw05_twin.f l0).bind fun t284 => ((sums_Row.f k t284).bind fun t287 => ((cuspref05_Row.f k l0).bind fun t288 => ((cusplaw05_same.f t287 t288).bind fun t289 => (if t289 = true then ((sums_Halves.f k t284).bind fun t290 => ((cuspref05_Halves.f k l0).bind fun t291 => ((cusplaw05_same.f t290 t291).bind fun t292 => (if t292 = true then ((sums_Kept.f k t284).bind fun t293 => ((cuspref05_Kept.f k l0).bind fun t294 => ((cusplaw05_same.f t293 t294).bind fun t295 => (if t295 = true then ((cusplaw05_all.f k t284 l0).bind fun t296 => (if t296 = true then ((cusplaw05_sure.f).bind fun t297 => (some t297)) else (some false))) else (some false))))) else (some false))))) else (some false)))))
end Go.Proofs.YthmeocigliephaaGreatDoor.PSv
end
section
namespace Go.Proofs.YthmeocigliephaaGreatDoor.Big
open Go.Proofs.YthmeocigliephaaGreatDoor.PSv Go.Proofs.YthmeocigliephaaGreatDoor.PSu Go.Proofs.YthmeocigliephaaGreatDoor.Plain Ieee
theorem all_go (l : List Nat) (hn : l.length < 4611686018427387904) : ∀ (m i : Nat), i + m = l.length → Ev (fun k => cusplaw05_all.l0 k l l (i : Int)) true
  | 0, i, hi => by
    refine Ev.step (f := fun _ => some true) (fun k => ?_) (Ev.now _)
    rw [cusplaw05_all.l0, if_neg (by omega)]
  | m + 1, i, hi => by
    have hw : wrap64 ((i : Int) + 1) = ((i + 1 : Nat) : Int) := (w64_of (by omega) (by omega)).trans (by omega)
    refine Ev.step (f := fun k => cusplaw05_all.l0 k l l ((i + 1 : Nat) : Int)) (fun k => ?_) (all_go l hn m (i + 1) (by omega))
    rw [cusplaw05_all.l0, if_pos (by omega), if_pos (by omega), if_pos (by omega), same_law, Option.bind_some, if_pos rfl, hw]
theorem all_law (l : List Nat) (hn : l.length < 4611686018427387904) : Ev (fun k => cusplaw05_all.f k l l) true := by
  unfold cusplaw05_all.f
  exact Ev.congr (fun k => if_pos rfl) (all_go l hn l.length 0 (by omega))
end Go.Proofs.YthmeocigliephaaGreatDoor.Big
end
section
namespace Go.Proofs.YthmeocigliephaaGreatDoor.Big
open Go.Proofs.YthmeocigliephaaGreatDoor.PSv Go.Proofs.YthmeocigliephaaGreatDoor.PSu Go.Proofs.YthmeocigliephaaGreatDoor.Plain
theorem apart_bad (A0 : Option Addr) (c0 : Nat) (l0 : List Nat) (w : World) (hr0 : Kd.C Kd.float w A0 l0.length l0) (hc0 : l0.length ≤ c0) (hn : l0.length < 4611686018427387904) (q : Int) (hq : q ≠ 0) (h3 : faultL l0 = q) :
    Calls Tryz.prog 28 #[.slice A0 l0.length c0] w fun e w' => ∃ v, e = .returned (.tuple #[v, .int .i64 q]) ∧ Kd.R Kd.float 25 w' w.heap.size (fun _ => True) v [] ∧ Below w.heap.size w w' := by
  have HR0 := asd hr0
  have HC0 := asd hc0
  have HN := asd hn
  have HB := asd (Below.refl w.heap.size w)
  have HF := asd h3
  have hqb : (q != 0) = true := bne_iff_ne.mpr hq
  clear hr0 hc0 h3 hn hq
  go_enter Tryz.func28, Tryz.ntmps28
  go_wp2_with (first
    | ((with_reducible refine gate_dst (N := 2) rfl ?_); refine box_event ?hg (N := 2) ?hd (cs := #[.slice none 0 0]) (t := 22) ?hr ?_; (case hd => rfl); (case hg => rfl); (case hr => first | (go_simp; done) | (go_simp; rfl)); intro b2 hg w1 hbox hb; have n1_ := asd (below_step HB.out hb); clear HB; have HB := n1_; clear n1_ hb; have K2 := asd hbox; clear hbox; have G2 := asd (by rw [hg]; exact Nat.le_refl _ : w.heap.size ≤ b2); clear hg)
    | ((with_reducible refine gate_dst (N := 3) rfl ?_); refine box_event ?hg (N := 3) ?hd (cs := #[.int .i64 0]) (t := 32) ?hr ?_; (case hd => rfl); (case hg => rfl); (case hr => first | (go_simp; done) | (go_simp; rfl)); intro b3 hg w2 hbox hb; have n1_ := asd (below_step HB.out hb); have n2_ := asd (blk_below K2.out hb); have N3 := asd (by rw [hg]; exact blk_lt K2.out : b2 < b3); clear HB K2; have HB := n1_; have K2 := n2_; clear n1_ n2_ hb; have K3 := asd hbox; clear hbox hg)
    | (go_at_call 50; refine (fault_one _ A0 c0 l0 q _ (by exact blk_cell (blk_new _ _) 0) (Kd.C_below HR0.out (below_alloc HB.out _)) HC0.out HN.out HF.out).mono ?_; rintro e3 w3 ⟨rfl, d⟩; have n1_ := asd (below_step (below_alloc HB.out _) d); have n2_ := asd (blk_below (blk_alloc K2.out _) d); have n3_ := asd (blk_below (blk_alloc K3.out _) d); clear HB K2 K3 d; have HB := n1_; have K2 := n2_; have K3 := n3_; clear n1_ n2_ n3_; have z2 := (blk_cell K2.out 0).trans rfl; have y2 := blk_frozen K2.out 0; have z3 := (blk_cell K3.out 0).trans rfl; have y3 := blk_frozen K3.out 0; have d23 : b2 ≠ b3 := Nat.ne_of_lt N3.out; have d32 : b3 ≠ b2 := Nat.ne_of_gt N3.out))
  have H3_ : w.heap.size ≤ b3 := Nat.le_trans G2.out (Nat.le_of_lt N3.out)
  have u2 := blk_far (blk_put (cs := #[.slice none 0 0]) K2.out 0 (.slice none 0 0) rfl) (p := ⟨b3, 0, none⟩) d23 (.int .i64 q)
  have u3 := blk_put (cs := #[.int .i64 0]) (blk_far K3.out (p := ⟨b2, 0, none⟩) d32 (.slice none 0 0)) 0 (.int .i64 q) rfl
  have z2 := (blk_cell u2 0).trans rfl
  have z3 := (blk_cell u3 0).trans rfl
  have v2 := blk_frozen u2 0
  have v3 := blk_frozen u3 0
  refine bodyPost_ret (v := .tuple #[.slice none 0 0, .int .i64 q]) (by simp [results, Tryz.results28, go_sem, z2, z3, v2, v3]) rfl ⟨_, rfl, Kd.R_nil _ _ _ _ _, below_set (below_set HB.out G2.out) H3_⟩
theorem apart_calls (A0 : Option Addr) (c0 : Nat) (l0 : List Nat) (w : World) (hr0 : Kd.C Kd.float w A0 l0.length l0) (hc0 : l0.length ≤ c0) (hn : l0.length < 4611686018427387904) (hw : ∀ b ∈ l0, b < 18446744073709551616) (hL : Laid w) (L : List Nat) (q : Int) (h : apartT l0 = (L, q)) :
    Calls Tryz.prog 28 #[.slice A0 l0.length c0] w fun e w' => ∃ v, e = .returned (.tuple #[v, .int .i64 q]) ∧ Kd.R Kd.float 25 w' w.heap.size (fun _ => True) v L ∧ Below w.heap.size w w' := by
  unfold apartT at h
  by_cases hf : faultL l0 = 0
  · rw [if_pos hf] at h
    obtain ⟨h1, h2⟩ := fault_zero hw hf
    obtain ⟨L', q', hL'⟩ := apart_sum h2 h1
    rw [hL'] at h
    cases h
    exact apart_ok 3000 (l0.length + 1) A0 c0 l0 w hr0 hc0 hn hL hf (sumZ l0) (total_law l0 h2 h1) L q hL'
  · rw [if_neg hf] at h
    cases h
    exact apart_bad A0 c0 l0 w hr0 hc0 hn _ hf rfl
theorem lost_any (A : Option Addr) (c : Nat) (l : List Nat) (s : Nat) (w : World) (hr : Kd.C Kd.float w A l.length l) (hc : l.length ≤ c) (hn : l.length < 17592186044416) (hw : ∀ b ∈ l, b < 18446744073709551616) (hs : s < 18446744073709551616) (hL : Laid w) :
    Calls Tryz.prog 9 #[.slice A l.length c, .float .f64 s] w fun e w' => e = .returned (.bool true) ∧ Below w.heap.size w w' := by
  obtain ⟨k1, e1⟩ := Ev.rounds (lost_law l s hw hs (by omega))
  obtain ⟨k2, e2⟩ := Ev.rounds (rlost_law l s hw hs)
  obtain ⟨k3, e3⟩ := Ev.rounds (rapart_law l hw)
  obtain ⟨⟨t, q⟩, ht⟩ : ∃ p, lostZ l s = p := ⟨_, rfl⟩
  obtain ⟨⟨L, r⟩, hT⟩ : ∃ p, apartT l = p := ⟨_, rfl⟩
  rw [ht] at e1 e2
  rw [hT] at e3
  have hLn : L.length < 100000000 := apartT_len hT
  obtain ⟨k4, e4⟩ := Ev.rounds (all_law L (by omega))
  have E1 := asd e1
  have E2 := asd e2
  have E3 := asd e3
  have E4 := asd e4
  have HT := asd hT
  have S0 := asd (same_law t)
  have hq : (q == q) = true := beq_self_eq_true q
  have hr2 : (r == r) = true := beq_self_eq_true r
  have HN := asd (show l.length < 4611686018427387904 by omega)
  have HW := asd hw
  have HL := asd hL
  have HR := asd hr
  have HC := asd hc
  clear e1 e2 e3 e4 hn hw hs hr hc hL ht hT hLn
  go_enter Tryz.func9, Tryz.ntmps9
  go_wp2_with (first
    | (go_at_call 35; refine (lost_calls k1 A c l s t q _ HR.out HC.out E1.out HL.out).mono ?_; rintro e w1 ⟨rfl, d⟩; have B1 := asd d; clear d)
    | (go_at_call 36; refine (PSd.cuspref05_Lost.calls k2 A c l s t q _ (Kd.C_below HR.out B1.out) HC.out E2.out).mono ?_; rintro e w2 ⟨rfl, d⟩; have B2 := asd (below_post d B1.out); clear d)
    | (go_at_call 28; refine (apart_calls A c l _ (Kd.C_below HR.out B2.out) HC.out HN.out HW.out (HL.out.step B2.out) L r HT.out).mono ?_; rintro e w3 ⟨v3, rfl, r3, d⟩; have B3 := asd (below_post d B2.out); have R3 := asd r3; clear d r3; obtain ⟨A3, c3, e3⟩ := Kd.R_slice R3.out; subst e3)
    | (go_at_call 37; refine (PSe.cuspref05_Apart.calls k3 A c l L r _ (Kd.C_below HR.out B3.out) HC.out E3.out).mono ?_; rintro e w4 ⟨v4, rfl, r4, d⟩; have B4 := asd (below_post d B3.out); have R4 := asd r4; have n3_ := asd (Kd.R_below R3.out d); clear d r4 R3; have R3 := n3_; clear n3_; obtain ⟨A4, c4, e4⟩ := Kd.R_slice R4.out; subst e4)
    | (go_at_call 11; refine (cusplaw05_same.calls _ _ true _ S0.out).mono ?_; rintro e w5 ⟨rfl, d⟩; have B5 := asd (below_post d.below B4.out); have n3_ := asd (Kd.R_below R3.out d.below); have n4_ := asd (Kd.R_below R4.out d.below); clear R3 R4; have R3 := n3_; have R4 := n4_; clear n3_ n4_ d)
    | (go_at_call 18; refine (cusplaw05_all.calls k4 A3 c3 L A4 c4 L true _ (Kd.R_reads' R3.out).2.2 (Kd.R_reads' R3.out).2.1 (Kd.R_reads' R4.out).2.2 (Kd.R_reads' R4.out).2.1 E4.out).mono ?_; rintro e w6 ⟨rfl, d⟩; have B6 := asd (below_post (by first | exact d | exact d.below) B5.out); clear d)
    | (go_at_call 19; refine (sure_rel _ (HL.out.step B6.out)).mono ?_; rintro e w7 ⟨rfl, d⟩; have B7 := asd (below_post d B6.out); clear d))
  go_ret
  exact ⟨rfl, B7.out⟩
end Go.Proofs.YthmeocigliephaaGreatDoor.Big
end
