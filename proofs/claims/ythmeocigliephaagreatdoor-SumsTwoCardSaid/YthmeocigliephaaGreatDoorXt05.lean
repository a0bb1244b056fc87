/- Parts of the proof, behind one another; unused words are left out. -/
import Derived.Test.YthmeocigliephaaGreatDoorXt04
set_option linter.unusedVariables false
set_option linter.unusedSimpArgs false
set_option linter.unusedSectionVars false
set_option exponentiation.threshold 100000
section
namespace Go.Proofs.YthmeocigliephaaGreatDoor.PSv
open Go.Proofs.YthmeocigliephaaGreatDoor.PSu Go.RowKit Go.Proofs.YthmeocigliephaaGreatDoorW.PrintWords Go.Proofs.YthmeocigliephaaGreatDoorW.PrintLast Go.Proofs.YthmeocigliephaaGreatDoorW.PrintMore
attribute [local go_sem] f64bits_run f64from_run run_float_some max2_int min2_int max_two min_two max_three min_three max_four min_four
def cuspref02_Minus.f (a0_0 : Bool) (l0_1 : List Int) (a0_2 : Int) : Option (Bool × List Int × Int) := if (l0_1.length : Int) = 0 then (some (false, ([] : List Int), 0)) else (some (!a0_0, l0_1, a0_2))
set_option maxHeartbeats 8000000 in
set_option maxRecDepth 100000 in
theorem cuspref02_Minus.calls (a0_0 : Bool) (P0_1_ : Nat → Prop) (u9000_ : Value) (l0_1 : List Int) (a0_2 : Int) (r1 : Bool) (r2 : List Int) (r3 : Int) (w0 w : World) (hB : Below w0.heap.size w0 w) (ho0_1 : Kd.R (Kd.int .u32) 83 w w0.heap.size P0_1_ u9000_ l0_1) (h : cuspref02_Minus.f a0_0 l0_1 a0_2 = some (r1, r2, r3)) :
  Calls Tryz.prog 77 #[.agg #[.bool a0_0, u9000_, .int .i64 a0_2]] w fun e w' => ∃ v1_ : Value, e = .returned (.agg #[.bool r1, v1_, .int .i64 r3]) ∧ Kd.R (Kd.int .u32) 83 w' w0.heap.size (fun k_ => (P0_1_ k_ ∨ w.heap.size ≤ k_)) v1_ r2 ∧ Below w0.heap.size w0 w' ∧ Kept w w' (fun k_ => P0_1_ k_) := by
 have hu41 := Tryz.underlying41
 have HO0_1 := asd (show Kd.R (Kd.int .u32) 83 w w0.heap.size (fun k_ => (P0_1_ k_ ∨ w.heap.size ≤ k_)) u9000_ l0_1 from Kd.R_mono ho0_1 (fun k_ hk => (.inl hk)))
 have HK := asd (Kept.refl w (fun k_ => P0_1_ k_))
 have HW0 := asd hB.size
 have HB := asd hB
 clear hB
 have H : (if (l0_1.length : Int) = 0 then (some (false, ([] : List Int), 0)) else (some (!a0_0, l0_1, a0_2))) = some (r1, r2, r3) := h
 clear h
 by_cases c2 : (l0_1.length : Int) = 0
 ·rw [if_pos c2] at H
  have c2b0 : ((l0_1.length : Int) == 0) = true := beq_iff_eq.mpr c2
  have c2b1 : ((l0_1.length : Int) != 0) = false := bne_eq_false_iff_eq.mpr c2
  clear c2
  simp only [Option.some.injEq, Prod.mk.injEq] at H
  obtain ⟨rfl, rfl, rfl⟩ := H
  obtain ⟨Ao3, co3, eo3⟩ := Kd.R_slice HO0_1.out
  subst eo3
  go_enter Tryz.func77, Tryz.ntmps77
  go_wp2_with (first | ((with_reducible refine gate_dst (N := 1) rfl ?_); refine box_event ?hg (N := 1) ?hd (cs := #[.bool a0_0, .slice Ao3 l0_1.length co3, .int .i64 a0_2]) (t := 41) ?hr ?_; (case hd => rfl); (case hg => rfl); (case hr => first | (go_simp; done) | (go_simp; rfl)); intro gb102 hg w4 hbox hb; have n0_ := asd (Kd.R_below (rUp HO0_1.out) hb); have n1_ := asd (Kept.below (S := (fun k_ => P0_1_ k_)) (by repeat (first | (with_reducible first | exact HK.out | apply Kept.alloc | apply Kept.drewN | apply Kept.drew) | exact HK.out)) hb); have n2_ := asd (below_step hbw hb); have n3_ := asd (hbox); have n4_ := asd ((by rw [hg]; exact (by first | exact HK.out.1 | exact (show Kept w _ (fun k_ => P0_1_ k_) from by repeat (first | (with_reducible first | exact HK.out | apply Kept.alloc | apply Kept.drewN | apply Kept.drew) | exact HK.out)).1) : w.heap.size ≤ gb102)); have n5_ := asd ((by rw [hg]; exact (below_size hbw) : w0.heap.size ≤ gb102)); clear HO0_1; clear HK; clear HB; have HO0_1 := n0_; have HK := n1_; have HB := n2_; have BK102 := n3_; have GW102 := n4_; have GE102 := n5_; clear n0_ n1_ n2_ n3_ n4_ n5_; clear hb hbox hg) | ((with_reducible refine gate_dst (N := 2) rfl ?_); refine box_event ?hg (N := 2) ?hd (cs := #[.bool false, .slice none 0 0, .int .i64 0]) (t := 41) ?hr ?_; (case hd => rfl); (case hg => rfl); (case hr => first | (go_simp; done) | (go_simp; rfl)); intro gb103 hg w5 hbox hb; have n0_ := asd (Kd.R_below (rUp HO0_1.out) hb); have n1_ := asd (blk_below (g := gb102) (o := .cells #[.bool a0_0, .slice Ao3 l0_1.length co3, .int .i64 a0_2] 41 (0, 0)) (blkU BK102.out) hb); have n2_ := asd (Kept.below (S := (fun k_ => P0_1_ k_)) (by repeat (first | (with_reducible first | exact HK.out | apply Kept.alloc | apply Kept.drewN | apply Kept.drew | refine Kept.setCell ?_ (.inr GW102.out) _) | exact HK.out)) hb); have n3_ := asd (below_step (by repeat (first | (with_reducible first | exact HB.out | apply below_alloc | apply pw_below_drewN | apply below_drew1 | refine below_set ?_ GE102.out) | exact HB.out)) hb); have n4_ := asd (hbox); have n5_ := asd ((by rw [hg]; exact (by first | exact HK.out.1 | exact (show Kept w _ (fun k_ => P0_1_ k_) from by repeat (first | (with_reducible first | exact HK.out | apply Kept.alloc | apply Kept.drewN | apply Kept.drew | refine Kept.setCell ?_ (.inr GW102.out) _) | exact HK.out)).1) : w.heap.size ≤ gb103)); have n6_ := asd ((by rw [hg]; exact (below_size (by repeat (first | (with_reducible first | exact HB.out | apply below_alloc | apply pw_below_drewN | apply below_drew1 | refine below_set ?_ GE102.out) | exact HB.out))) : w0.heap.size ≤ gb103)); have n7_ := asd ((by rw [hg]; exact Nat.ne_of_lt (blk_lt (g := gb102) (o := .cells #[.bool a0_0, .slice Ao3 l0_1.length co3, .int .i64 a0_2] 41 (0, 0)) (blkU BK102.out)) : gb102 ≠ gb103)); have n8_ := asd ((by rw [hg]; exact Nat.ne_of_gt (blk_lt (g := gb102) (o := .cells #[.bool a0_0, .slice Ao3 l0_1.length co3, .int .i64 a0_2] 41 (0, 0)) (blkU BK102.out)) : gb103 ≠ gb102)); clear HO0_1; clear BK102; clear HK; clear HB; have HO0_1 := n0_; have BK102 := n1_; have HK := n2_; have HB := n3_; have BK103 := n4_; have GW103 := n5_; have GE103 := n6_; have NB102_103 := n7_; have NB103_102 := n8_; clear n0_ n1_ n2_ n3_ n4_ n5_ n6_ n7_ n8_; clear hb hbox hg; have hnb6 := NB102_103.out; have hnc6 := NB103_102.out; have hcz7_0 : w5.cell? ⟨gb102, 0, none⟩ = some (.bool a0_0) := (blk_cell BK102.out 0).trans rfl; have hcz7_1 : w5.cell? ⟨gb102, 1, none⟩ = some (.slice Ao3 l0_1.length co3) := (blk_cell BK102.out 1).trans rfl; have hcz7_2 : w5.cell? ⟨gb102, 2, none⟩ = some (.int .i64 a0_2) := (blk_cell BK102.out 2).trans rfl; have hfz7_0 := blk_frozen BK102.out 0; have hfz7_1 := blk_frozen BK102.out 1; have hfz7_2 := blk_frozen BK102.out 2; have hcz8_0 : w5.cell? ⟨gb103, 0, none⟩ = some (.bool false) := (blk_cell BK103.out 0).trans rfl; have hcz8_1 : w5.cell? ⟨gb103, 1, none⟩ = some (.slice none 0 0) := (blk_cell BK103.out 1).trans rfl; have hcz8_2 : w5.cell? ⟨gb103, 2, none⟩ = some (.int .i64 0) := (blk_cell BK103.out 2).trans rfl; have hfz8_0 := blk_frozen BK103.out 0; have hfz8_1 := blk_frozen BK103.out 1; have hfz8_2 := blk_frozen BK103.out 2))
  refine bodyPost_ret (results_cell_row rfl _ _ gb103 41 #[.bool false, .slice none 0 0, .int .i64 0] (0, 0) _ rfl (by (with_reducible repeat (first | refine blk_drewN ?_ _ | refine blk_drew ?_ | refine blk_alloc ?_ _)); refine blk_put (cs := #[.bool false, .slice none 0 0, .int .i64 0]) ?_ 2 _ rfl; (with_reducible repeat (first | refine blk_drewN ?_ _ | refine blk_drew ?_ | refine blk_alloc ?_ _)); refine blk_put (cs := #[.bool false, .slice none 0 0, .int .i64 0]) ?_ 1 _ rfl; (with_reducible repeat (first | refine blk_drewN ?_ _ | refine blk_drew ?_ | refine blk_alloc ?_ _)); refine blk_put (cs := #[.bool false, .slice none 0 0, .int .i64 0]) ?_ 0 _ rfl; (with_reducible repeat (first | refine blk_drewN ?_ _ | refine blk_drew ?_ | refine blk_alloc ?_ _)); exact BK103.out) Tryz.underlying41 rfl (by kernel_rfl)) rfl ?_
  exact ⟨_, by first | rfl | (simp [errW_none, errW_some] <;> rfl) | (simp [*, errW_none, errW_some] <;> rfl), by first | exact Kd.R_nil _ _ _ _ _ | exact Kd.N_nil _ _ _ _ _ | exact Kd.V_nil _ _ _ _ _ | exact Kd.Q_nil _ _ _ _ _ | exact Kd.S_nil _ _ _ _ _, by repeat (first | (with_reducible first | exact HB.out | apply below_alloc | apply pw_below_drewN | apply below_drew1 | refine below_set ?_ GE102.out | refine below_set ?_ GE103.out) | exact HB.out), by repeat (first | (with_reducible first | exact HK.out | apply Kept.alloc | apply Kept.drewN | apply Kept.drew | refine Kept.setCell ?_ (.inr GW102.out) _ | refine Kept.setCell ?_ (.inr GW103.out) _) | exact HK.out)⟩
 ·rw [if_neg c2] at H
  have c2b0 : ((l0_1.length : Int) == 0) = false := beq_eq_false_iff_ne.mpr c2
  have c2b1 : ((l0_1.length : Int) != 0) = true := bne_iff_ne.mpr c2
  have c2b2 : ¬ (l0_1 = []) := fun h_ => c2 (by rw [h_]; rfl)
  simp only [Option.some.injEq, Prod.mk.injEq] at H
  obtain ⟨rfl, rfl, rfl⟩ := H
  obtain ⟨Ao9, co9, eo9⟩ := Kd.R_slice HO0_1.out
  subst eo9
  go_enter Tryz.func77, Tryz.ntmps77
  go_wp2_with (first | ((with_reducible refine gate_dst (N := 1) rfl ?_); refine box_event ?hg (N := 1) ?hd (cs := #[.bool a0_0, .slice Ao9 l0_1.length co9, .int .i64 a0_2]) (t := 41) ?hr ?_; (case hd => rfl); (case hg => rfl); (case hr => first | (go_simp; done) | (go_simp; rfl)); intro gb102 hg w10 hbox hb; have n0_ := asd (Kd.R_below (rUp HO0_1.out) hb); have n1_ := asd (Kept.below (S := (fun k_ => P0_1_ k_)) (by repeat (first | (with_reducible first | exact HK.out | apply Kept.alloc | apply Kept.drewN | apply Kept.drew) | exact HK.out)) hb); have n2_ := asd (below_step hbw hb); have n3_ := asd (hbox); have n4_ := asd ((by rw [hg]; exact (by first | exact HK.out.1 | exact (show Kept w _ (fun k_ => P0_1_ k_) from by repeat (first | (with_reducible first | exact HK.out | apply Kept.alloc | apply Kept.drewN | apply Kept.drew) | exact HK.out)).1) : w.heap.size ≤ gb102)); have n5_ := asd ((by rw [hg]; exact (below_size hbw) : w0.heap.size ≤ gb102)); clear HO0_1; clear HK; clear HB; have HO0_1 := n0_; have HK := n1_; have HB := n2_; have BK102 := n3_; have GW102 := n4_; have GE102 := n5_; clear n0_ n1_ n2_ n3_ n4_ n5_; clear hb hbox hg) | ((with_reducible refine gate_dst (N := 2) rfl ?_); refine box_event ?hg (N := 2) ?hd (cs := #[.bool false, .slice none 0 0, .int .i64 0]) (t := 41) ?hr ?_; (case hd => rfl); (case hg => rfl); (case hr => first | (go_simp; done) | (go_simp; rfl)); intro gb103 hg w11 hbox hb; have n0_ := asd (Kd.R_below (rUp HO0_1.out) hb); have n1_ := asd (blk_below (g := gb102) (o := .cells #[.bool a0_0, .slice Ao9 l0_1.length co9, .int .i64 a0_2] 41 (0, 0)) (blkU BK102.out) hb); have n2_ := asd (Kept.below (S := (fun k_ => P0_1_ k_)) (by repeat (first | (with_reducible first | exact HK.out | apply Kept.alloc | apply Kept.drewN | apply Kept.drew | refine Kept.setCell ?_ (.inr GW102.out) _) | exact HK.out)) hb); have n3_ := asd (below_step (by repeat (first | (with_reducible first | exact HB.out | apply below_alloc | apply pw_below_drewN | apply below_drew1 | refine below_set ?_ GE102.out) | exact HB.out)) hb); have n4_ := asd (hbox); have n5_ := asd ((by rw [hg]; exact (by first | exact HK.out.1 | exact (show Kept w _ (fun k_ => P0_1_ k_) from by repeat (first | (with_reducible first | exact HK.out | apply Kept.alloc | apply Kept.drewN | apply Kept.drew | refine Kept.setCell ?_ (.inr GW102.out) _) | exact HK.out)).1) : w.heap.size ≤ gb103)); have n6_ := asd ((by rw [hg]; exact (below_size (by repeat (first | (with_reducible first | exact HB.out | apply below_alloc | apply pw_below_drewN | apply below_drew1 | refine below_set ?_ GE102.out) | exact HB.out))) : w0.heap.size ≤ gb103)); have n7_ := asd ((by rw [hg]; exact Nat.ne_of_lt (blk_lt (g := gb102) (o := .cells #[.bool a0_0, .slice Ao9 l0_1.length co9, .int .i64 a0_2] 41 (0, 0)) (blkU BK102.out)) : gb102 ≠ gb103)); have n8_ := asd ((by rw [hg]; exact Nat.ne_of_gt (blk_lt (g := gb102) (o := .cells #[.bool a0_0, .slice Ao9 l0_1.length co9, .int .i64 a0_2] 41 (0, 0)) (blkU BK102.out)) : gb103 ≠ gb102)); clear HO0_1; clear BK102; clear HK; clear HB; have HO0_1 := n0_; have BK102 := n1_; have HK := n2_; have HB := n3_; have BK103 := n4_; have GW103 := n5_; have GE103 := n6_; have NB102_103 := n7_; have NB103_102 := n8_; clear n0_ n1_ n2_ n3_ n4_ n5_ n6_ n7_ n8_; clear hb hbox hg; have hnb12 := NB102_103.out; have hnc12 := NB103_102.out; have hcz13_0 : w11.cell? ⟨gb102, 0, none⟩ = some (.bool a0_0) := (blk_cell BK102.out 0).trans rfl; have hcz13_1 : w11.cell? ⟨gb102, 1, none⟩ = some (.slice Ao9 l0_1.length co9) := (blk_cell BK102.out 1).trans rfl; have hcz13_2 : w11.cell? ⟨gb102, 2, none⟩ = some (.int .i64 a0_2) := (blk_cell BK102.out 2).trans rfl; have hfz13_0 := blk_frozen BK102.out 0; have hfz13_1 := blk_frozen BK102.out 1; have hfz13_2 := blk_frozen BK102.out 2; have hcz14_0 : w11.cell? ⟨gb103, 0, none⟩ = some (.bool false) := (blk_cell BK103.out 0).trans rfl; have hcz14_1 : w11.cell? ⟨gb103, 1, none⟩ = some (.slice none 0 0) := (blk_cell BK103.out 1).trans rfl; have hcz14_2 : w11.cell? ⟨gb103, 2, none⟩ = some (.int .i64 0) := (blk_cell BK103.out 2).trans rfl; have hfz14_0 := blk_frozen BK103.out 0; have hfz14_1 := blk_frozen BK103.out 1; have hfz14_2 := blk_frozen BK103.out 2))
  refine bodyPost_ret (results_cell_row rfl _ _ gb103 41 #[.bool (!a0_0), .slice Ao9 l0_1.length co9, .int .i64 a0_2] (0, 0) _ rfl (by (with_reducible repeat (first | refine blk_drewN ?_ _ | refine blk_drew ?_ | refine blk_alloc ?_ _)); refine blk_put (cs := #[.bool (!a0_0), .slice Ao9 l0_1.length co9, .int .i64 0]) ?_ 2 _ rfl; (with_reducible repeat (first | refine blk_drewN ?_ _ | refine blk_drew ?_ | refine blk_alloc ?_ _)); refine blk_put (cs := #[.bool (!a0_0), .slice none 0 0, .int .i64 0]) ?_ 1 _ rfl; (with_reducible repeat (first | refine blk_drewN ?_ _ | refine blk_drew ?_ | refine blk_alloc ?_ _)); refine blk_put (cs := #[.bool false, .slice none 0 0, .int .i64 0]) ?_ 0 _ rfl; (with_reducible repeat (first | refine blk_drewN ?_ _ | refine blk_drew ?_ | refine blk_alloc ?_ _)); exact BK103.out) Tryz.underlying41 rfl (by kernel_rfl)) rfl ?_
  exact ⟨_, by first | rfl | (simp [errW_none, errW_some] <;> rfl) | (simp [*, errW_none, errW_some] <;> rfl), by (with_reducible repeat (first | apply Kd.R_alloc | apply Kd.R_drewN | apply Kd.R_drew)); exact Kd.R_mono (Kd.R_far (p := ⟨gb103, 2, none⟩) (Kd.R_far (p := ⟨gb103, 1, none⟩) (Kd.R_far (p := ⟨gb103, 0, none⟩) (Kd.R_types HO0_1.out BK103.out (by decide)) (fun _ hk => hk.2) (.bool (!a0_0))) (fun _ hk => hk.2) (.slice Ao9 l0_1.length co9)) (fun _ hk => hk.2) (.int .i64 a0_2)) (fun _ hk => hk.1), by repeat (first | (with_reducible first | exact HB.out | apply below_alloc | apply pw_below_drewN | apply below_drew1 | refine below_set ?_ GE102.out | refine below_set ?_ GE103.out) | exact HB.out), by repeat (first | (with_reducible first | exact HK.out | apply Kept.alloc | apply Kept.drewN | apply Kept.drew | refine Kept.setCell ?_ (.inr GW102.out) _ | refine Kept.setCell ?_ (.inr GW103.out) _) | exact HK.out)⟩
def cuspref02_Less.f (a0_0 : Bool) (l0_1 : List Int) (a0_2 : Int) (a1_0 : Bool) (l1_1 : List Int) (a1_2 : Int) : Option (Bool × List Int × Int) := (cuspref02_Minus.f a1_0 l1_1 a1_2).bind fun bt107 => ((cuspref02_Plus.f a0_0 l0_1 a0_2 bt107.1 bt107.2.1 bt107.2.2).bind fun bt112 => (some (bt112.1, bt112.2.1, bt112.2.2)))
set_option maxHeartbeats 8000000 in
set_option maxRecDepth 100000 in
theorem cuspref02_Less.calls (a0_0 : Bool) (A0_1 : Option Addr) (c0_1 : Nat) (l0_1 : List Int) (a0_2 : Int) (a1_0 : Bool) (P1_1_ : Nat → Prop) (u9000_ : Value) (l1_1 : List Int) (a1_2 : Int) (r1 : Bool) (r2 : List Int) (r3 : Int) (w0 w : World) (hB : Below w0.heap.size w0 w) (hr0_1 : ∀ W_, Kept w W_ (fun k_ => P1_1_ k_) → Kd.C (Kd.int .u32) W_ A0_1 l0_1.length l0_1) (hc0_1 : l0_1.length ≤ c0_1) (ho1_1 : Kd.R (Kd.int .u32) 83 w w0.heap.size P1_1_ u9000_ l1_1) (h : cuspref02_Less.f a0_0 l0_1 a0_2 a1_0 l1_1 a1_2 = some (r1, r2, r3)) :
  Calls Tryz.prog 31 #[.agg #[.bool a0_0, .slice A0_1 l0_1.length c0_1, .int .i64 a0_2], .agg #[.bool a1_0, u9000_, .int .i64 a1_2]] w fun e w' => ∃ v1_ : Value, e = .returned (.agg #[.bool r1, v1_, .int .i64 r3]) ∧ Kd.R (Kd.int .u32) 83 w' w0.heap.size (fun k_ => (P1_1_ k_ ∨ w.heap.size ≤ k_)) v1_ r2 ∧ Below w0.heap.size w0 w' ∧ Kept w w' (fun k_ => P1_1_ k_) := by
 have hu41 := Tryz.underlying41
 have HR0_1 := asd hr0_1
 have HC0_1 := asd hc0_1
 clear hr0_1 hc0_1
 have HO1_1 := asd (show Kd.R (Kd.int .u32) 83 w w0.heap.size (fun k_ => (P1_1_ k_ ∨ w.heap.size ≤ k_)) u9000_ l1_1 from Kd.R_mono ho1_1 (fun k_ hk => (.inl hk)))
 have HK := asd (Kept.refl w (fun k_ => P1_1_ k_))
 have HW0 := asd hB.size
 have HB := asd hB
 clear hB
 have H : ((cuspref02_Minus.f a1_0 l1_1 a1_2).bind fun bt107 => ((cuspref02_Plus.f a0_0 l0_1 a0_2 bt107.1 bt107.2.1 bt107.2.2).bind fun bt112 => (some (bt112.1, bt112.2.1, bt112.2.2)))) = some (r1, r2, r3) := h
 clear h
 replace H := Option.bind_eq_some_iff.mp H
 obtain ⟨⟨t107, t108, t111⟩, A30, H⟩ := H
 replace H : ((cuspref02_Plus.f a0_0 l0_1 a0_2 t107 t108 t111).bind fun bt112 => (some (bt112.1, bt112.2.1, bt112.2.2))) = some (r1, r2, r3) := H
 have A3 := asd A30
 clear A30
 replace H := Option.bind_eq_some_iff.mp H
 obtain ⟨⟨t112, t113, t116⟩, A40, H⟩ := H
 replace H : (some (t112, t113, t116)) = some (r1, r2, r3) := H
 have A4 := asd A40
 clear A40
 simp only [Option.some.injEq, Prod.mk.injEq] at H
 obtain ⟨rfl, rfl, rfl⟩ := H
 go_enter Tryz.func31, Tryz.ntmps31
 try go_wp2_with (first | ((with_reducible refine gate_dst (N := 2) rfl ?_); refine box_event ?hg (N := 2) ?hd (cs := #[.bool a0_0, .slice A0_1 l0_1.length c0_1, .int .i64 a0_2]) (t := 41) ?hr ?_; (case hd => rfl); (case hg => rfl); (case hr => first | (go_simp; done) | (go_simp; rfl)); intro gb104 hg w5 hbox hb; have n0_ := asd (Kd.R_below (rUp HO1_1.out) hb); have n1_ := asd (Kept.below (S := (fun k_ => P1_1_ k_)) (by repeat (first | (with_reducible first | exact HK.out | apply Kept.alloc | apply Kept.drewN | apply Kept.drew) | exact HK.out)) hb); have n2_ := asd (below_step hbw hb); have n3_ := asd (hbox); have n4_ := asd ((by rw [hg]; exact (by first | exact HK.out.1 | exact (show Kept w _ (fun k_ => P1_1_ k_) from by repeat (first | (with_reducible first | exact HK.out | apply Kept.alloc | apply Kept.drewN | apply Kept.drew) | exact HK.out)).1) : w.heap.size ≤ gb104)); have n5_ := asd ((by rw [hg]; exact (below_size hbw) : w0.heap.size ≤ gb104)); clear HO1_1; clear HK; clear HB; have HO1_1 := n0_; have HK := n1_; have HB := n2_; have BK104 := n3_; have GW104 := n4_; have GE104 := n5_; clear n0_ n1_ n2_ n3_ n4_ n5_; clear hb hbox hg; obtain ⟨Ao6, co6, eo6⟩ := Kd.R_slice HO1_1.out; subst eo6) | ((with_reducible refine gate_dst (N := 3) rfl ?_); refine box_event ?hg (N := 3) ?hd (cs := #[.bool a1_0, .slice Ao6 l1_1.length co6, .int .i64 a1_2]) (t := 41) ?hr ?_; (case hd => rfl); (case hg => rfl); (case hr => first | (go_simp; done) | (go_simp; rfl)); intro gb105 hg w7 hbox hb; have n0_ := asd (Kd.R_below (rUp HO1_1.out) hb); have n1_ := asd (blk_below (g := gb104) (o := .cells #[.bool a0_0, .slice A0_1 l0_1.length c0_1, .int .i64 a0_2] 41 (0, 0)) (blkU BK104.out) hb); have n2_ := asd (Kept.below (S := (fun k_ => P1_1_ k_)) (by repeat (first | (with_reducible first | exact HK.out | apply Kept.alloc | apply Kept.drewN | apply Kept.drew | refine Kept.setCell ?_ (.inr GW104.out) _) | exact HK.out)) hb); have n3_ := asd (below_step (by repeat (first | (with_reducible first | exact HB.out | apply below_alloc | apply pw_below_drewN | apply below_drew1 | refine below_set ?_ GE104.out) | exact HB.out)) hb); have n4_ := asd (hbox); have n5_ := asd ((by rw [hg]; exact (by first | exact HK.out.1 | exact (show Kept w _ (fun k_ => P1_1_ k_) from by repeat (first | (with_reducible first | exact HK.out | apply Kept.alloc | apply Kept.drewN | apply Kept.drew | refine Kept.setCell ?_ (.inr GW104.out) _) | exact HK.out)).1) : w.heap.size ≤ gb105)); have n6_ := asd ((by rw [hg]; exact (below_size (by repeat (first | (with_reducible first | exact HB.out | apply below_alloc | apply pw_below_drewN | apply below_drew1 | refine below_set ?_ GE104.out) | exact HB.out))) : w0.heap.size ≤ gb105)); have n7_ := asd ((by rw [hg]; exact Nat.ne_of_lt (blk_lt (g := gb104) (o := .cells #[.bool a0_0, .slice A0_1 l0_1.length c0_1, .int .i64 a0_2] 41 (0, 0)) (blkU BK104.out)) : gb104 ≠ gb105)); have n8_ := asd ((by rw [hg]; exact Nat.ne_of_gt (blk_lt (g := gb104) (o := .cells #[.bool a0_0, .slice A0_1 l0_1.length c0_1, .int .i64 a0_2] 41 (0, 0)) (blkU BK104.out)) : gb105 ≠ gb104)); clear HO1_1; clear BK104; clear HK; clear HB; have HO1_1 := n0_; have BK104 := n1_; have HK := n2_; have HB := n3_; have BK105 := n4_; have GW105 := n5_; have GE105 := n6_; have NB104_105 := n7_; have NB105_104 := n8_; clear n0_ n1_ n2_ n3_ n4_ n5_ n6_ n7_ n8_; clear hb hbox hg) | ((with_reducible refine gate_dst (N := 4) rfl ?_); refine box_event ?hg (N := 4) ?hd (cs := #[.bool false, .slice none 0 0, .int .i64 0]) (t := 41) ?hr ?_; (case hd => rfl); (case hg => rfl); (case hr => first | (go_simp; done) | (go_simp; rfl)); intro gb106 hg w8 hbox hb; have n0_ := asd (Kd.R_below (rUp HO1_1.out) hb); have n1_ := asd (blk_below (g := gb104) (o := .cells #[.bool a0_0, .slice A0_1 l0_1.length c0_1, .int .i64 a0_2] 41 (0, 0)) (blkU BK104.out) hb); have n2_ := asd (blk_below (g := gb105) (o := .cells #[.bool a1_0, .slice Ao6 l1_1.length co6, .int .i64 a1_2] 41 (0, 0)) (blkU BK105.out) hb); have n3_ := asd (Kept.below (S := (fun k_ => P1_1_ k_)) (by repeat (first | (with_reducible first | exact HK.out | apply Kept.alloc | apply Kept.drewN | apply Kept.drew | refine Kept.setCell ?_ (.inr GW104.out) _ | refine Kept.setCell ?_ (.inr GW105.out) _) | exact HK.out)) hb); have n4_ := asd (below_step (by repeat (first | (with_reducible first | exact HB.out | apply below_alloc | apply pw_below_drewN | apply below_drew1 | refine below_set ?_ GE104.out | refine below_set ?_ GE105.out) | exact HB.out)) hb); have n5_ := asd (hbox); have n6_ := asd ((by rw [hg]; exact (by first | exact HK.out.1 | exact (show Kept w _ (fun k_ => P1_1_ k_) from by repeat (first | (with_reducible first | exact HK.out | apply Kept.alloc | apply Kept.drewN | apply Kept.drew | refine Kept.setCell ?_ (.inr GW104.out) _ | refine Kept.setCell ?_ (.inr GW105.out) _) | exact HK.out)).1) : w.heap.size ≤ gb106)); have n7_ := asd ((by rw [hg]; exact (below_size (by repeat (first | (with_reducible first | exact HB.out | apply below_alloc | apply pw_below_drewN | apply below_drew1 | refine below_set ?_ GE104.out | refine below_set ?_ GE105.out) | exact HB.out))) : w0.heap.size ≤ gb106)); have n8_ := asd ((by rw [hg]; exact Nat.ne_of_lt (blk_lt (g := gb104) (o := .cells #[.bool a0_0, .slice A0_1 l0_1.length c0_1, .int .i64 a0_2] 41 (0, 0)) (blkU BK104.out)) : gb104 ≠ gb106)); have n9_ := asd ((by rw [hg]; exact Nat.ne_of_gt (blk_lt (g := gb104) (o := .cells #[.bool a0_0, .slice A0_1 l0_1.length c0_1, .int .i64 a0_2] 41 (0, 0)) (blkU BK104.out)) : gb106 ≠ gb104)); have n10_ := asd ((by rw [hg]; exact Nat.ne_of_lt (blk_lt (g := gb105) (o := .cells #[.bool a1_0, .slice Ao6 l1_1.length co6, .int .i64 a1_2] 41 (0, 0)) (blkU BK105.out)) : gb105 ≠ gb106)); have n11_ := asd ((by rw [hg]; exact Nat.ne_of_gt (blk_lt (g := gb105) (o := .cells #[.bool a1_0, .slice Ao6 l1_1.length co6, .int .i64 a1_2] 41 (0, 0)) (blkU BK105.out)) : gb106 ≠ gb105)); clear HO1_1; clear BK104; clear BK105; clear HK; clear HB; have HO1_1 := n0_; have BK104 := n1_; have BK105 := n2_; have HK := n3_; have HB := n4_; have BK106 := n5_; have GW106 := n6_; have GE106 := n7_; have NB104_106 := n8_; have NB106_104 := n9_; have NB105_106 := n10_; have NB106_105 := n11_; clear n0_ n1_ n2_ n3_ n4_ n5_ n6_ n7_ n8_ n9_ n10_ n11_; clear hb hbox hg))
 have n0_ := asd (Kd.R_drew HO1_1.out)
 have n1_ := asd (blk_drew BK104.out)
 have n2_ := asd (blk_drew BK105.out)
 have n3_ := asd (blk_drew BK106.out)
 have n4_ := asd (Kept.drew HK.out)
 have n5_ := asd (below_drew1 HB.out)
 clear HO1_1
 clear BK104
 clear BK105
 clear BK106
 clear HK
 clear HB
 have HO1_1 := n0_
 have BK104 := n1_
 have BK105 := n2_
 have BK106 := n3_
 have HK := n4_
 have HB := n5_
 clear n0_ n1_ n2_ n3_ n4_ n5_
 refine start_ (n := 5) (S := fun w' => w'.cell? ⟨gb104, 0, none⟩ = some (.bool a0_0) ∧ w'.cell? ⟨gb104, 1, none⟩ = some (.slice A0_1 l0_1.length c0_1) ∧ w'.cell? ⟨gb104, 2, none⟩ = some (.int .i64 a0_2) ∧ w'.cell? ⟨gb105, 0, none⟩ = some (.bool a1_0) ∧ w'.cell? ⟨gb105, 1, none⟩ = some (.slice Ao6 l1_1.length co6) ∧ w'.cell? ⟨gb105, 2, none⟩ = some (.int .i64 a1_2)) (ds := []) #[false, false, false, false, false] (by kernel_rfl) rfl rfl ⟨(blk_cell BK104.out 0).trans rfl, (blk_cell BK104.out 1).trans rfl, (blk_cell BK104.out 2).trans rfl, (blk_cell BK105.out 0).trans rfl, (blk_cell BK105.out 1).trans rfl, (blk_cell BK105.out 2).trans rfl⟩ (fun hHeld => ?_)
 generalize w8.drew = w9 at HO1_1 BK104 BK105 BK106 HK HB hHeld ⊢
 refine take_ (i := 0) (N := some 5) (v := ?_) (a' := ?_) #[true, false, false, false, false] rfl rfl (by kernel_rfl) (fun _ _ _ h => h) (Or.inl ⟨by rfl, ?_⟩) hHeld ?_ ?_
 rotate_left
 ·rintro w' ⟨s0, s1, s2, s3, s4, s5⟩
  go_simp
  with_reducible rfl
 rotate_left
 ·simp only [Act.put, List.setIfInBounds_toArray, List.set_cons_zero, List.set_cons_succ, i64_w, i32_w]
  rfl
 refine take_ (i := 1) (N := some 6) (v := ?_) (a' := ?_) #[true, true, false, false, false] rfl rfl (by kernel_rfl) (fun _ _ _ h => h) (Or.inl ⟨by rfl, ?_⟩) hHeld ?_ ?_
 rotate_left
 ·rintro w' ⟨s0, s1, s2, s3, s4, s5⟩
  go_simp
  with_reducible rfl
 rotate_left
 ·simp only [Act.put, List.setIfInBounds_toArray, List.set_cons_zero, List.set_cons_succ, i64_w, i32_w]
  rfl
 refine one_ (i := 2) (N := some 7) #[true, true, true, false, false] rfl rfl (by kernel_rfl) (by decide) (fun K hK => ?_)
 refine goes_ Tryz.func77 (by kernel_rfl) rfl #[.agg #[.bool a1_0, .slice Ao6 l1_1.length co6, .int .i64 a1_2]] (by rfl) rfl rfl eqA ?_
 with_reducible refine (cuspref02_Minus.calls a1_0 (fun k_ => some k_ = (.slice Ao6 l1_1.length co6 : Value).ownBlock) (.slice Ao6 l1_1.length co6) l1_1 a1_2 t107 t108 t111 w0 _ ?side1 ?side2 A3.out).mono ?_
 (case side1 => repeat (first | (with_reducible first | exact HB.out | apply below_alloc | apply pw_below_drewN | apply below_drew1 | refine below_set ?_ GE104.out | refine below_set ?_ GE105.out | refine below_set ?_ GE106.out) | exact HB.out))
 (case side2 => exact Kd.R_tight rfl HO1_1.out)
 rintro e w10 ⟨v109, rfl, ho0, hb, hkp⟩
 refine ⟨_, rfl, ?_⟩
 have n0_ := asd (blk_kept (blkU BK104.out) hkp (fun hs_ => (fun e_ => (Kd.R_ne HO1_1.out BK104.out (by decide)) e_) hs_))
 have n1_ := asd (blk_kept (blkU BK105.out) hkp (fun hs_ => (fun e_ => (Kd.R_ne HO1_1.out BK105.out (by decide)) e_) hs_))
 have n2_ := asd (blk_kept (blkU BK106.out) hkp (fun hs_ => (fun e_ => (Kd.R_ne HO1_1.out BK106.out (by decide)) e_) hs_))
 have n3_ := asd (Kd.R_mono (ok' := fun k_ => (P1_1_ k_ ∨ w.heap.size ≤ k_)) ho0 (fun k_ hk_ => Or.elim hk_ (fun hs_ => (HO1_1.out.1 k_ (hs_).symm)) (fun hn_ => (.inr (Nat.le_trans (by first | exact HK.out.1 | exact (show Kept w _ (fun k_ => P1_1_ k_) from by repeat (first | (with_reducible first | exact HK.out | apply Kept.alloc | apply Kept.drewN | apply Kept.drew | refine Kept.setCell ?_ (.inr GW104.out) _ | refine Kept.setCell ?_ (.inr GW105.out) _ | refine Kept.setCell ?_ (.inr GW106.out) _) | exact HK.out)).1) hn_)))))
 have n4_ := asd (Kept.then_ (S := (fun k_ => P1_1_ k_)) (by repeat (first | (with_reducible first | exact HK.out | apply Kept.alloc | apply Kept.drewN | apply Kept.drew | refine Kept.setCell ?_ (.inr GW104.out) _ | refine Kept.setCell ?_ (.inr GW105.out) _ | refine Kept.setCell ?_ (.inr GW106.out) _) | exact HK.out)) hkp (fun k_ hs_ => (fun e_ => (HO1_1.out.1 k_ e_.symm)) hs_))
 have n5_ := asd (hb)
 clear BK104
 clear BK105
 clear BK106
 clear HK
 clear HB
 clear HO1_1
 have BK104 := n0_
 have BK105 := n1_
 have BK106 := n2_
 have HO110 := n3_
 have HK := n4_
 have HB := n5_
 clear n0_ n1_ n2_ n3_ n4_ n5_
 (try clear hb)
 (try clear hkp)
 (try clear ho0)
 obtain ⟨Ao11, co11, eo11⟩ := Kd.R_slice HO110.out
 (first | subst eo11 | (injection eo11 with f1_ f2_ f3_; have f4_ := f1_.symm; have f5_ := f3_.symm; clear f1_ f2_ f3_; subst f4_; subst f5_))
 refine hK.out _ _ ⟨(blk_cell BK104.out 0).trans rfl, (blk_cell BK104.out 1).trans rfl, (blk_cell BK104.out 2).trans rfl, (blk_cell BK105.out 0).trans rfl, (blk_cell BK105.out 1).trans rfl, (blk_cell BK105.out 2).trans rfl⟩ (fun hHeld => ?_)
 clear hK K
 refine norm_ (a' := ?_) ?_ ?_
 rotate_left
 ·show Act.put _ (some 7) _ = _
  simp only [Act.put, List.setIfInBounds_toArray, List.set_cons_zero, List.set_cons_succ, i64_w, i32_w]
  rfl
 refine one_ (i := 3) (N := some 8) #[true, true, true, true, false] rfl rfl (by kernel_rfl) (by decide) (fun K hK => ?_)
 refine goes_ Tryz.func25 (by kernel_rfl) rfl #[.agg #[.bool a0_0, .slice A0_1 l0_1.length c0_1, .int .i64 a0_2], .agg #[.bool t107, .slice Ao11 t108.length co11, .int .i64 t111]] (by rfl) rfl rfl eqA ?_
 with_reducible refine (cuspref02_Plus.calls a0_0 _ _ l0_1 a0_2 t107 _ _ t108 t111 t112 t113 t116 _ ?side1 ?side2 ?side3 ?side4 A4.out).mono ?_
 (case side1 => exact Kd.C_kept_now HR0_1.out (by repeat (first | (with_reducible first | exact HK.out | apply Kept.alloc | apply Kept.drewN | apply Kept.drew | refine Kept.setCell ?_ (.inr GW104.out) _ | refine Kept.setCell ?_ (.inr GW105.out) _ | refine Kept.setCell ?_ (.inr GW106.out) _) | exact HK.out)))
 (case side2 => exact HC0_1.out)
 (case side3 => repeat (first | exact (Kd.R_reads' HO110.out).2.2 | (with_reducible refine Kd.C_alloc ?_ _) | (with_reducible refine Kd.C_drewN ?_ _) | (with_reducible refine Kd.C_drew ?_)))
 (case side4 => exact (Kd.R_reads' HO110.out).2.1)
 rintro e w12 ⟨v114, rfl, ho0, hb⟩
 refine ⟨_, rfl, ?_⟩
 have n0_ := asd (Kd.R_elder' (rUp HO110.out) (Kd.R_base ho0) hb)
 have n1_ := asd (Kd.R_lower (Kd.R_new' (Kd.R_newM (M := fun k_ => (P1_1_ k_ ∨ w.heap.size ≤ k_)) ho0 (by first | exact HK.out.1 | exact (show Kept w _ (fun k_ => P1_1_ k_) from by repeat (first | (with_reducible first | exact HK.out | apply Kept.alloc | apply Kept.drewN | apply Kept.drew | refine Kept.setCell ?_ (.inr GW104.out) _ | refine Kept.setCell ?_ (.inr GW105.out) _ | refine Kept.setCell ?_ (.inr GW106.out) _) | exact HK.out)).1) (fun k_ h_ => .inr h_)) (Kd.R_lt (rUp HO110.out))) (below_size (by repeat (first | (with_reducible first | exact HB.out | apply below_alloc | apply pw_below_drewN | apply below_drew1 | refine below_set ?_ GE104.out | refine below_set ?_ GE105.out | refine below_set ?_ GE106.out) | exact HB.out))))
 have n2_ := asd (blk_below (g := gb104) (o := .cells #[.bool a0_0, .slice A0_1 l0_1.length c0_1, .int .i64 a0_2] 41 (0, 0)) (blkU BK104.out) hb)
 have n3_ := asd (blk_below (g := gb105) (o := .cells #[.bool a1_0, .slice Ao6 l1_1.length co6, .int .i64 a1_2] 41 (0, 0)) (blkU BK105.out) hb)
 have n4_ := asd (blk_below (g := gb106) (o := .cells #[.bool false, .slice none 0 0, .int .i64 0] 41 (0, 0)) (blkU BK106.out) hb)
 have n5_ := asd (Kept.below (S := (fun k_ => P1_1_ k_)) (by repeat (first | (with_reducible first | exact HK.out | apply Kept.alloc | apply Kept.drewN | apply Kept.drew | refine Kept.setCell ?_ (.inr GW104.out) _ | refine Kept.setCell ?_ (.inr GW105.out) _ | refine Kept.setCell ?_ (.inr GW106.out) _) | exact HK.out)) hb)
 have n6_ := asd (below_step (by repeat (first | (with_reducible first | exact HB.out | apply below_alloc | apply pw_below_drewN | apply below_drew1 | refine below_set ?_ GE104.out | refine below_set ?_ GE105.out | refine below_set ?_ GE106.out) | exact HB.out)) hb)
 clear HO110
 clear BK104
 clear BK105
 clear BK106
 clear HK
 clear HB
 have HO110 := n0_
 have HO115 := n1_
 have BK104 := n2_
 have BK105 := n3_
 have BK106 := n4_
 have HK := n5_
 have HB := n6_
 clear n0_ n1_ n2_ n3_ n4_ n5_ n6_
 (try clear hb)
 (try clear hb2)
 (try clear hk)
 (try clear hi)
 (try clear ho0)
 obtain ⟨Ao14, co14, eo14⟩ := Kd.R_slice HO115.out
 (first | subst eo14 | (injection eo14 with f1_ f2_ f3_; have f4_ := f1_.symm; have f5_ := f3_.symm; clear f1_ f2_ f3_; subst f4_; subst f5_))
 refine hK.out _ _ ⟨(blk_cell BK104.out 0).trans rfl, (blk_cell BK104.out 1).trans rfl, (blk_cell BK104.out 2).trans rfl, (blk_cell BK105.out 0).trans rfl, (blk_cell BK105.out 1).trans rfl, (blk_cell BK105.out 2).trans rfl⟩ (fun hHeld => ?_)
 clear hK K
 refine norm_ (a' := ?_) ?_ ?_
 rotate_left
 ·show Act.put _ (some 8) _ = _
  simp only [Act.put, List.setIfInBounds_toArray, List.set_cons_zero, List.set_cons_succ, i64_w, i32_w]
  rfl
 refine one_ (i := 4) (N := none) #[true, true, true, true, true] rfl rfl (by kernel_rfl) (by decide) (fun K hK => ?_)
 have hs13 : w12.cell? ⟨gb106, 0, none⟩ = some (.bool false) := (blk_cell BK106.out 0).trans rfl
 have hfs13 := blk_frozen BK106.out 0
 have hns13_0 := NB104_106.out
 have hns13_1 := NB105_106.out
 have hms13_0 := NB106_104.out
 have hms13_1 := NB106_105.out
 have hs15 : w12.cell? ⟨gb106, 1, none⟩ = some (.slice none 0 0) := (blk_cell BK106.out 1).trans rfl
 have hfs15 := blk_frozen BK106.out 1
 have hns15_0 := NB104_106.out
 have hns15_1 := NB105_106.out
 have hms15_0 := NB106_104.out
 have hms15_1 := NB106_105.out
 have hs16 : w12.cell? ⟨gb106, 2, none⟩ = some (.int .i64 0) := (blk_cell BK106.out 2).trans rfl
 have hfs16 := blk_frozen BK106.out 2
 have hns16_0 := NB104_106.out
 have hns16_1 := NB105_106.out
 have hms16_0 := NB106_104.out
 have hms16_1 := NB106_105.out
 refine skip_ (w1 := ?_) (by rfl) rfl ?_ ?_
 rotate_left
 ·go_simp
  rfl
 refine hK.out _ _ ⟨((cell_far (p := ⟨gb106, _, none⟩) NB104_106.out _).trans (((cell_far (p := ⟨gb106, _, none⟩) NB104_106.out _).trans (((cell_far (p := ⟨gb106, _, none⟩) NB104_106.out _).trans (hHeld.1)))))), ((cell_far (p := ⟨gb106, _, none⟩) NB104_106.out _).trans (((cell_far (p := ⟨gb106, _, none⟩) NB104_106.out _).trans (((cell_far (p := ⟨gb106, _, none⟩) NB104_106.out _).trans (hHeld.2.1)))))), ((cell_far (p := ⟨gb106, _, none⟩) NB104_106.out _).trans (((cell_far (p := ⟨gb106, _, none⟩) NB104_106.out _).trans (((cell_far (p := ⟨gb106, _, none⟩) NB104_106.out _).trans (hHeld.2.2.1)))))), ((cell_far (p := ⟨gb106, _, none⟩) NB105_106.out _).trans (((cell_far (p := ⟨gb106, _, none⟩) NB105_106.out _).trans (((cell_far (p := ⟨gb106, _, none⟩) NB105_106.out _).trans (hHeld.2.2.2.1)))))), ((cell_far (p := ⟨gb106, _, none⟩) NB105_106.out _).trans (((cell_far (p := ⟨gb106, _, none⟩) NB105_106.out _).trans (((cell_far (p := ⟨gb106, _, none⟩) NB105_106.out _).trans (hHeld.2.2.2.2.1)))))), ((cell_far (p := ⟨gb106, _, none⟩) NB105_106.out _).trans (((cell_far (p := ⟨gb106, _, none⟩) NB105_106.out _).trans (((cell_far (p := ⟨gb106, _, none⟩) NB105_106.out _).trans (hHeld.2.2.2.2.2))))))⟩ (fun hHeld => ?_)
 clear hK K
 refine done_ (by kernel_rfl) ?_
 try go_wp2
 refine bodyPost_ret (results_cell_row rfl _ _ gb106 41 #[.bool t112, .slice Ao14 t113.length co14, .int .i64 t116] (0, 0) _ rfl (by (with_reducible repeat (first | refine blk_drewN ?_ _ | refine blk_drew ?_ | refine blk_alloc ?_ _)); refine blk_put (cs := #[.bool t112, .slice Ao14 t113.length co14, .int .i64 0]) ?_ 2 _ rfl; (with_reducible repeat (first | refine blk_drewN ?_ _ | refine blk_drew ?_ | refine blk_alloc ?_ _)); refine blk_put (cs := #[.bool t112, .slice none 0 0, .int .i64 0]) ?_ 1 _ rfl; (with_reducible repeat (first | refine blk_drewN ?_ _ | refine blk_drew ?_ | refine blk_alloc ?_ _)); refine blk_put (cs := #[.bool false, .slice none 0 0, .int .i64 0]) ?_ 0 _ rfl; (with_reducible repeat (first | refine blk_drewN ?_ _ | refine blk_drew ?_ | refine blk_alloc ?_ _)); exact BK106.out) Tryz.underlying41 rfl (by kernel_rfl)) rfl ?_
 exact ⟨_, by first | rfl | (simp [errW_none, errW_some] <;> rfl) | (simp [*, errW_none, errW_some] <;> rfl), by (with_reducible repeat (first | apply Kd.R_alloc | apply Kd.R_drewN | apply Kd.R_drew)); exact Kd.R_mono (Kd.R_far (p := ⟨gb106, 2, none⟩) (Kd.R_far (p := ⟨gb106, 1, none⟩) (Kd.R_far (p := ⟨gb106, 0, none⟩) (Kd.R_types HO115.out BK106.out (by decide)) (fun _ hk => hk.2) (.bool t112)) (fun _ hk => hk.2) (.slice Ao14 t113.length co14)) (fun _ hk => hk.2) (.int .i64 t116)) (fun _ hk => hk.1.1.1), by repeat (first | (with_reducible first | exact HB.out | apply below_alloc | apply pw_below_drewN | apply below_drew1 | refine below_set ?_ GE104.out | refine below_set ?_ GE105.out | refine below_set ?_ GE106.out) | exact HB.out), by repeat (first | (with_reducible first | exact HK.out | apply Kept.alloc | apply Kept.drewN | apply Kept.drew | refine Kept.setCell ?_ (.inr GW104.out) _ | refine Kept.setCell ?_ (.inr GW105.out) _ | refine Kept.setCell ?_ (.inr GW106.out) _) | exact HK.out)⟩
end Go.Proofs.YthmeocigliephaaGreatDoor.PSv
end
section
namespace Go.Proofs.YthmeocigliephaaGreatDoor.PSv
open Go.Proofs.YthmeocigliephaaGreatDoor.PSu Go.RowKit Go.Proofs.YthmeocigliephaaGreatDoorW.PrintWords Go.Proofs.YthmeocigliephaaGreatDoorW.PrintLast Go.Proofs.YthmeocigliephaaGreatDoorW.PrintMore
attribute [local go_sem] f64bits_run f64from_run run_float_some max2_int min2_int max_two min_two max_three min_three max_four min_four
def cuspref01_Not.f  : Option (Nat) := (cuspref01_Of.f 9221120237041090560).bind fun t117 => (some t117)
set_option maxHeartbeats 8000000 in
set_option maxRecDepth 100000 in
theorem cuspref01_Not.calls  (r : Nat) (w : World) (h : cuspref01_Not.f  = some r) :
  Calls Tryz.prog 118 #[] w fun e w' => e = .returned (.float .f64 r) ∧ Drawn0 w w' := by
 have H : ((cuspref01_Of.f 9221120237041090560).bind fun t117 => (some t117)) = some r := h
 clear h
 replace H := Option.bind_eq_some_iff.mp H
 obtain ⟨t117, A10, H⟩ := H
 replace H : (some t117) = some r := H
 have A1 := asd A10
 clear A10
 obtain rfl := Option.some.inj H
 go_enter Tryz.func118, Tryz.ntmps118
 go_wp2_with (first | ((with_reducible refine gate_callee (f := 72) rfl ?_); refine goesL_ (some 1) rfl rfl Tryz.func72 (by kernel_rfl) rfl #[.int .u64 9221120237041090560] rfl eqA ?_; (with_reducible refine (cuspref01_Of.calls 9221120237041090560 t117 _ A1.out).mono ?_); rintro e w' ⟨rfl, ⟨nd, rfl⟩⟩; refine ⟨_, rfl, ?_⟩))
 go_ret
 exact ⟨by first | rfl | (simp; done) | (simp [*]; done), by repeat (first | exact Drawn0.refl _ | apply Drawn0.step)⟩
end Go.Proofs.YthmeocigliephaaGreatDoor.PSv
end
section
namespace Go.Proofs.YthmeocigliephaaGreatDoor.PSv
open Go.Proofs.YthmeocigliephaaGreatDoor.PSu Go.RowKit Go.Proofs.YthmeocigliephaaGreatDoorW.PrintWords Go.Proofs.YthmeocigliephaaGreatDoorW.PrintLast Go.Proofs.YthmeocigliephaaGreatDoorW.PrintMore
attribute [local go_sem] f64bits_run f64from_run run_float_some max2_int min2_int max_two min_two max_three min_three max_four min_four
def cuspref03_Sum0.f (a0 : Bool) (a1 : Bool) (a2 : Int) : Option (Nat) := if a0 = true then (if a1 = true then ((cuspref01_Nought.f true).bind fun t118 => (some t118)) else (if a2 = 1 then ((cuspref01_Nought.f true).bind fun t119 => (some t119)) else ((cuspref01_Nought.f false).bind fun t120 => (some t120)))) else (if a2 = 1 then ((cuspref01_Nought.f a1).bind fun t121 => (some t121)) else ((cuspref01_Nought.f false).bind fun t122 => (some t122)))
set_option maxHeartbeats 8000000 in
set_option maxRecDepth 100000 in
theorem cuspref03_Sum0.calls (a0 : Bool) (a1 : Bool) (a2 : Int) (r : Nat) (w : World) (h : cuspref03_Sum0.f a0 a1 a2 = some r) :
  Calls Tryz.prog 119 #[.bool a0, .bool a1, .int .i64 a2] w fun e w' => e = .returned (.float .f64 r) ∧ Drawn0 w w' := by
 have H : (if a0 = true then (if a1 = true then ((cuspref01_Nought.f true).bind fun t118 => (some t118)) else (if a2 = 1 then ((cuspref01_Nought.f true).bind fun t119 => (some t119)) else ((cuspref01_Nought.f false).bind fun t120 => (some t120)))) else (if a2 = 1 then ((cuspref01_Nought.f a1).bind fun t121 => (some t121)) else ((cuspref01_Nought.f false).bind fun t122 => (some t122)))) = some r := h
 clear h
 by_cases c4 : a0 = true
 ·subst c4
  have H1 : (if a1 = true then ((cuspref01_Nought.f true).bind fun t118 => (some t118)) else (if a2 = 1 then ((cuspref01_Nought.f true).bind fun t119 => (some t119)) else ((cuspref01_Nought.f false).bind fun t120 => (some t120)))) = some r := by rw [if_pos rfl] at H; exact H
  clear H
  have H := H1
  clear H1
  by_cases c5 : a1 = true
  ·subst c5
   have H1 : ((cuspref01_Nought.f true).bind fun t118 => (some t118)) = some r := by rw [if_pos rfl] at H; exact H
   clear H
   have H := H1
   clear H1
   replace H := Option.bind_eq_some_iff.mp H
   obtain ⟨t118, A60, H⟩ := H
   replace H : (some t118) = some r := H
   have A6 := asd A60
   clear A60
   obtain rfl := Option.some.inj H
   go_enter Tryz.func119, Tryz.ntmps119
   go_wp2_with (first | ((with_reducible refine gate_callee (f := 61) rfl ?_); refine goesL_ (some 21) rfl rfl Tryz.func61 (by kernel_rfl) rfl #[.bool true] rfl eqA ?_; (with_reducible refine (cuspref01_Nought.calls true t118 _ A6.out).mono ?_); rintro e w' ⟨rfl, ⟨nd, rfl⟩⟩; refine ⟨_, rfl, ?_⟩))
   go_ret
   exact ⟨by first | rfl | (simp; done) | (simp [*]; done), by repeat (first | exact Drawn0.refl _ | apply Drawn0.step)⟩
  ·replace c5 := Bool.eq_false_iff.mpr c5
   subst c5
   have H1 : (if a2 = 1 then ((cuspref01_Nought.f true).bind fun t119 => (some t119)) else ((cuspref01_Nought.f false).bind fun t120 => (some t120))) = some r := by rw [if_neg (show ¬ (false = true) by decide)] at H; exact H
   clear H
   have H := H1
   clear H1
   by_cases c7 : a2 = 1
   ·rw [if_pos c7] at H
    have c7b0 : (a2 == 1) = true := beq_iff_eq.mpr c7
    have c7b1 : (a2 != 1) = false := bne_eq_false_iff_eq.mpr c7
    clear c7
    replace H := Option.bind_eq_some_iff.mp H
    obtain ⟨t119, A80, H⟩ := H
    replace H : (some t119) = some r := H
    have A8 := asd A80
    clear A80
    obtain rfl := Option.some.inj H
    go_enter Tryz.func119, Tryz.ntmps119
    go_wp2_with (first | ((with_reducible refine gate_callee (f := 61) rfl ?_); refine goesL_ (some 21) rfl rfl Tryz.func61 (by kernel_rfl) rfl #[.bool true] rfl eqA ?_; (with_reducible refine (cuspref01_Nought.calls true t119 _ A8.out).mono ?_); rintro e w' ⟨rfl, ⟨nd, rfl⟩⟩; refine ⟨_, rfl, ?_⟩))
    go_ret
    exact ⟨by first | rfl | (simp; done) | (simp [*]; done), by repeat (first | exact Drawn0.refl _ | apply Drawn0.step)⟩
   ·rw [if_neg c7] at H
    have c7b0 : (a2 == 1) = false := beq_eq_false_iff_ne.mpr c7
    have c7b1 : (a2 != 1) = true := bne_iff_ne.mpr c7
    replace H := Option.bind_eq_some_iff.mp H
    obtain ⟨t120, A90, H⟩ := H
    replace H : (some t120) = some r := H
    have A9 := asd A90
    clear A90
    obtain rfl := Option.some.inj H
    go_enter Tryz.func119, Tryz.ntmps119
    go_wp2_with (first | ((with_reducible refine gate_callee (f := 61) rfl ?_); refine goesL_ (some 21) rfl rfl Tryz.func61 (by kernel_rfl) rfl #[.bool false] rfl eqA ?_; (with_reducible refine (cuspref01_Nought.calls false t120 _ A9.out).mono ?_); rintro e w' ⟨rfl, ⟨nd, rfl⟩⟩; refine ⟨_, rfl, ?_⟩))
    go_ret
    exact ⟨by first | rfl | (simp; done) | (simp [*]; done), by repeat (first | exact Drawn0.refl _ | apply Drawn0.step)⟩
 ·replace c4 := Bool.eq_false_iff.mpr c4
  subst c4
  have H1 : (if a2 = 1 then ((cuspref01_Nought.f a1).bind fun t121 => (some t121)) else ((cuspref01_Nought.f false).bind fun t122 => (some t122))) = some r := by rw [if_neg (show ¬ (false = true) by decide)] at H; exact H
  clear H
  have H := H1
  clear H1
  by_cases c10 : a2 = 1
  ·rw [if_pos c10] at H
   have c10b0 : (a2 == 1) = true := beq_iff_eq.mpr c10
   have c10b1 : (a2 != 1) = false := bne_eq_false_iff_eq.mpr c10
   clear c10
   replace H := Option.bind_eq_some_iff.mp H
   obtain ⟨t121, A110, H⟩ := H
   replace H : (some t121) = some r := H
   have A11 := asd A110
   clear A110
   obtain rfl := Option.some.inj H
   go_enter Tryz.func119, Tryz.ntmps119
   go_wp2_with (first | ((with_reducible refine gate_callee (f := 61) rfl ?_); refine goesL_ (some 21) rfl rfl Tryz.func61 (by kernel_rfl) rfl #[.bool a1] rfl eqA ?_; (with_reducible refine (cuspref01_Nought.calls a1 t121 _ A11.out).mono ?_); rintro e w' ⟨rfl, ⟨nd, rfl⟩⟩; refine ⟨_, rfl, ?_⟩))
   go_ret
   exact ⟨by first | rfl | (simp; done) | (simp [*]; done), by repeat (first | exact Drawn0.refl _ | apply Drawn0.step)⟩
  ·rw [if_neg c10] at H
   have c10b0 : (a2 == 1) = false := beq_eq_false_iff_ne.mpr c10
   have c10b1 : (a2 != 1) = true := bne_iff_ne.mpr c10
   replace H := Option.bind_eq_some_iff.mp H
   obtain ⟨t122, A120, H⟩ := H
   replace H : (some t122) = some r := H
   have A12 := asd A120
   clear A120
   obtain rfl := Option.some.inj H
   go_enter Tryz.func119, Tryz.ntmps119
   go_wp2_with (first | ((with_reducible refine gate_callee (f := 61) rfl ?_); refine goesL_ (some 21) rfl rfl Tryz.func61 (by kernel_rfl) rfl #[.bool false] rfl eqA ?_; (with_reducible refine (cuspref01_Nought.calls false t122 _ A12.out).mono ?_); rintro e w' ⟨rfl, ⟨nd, rfl⟩⟩; refine ⟨_, rfl, ?_⟩))
   go_ret
   exact ⟨by first | rfl | (simp; done) | (simp [*]; done), by repeat (first | exact Drawn0.refl _ | apply Drawn0.step)⟩
def cuspref03_sign.f (a0 : Nat) : Option (Bool) := (cuspref01_Neg.f a0).bind fun t123 => (some t123)
set_option maxHeartbeats 8000000 in
set_option maxRecDepth 100000 in
theorem cuspref03_sign.calls (a0 : Nat) (r : Bool) (w : World) (h : cuspref03_sign.f a0 = some r) :
  Calls Tryz.prog 120 #[.float .f64 a0] w fun e w' => e = .returned (.bool r) ∧ Drawn0 w w' := by
 have H : ((cuspref01_Neg.f a0).bind fun t123 => (some t123)) = some r := h
 clear h
 replace H := Option.bind_eq_some_iff.mp H
 obtain ⟨t123, A20, H⟩ := H
 replace H : (some t123) = some r := H
 have A2 := asd A20
 clear A20
 obtain rfl := Option.some.inj H
 go_enter Tryz.func120, Tryz.ntmps120
 go_wp2_with (first | ((with_reducible refine gate_callee (f := 59) rfl ?_); refine goesL_ (some 4) rfl rfl Tryz.func59 (by kernel_rfl) rfl #[.float .f64 a0] rfl eqA ?_; (with_reducible refine (cuspref01_Neg.calls a0 t123 _ A2.out).mono ?_); rintro e w' ⟨rfl, ⟨nd, rfl⟩⟩; refine ⟨_, rfl, ?_⟩))
 go_ret
 exact ⟨by first | rfl | (simp; done) | (simp [*]; done), by repeat (first | exact Drawn0.refl _ | apply Drawn0.step)⟩
mutual
def cuspref03_Add.j0 : Nat → Nat → Nat → Int → Bool → Option (Nat)
 | 0, _, _, _, _ => none
 | k + 1, x0, x1, x2, x7 => if x7 = true then ((cuspref01_Not.f).bind fun t127 => (some t127)) else ((cuspref01_IsInf.f x0).bind fun t128 => (if t128 = true then ((cuspref01_IsInf.f x1).bind fun t129 => (cuspref03_Add.j1 k x0 x1 x2 t129)) else (cuspref03_Add.j1 k x0 x1 x2 false)))
def cuspref03_Add.j1 : Nat → Nat → Nat → Int → Bool → Option (Nat)
 | 0, _, _, _, _ => none
 | k + 1, x0, x1, x2, x20 => if x20 = true then ((cuspref01_Neg.f x0).bind fun t130 => ((cuspref01_Neg.f x1).bind fun t131 => (if (t130 != t131) = true then ((cuspref01_Not.f).bind fun t132 => (some t132)) else (some x0)))) else ((cuspref01_IsInf.f x0).bind fun t133 => (if t133 = true then (some x0) else ((cuspref01_IsInf.f x1).bind fun t134 => (if t134 = true then (some x1) else ((cuspref02_Float.f k x0).bind fun bt135 => ((cuspref02_Float.f k x1).bind fun bt140 => ((cuspref02_Plus.f bt135.1 bt135.2.1 bt135.2.2 bt140.1 bt140.2.1 bt140.2.2).bind fun bt145 => ((cuspref03_sign.f x0).bind fun t150 => ((cuspref03_sign.f x1).bind fun t151 => ((cuspref03_Sum0.f t150 t151 x2).bind fun t152 => ((cuspref03_R.f bt145.1 bt145.2.1 bt145.2.2 x2 t152).bind fun t153 => (some t153))))))))))))
end
def cuspref03_Add.f (k : Nat) (a0 : Nat) (a1 : Nat) (a2 : Int) : Option (Nat) := (cuspref03_Valid.f a2).bind fun t124 => (if t124 = 0 then ((cuspref01_IsNaN.f a0).bind fun t125 => (if t125 = true then (cuspref03_Add.j0 k a0 a1 a2 true) else ((cuspref01_IsNaN.f a1).bind fun t126 => (cuspref03_Add.j0 k a0 a1 a2 t126)))) else (cuspref03_Add.j0 k a0 a1 a2 true))
theorem cuspref03_Add.mono_l : ∀ k, (∀ y0 y1 y2 y3, LeO (cuspref03_Add.j0 k y0 y1 y2 y3) (cuspref03_Add.j0 (k + 1) y0 y1 y2 y3)) ∧ (∀ y0 y1 y2 y3, LeO (cuspref03_Add.j1 k y0 y1 y2 y3) (cuspref03_Add.j1 (k + 1) y0 y1 y2 y3))
 | 0 => ⟨fun _ _ _ _ r h => by simp [cuspref03_Add.j0] at h, fun _ _ _ _ r h => by simp [cuspref03_Add.j1] at h⟩
 | k + 1 => by
  obtain ⟨ih0, ih1⟩ := cuspref03_Add.mono_l k
  refine ⟨?_, ?_⟩
  ·intro y0 y1 y2 y3
   unfold cuspref03_Add.j0
   repeat' first
   | (with_reducible exact ih0 _ _ _ _)
   | (with_reducible exact ih1 _ _ _ _)
   | (with_reducible exact cuspref02_Float.mono _ _)
   | (with_reducible exact LeO.refl _)
   | (with_reducible exact LeO.none _)
   | (with_reducible refine LeO.ite ?_ ?_)
   | (with_reducible refine LeO.bind ?_ (fun _ => ?_))
   | exact ih0 _ _ _ _
   | exact ih1 _ _ _ _
   | exact cuspref02_Float.mono _ _
   | exact LeO.none _
   | refine LeO.ite ?_ ?_
   | refine LeO.bind ?_ (fun _ => ?_)
  ·intro y0 y1 y2 y3
   unfold cuspref03_Add.j1
   repeat' first
   | (with_reducible exact ih0 _ _ _ _)
   | (with_reducible exact ih1 _ _ _ _)
   | (with_reducible exact cuspref02_Float.mono _ _)
   | (with_reducible exact LeO.refl _)
   | (with_reducible exact LeO.none _)
   | (with_reducible refine LeO.ite ?_ ?_)
   | (with_reducible refine LeO.bind ?_ (fun _ => ?_))
   | exact ih0 _ _ _ _
   | exact ih1 _ _ _ _
   | exact cuspref02_Float.mono _ _
   | exact LeO.none _
   | refine LeO.ite ?_ ?_
   | refine LeO.bind ?_ (fun _ => ?_)
theorem cuspref03_Add.mono : ∀ a0 a1 a2 k, LeO (cuspref03_Add.f k a0 a1 a2) (cuspref03_Add.f (k + 1) a0 a1 a2) := by
 intro a0 a1 a2 k
 obtain ⟨ih0, ih1⟩ := cuspref03_Add.mono_l k
 unfold cuspref03_Add.f
 repeat' first
   | (with_reducible exact ih0 _ _ _ _)
   | (with_reducible exact ih1 _ _ _ _)
   | (with_reducible exact cuspref02_Float.mono _ _)
   | (with_reducible exact LeO.refl _)
   | (with_reducible exact LeO.none _)
   | (with_reducible refine LeO.ite ?_ ?_)
   | (with_reducible refine LeO.bind ?_ (fun _ => ?_))
   | exact ih0 _ _ _ _
   | exact ih1 _ _ _ _
   | exact cuspref02_Float.mono _ _
   | exact LeO.none _
   | refine LeO.ite ?_ ?_
   | refine LeO.bind ?_ (fun _ => ?_)
set_option maxHeartbeats 8000000 in
set_option maxRecDepth 100000 in
theorem cuspref03_Add.calls (k : Nat) (a0 : Nat) (a1 : Nat) (a2 : Int) (r : Nat) (w : World) (h : cuspref03_Add.f k a0 a1 a2 = some r) :
  Calls Tryz.prog 85 #[.float .f64 a0, .float .f64 a1, .int .i64 a2] w fun e w' => e = .returned (.float .f64 r) ∧ Below w.heap.size w w' := by
 have HB := asd (Below.refl w.heap.size w)
 have H : ((cuspref03_Valid.f a2).bind fun t124 => (if t124 = 0 then ((cuspref01_IsNaN.f a0).bind fun t125 => (if t125 = true then (cuspref03_Add.j0 k a0 a1 a2 true) else ((cuspref01_IsNaN.f a1).bind fun t126 => (cuspref03_Add.j0 k a0 a1 a2 t126)))) else (cuspref03_Add.j0 k a0 a1 a2 true))) = some r := h
 clear h
 have HC4 := asd H
 clear H
 go_enter Tryz.func85, Tryz.ntmps85
 go_upto_region 1 with (fail)
 go_cut [7] (fun v7 wc => ∃ (kq : Nat) (x7_3 : Bool), v7 = .bool x7_3 ∧ Aside0 (cuspref03_Add.j0 kq a0 a1 a2 x7_3 = some r) ∧ Aside0 (kq ≤ k) ∧ Aside0 (Below w.heap.size w wc))
 case first =>
  have H := HC4.out
  clear HC4
  replace H := Option.bind_eq_some_iff.mp H
  obtain ⟨t124, A50, H⟩ := H
  replace H : (if t124 = 0 then ((cuspref01_IsNaN.f a0).bind fun t125 => (if t125 = true then (cuspref03_Add.j0 k a0 a1 a2 true) else ((cuspref01_IsNaN.f a1).bind fun t126 => (cuspref03_Add.j0 k a0 a1 a2 t126)))) else (cuspref03_Add.j0 k a0 a1 a2 true)) = some r := H
  have A5 := asd A50
  clear A50
  by_cases c6 : t124 = 0
  ·rw [if_pos c6] at H
   have c6b0 : (t124 == 0) = true := beq_iff_eq.mpr c6
   have c6b1 : (t124 != 0) = false := bne_eq_false_iff_eq.mpr c6
   clear c6
   (first | rw [c6b0] | (simp only [i64_w, i32_w]; rw [c6b0]) | skip)
   replace H := Option.bind_eq_some_iff.mp H
   obtain ⟨t125, A70, H⟩ := H
   replace H : (if t125 = true then (cuspref03_Add.j0 k a0 a1 a2 true) else ((cuspref01_IsNaN.f a1).bind fun t126 => (cuspref03_Add.j0 k a0 a1 a2 t126))) = some r := H
   have A7 := asd A70
   clear A70
   by_cases c8 : t125 = true
   ·subst c8
    have H1 : (cuspref03_Add.j0 k a0 a1 a2 true) = some r := by rw [if_pos rfl] at H; exact H
    clear H
    have H := H1
    clear H1
    have H' := asd H
    clear H
    go_wp2_with (first | ((with_reducible refine gate_callee (f := 56) rfl ?_); refine goesL_ (some 9) rfl rfl Tryz.func56 (by kernel_rfl) rfl #[.int .i64 a2] rfl eqA ?_; (with_reducible refine (cuspref03_Valid.calls a2 t124 _ A5.out).mono ?_); rintro e w' ⟨rfl, ⟨nd, rfl⟩⟩; refine ⟨_, rfl, ?_⟩) | (go_at_call 73; (with_reducible refine (cuspref01_IsNaN.calls a0 true _ A7.out).mono ?_); rintro e w' ⟨rfl, ⟨nd, rfl⟩⟩))
    go_meet
    case rel => exact ⟨_, (true), (by first | rfl | (simp; done) | (simp [*]; done)), H', ⟨by first | omega | exact Nat.le_refl _⟩, ⟨hbw⟩⟩
   ·replace c8 := Bool.eq_false_iff.mpr c8
    subst c8
    have H1 : ((cuspref01_IsNaN.f a1).bind fun t126 => (cuspref03_Add.j0 k a0 a1 a2 t126)) = some r := by rw [if_neg (show ¬ (false = true) by decide)] at H; exact H
    clear H
    have H := H1
    clear H1
    replace H := Option.bind_eq_some_iff.mp H
    obtain ⟨t126, A90, H⟩ := H
    replace H : (cuspref03_Add.j0 k a0 a1 a2 t126) = some r := H
    have A9 := asd A90
    clear A90
    have H' := asd H
    clear H
    go_wp2_with (first | ((with_reducible refine gate_callee (f := 56) rfl ?_); refine goesL_ (some 9) rfl rfl Tryz.func56 (by kernel_rfl) rfl #[.int .i64 a2] rfl eqA ?_; (with_reducible refine (cuspref03_Valid.calls a2 t124 _ A5.out).mono ?_); rintro e w' ⟨rfl, ⟨nd, rfl⟩⟩; refine ⟨_, rfl, ?_⟩) | (go_at_call 73; (with_reducible refine (cuspref01_IsNaN.calls a0 false _ A7.out).mono ?_); rintro e w' ⟨rfl, ⟨nd, rfl⟩⟩) | (go_at_call 73; (with_reducible refine (cuspref01_IsNaN.calls a1 t126 _ A9.out).mono ?_); rintro e w' ⟨rfl, ⟨nd, rfl⟩⟩))
    go_meet
    case rel => exact ⟨_, (t126), (by first | rfl | (simp; done) | (simp [*]; done)), H', ⟨by first | omega | exact Nat.le_refl _⟩, ⟨hbw⟩⟩
  ·rw [if_neg c6] at H
   have c6b0 : (t124 == 0) = false := beq_eq_false_iff_ne.mpr c6
   have c6b1 : (t124 != 0) = true := bne_iff_ne.mpr c6
   (first | rw [c6b0] | (simp only [i64_w, i32_w]; rw [c6b0]) | skip)
   have H' := asd H
   clear H
   go_wp2_with (first | ((with_reducible refine gate_callee (f := 56) rfl ?_); refine goesL_ (some 9) rfl rfl Tryz.func56 (by kernel_rfl) rfl #[.int .i64 a2] rfl eqA ?_; (with_reducible refine (cuspref03_Valid.calls a2 t124 _ A5.out).mono ?_); rintro e w' ⟨rfl, ⟨nd, rfl⟩⟩; refine ⟨_, rfl, ?_⟩))
   go_meet
   case rel => exact ⟨_, (true), (by first | rfl | (simp; done) | (simp [*]; done)), H', ⟨by first | omega | exact Nat.le_refl _⟩, ⟨hbw⟩⟩
 case rest =>
  clear HC4
  try clear p2
  try clear c5
  try clear c6
  try clear c6b0
  try clear c6b1
  try clear c8
  obtain ⟨kq, x7_3, rfl, HA, HJ3, HB⟩ := hcut
  cases kq with
  | zero => exact absurd HA.out (by simp [cuspref03_Add.j0])
  | succ kj3 =>
   have H := HA.out
   clear HA
   simp only [cuspref03_Add.j0] at H
   by_cases c10 : x7_3 = true
   ·subst c10
    have H1 : ((cuspref01_Not.f).bind fun t127 => (some t127)) = some r := by rw [if_pos rfl] at H; exact H
    clear H
    have H := H1
    clear H1
    replace H := Option.bind_eq_some_iff.mp H
    obtain ⟨t127, A110, H⟩ := H
    replace H : (some t127) = some r := H
    have A11 := asd A110
    clear A110
    obtain rfl := Option.some.inj H
    go_wp2_with (first | ((with_reducible refine gate_callee (f := 118) rfl ?_); refine goesL_ (some 19) rfl rfl Tryz.func118 (by kernel_rfl) rfl #[] rfl eqA ?_; (with_reducible refine (cuspref01_Not.calls  t127 _ A11.out).mono ?_); rintro e w' ⟨rfl, ⟨nd, rfl⟩⟩; refine ⟨_, rfl, ?_⟩))
    go_ret
    exact ⟨by first | rfl | (simp [errW_none, errW_some] <;> rfl) | (simp [*, errW_none, errW_some] <;> rfl), hbw⟩
   ·replace c10 := Bool.eq_false_iff.mpr c10
    subst c10
    have H1 : ((cuspref01_IsInf.f a0).bind fun t128 => (if t128 = true then ((cuspref01_IsInf.f a1).bind fun t129 => (cuspref03_Add.j1 kj3 a0 a1 a2 t129)) else (cuspref03_Add.j1 kj3 a0 a1 a2 false))) = some r := by rw [if_neg (show ¬ (false = true) by decide)] at H; exact H
    clear H
    have H := H1
    clear H1
    have HC12 := asd H
    clear H
    go_upto_region 3 with (fail)
    go_cut [20] (fun v20 wc => ∃ (kq : Nat) (x20_11 : Bool), v20 = .bool x20_11 ∧ Aside0 (cuspref03_Add.j1 kq a0 a1 a2 x20_11 = some r) ∧ Aside0 (kq ≤ kj3) ∧ Aside0 (Below w.heap.size w wc))
    case first =>
     have H := HC12.out
     clear HC12
     replace H := Option.bind_eq_some_iff.mp H
     obtain ⟨t128, A130, H⟩ := H
     replace H : (if t128 = true then ((cuspref01_IsInf.f a1).bind fun t129 => (cuspref03_Add.j1 kj3 a0 a1 a2 t129)) else (cuspref03_Add.j1 kj3 a0 a1 a2 false)) = some r := H
     have A13 := asd A130
     clear A130
     by_cases c14 : t128 = true
     ·subst c14
      have H1 : ((cuspref01_IsInf.f a1).bind fun t129 => (cuspref03_Add.j1 kj3 a0 a1 a2 t129)) = some r := by rw [if_pos rfl] at H; exact H
      clear H
      have H := H1
      clear H1
      replace H := Option.bind_eq_some_iff.mp H
      obtain ⟨t129, A150, H⟩ := H
      replace H : (cuspref03_Add.j1 kj3 a0 a1 a2 t129) = some r := H
      have A15 := asd A150
      clear A150
      have H' := asd H
      clear H
      go_wp2_with (first | ((with_reducible refine gate_callee (f := 74) rfl ?_); refine goesL_ (some 22) rfl rfl Tryz.func74 (by kernel_rfl) rfl #[.float .f64 a0] rfl eqA ?_; (with_reducible refine (cuspref01_IsInf.calls a0 true _ A13.out).mono ?_); rintro e w' ⟨rfl, ⟨nd, rfl⟩⟩; refine ⟨_, rfl, ?_⟩) | (go_at_call 74; (with_reducible refine (cuspref01_IsInf.calls a1 t129 _ A15.out).mono ?_); rintro e w' ⟨rfl, ⟨nd, rfl⟩⟩))
      go_meet
      case rel => exact ⟨_, (t129), (by first | rfl | (simp; done) | (simp [*]; done)), H', ⟨by have := HJ3.out; first | omega | exact Nat.le_refl _⟩, ⟨hbw⟩⟩
     ·replace c14 := Bool.eq_false_iff.mpr c14
      subst c14
      have H1 : (cuspref03_Add.j1 kj3 a0 a1 a2 false) = some r := by rw [if_neg (show ¬ (false = true) by decide)] at H; exact H
      clear H
      have H := H1
      clear H1
      have H' := asd H
      clear H
      go_wp2_with (first | ((with_reducible refine gate_callee (f := 74) rfl ?_); refine goesL_ (some 22) rfl rfl Tryz.func74 (by kernel_rfl) rfl #[.float .f64 a0] rfl eqA ?_; (with_reducible refine (cuspref01_IsInf.calls a0 false _ A13.out).mono ?_); rintro e w' ⟨rfl, ⟨nd, rfl⟩⟩; refine ⟨_, rfl, ?_⟩))
      go_meet
      case rel => exact ⟨_, (false), (by first | rfl | (simp; done) | (simp [*]; done)), H', ⟨by have := HJ3.out; first | omega | exact Nat.le_refl _⟩, ⟨hbw⟩⟩
    case rest =>
     clear HC12
     try clear c1
     try clear p2
     try clear c5
     try clear c6
     try clear c6b0
     try clear c6b1
     try clear c7
     try clear c8
     try clear c10
     try clear c11
     try clear c14
     try clear p2
     obtain ⟨kq, x20_11, rfl, HA, HJ11, HB⟩ := hcut
     cases kq with
     | zero => exact absurd HA.out (by simp [cuspref03_Add.j1])
     | succ kj11 =>
      have H := HA.out
      clear HA
      simp only [cuspref03_Add.j1] at H
      by_cases c16 : x20_11 = true
      ·subst c16
       have H1 : ((cuspref01_Neg.f a0).bind fun t130 => ((cuspref01_Neg.f a1).bind fun t131 => (if (t130 != t131) = true then ((cuspref01_Not.f).bind fun t132 => (some t132)) else (some a0)))) = some r := by rw [if_pos rfl] at H; exact H
       clear H
       have H := H1
       clear H1
       replace H := Option.bind_eq_some_iff.mp H
       obtain ⟨t130, A170, H⟩ := H
       replace H : ((cuspref01_Neg.f a1).bind fun t131 => (if (t130 != t131) = true then ((cuspref01_Not.f).bind fun t132 => (some t132)) else (some a0))) = some r := H
       have A17 := asd A170
       clear A170
       replace H := Option.bind_eq_some_iff.mp H
       obtain ⟨t131, A180, H⟩ := H
       replace H : (if (t130 != t131) = true then ((cuspref01_Not.f).bind fun t132 => (some t132)) else (some a0)) = some r := H
       have A18 := asd A180
       clear A180
       by_cases c19 : (t130 != t131) = true
       ·rw [if_pos c19] at H
        have c19b0 : (t130 != t131) = true := c19
        (try (have c19b1 : decide (t130 = t131) = false := by simpa using c19))
        (try (have c19b2 : (t130 == t131) = false := by simpa using c19))
        (try (have c19b3 : ¬ (t130 = t131) := by simpa using c19))
        clear c19
        replace H := Option.bind_eq_some_iff.mp H
        obtain ⟨t132, A200, H⟩ := H
        replace H : (some t132) = some r := H
        have A20 := asd A200
        clear A200
        obtain rfl := Option.some.inj H
        go_wp2_with (first | ((with_reducible refine gate_callee (f := 59) rfl ?_); refine goesL_ (some 28) rfl rfl Tryz.func59 (by kernel_rfl) rfl #[.float .f64 a0] rfl eqA ?_; (with_reducible refine (cuspref01_Neg.calls a0 t130 _ A17.out).mono ?_); rintro e w' ⟨rfl, ⟨nd, rfl⟩⟩; refine ⟨_, rfl, ?_⟩) | ((with_reducible refine gate_callee (f := 59) rfl ?_); refine goesL_ (some 30) rfl rfl Tryz.func59 (by kernel_rfl) rfl #[.float .f64 a1] rfl eqA ?_; (with_reducible refine (cuspref01_Neg.calls a1 t131 _ A18.out).mono ?_); rintro e w' ⟨rfl, ⟨nd, rfl⟩⟩; refine ⟨_, rfl, ?_⟩) | ((with_reducible refine gate_callee (f := 118) rfl ?_); refine goesL_ (some 32) rfl rfl Tryz.func118 (by kernel_rfl) rfl #[] rfl eqA ?_; (with_reducible refine (cuspref01_Not.calls  t132 _ A20.out).mono ?_); rintro e w' ⟨rfl, ⟨nd, rfl⟩⟩; refine ⟨_, rfl, ?_⟩))
        go_ret
        exact ⟨by first | rfl | (simp [errW_none, errW_some] <;> rfl) | (simp [*, errW_none, errW_some] <;> rfl), hbw⟩
       ·rw [if_neg c19] at H
        have c19b0 : (t130 != t131) = false := by simpa using c19
        (try (have c19b1 : decide (t130 = t131) = true := by simpa using c19))
        (try (have c19b2 : (t130 == t131) = true := by simpa using c19))
        clear c19
        obtain rfl := Option.some.inj H
        go_wp2_with (first | ((with_reducible refine gate_callee (f := 59) rfl ?_); refine goesL_ (some 28) rfl rfl Tryz.func59 (by kernel_rfl) rfl #[.float .f64 a0] rfl eqA ?_; (with_reducible refine (cuspref01_Neg.calls a0 t130 _ A17.out).mono ?_); rintro e w' ⟨rfl, ⟨nd, rfl⟩⟩; refine ⟨_, rfl, ?_⟩) | ((with_reducible refine gate_callee (f := 59) rfl ?_); refine goesL_ (some 30) rfl rfl Tryz.func59 (by kernel_rfl) rfl #[.float .f64 a1] rfl eqA ?_; (with_reducible refine (cuspref01_Neg.calls a1 t131 _ A18.out).mono ?_); rintro e w' ⟨rfl, ⟨nd, rfl⟩⟩; refine ⟨_, rfl, ?_⟩))
        go_ret
        exact ⟨by first | rfl | (simp [errW_none, errW_some] <;> rfl) | (simp [*, errW_none, errW_some] <;> rfl), hbw⟩
      ·replace c16 := Bool.eq_false_iff.mpr c16
       subst c16
       have H1 : ((cuspref01_IsInf.f a0).bind fun t133 => (if t133 = true then (some a0) else ((cuspref01_IsInf.f a1).bind fun t134 => (if t134 = true then (some a1) else ((cuspref02_Float.f kj11 a0).bind fun bt135 => ((cuspref02_Float.f kj11 a1).bind fun bt140 => ((cuspref02_Plus.f bt135.1 bt135.2.1 bt135.2.2 bt140.1 bt140.2.1 bt140.2.2).bind fun bt145 => ((cuspref03_sign.f a0).bind fun t150 => ((cuspref03_sign.f a1).bind fun t151 => ((cuspref03_Sum0.f t150 t151 a2).bind fun t152 => ((cuspref03_R.f bt145.1 bt145.2.1 bt145.2.2 a2 t152).bind fun t153 => (some t153)))))))))))) = some r := by rw [if_neg (show ¬ (false = true) by decide)] at H; exact H
       clear H
       have H := H1
       clear H1
       replace H := Option.bind_eq_some_iff.mp H
       obtain ⟨t133, A210, H⟩ := H
       replace H : (if t133 = true then (some a0) else ((cuspref01_IsInf.f a1).bind fun t134 => (if t134 = true then (some a1) else ((cuspref02_Float.f kj11 a0).bind fun bt135 => ((cuspref02_Float.f kj11 a1).bind fun bt140 => ((cuspref02_Plus.f bt135.1 bt135.2.1 bt135.2.2 bt140.1 bt140.2.1 bt140.2.2).bind fun bt145 => ((cuspref03_sign.f a0).bind fun t150 => ((cuspref03_sign.f a1).bind fun t151 => ((cuspref03_Sum0.f t150 t151 a2).bind fun t152 => ((cuspref03_R.f bt145.1 bt145.2.1 bt145.2.2 a2 t152).bind fun t153 => (some t153))))))))))) = some r := H
       have A21 := asd A210
       clear A210
       by_cases c22 : t133 = true
       ·subst c22
        have H1 : (some a0) = some r := by rw [if_pos rfl] at H; exact H
        clear H
        have H := H1
        clear H1
        obtain rfl := Option.some.inj H
        go_wp2_with (first | ((with_reducible refine gate_callee (f := 74) rfl ?_); refine goesL_ (some 36) rfl rfl Tryz.func74 (by kernel_rfl) rfl #[.float .f64 a0] rfl eqA ?_; (with_reducible refine (cuspref01_IsInf.calls a0 true _ A21.out).mono ?_); rintro e w' ⟨rfl, ⟨nd, rfl⟩⟩; refine ⟨_, rfl, ?_⟩))
        go_ret
        exact ⟨by first | rfl | (simp [errW_none, errW_some] <;> rfl) | (simp [*, errW_none, errW_some] <;> rfl), hbw⟩
       ·replace c22 := Bool.eq_false_iff.mpr c22
        subst c22
        have H1 : ((cuspref01_IsInf.f a1).bind fun t134 => (if t134 = true then (some a1) else ((cuspref02_Float.f kj11 a0).bind fun bt135 => ((cuspref02_Float.f kj11 a1).bind fun bt140 => ((cuspref02_Plus.f bt135.1 bt135.2.1 bt135.2.2 bt140.1 bt140.2.1 bt140.2.2).bind fun bt145 => ((cuspref03_sign.f a0).bind fun t150 => ((cuspref03_sign.f a1).bind fun t151 => ((cuspref03_Sum0.f t150 t151 a2).bind fun t152 => ((cuspref03_R.f bt145.1 bt145.2.1 bt145.2.2 a2 t152).bind fun t153 => (some t153)))))))))) = some r := by rw [if_neg (show ¬ (false = true) by decide)] at H; exact H
        clear H
        have H := H1
        clear H1
        replace H := Option.bind_eq_some_iff.mp H
        obtain ⟨t134, A230, H⟩ := H
        replace H : (if t134 = true then (some a1) else ((cuspref02_Float.f kj11 a0).bind fun bt135 => ((cuspref02_Float.f kj11 a1).bind fun bt140 => ((cuspref02_Plus.f bt135.1 bt135.2.1 bt135.2.2 bt140.1 bt140.2.1 bt140.2.2).bind fun bt145 => ((cuspref03_sign.f a0).bind fun t150 => ((cuspref03_sign.f a1).bind fun t151 => ((cuspref03_Sum0.f t150 t151 a2).bind fun t152 => ((cuspref03_R.f bt145.1 bt145.2.1 bt145.2.2 a2 t152).bind fun t153 => (some t153))))))))) = some r := H
        have A23 := asd A230
        clear A230
        by_cases c24 : t134 = true
        ·subst c24
         have H1 : (some a1) = some r := by rw [if_pos rfl] at H; exact H
         clear H
         have H := H1
         clear H1
         obtain rfl := Option.some.inj H
         go_wp2_with (first | ((with_reducible refine gate_callee (f := 74) rfl ?_); refine goesL_ (some 36) rfl rfl Tryz.func74 (by kernel_rfl) rfl #[.float .f64 a0] rfl eqA ?_; (with_reducible refine (cuspref01_IsInf.calls a0 false _ A21.out).mono ?_); rintro e w' ⟨rfl, ⟨nd, rfl⟩⟩; refine ⟨_, rfl, ?_⟩) | ((with_reducible refine gate_callee (f := 74) rfl ?_); refine goesL_ (some 40) rfl rfl Tryz.func74 (by kernel_rfl) rfl #[.float .f64 a1] rfl eqA ?_; (with_reducible refine (cuspref01_IsInf.calls a1 true _ A23.out).mono ?_); rintro e w' ⟨rfl, ⟨nd, rfl⟩⟩; refine ⟨_, rfl, ?_⟩))
         go_ret
         exact ⟨by first | rfl | (simp [errW_none, errW_some] <;> rfl) | (simp [*, errW_none, errW_some] <;> rfl), hbw⟩
        ·replace c24 := Bool.eq_false_iff.mpr c24
         subst c24
         have H1 : ((cuspref02_Float.f kj11 a0).bind fun bt135 => ((cuspref02_Float.f kj11 a1).bind fun bt140 => ((cuspref02_Plus.f bt135.1 bt135.2.1 bt135.2.2 bt140.1 bt140.2.1 bt140.2.2).bind fun bt145 => ((cuspref03_sign.f a0).bind fun t150 => ((cuspref03_sign.f a1).bind fun t151 => ((cuspref03_Sum0.f t150 t151 a2).bind fun t152 => ((cuspref03_R.f bt145.1 bt145.2.1 bt145.2.2 a2 t152).bind fun t153 => (some t153)))))))) = some r := by rw [if_neg (show ¬ (false = true) by decide)] at H; exact H
         clear H
         have H := H1
         clear H1
         replace H := Option.bind_eq_some_iff.mp H
         obtain ⟨⟨t135, t136, t139⟩, A250, H⟩ := H
         replace H : ((cuspref02_Float.f kj11 a1).bind fun bt140 => ((cuspref02_Plus.f t135 t136 t139 bt140.1 bt140.2.1 bt140.2.2).bind fun bt145 => ((cuspref03_sign.f a0).bind fun t150 => ((cuspref03_sign.f a1).bind fun t151 => ((cuspref03_Sum0.f t150 t151 a2).bind fun t152 => ((cuspref03_R.f bt145.1 bt145.2.1 bt145.2.2 a2 t152).bind fun t153 => (some t153))))))) = some r := H
         have A25 := asd A250
         clear A250
         replace H := Option.bind_eq_some_iff.mp H
         obtain ⟨⟨t140, t141, t144⟩, A260, H⟩ := H
         replace H : ((cuspref02_Plus.f t135 t136 t139 t140 t141 t144).bind fun bt145 => ((cuspref03_sign.f a0).bind fun t150 => ((cuspref03_sign.f a1).bind fun t151 => ((cuspref03_Sum0.f t150 t151 a2).bind fun t152 => ((cuspref03_R.f bt145.1 bt145.2.1 bt145.2.2 a2 t152).bind fun t153 => (some t153)))))) = some r := H
         have A26 := asd A260
         clear A260
         replace H := Option.bind_eq_some_iff.mp H
         obtain ⟨⟨t145, t146, t149⟩, A270, H⟩ := H
         replace H : ((cuspref03_sign.f a0).bind fun t150 => ((cuspref03_sign.f a1).bind fun t151 => ((cuspref03_Sum0.f t150 t151 a2).bind fun t152 => ((cuspref03_R.f t145 t146 t149 a2 t152).bind fun t153 => (some t153))))) = some r := H
         have A27 := asd A270
         clear A270
         replace H := Option.bind_eq_some_iff.mp H
         obtain ⟨t150, A280, H⟩ := H
         replace H : ((cuspref03_sign.f a1).bind fun t151 => ((cuspref03_Sum0.f t150 t151 a2).bind fun t152 => ((cuspref03_R.f t145 t146 t149 a2 t152).bind fun t153 => (some t153)))) = some r := H
         have A28 := asd A280
         clear A280
         replace H := Option.bind_eq_some_iff.mp H
         obtain ⟨t151, A290, H⟩ := H
         replace H : ((cuspref03_Sum0.f t150 t151 a2).bind fun t152 => ((cuspref03_R.f t145 t146 t149 a2 t152).bind fun t153 => (some t153))) = some r := H
         have A29 := asd A290
         clear A290
         replace H := Option.bind_eq_some_iff.mp H
         obtain ⟨t152, A300, H⟩ := H
         replace H : ((cuspref03_R.f t145 t146 t149 a2 t152).bind fun t153 => (some t153)) = some r := H
         have A30 := asd A300
         clear A300
         replace H := Option.bind_eq_some_iff.mp H
         obtain ⟨t153, A310, H⟩ := H
         replace H : (some t153) = some r := H
         have A31 := asd A310
         clear A310
         obtain rfl := Option.some.inj H
         go_wp2_with (first | ((with_reducible refine gate_callee (f := 74) rfl ?_); refine goesL_ (some 36) rfl rfl Tryz.func74 (by kernel_rfl) rfl #[.float .f64 a0] rfl eqA ?_; (with_reducible refine (cuspref01_IsInf.calls a0 false _ A21.out).mono ?_); rintro e w' ⟨rfl, ⟨nd, rfl⟩⟩; refine ⟨_, rfl, ?_⟩) | ((with_reducible refine gate_callee (f := 74) rfl ?_); refine goesL_ (some 40) rfl rfl Tryz.func74 (by kernel_rfl) rfl #[.float .f64 a1] rfl eqA ?_; (with_reducible refine (cuspref01_IsInf.calls a1 false _ A23.out).mono ?_); rintro e w' ⟨rfl, ⟨nd, rfl⟩⟩; refine ⟨_, rfl, ?_⟩) | ((with_reducible refine gate_callee (f := 26) rfl ?_); refine goesL_ (some 43) rfl rfl Tryz.func26 (by kernel_rfl) rfl #[.float .f64 a0] rfl eqA ?_; (with_reducible refine (cuspref02_Float.calls kj11 a0 t135 t136 t139 _ A25.out).mono ?_); rintro e w32 ⟨v137, rfl, ho0, hb⟩; refine ⟨_, rfl, ?_⟩; have n0_ := asd (Kd.R_lower ho0 (below_size hbw)); have n1_ := asd (below_step hbw hb); clear HB; have HO138 := n0_; have HB := n1_; clear n0_ n1_; (try clear hb); (try clear hb2); (try clear hk); (try clear hi); (try clear ho0)) | ((with_reducible refine gate_callee (f := 26) rfl ?_); refine goesL_ (some 45) rfl rfl Tryz.func26 (by kernel_rfl) rfl #[.float .f64 a1] rfl eqA ?_; (with_reducible refine (cuspref02_Float.calls kj11 a1 t140 t141 t144 _ A26.out).mono ?_); rintro e w33 ⟨v142, rfl, ho0, hb⟩; refine ⟨_, rfl, ?_⟩; have n0_ := asd (Kd.R_elder' (rUp HO138.out) (Kd.R_base ho0) hb); have n1_ := asd (Kd.R_lower (Kd.R_new' ho0 (Kd.R_lt (rUp HO138.out))) (below_size hbw)); have n2_ := asd (below_step hbw hb); clear HO138; clear HB; have HO138 := n0_; have HO143 := n1_; have HB := n2_; clear n0_ n1_ n2_; (try clear hb); (try clear hb2); (try clear hk); (try clear hi); (try clear ho0); obtain ⟨Ao34, co34, eo34⟩ := Kd.R_slice HO138.out; subst eo34; obtain ⟨Ao35, co35, eo35⟩ := Kd.R_slice HO143.out; subst eo35) | ((with_reducible refine gate_callee (f := 25) rfl ?_); refine goesL_ (some 46) rfl rfl Tryz.func25 (by kernel_rfl) rfl #[.agg #[.bool t135, .slice Ao34 t136.length co34, .int .i64 t139], .agg #[.bool t140, .slice Ao35 t141.length co35, .int .i64 t144]] rfl eqA ?_; (with_reducible refine (cuspref02_Plus.calls t135 _ _ t136 t139 t140 _ _ t141 t144 t145 t146 t149 _ ?side1 ?side2 ?side3 ?side4 A27.out).mono ?_); (case side1 => repeat (first | exact (Kd.R_reads' HO138.out).2.2 | (with_reducible refine Kd.C_alloc ?_ _) | (with_reducible refine Kd.C_drewN ?_ _) | (with_reducible refine Kd.C_drew ?_))); (case side2 => exact (Kd.R_reads' HO138.out).2.1); (case side3 => repeat (first | exact (Kd.R_reads' HO143.out).2.2 | (with_reducible refine Kd.C_alloc ?_ _) | (with_reducible refine Kd.C_drewN ?_ _) | (with_reducible refine Kd.C_drew ?_))); (case side4 => exact (Kd.R_reads' HO143.out).2.1); rintro e w36 ⟨v147, rfl, ho0, hb⟩; refine ⟨_, rfl, ?_⟩; have n0_ := asd (Kd.R_elder' (rUp HO138.out) (Kd.R_base ho0) hb); have n1_ := asd (Kd.R_elder' (rUp HO143.out) (Kd.R_base ho0) hb); have n2_ := asd (Kd.R_lower (Kd.R_new' (Kd.R_new' ho0 (Kd.R_lt (rUp HO138.out))) (Kd.R_lt (rUp HO143.out))) (below_size hbw)); have n3_ := asd (below_step hbw hb); clear HO138; clear HO143; clear HB; have HO138 := n0_; have HO143 := n1_; have HO148 := n2_; have HB := n3_; clear n0_ n1_ n2_ n3_; (try clear hb); (try clear hb2); (try clear hk); (try clear hi); (try clear ho0)) | ((with_reducible refine gate_callee (f := 120) rfl ?_); refine goesL_ (some 49) rfl rfl Tryz.func120 (by kernel_rfl) rfl #[.float .f64 a0] rfl eqA ?_; (with_reducible refine (cuspref03_sign.calls a0 t150 _ A28.out).mono ?_); rintro e w' ⟨rfl, ⟨nd, rfl⟩⟩; refine ⟨_, rfl, ?_⟩) | ((with_reducible refine gate_callee (f := 120) rfl ?_); refine goesL_ (some 51) rfl rfl Tryz.func120 (by kernel_rfl) rfl #[.float .f64 a1] rfl eqA ?_; (with_reducible refine (cuspref03_sign.calls a1 t151 _ A29.out).mono ?_); rintro e w' ⟨rfl, ⟨nd, rfl⟩⟩; refine ⟨_, rfl, ?_⟩) | ((with_reducible refine gate_callee (f := 119) rfl ?_); refine goesL_ (some 53) rfl rfl Tryz.func119 (by kernel_rfl) rfl #[.bool t150, .bool t151, .int .i64 a2] rfl eqA ?_; (with_reducible refine (cuspref03_Sum0.calls t150 t151 a2 t152 _ A30.out).mono ?_); rintro e w' ⟨rfl, ⟨nd, rfl⟩⟩; refine ⟨_, rfl, ?_⟩; obtain ⟨Ao37, co37, eo37⟩ := Kd.R_slice HO148.out; subst eo37) | ((with_reducible refine gate_callee (f := 48) rfl ?_); refine goesL_ (some 54) rfl rfl Tryz.func48 (by kernel_rfl) rfl #[.agg #[.bool t145, .slice Ao37 t146.length co37, .int .i64 t149], .int .i64 a2, .float .f64 t152] rfl eqA ?_; (with_reducible refine (cuspref03_R.calls t145 _ _ t146 t149 a2 t152 t153 _ ?side1 ?side2 A31.out).mono ?_); (case side1 => repeat (first | exact (Kd.R_reads' HO148.out).2.2 | (with_reducible refine Kd.C_alloc ?_ _) | (with_reducible refine Kd.C_drewN ?_ _) | (with_reducible refine Kd.C_drew ?_))); (case side2 => exact (Kd.R_reads' HO148.out).2.1); rintro e w38 ⟨rfl, hb⟩; refine ⟨_, rfl, ?_⟩; have n0_ := asd (Kd.R_below (rUp HO138.out) hb); have n1_ := asd (Kd.R_below (rUp HO143.out) hb); have n2_ := asd (Kd.R_below (rUp HO148.out) hb); have n3_ := asd (below_step hbw hb); clear HO138; clear HO143; clear HO148; clear HB; have HO138 := n0_; have HO143 := n1_; have HO148 := n2_; have HB := n3_; clear n0_ n1_ n2_ n3_; (try clear hb); (try clear hb2); (try clear hk); (try clear hi)))
         go_ret
         exact ⟨by first | rfl | (simp [errW_none, errW_some] <;> rfl) | (simp [*, errW_none, errW_some] <;> rfl), hbw⟩
def cuspref05_add.f (k : Nat) (a0 : Nat) (a1 : Nat) : Option (Nat) := (cuspref03_Add.f k a0 a1 2).bind fun t154 => (some t154)
theorem cuspref05_add.mono : ∀ a0 a1 k, LeO (cuspref05_add.f k a0 a1) (cuspref05_add.f (k + 1) a0 a1) := by
 intro a0 a1 k
 unfold cuspref05_add.f
 repeat' first
   | (with_reducible exact cuspref03_Add.mono _ _ _ _)
   | (with_reducible exact LeO.refl _)
   | (with_reducible exact LeO.none _)
   | (with_reducible refine LeO.ite ?_ ?_)
   | (with_reducible refine LeO.bind ?_ (fun _ => ?_))
   | exact cuspref03_Add.mono _ _ _ _
   | exact LeO.none _
   | refine LeO.ite ?_ ?_
   | refine LeO.bind ?_ (fun _ => ?_)
set_option maxHeartbeats 8000000 in
set_option maxRecDepth 100000 in
theorem cuspref05_add.calls (k : Nat) (a0 : Nat) (a1 : Nat) (r : Nat) (w : World) (h : cuspref05_add.f k a0 a1 = some r) :
  Calls Tryz.prog 40 #[.float .f64 a0, .float .f64 a1] w fun e w' => e = .returned (.float .f64 r) ∧ Below w.heap.size w w' := by
 have HB := asd (Below.refl w.heap.size w)
 have H : ((cuspref03_Add.f k a0 a1 2).bind fun t154 => (some t154)) = some r := h
 clear h
 replace H := Option.bind_eq_some_iff.mp H
 obtain ⟨t154, A30, H⟩ := H
 replace H : (some t154) = some r := H
 have A3 := asd A30
 clear A30
 obtain rfl := Option.some.inj H
 go_enter Tryz.func40, Tryz.ntmps40
 go_wp2_with (first | ((with_reducible refine gate_callee (f := 85) rfl ?_); refine goesL_ (some 7) rfl rfl Tryz.func85 (by kernel_rfl) rfl #[.float .f64 a0, .float .f64 a1, .int .i64 2] rfl eqA ?_; (with_reducible refine (cuspref03_Add.calls k a0 a1 2 t154 _ A3.out).mono ?_); rintro e w4 ⟨rfl, hb⟩; refine ⟨_, rfl, ?_⟩; have n0_ := asd (below_step hbw hb); clear HB; have HB := n0_; clear n0_; (try clear hb); (try clear hb2); (try clear hk); (try clear hi)))
 go_ret
 exact ⟨by first | rfl | (simp [errW_none, errW_some] <;> rfl) | (simp [*, errW_none, errW_some] <;> rfl), hbw⟩
def cuspref05_Two.f (k : Nat) (a0 : Nat) (a1 : Nat) : Option (Nat × Nat) := (cuspref05_add.f k a0 a1).bind fun t155 => ((cuspref01_Finite.f t155).bind fun t156 => (if t156 = true then ((cuspref02_Float.f k a0).bind fun bt157 => ((cuspref02_Float.f k a1).bind fun bt162 => ((cuspref02_Plus.f bt157.1 bt157.2.1 bt157.2.2 bt162.1 bt162.2.1 bt162.2.2).bind fun bt167 => ((cuspref02_Float.f k t155).bind fun bt172 => ((cuspref02_Less.f bt167.1 bt167.2.1 bt167.2.2 bt172.1 bt172.2.1 bt172.2.2).bind fun bt177 => ((cuspref03_R.f bt177.1 bt177.2.1 bt177.2.2 2 (0 : Nat)).bind fun t182 => (some (t155, t182)))))))) else (some (t155, (0 : Nat)))))
theorem cuspref05_Two.mono : ∀ a0 a1 k, LeO (cuspref05_Two.f k a0 a1) (cuspref05_Two.f (k + 1) a0 a1) := by
 intro a0 a1 k
 unfold cuspref05_Two.f
 repeat' first
   | (with_reducible exact cuspref02_Float.mono _ _)
   | (with_reducible exact cuspref05_add.mono _ _ _)
   | (with_reducible exact LeO.refl _)
   | (with_reducible exact LeO.none _)
   | (with_reducible refine LeO.ite ?_ ?_)
   | (with_reducible refine LeO.bind ?_ (fun _ => ?_))
   | exact cuspref02_Float.mono _ _
   | exact cuspref05_add.mono _ _ _
   | exact LeO.none _
   | refine LeO.ite ?_ ?_
   | refine LeO.bind ?_ (fun _ => ?_)
set_option maxHeartbeats 8000000 in
set_option maxRecDepth 100000 in
theorem cuspref05_Two.calls (k : Nat) (a0 : Nat) (a1 : Nat) (r1 : Nat) (r2 : Nat) (w : World) (h : cuspref05_Two.f k a0 a1 = some (r1, r2)) :
  Calls Tryz.prog 21 #[.float .f64 a0, .float .f64 a1] w fun e w' => e = .returned (.tuple #[.float .f64 r1, .float .f64 r2]) ∧ Below w.heap.size w w' := by
 have HB := asd (Below.refl w.heap.size w)
 have H : ((cuspref05_add.f k a0 a1).bind fun t155 => ((cuspref01_Finite.f t155).bind fun t156 => (if t156 = true then ((cuspref02_Float.f k a0).bind fun bt157 => ((cuspref02_Float.f k a1).bind fun bt162 => ((cuspref02_Plus.f bt157.1 bt157.2.1 bt157.2.2 bt162.1 bt162.2.1 bt162.2.2).bind fun bt167 => ((cuspref02_Float.f k t155).bind fun bt172 => ((cuspref02_Less.f bt167.1 bt167.2.1 bt167.2.2 bt172.1 bt172.2.1 bt172.2.2).bind fun bt177 => ((cuspref03_R.f bt177.1 bt177.2.1 bt177.2.2 2 (0 : Nat)).bind fun t182 => (some (t155, t182)))))))) else (some (t155, (0 : Nat)))))) = some (r1, r2) := h
 clear h
 replace H := Option.bind_eq_some_iff.mp H
 obtain ⟨t155, A30, H⟩ := H
 replace H : ((cuspref01_Finite.f t155).bind fun t156 => (if t156 = true then ((cuspref02_Float.f k a0).bind fun bt157 => ((cuspref02_Float.f k a1).bind fun bt162 => ((cuspref02_Plus.f bt157.1 bt157.2.1 bt157.2.2 bt162.1 bt162.2.1 bt162.2.2).bind fun bt167 => ((cuspref02_Float.f k t155).bind fun bt172 => ((cuspref02_Less.f bt167.1 bt167.2.1 bt167.2.2 bt172.1 bt172.2.1 bt172.2.2).bind fun bt177 => ((cuspref03_R.f bt177.1 bt177.2.1 bt177.2.2 2 (0 : Nat)).bind fun t182 => (some (t155, t182)))))))) else (some (t155, (0 : Nat))))) = some (r1, r2) := H
 have A3 := asd A30
 clear A30
 replace H := Option.bind_eq_some_iff.mp H
 obtain ⟨t156, A40, H⟩ := H
 replace H : (if t156 = true then ((cuspref02_Float.f k a0).bind fun bt157 => ((cuspref02_Float.f k a1).bind fun bt162 => ((cuspref02_Plus.f bt157.1 bt157.2.1 bt157.2.2 bt162.1 bt162.2.1 bt162.2.2).bind fun bt167 => ((cuspref02_Float.f k t155).bind fun bt172 => ((cuspref02_Less.f bt167.1 bt167.2.1 bt167.2.2 bt172.1 bt172.2.1 bt172.2.2).bind fun bt177 => ((cuspref03_R.f bt177.1 bt177.2.1 bt177.2.2 2 (0 : Nat)).bind fun t182 => (some (t155, t182)))))))) else (some (t155, (0 : Nat)))) = some (r1, r2) := H
 have A4 := asd A40
 clear A40
 by_cases c5 : t156 = true
 ·subst c5
  have H1 : ((cuspref02_Float.f k a0).bind fun bt157 => ((cuspref02_Float.f k a1).bind fun bt162 => ((cuspref02_Plus.f bt157.1 bt157.2.1 bt157.2.2 bt162.1 bt162.2.1 bt162.2.2).bind fun bt167 => ((cuspref02_Float.f k t155).bind fun bt172 => ((cuspref02_Less.f bt167.1 bt167.2.1 bt167.2.2 bt172.1 bt172.2.1 bt172.2.2).bind fun bt177 => ((cuspref03_R.f bt177.1 bt177.2.1 bt177.2.2 2 (0 : Nat)).bind fun t182 => (some (t155, t182)))))))) = some (r1, r2) := by rw [if_pos rfl] at H; exact H
  clear H
  have H := H1
  clear H1
  replace H := Option.bind_eq_some_iff.mp H
  obtain ⟨⟨t157, t158, t161⟩, A60, H⟩ := H
  replace H : ((cuspref02_Float.f k a1).bind fun bt162 => ((cuspref02_Plus.f t157 t158 t161 bt162.1 bt162.2.1 bt162.2.2).bind fun bt167 => ((cuspref02_Float.f k t155).bind fun bt172 => ((cuspref02_Less.f bt167.1 bt167.2.1 bt167.2.2 bt172.1 bt172.2.1 bt172.2.2).bind fun bt177 => ((cuspref03_R.f bt177.1 bt177.2.1 bt177.2.2 2 (0 : Nat)).bind fun t182 => (some (t155, t182))))))) = some (r1, r2) := H
  have A6 := asd A60
  clear A60
  replace H := Option.bind_eq_some_iff.mp H
  obtain ⟨⟨t162, t163, t166⟩, A70, H⟩ := H
  replace H : ((cuspref02_Plus.f t157 t158 t161 t162 t163 t166).bind fun bt167 => ((cuspref02_Float.f k t155).bind fun bt172 => ((cuspref02_Less.f bt167.1 bt167.2.1 bt167.2.2 bt172.1 bt172.2.1 bt172.2.2).bind fun bt177 => ((cuspref03_R.f bt177.1 bt177.2.1 bt177.2.2 2 (0 : Nat)).bind fun t182 => (some (t155, t182)))))) = some (r1, r2) := H
  have A7 := asd A70
  clear A70
  replace H := Option.bind_eq_some_iff.mp H
  obtain ⟨⟨t167, t168, t171⟩, A80, H⟩ := H
  replace H : ((cuspref02_Float.f k t155).bind fun bt172 => ((cuspref02_Less.f t167 t168 t171 bt172.1 bt172.2.1 bt172.2.2).bind fun bt177 => ((cuspref03_R.f bt177.1 bt177.2.1 bt177.2.2 2 (0 : Nat)).bind fun t182 => (some (t155, t182))))) = some (r1, r2) := H
  have A8 := asd A80
  clear A80
  replace H := Option.bind_eq_some_iff.mp H
  obtain ⟨⟨t172, t173, t176⟩, A90, H⟩ := H
  replace H : ((cuspref02_Less.f t167 t168 t171 t172 t173 t176).bind fun bt177 => ((cuspref03_R.f bt177.1 bt177.2.1 bt177.2.2 2 (0 : Nat)).bind fun t182 => (some (t155, t182)))) = some (r1, r2) := H
  have A9 := asd A90
  clear A90
  replace H := Option.bind_eq_some_iff.mp H
  obtain ⟨⟨t177, t178, t181⟩, A100, H⟩ := H
  replace H : ((cuspref03_R.f t177 t178 t181 2 (0 : Nat)).bind fun t182 => (some (t155, t182))) = some (r1, r2) := H
  have A10 := asd A100
  clear A100
  replace H := Option.bind_eq_some_iff.mp H
  obtain ⟨t182, A110, H⟩ := H
  replace H : (some (t155, t182)) = some (r1, r2) := H
  have A11 := asd A110
  clear A110
  simp only [Option.some.injEq, Prod.mk.injEq] at H
  obtain ⟨rfl, rfl⟩ := H
  go_enter Tryz.func21, Tryz.ntmps21
  go_wp2_with (first | ((with_reducible refine gate_callee (f := 40) rfl ?_); refine goesL_ (some 9) rfl rfl Tryz.func40 (by kernel_rfl) rfl #[.float .f64 a0, .float .f64 a1] rfl eqA ?_; (with_reducible refine (cuspref05_add.calls k a0 a1 t155 _ A3.out).mono ?_); rintro e w12 ⟨rfl, hb⟩; refine ⟨_, rfl, ?_⟩; have n0_ := asd (below_step hbw hb); clear HB; have HB := n0_; clear n0_; (try clear hb); (try clear hb2); (try clear hk); (try clear hi)) | ((with_reducible refine gate_callee (f := 24) rfl ?_); refine goesL_ (some 11) rfl rfl Tryz.func24 (by kernel_rfl) rfl #[.float .f64 t155] rfl eqA ?_; (with_reducible refine (cuspref01_Finite.calls t155 true _ A4.out).mono ?_); rintro e w' ⟨rfl, ⟨nd, rfl⟩⟩; refine ⟨_, rfl, ?_⟩) | ((with_reducible refine gate_callee (f := 26) rfl ?_); refine goesL_ (some 16) rfl rfl Tryz.func26 (by kernel_rfl) rfl #[.float .f64 a0] rfl eqA ?_; (with_reducible refine (cuspref02_Float.calls k a0 t157 t158 t161 _ A6.out).mono ?_); rintro e w13 ⟨v159, rfl, ho0, hb⟩; refine ⟨_, rfl, ?_⟩; have n0_ := asd (Kd.R_lower ho0 (below_size hbw)); have n1_ := asd (below_step hbw hb); clear HB; have HO160 := n0_; have HB := n1_; clear n0_ n1_; (try clear hb); (try clear hb2); (try clear hk); (try clear hi); (try clear ho0)) | ((with_reducible refine gate_callee (f := 26) rfl ?_); refine goesL_ (some 18) rfl rfl Tryz.func26 (by kernel_rfl) rfl #[.float .f64 a1] rfl eqA ?_; (with_reducible refine (cuspref02_Float.calls k a1 t162 t163 t166 _ A7.out).mono ?_); rintro e w14 ⟨v164, rfl, ho0, hb⟩; refine ⟨_, rfl, ?_⟩; have n0_ := asd (Kd.R_elder' (rUp HO160.out) (Kd.R_base ho0) hb); have n1_ := asd (Kd.R_lower (Kd.R_new' ho0 (Kd.R_lt (rUp HO160.out))) (below_size hbw)); have n2_ := asd (below_step hbw hb); clear HO160; clear HB; have HO160 := n0_; have HO165 := n1_; have HB := n2_; clear n0_ n1_ n2_; (try clear hb); (try clear hb2); (try clear hk); (try clear hi); (try clear ho0); obtain ⟨Ao15, co15, eo15⟩ := Kd.R_slice HO160.out; subst eo15; obtain ⟨Ao16, co16, eo16⟩ := Kd.R_slice HO165.out; subst eo16) | ((with_reducible refine gate_callee (f := 25) rfl ?_); refine goesL_ (some 19) rfl rfl Tryz.func25 (by kernel_rfl) rfl #[.agg #[.bool t157, .slice Ao15 t158.length co15, .int .i64 t161], .agg #[.bool t162, .slice Ao16 t163.length co16, .int .i64 t166]] rfl eqA ?_; (with_reducible refine (cuspref02_Plus.calls t157 _ _ t158 t161 t162 _ _ t163 t166 t167 t168 t171 _ ?side1 ?side2 ?side3 ?side4 A8.out).mono ?_); (case side1 => repeat (first | exact (Kd.R_reads' HO160.out).2.2 | (with_reducible refine Kd.C_alloc ?_ _) | (with_reducible refine Kd.C_drewN ?_ _) | (with_reducible refine Kd.C_drew ?_))); (case side2 => exact (Kd.R_reads' HO160.out).2.1); (case side3 => repeat (first | exact (Kd.R_reads' HO165.out).2.2 | (with_reducible refine Kd.C_alloc ?_ _) | (with_reducible refine Kd.C_drewN ?_ _) | (with_reducible refine Kd.C_drew ?_))); (case side4 => exact (Kd.R_reads' HO165.out).2.1); rintro e w17 ⟨v169, rfl, ho0, hb⟩; refine ⟨_, rfl, ?_⟩; have n0_ := asd (Kd.R_elder' (rUp HO160.out) (Kd.R_base ho0) hb); have n1_ := asd (Kd.R_elder' (rUp HO165.out) (Kd.R_base ho0) hb); have n2_ := asd (Kd.R_lower (Kd.R_new' (Kd.R_new' ho0 (Kd.R_lt (rUp HO160.out))) (Kd.R_lt (rUp HO165.out))) (below_size hbw)); have n3_ := asd (below_step hbw hb); clear HO160; clear HO165; clear HB; have HO160 := n0_; have HO165 := n1_; have HO170 := n2_; have HB := n3_; clear n0_ n1_ n2_ n3_; (try clear hb); (try clear hb2); (try clear hk); (try clear hi); (try clear ho0)) | ((with_reducible refine gate_callee (f := 26) rfl ?_); refine goesL_ (some 21) rfl rfl Tryz.func26 (by kernel_rfl) rfl #[.float .f64 t155] rfl eqA ?_; (with_reducible refine (cuspref02_Float.calls k t155 t172 t173 t176 _ A9.out).mono ?_); rintro e w18 ⟨v174, rfl, ho0, hb⟩; refine ⟨_, rfl, ?_⟩; have n0_ := asd (Kd.R_elder' (rUp HO160.out) (Kd.R_base ho0) hb); have n1_ := asd (Kd.R_elder' (rUp HO165.out) (Kd.R_base ho0) hb); have n2_ := asd (Kd.R_elder' (rUp HO170.out) (Kd.R_base ho0) hb); have n3_ := asd (Kd.R_lower (Kd.R_new' (Kd.R_new' (Kd.R_new' ho0 (Kd.R_lt (rUp HO160.out))) (Kd.R_lt (rUp HO165.out))) (Kd.R_lt (rUp HO170.out))) (below_size hbw)); have n4_ := asd (below_step hbw hb); clear HO160; clear HO165; clear HO170; clear HB; have HO160 := n0_; have HO165 := n1_; have HO170 := n2_; have HO175 := n3_; have HB := n4_; clear n0_ n1_ n2_ n3_ n4_; (try clear hb); (try clear hb2); (try clear hk); (try clear hi); (try clear ho0); obtain ⟨Ao19, co19, eo19⟩ := Kd.R_slice HO170.out; subst eo19; obtain ⟨Ao20, co20, eo20⟩ := Kd.R_slice HO175.out; subst eo20) | ((with_reducible refine gate_callee (f := 31) rfl ?_); refine goesL_ (some 22) rfl rfl Tryz.func31 (by kernel_rfl) rfl #[.agg #[.bool t167, .slice Ao19 t168.length co19, .int .i64 t171], .agg #[.bool t172, .slice Ao20 t173.length co20, .int .i64 t176]] rfl eqA ?_; (with_reducible refine (cuspref02_Less.calls t167 _ _ t168 t171 t172 (fun k_ => some k_ = (.slice Ao20 t173.length co20 : Value).ownBlock) (.slice Ao20 t173.length co20) t173 t176 t177 t178 t181 w _ ?side1 ?side2 ?side3 ?side4 A10.out).mono ?_); (case side1 => repeat (first | (with_reducible first | exact HB.out | apply below_alloc | apply pw_below_drewN | apply below_drew1) | exact HB.out)); (case side2 => exact Kd.C_kept_own (HO170.out) (fun k_ hk_ hs_ => (hk_.2) hs_)); (case side3 => exact (Kd.R_reads' HO170.out).2.1); (case side4 => exact Kd.R_tight rfl HO175.out); rintro e w21 ⟨v179, rfl, ho0, hb, hkp⟩; refine ⟨_, rfl, ?_⟩; have n0_ := asd (Kd.R_mono (ok' := fun k_ => some k_ ≠ (.slice Ao16 t163.length co16 : Value).ownBlock ∧ some k_ ≠ (.slice Ao19 t168.length co19 : Value).ownBlock ∧ some k_ ≠ (v179 : Value).ownBlock) (Kd.R_keptB (HO160.out) hkp (fun k_ hk_ hs_ => (hk_.2) hs_)) (fun k_ hk_ => ⟨hk_.1.1.1.2, hk_.1.1.2, fun e_ => Or.elim (ho0.1 k_ e_.symm) (fun hs_ => hk_.2.1 hs_) (fun hn_ => Nat.not_le.2 hk_.2.2 hn_)⟩)); have n1_ := asd (Kd.R_mono (ok' := fun k_ => some k_ ≠ (.slice Ao15 t158.length co15 : Value).ownBlock ∧ some k_ ≠ (.slice Ao19 t168.length co19 : Value).ownBlock ∧ some k_ ≠ (v179 : Value).ownBlock) (Kd.R_keptB (HO165.out) hkp (fun k_ hk_ hs_ => (hk_.2) hs_)) (fun k_ hk_ => ⟨hk_.1.1.1.2, hk_.1.1.2, fun e_ => Or.elim (ho0.1 k_ e_.symm) (fun hs_ => hk_.2.1 hs_) (fun hn_ => Nat.not_le.2 hk_.2.2 hn_)⟩)); have n2_ := asd (Kd.R_mono (ok' := fun k_ => some k_ ≠ (.slice Ao15 t158.length co15 : Value).ownBlock ∧ some k_ ≠ (.slice Ao16 t163.length co16 : Value).ownBlock ∧ some k_ ≠ (v179 : Value).ownBlock) (Kd.R_keptB (HO170.out) hkp (fun k_ hk_ hs_ => (hk_.2) hs_)) (fun k_ hk_ => ⟨hk_.1.1.1.2, hk_.1.1.2, fun e_ => Or.elim (ho0.1 k_ e_.symm) (fun hs_ => hk_.2.1 hs_) (fun hn_ => Nat.not_le.2 hk_.2.2 hn_)⟩)); have n3_ := asd (Kd.R_mono (ok' := fun k_ => some k_ ≠ (.slice Ao15 t158.length co15 : Value).ownBlock ∧ some k_ ≠ (.slice Ao16 t163.length co16 : Value).ownBlock ∧ some k_ ≠ (.slice Ao19 t168.length co19 : Value).ownBlock) ho0 (fun k_ hk_ => ⟨Or.elim hk_ (fun hs_ => fun e_ => (((HO160.out).1 k_ e_.symm).2) hs_) (fun hn_ => (Kd.fresh' (Kd.R_lt (rUp HO160.out)) k_ hn_)), Or.elim hk_ (fun hs_ => fun e_ => (((HO165.out).1 k_ e_.symm).2) hs_) (fun hn_ => (Kd.fresh' (Kd.R_lt (rUp HO165.out)) k_ hn_)), Or.elim hk_ (fun hs_ => fun e_ => (((HO170.out).1 k_ e_.symm).2) hs_) (fun hn_ => (Kd.fresh' (Kd.R_lt (rUp HO170.out)) k_ hn_))⟩)); have n4_ := asd (hb); clear HO160; clear HO165; clear HO170; clear HB; clear HO175; have HO160 := n0_; have HO165 := n1_; have HO170 := n2_; have HO180 := n3_; have HB := n4_; clear n0_ n1_ n2_ n3_ n4_; (try clear hb); (try clear hkp); (try clear ho0); obtain ⟨Ao22, co22, eo22⟩ := Kd.R_slice HO180.out; subst eo22) | ((with_reducible refine gate_callee (f := 48) rfl ?_); refine goesL_ (some 23) rfl rfl Tryz.func48 (by kernel_rfl) rfl #[.agg #[.bool t177, .slice Ao22 t178.length co22, .int .i64 t181], .int .i64 2, .float .f64 (0 : Nat)] rfl eqA ?_; (with_reducible refine (cuspref03_R.calls t177 _ _ t178 t181 2 (0 : Nat) t182 _ ?side1 ?side2 A11.out).mono ?_); (case side1 => repeat (first | exact (Kd.R_reads' HO180.out).2.2 | (with_reducible refine Kd.C_alloc ?_ _) | (with_reducible refine Kd.C_drewN ?_ _) | (with_reducible refine Kd.C_drew ?_))); (case side2 => exact (Kd.R_reads' HO180.out).2.1); rintro e w23 ⟨rfl, hb⟩; refine ⟨_, rfl, ?_⟩; have n0_ := asd (Kd.R_below (rUp HO160.out) hb); have n1_ := asd (Kd.R_below (rUp HO165.out) hb); have n2_ := asd (Kd.R_below (rUp HO170.out) hb); have n3_ := asd (Kd.R_below (rUp HO180.out) hb); have n4_ := asd (below_step hbw hb); clear HO160; clear HO165; clear HO170; clear HO180; clear HB; have HO160 := n0_; have HO165 := n1_; have HO170 := n2_; have HO180 := n3_; have HB := n4_; clear n0_ n1_ n2_ n3_ n4_; (try clear hb); (try clear hb2); (try clear hk); (try clear hi)))
  go_ret2
  exact ⟨by first | rfl | (simp [errW_none, errW_some] <;> rfl) | (simp [*, errW_none, errW_some] <;> rfl), hbw⟩
 ·replace c5 := Bool.eq_false_iff.mpr c5
  subst c5
  have H1 : (some (t155, (0 : Nat))) = some (r1, r2) := by rw [if_neg (show ¬ (false = true) by decide)] at H; exact H
  clear H
  have H := H1
  clear H1
  simp only [Option.some.injEq, Prod.mk.injEq] at H
  obtain ⟨rfl, rfl⟩ := H
  go_enter Tryz.func21, Tryz.ntmps21
  go_wp2_with (first | ((with_reducible refine gate_callee (f := 40) rfl ?_); refine goesL_ (some 9) rfl rfl Tryz.func40 (by kernel_rfl) rfl #[.float .f64 a0, .float .f64 a1] rfl eqA ?_; (with_reducible refine (cuspref05_add.calls k a0 a1 t155 _ A3.out).mono ?_); rintro e w24 ⟨rfl, hb⟩; refine ⟨_, rfl, ?_⟩; have n0_ := asd (below_step hbw hb); clear HB; have HB := n0_; clear n0_; (try clear hb); (try clear hb2); (try clear hk); (try clear hi)) | ((with_reducible refine gate_callee (f := 24) rfl ?_); refine goesL_ (some 11) rfl rfl Tryz.func24 (by kernel_rfl) rfl #[.float .f64 t155] rfl eqA ?_; (with_reducible refine (cuspref01_Finite.calls t155 false _ A4.out).mono ?_); rintro e w' ⟨rfl, ⟨nd, rfl⟩⟩; refine ⟨_, rfl, ?_⟩))
  go_ret2
  exact ⟨by first | rfl | (simp [errW_none, errW_some] <;> rfl) | (simp [*, errW_none, errW_some] <;> rfl), hbw⟩
def cusplaw05_SumsTwo.f (k : Nat) (a0 : Nat) (a1 : Nat) : Option (Bool) := (sums_Two.f k a0 a1).bind fun bt183 => ((cuspref05_Two.f k a0 a1).bind fun bt185 => ((cusplaw05_same.f bt183.1 bt185.1).bind fun t187 => (if t187 = true then ((cusplaw05_same.f bt183.2 bt185.2).bind fun t188 => (if t188 = true then ((cusplaw05_sure.f).bind fun t189 => (some t189)) else (some false))) else (some false))))
end Go.Proofs.YthmeocigliephaaGreatDoor.PSv
end
section
namespace Go.Proofs.YthmeocigliephaaGreatDoor.Big
open Go.RowKit Go.Proofs.YthmeocigliephaaGreatDoorW.PrintWords Go.Proofs.YthmeocigliephaaGreatDoorW.PrintLast Go.Proofs.YthmeocigliephaaGreatDoorW.PrintMore
open Go.Proofs.YthmeocigliephaaGreatDoor.PSv Go.Proofs.YthmeocigliephaaGreatDoor.PSu Go.Proofs.YthmeocigliephaaGreatDoor.Plain Ieee
def sumR (a b : Nat) : Nat := if nanB a = true ∨ nanB b = true then 9221120237041090560 else sumV a b
theorem rnot_law : cuspref01_Not.f = some 9221120237041090560 := by rfl
theorem rsum0_law (x y : Bool) : cuspref03_Sum0.f x y 2 = some (if x = true ∧ y = true then 9223372036854775808 else 0) := by
  cases x <;> cases y <;> rfl
theorem radd_law {a b : Nat} (ha : a < 18446744073709551616) (hb : b < 18446744073709551616) (ho : ¬ opp a b) : Ev (fun k => cuspref05_add.f k a b) (sumR a b) := by
  have hA : Ev (fun k => cuspref03_Add.f k a b 2) (sumR a b) := by
    unfold cuspref03_Add.f sumR
    have hv : cuspref03_Valid.f 2 = some 0 := rvalid_yes (by omega)
    by_cases hn : nanB a = true ∨ nanB b = true
    · rw [if_pos hn]
      refine Ev.congr (f := fun k => cuspref03_Add.j0 k a b 2 true) (fun k => ?_) (Ev.step (f := fun _ => some 9221120237041090560) (fun k => ?_) (Ev.now _))
      · rw [hv, Option.bind_some, if_pos rfl, risnan_law ha, Option.bind_some]
        by_cases h1 : nanB a = true
        · rw [if_pos h1]
        · rw [if_neg h1, risnan_law hb, Option.bind_some, hn.resolve_left h1]
      · rw [cuspref03_Add.j0, if_pos rfl, rnot_law]; rfl
    · rw [if_neg hn]
      have n1 : nanB a = false := by cases h : nanB a; rfl; exact absurd (.inl h) hn
      have n2 : nanB b = false := by cases h : nanB b; rfl; exact absurd (.inr h) hn
      refine Ev.congr (f := fun k => cuspref03_Add.j0 k a b 2 false) (fun k => ?_) ?_
      · rw [hv, Option.bind_some, if_pos rfl, risnan_law ha, Option.bind_some, n1, if_neg (by simp), risnan_law hb, Option.bind_some, n2]
      unfold sumV
      rw [if_neg hn]
      by_cases ia : infB? a = true
      · rw [if_pos ia]
        by_cases ib : infB? b = true
        · have he : sgn a = sgn b := Classical.byContradiction fun h => ho ⟨ia, ib, h⟩
          refine Ev.step (f := fun k => cuspref03_Add.j1 k a b 2 true) (fun k => ?_) (Ev.step (f := fun _ => some a) (fun k => ?_) (Ev.now _))
          · rw [cuspref03_Add.j0, if_neg (by simp), risinf_law ha, Option.bind_some, if_pos ia, risinf_law hb, Option.bind_some, ib]
          · rw [cuspref03_Add.j1, if_pos rfl, rneg_law ha, Option.bind_some, rneg_law hb, Option.bind_some, he, if_neg (by simp)]
        · refine Ev.step (f := fun k => cuspref03_Add.j1 k a b 2 false) (fun k => ?_) (Ev.step (f := fun _ => some a) (fun k => ?_) (Ev.now _))
          · rw [cuspref03_Add.j0, if_neg (by simp), risinf_law ha, Option.bind_some, if_pos ia, risinf_law hb, Option.bind_some]
            congr 1; simpa using ib
          · rw [cuspref03_Add.j1, if_neg (by simp), risinf_law ha, Option.bind_some, if_pos ia]
      · rw [if_neg ia]
        have i1 : infB? a = false := by simpa using ia
        refine Ev.step (f := fun k => cuspref03_Add.j1 k a b 2 false) (fun k => ?_) ?_
        · rw [cuspref03_Add.j0, if_neg (by simp), risinf_law ha, Option.bind_some, if_neg ia]
        by_cases ib : infB? b = true
        · rw [if_pos ib]
          refine Ev.step (f := fun _ => some b) (fun k => ?_) (Ev.now _)
          rw [cuspref03_Add.j1, if_neg (by simp), risinf_law ha, Option.bind_some, if_neg ia, risinf_law hb, Option.bind_some, if_pos ib]
        · rw [if_neg ib]
          have fa := fin_kind ha n1 i1
          have fb := fin_kind hb n2 (by simpa using ib)
          have b1 : bl (flz a).natAbs ≤ 2098 := bl_le.2 (flz_lt fa)
          have b2 : bl (flz b).natAbs ≤ 2098 := bl_le.2 (flz_lt fb)
          have b3 := sum_bl fa fb
          refine Ev.step (f := fun k => (cuspref02_Float.f k a).bind fun x => (cuspref02_Float.f k b).bind fun y => (cuspref02_Plus.f x.1 x.2.1 x.2.2 y.1 y.2.1 y.2.2).bind fun z => (cuspref03_R.f z.1 z.2.1 z.2.2 2 (if sgn a = true ∧ sgn b = true then 9223372036854775808 else 0)).bind fun t => some t) (fun k => ?_) ?_
          · rw [cuspref03_Add.j1, if_neg (by simp), risinf_law ha, Option.bind_some, if_neg ia, risinf_law hb, Option.bind_some, if_neg ib]
            have hs : ∀ {x : Nat}, x < 18446744073709551616 → cuspref03_sign.f x = some (sgn x) := fun hx => by unfold cuspref03_sign.f; rw [rneg_law hx]; rfl
            rw [hs ha, hs hb]
            simp only [Option.bind_some, rsum0_law]
          · refine Ev.bind (rfloat_law fa) (Ev.bind (rfloat_law fb) ?_)
            refine Ev.congr (f := fun _ => some _) (fun k => ?_) (Ev.now _)
            rw [rplus_can (by omega) (by omega), Option.bind_some, rR_law (by omega) (by omega), Option.bind_some]
  unfold cuspref05_add.f
  exact Ev.bind hA (Ev.now _)
theorem same_nan {a b : Nat} (ha : a < 18446744073709551616) (hb : b < 18446744073709551616) (h : a = b ∨ nanB a = true ∧ nanB b = true) : cusplaw05_same.f a b = some true := by
  rcases h with rfl | ⟨h1, h2⟩
  · exact same_law a
  · unfold cusplaw05_same.f cuspref01_Same.f cuspref01_Bits.f
    rw [Option.bind_some, Option.bind_some]
    by_cases he : (a : Int) = (b : Int)
    · rw [if_pos he]; rfl
    · rw [if_neg he, risnan_law ha, Option.bind_some, if_pos h1, risnan_law hb, Option.bind_some, h2]; rfl
theorem rfinite_law {b : Nat} (h : b < 18446744073709551616) : cuspref01_Finite.f b = some (decide (Fin64 b)) := by
  unfold cuspref01_Finite.f
  rw [mag_law h, Option.bind_some]
  have hk : (((b % 9223372036854775808 : Nat) : Int) < 9218868437227405312) ↔ Fin64 b := by
    unfold Fin64
    constructor
    · intro h2; exact ⟨h, by omega⟩
    · intro h2; have := h2.2; omega
  exact congrArg some (decide_eq_decide.2 hk)
theorem sumR_rel (a b : Nat) : sumV a b = sumR a b ∨ nanB (sumV a b) = true ∧ nanB (sumR a b) = true := by
  unfold sumR
  by_cases hn : nanB a = true ∨ nanB b = true
  · right
    rw [if_pos hn]
    unfold sumV
    rw [if_pos hn]
    exact ⟨by decide +kernel, by decide +kernel⟩
  · left; rw [if_neg hn]
theorem sumR_lt {a b : Nat} (ha : a < 18446744073709551616) (hb : b < 18446744073709551616) : sumR a b < 18446744073709551616 := by
  unfold sumR
  split
  · omega
  · exact sumV_lt ha hb
theorem sumR_fin {a b : Nat} : Fin64 (sumR a b) ↔ Fin64 (sumV a b) ∧ sumR a b = sumV a b := by
  rcases sumR_rel a b with h | ⟨h1, h2⟩
  · rw [← h]; exact ⟨fun h => ⟨h, rfl⟩, fun h => h.1⟩
  · constructor
    · intro h; rw [(kind_fin h).1] at h2; cases h2
    · intro h; rw [(kind_fin h.1).1] at h1; cases h1
theorem rminus_law (y : Int) : cuspref02_Minus.f (canN y (-1074)).1 (canN y (-1074)).2.1 (canN y (-1074)).2.2 = some (canN (-y) (-1074)) := by
  unfold cuspref02_Minus.f
  rw [neg_can]
  by_cases h : y = 0
  · rw [if_pos (by have := (can_length (e := -1074)).2 h; omega), if_pos h]
  · rw [if_neg (fun h' => h ((can_length (e := -1074)).1 (by omega))), if_neg h]
theorem rless_can {x y : Int} (hx : bl x.natAbs ≤ 900000) (hy : bl y.natAbs ≤ 900000) : cuspref02_Less.f (canN x (-1074)).1 (canN x (-1074)).2.1 (canN x (-1074)).2.2 (canN y (-1074)).1 (canN y (-1074)).2.1 (canN y (-1074)).2.2 = some (canN (x - y) (-1074)) := by
  unfold cuspref02_Less.f
  rw [rminus_law, Option.bind_some, rplus_can hx (by rw [Int.natAbs_neg]; exact hy), Option.bind_some, show x + -y = x - y by omega]
theorem lost_bl {a b s : Nat} (ha : Fin64 a) (hb : Fin64 b) (hs : Fin64 s) : bl (flz a + flz b - flz s).natAbs ≤ 2101 := by
  have h1 := sum_bl ha hb
  have h2 : bl (flz s).natAbs ≤ 2098 := bl_le.2 (flz_lt hs)
  have h3 := Int.natAbs_sub_le (flz a + flz b) (flz s)
  have h4 := bl_add (k := 2100) h1 (by omega : bl (flz s).natAbs ≤ 2100)
  exact bl_le.2 (Nat.lt_of_le_of_lt h3 (bl_le.1 h4))
theorem sumV_fin {a b : Nat} (ha : a < 18446744073709551616) (hb : b < 18446744073709551616) (ho : ¬ opp a b) (h : Fin64 (sumV a b)) : Fin64 a ∧ Fin64 b := by
  have e : sumT a b = sumV a b := by unfold sumT; rw [if_neg ho]
  have := sumT_fin ha hb (by rw [e]; exact h)
  exact ⟨this.1, this.2.1⟩
def lostV (a b : Nat) : Nat := if Fin64 (sumV a b) then rndZ (flz a + flz b - flz (sumV a b)) 2 else 0
theorem lostT_eq {a b : Nat} (ho : ¬ opp a b) : lostT a b = lostV a b := by
  have e : sumT a b = sumV a b := by unfold sumT; rw [if_neg ho]
  unfold lostT lostV
  rw [e]
theorem rtwo_law {a b : Nat} (ha : a < 18446744073709551616) (hb : b < 18446744073709551616) (ho : ¬ opp a b) : Ev (fun k => cuspref05_Two.f k a b) (sumR a b, lostT a b) := by
  unfold cuspref05_Two.f
  refine Ev.bind (radd_law ha hb ho) ?_
  have ht := sumR_lt ha hb
  by_cases hf : Fin64 (sumR a b)
  · obtain ⟨h1, h2⟩ := sumR_fin.1 hf
    obtain ⟨fa, fb⟩ := sumV_fin ha hb ho h1
    have b1 : bl (flz a).natAbs ≤ 2098 := bl_le.2 (flz_lt fa)
    have b2 : bl (flz b).natAbs ≤ 2098 := bl_le.2 (flz_lt fb)
    have b3 : bl (flz (sumR a b)).natAbs ≤ 2098 := bl_le.2 (flz_lt hf)
    have b4 := sum_bl fa fb
    have b5 := lost_bl fa fb hf
    refine Ev.congr (f := fun k => (cuspref02_Float.f k a).bind fun x => (cuspref02_Float.f k b).bind fun y => (cuspref02_Plus.f x.1 x.2.1 x.2.2 y.1 y.2.1 y.2.2).bind fun z => (cuspref02_Float.f k (sumR a b)).bind fun s => (cuspref02_Less.f z.1 z.2.1 z.2.2 s.1 s.2.1 s.2.2).bind fun d => (cuspref03_R.f d.1 d.2.1 d.2.2 2 (0 : Nat)).bind fun t => some (sumR a b, t)) (fun k => ?_) ?_
    · rw [rfinite_law ht, Option.bind_some, decide_eq_true hf, if_pos rfl]
    · refine Ev.bind (rfloat_law fa) (Ev.bind (rfloat_law fb) ?_)
      refine Ev.congr (f := fun k => (cuspref02_Float.f k (sumR a b)).bind fun s => (cuspref02_Less.f (canN (flz a + flz b) (-1074)).1 (canN (flz a + flz b) (-1074)).2.1 (canN (flz a + flz b) (-1074)).2.2 s.1 s.2.1 s.2.2).bind fun d => (cuspref03_R.f d.1 d.2.1 d.2.2 2 (0 : Nat)).bind fun t => some (sumR a b, t)) (fun k => ?_) (Ev.bind (rfloat_law hf) ?_)
      · rw [rplus_can (by omega) (by omega), Option.bind_some]
      · refine Ev.congr (f := fun _ => some _) (fun k => ?_) (Ev.now _)
        rw [rless_can (by omega) (by omega), Option.bind_some, rR_law (by omega) (by omega), Option.bind_some]
        rw [lostT_eq ho]
        unfold lostV rndZ
        rw [if_pos h1, h2]
        split <;> rfl
  · refine Ev.congr (f := fun _ => some (sumR a b, 0)) (fun k => ?_) ?_
    · rw [rfinite_law ht, Option.bind_some, decide_eq_false hf, if_neg (by simp)]
    · have : lostT a b = 0 := by
        rw [lostT_eq ho]
        unfold lostV
        rw [if_neg]
        intro h
        apply hf
        rcases sumR_rel a b with h' | ⟨h1, _⟩
        · rw [← h']; exact h
        · rw [(kind_fin h).1] at h1; cases h1
      rw [this]
      exact Ev.now _
def sumD (a b : Nat) : Nat := if opp a b then 9221120237041090560 else sumR a b
theorem sumD_rel (a b : Nat) : relN (sumT a b) (sumD a b) := by
  unfold sumT sumD
  by_cases ho : opp a b
  · rw [if_pos ho, if_pos ho]; exact .inl rfl
  · rw [if_neg ho, if_neg ho]; exact sumR_rel a b
theorem sumD_lt {a b : Nat} (ha : a < 18446744073709551616) (hb : b < 18446744073709551616) : sumD a b < 18446744073709551616 := by
  unfold sumD
  split
  · omega
  · exact sumR_lt ha hb
theorem rtwo_all {a b : Nat} (ha : a < 18446744073709551616) (hb : b < 18446744073709551616) : Ev (fun k => cuspref05_Two.f k a b) (sumD a b, lostT a b) := by
  unfold sumD
  by_cases ho : opp a b
  · have hl : lostT a b = 0 := by
      unfold lostT
      rw [if_neg]
      intro h
      have := (kind_fin h).1
      unfold sumT at this
      rw [if_pos ho] at this
      exact absurd this (by decide +kernel)
    rw [if_pos ho, hl]
    refine Ev.of (fun k => cuspref05_Two.mono _ _ k) (k := 10) ?_
    rcases opp_cases ha hb ho with ⟨rfl, rfl⟩ | ⟨rfl, rfl⟩ <;> decide +kernel
  · rw [if_neg ho]; exact rtwo_law ha hb ho
end Go.Proofs.YthmeocigliephaaGreatDoor.Big
end
section
namespace Go.Proofs.YthmeocigliephaaGreatDoor.Big
open Go.RowKit Go.Proofs.YthmeocigliephaaGreatDoorW.PrintWords Go.Proofs.YthmeocigliephaaGreatDoorW.PrintLast Go.Proofs.YthmeocigliephaaGreatDoorW.PrintMore
open Go.Proofs.YthmeocigliephaaGreatDoor.PSu Go.Proofs.YthmeocigliephaaGreatDoor.Plain Ieee
def halvesT : Nat → List Nat → Nat
  | 0, _ => 0
  | n + 1, l => if l.length = 0 then 0 else if l.length = 1 then rdOf (0 : Nat) l 0 else sumT (halvesT n (l.take (l.length / 2))) (halvesT n (l.drop (l.length / 2)))
theorem halvesT_lt : ∀ (n : Nat) (l : List Nat), (∀ b ∈ l, b < 18446744073709551616) → halvesT n l < 18446744073709551616
  | 0, _, _ => by unfold halvesT; omega
  | n + 1, l, h => by
    unfold halvesT
    split
    · omega
    · split
      · exact rd_lt h 0
      · exact sumT_lt (halvesT_lt n _ fun b hb => h b (List.mem_of_mem_take hb)) (halvesT_lt n _ fun b hb => h b (List.mem_of_mem_drop hb))
def halves_T : Bool × List (List Nat × List Nat) := (true, [([], []), ([], []), ([1], [1]), ([0, 2], [0, 2]), ([3], [3]), ([], []), ([], []), ([6], [6]), ([5, 7], [5, 7]), ([8, 4], [8]), ([4, 9, 9], [4, 9]), ([10, 10, 0, 1, 2, 3, 4, 5, 6, 7, 8, 9, 10], [10])])
def halves_B : List Nat := [0, 0, 2, 7, 15, 0, 0, 64, 224, 511, 1023, 2047]
theorem halves_tab : rtab .any (opsOf Tryz.f14 3) = halves_T := by kernel_rfl
theorem halves_bits : waitsOk halves_T.2 halves_B = true := by kernel_rfl
set_option maxHeartbeats 8000000 in
set_option maxRecDepth 100000 in
theorem halves_rel (n : Nat) : ∀ (A0 : Option Addr) (c0 : Nat) (l0 : List Nat) (w : World), l0.length ≤ n ∧ l0.length < 4611686018427387904 → Kd.C Kd.float w A0 l0.length l0 → l0.length ≤ c0 → (∀ b ∈ l0, b < 18446744073709551616) → Laid w →
    Calls Tryz.prog 14 #[.slice A0 l0.length c0] w (RetRel (halvesT n l0) w) := by
  induction n with
  | zero =>
    intro A0 c0 l0 w hn hr hc hw hL
    have HB := asd (Below.refl w.heap.size w)
    obtain rfl : l0 = [] := List.length_eq_zero_iff.1 (by omega)
    clear hn hr hc hw hL
    go_enter Tryz.func14, Tryz.ntmps14
    go_wp2
    go_ret
    exact ⟨0, .inl rfl, by omega, rfl, HB.out⟩
  | succ n ih =>
  intro A0 c0 l0 w hn hr hc hw hL
  have IH := asd ih
  have HL := asd hL
  have HB := asd (Below.refl w.heap.size w)
  clear ih
  obtain ⟨T, hT⟩ : ∃ T, halvesT (n + 1) l0 = T := ⟨_, rfl⟩
  rw [hT]
  unfold halvesT at hT
  by_cases c2 : (l0.length : Int) = 0
  · have c2b0 : ((l0.length : Int) == 0) = true := beq_iff_eq.mpr c2
    rw [if_pos (by omega)] at hT
    subst hT
    clear c2 hn hr hc hw hL
    go_enter Tryz.func14, Tryz.ntmps14
    go_wp2
    go_ret
    exact ⟨0, .inl rfl, by omega, rfl, HB.out⟩
  have c2b0 : ((l0.length : Int) == 0) = false := beq_eq_false_iff_ne.mpr c2
  have c2b1 : ((l0.length : Int) != 0) = true := bne_iff_ne.mpr c2
  have c2b2 : ¬ (l0 = []) := fun h_ => c2 (by rw [h_]; rfl)
  rw [if_neg (by omega)] at hT
  by_cases c3 : (l0.length : Int) = 1
  · have c3b0 : ((l0.length : Int) == 1) = true := beq_iff_eq.mpr c3
    have c3b1 : ((l0.length : Int) != 1) = false := bne_eq_false_iff_eq.mpr c3
    rw [if_pos (by omega)] at hT
    have HX := asd (rd_lt hw 0)
    have p172 : 0 ≤ (0 : Int) := (by omega)
    have q172 : 0 < (l0.length : Int) := by omega
    obtain ⟨ad172, e172, hx172_0⟩ := Kd.at_float hr 0 p172 q172
    cases e172
    rw [hT] at hx172_0 HX
    have qi172 : (0 < l0.length) = True := eq_true (by omega)
    rw [show ((0 : Int)).toNat = 0 from rfl, Addr.add_zero'] at hx172_0
    replace p172 := eq_true p172
    replace q172 := eq_true q172
    clear c3 hT hn hr hc hw hL c2
    go_enter Tryz.func14, Tryz.ntmps14
    go_wp2
    go_ret
    exact ⟨T, .inl rfl, HX.out, rfl, HB.out⟩
  · have c3b0 : ((l0.length : Int) == 1) = false := beq_eq_false_iff_ne.mpr c3
    have c3b1 : ((l0.length : Int) != 1) = true := bne_iff_ne.mpr c3
    rw [if_neg (by omega)] at hT
    obtain ⟨ji5, hji5⟩ : ∃ j_ : Int, (wrap64 ((l0.length : Int) / 2)) = j_ := ⟨_, rfl⟩
    have hji5w : (IntKind.i64.wrap ((l0.length : Int) / 2)) = ji5 := (i64_w _).trans hji5
    have hj : ji5 = (l0.length : Int) / 2 := by rw [← hji5]; exact w64_of (by omega) (by omega)
    have hj2 : (ji5 : Int).toNat = l0.length / 2 := by omega
    rw [← hj2] at hT
    have c6b1 : decide (0 ≤ (ji5)) = true := decide_eq_true (by omega)
    have c7b1 : decide ((ji5) ≤ (l0.length : Int)) = true := decide_eq_true (by omega)
    have J1 := asd (show (l0.take ((ji5) : Int).toNat).length ≤ n ∧ (l0.take ((ji5) : Int).toNat).length < 4611686018427387904 by rw [List.length_take]; omega)
    have J2 := asd (show ∀ b ∈ l0.take ((ji5) : Int).toNat, b < 18446744073709551616 from fun b hb => hw b (List.mem_of_mem_take hb))
    have J3 := asd (show (l0.drop ((ji5) : Int).toNat).length ≤ n ∧ (l0.drop ((ji5) : Int).toNat).length < 4611686018427387904 by rw [List.length_drop]; omega)
    have J4 := asd (show ∀ b ∈ l0.drop ((ji5) : Int).toNat, b < 18446744073709551616 from fun b hb => hw b (List.mem_of_mem_drop hb))
    have HT := asd hT
    have HR0 := asd hr
    have HC0 := asd hc
    have HJ0 := asd (show 0 ≤ ji5 ∧ ji5 ≤ (l0.length : Int) by omega)
    have c6b0 := eq_true HJ0.out.1
    have c7b0 := eq_true HJ0.out.2
    clear hj hj2 hT hn hr hc hw hL
    go_enter Tryz.func14, Tryz.ntmps14
    try go_wp2
    have n0_ := asd (below_drew1 HB.out)
    clear HB
    have HB := n0_
    clear n0_
    obtain ⟨i014, hi014, _, hsz14, _⟩ := info_parts info25
    obtain ⟨hcut14, hA14, hC14⟩ := print_take_of (P := Tryz.prog) (Value.float .f64) (0 : Nat) 22 25 .i64 Tryz.underlying22 hi014 hsz14 A0 c0 l0 (ji5) (of_decide_eq_true (by first | (with_reducible assumption) | assumption)) (of_decide_eq_true (by first | (with_reducible assumption) | assumption)) HC0.out
    have HR173 := asd (Kd.C_of_reads (h1 := fun _ => rfl) (hA14 _ (Kd.reads_of_C HR0.out)))
    have HC173 := asd hC14
    clear hA14 hC14 hi014 hsz14
    obtain ⟨i015, hi015, _, hsz15, _⟩ := info_parts info25
    obtain ⟨A15, hcut15, hA15, hC15⟩ := print_drop_of (P := Tryz.prog) (Value.float .f64) (0 : Nat) 22 25 .i64 Tryz.underlying22 hi015 hsz15 A0 c0 l0 (ji5) (of_decide_eq_true (by first | (with_reducible assumption) | assumption)) (of_decide_eq_true (by first | (with_reducible assumption) | assumption)) HC0.out
    have HR175 := asd (Kd.C_of_reads (h1 := fun _ => rfl) (hA15 _ (Kd.reads_of_C HR0.out)))
    have HC175 := asd hC15
    clear hA15 hC15 hi015 hsz15
    refine start_ (n := 12) (S := fun w' => True) (ds := []) #[false, false, false, false, false, false, false, false, false, false, false, false] (by kernel_rfl) rfl rfl trivial (fun hHeld => ?_); refine with_tabW halves_tab halves_bits (fun HT_ HW_ => ?_)
    generalize w.drew = w13 at HB HR173 HR175 hHeld ⊢
    refine pure_ (i := 0) (N := some 7) (v := ?_) (a' := ?_) #[true, false, false, false, false, false, false, false, false, false, false, false] rfl rfl (any_of HT_.out (by kernel_rfl)) (fun _ _ _ h => h) (Or.inl ⟨by rfl, ?_⟩) ?_ ?_
    rotate_left
    · intro w'
      go_simp
      with_reducible rfl
    rotate_left
    · simp only [Act.put, List.setIfInBounds_toArray, List.set_cons_zero, List.set_cons_succ, i64_w, i32_w]
      rfl
    refine pure_ (i := 1) (N := some 8) (v := ?_) (a' := ?_) #[true, true, false, false, false, false, false, false, false, false, false, false] rfl rfl (any_of HT_.out (by kernel_rfl)) (fun _ _ _ h => h) (Or.inl ⟨by rfl, ?_⟩) ?_ ?_
    rotate_left
    · intro w'
      go_simp
      with_reducible rfl
    rotate_left
    · simp only [Act.put, List.setIfInBounds_toArray, List.set_cons_zero, List.set_cons_succ, i64_w, i32_w]
      rfl
    refine pure_ (i := 2) (N := some 9) (v := ?_) (a' := ?_) #[true, true, true, false, false, false, false, false, false, false, false, false] rfl rfl (any_of HT_.out (by kernel_rfl)) (fun _ _ _ h => h) (Or.inl ⟨by rfl, ?_⟩) ?_ ?_
    rotate_left
    · intro w'
      go_simp
      with_reducible rfl
    rotate_left
    · simp only [Act.put, List.setIfInBounds_toArray, List.set_cons_zero, List.set_cons_succ, i64_w, i32_w]
      rfl
    refine pure_ (i := 3) (N := some 10) (v := ?_) (a' := ?_) #[true, true, true, true, false, false, false, false, false, false, false, false] rfl rfl (any_of HT_.out (by kernel_rfl)) (fun _ _ _ h => h) (Or.inl ⟨by rfl, ?_⟩) ?_ ?_
    rotate_left
    · intro w'
      go_simp
      with_reducible rfl
    rotate_left
    · simp only [Act.put, List.setIfInBounds_toArray, List.set_cons_zero, List.set_cons_succ, i64_w, i32_w]
      rfl
    refine pure_ (i := 5) (N := some 12) (v := ?_) (a' := ?_) #[true, true, true, true, false, true, false, false, false, false, false, false] rfl rfl (any_of HT_.out (by kernel_rfl)) (fun _ _ _ h => h) (Or.inl ⟨by rfl, ?_⟩) ?_ ?_
    rotate_left
    · intro w'
      go_simp
      with_reducible rfl
    rotate_left
    · simp only [Act.put, List.setIfInBounds_toArray, List.set_cons_zero, List.set_cons_succ, i64_w, i32_w]
      rfl
    refine pure_ (i := 6) (N := some 13) (v := ?_) (a' := ?_) #[true, true, true, true, false, true, true, false, false, false, false, false] rfl rfl (any_of HT_.out (by kernel_rfl)) (fun _ _ _ h => h) (Or.inl ⟨by rfl, ?_⟩) ?_ ?_
    rotate_left
    · intro w'
      go_simp
      with_reducible rfl
    rotate_left
    · simp only [Act.put, List.setIfInBounds_toArray, List.set_cons_zero, List.set_cons_succ, i64_w, i32_w]
      rfl
    refine pure_ (i := 7) (N := some 14) (v := ?_) (a' := ?_) #[true, true, true, true, false, true, true, true, false, false, false, false] rfl rfl (any_of HT_.out (by kernel_rfl)) (fun _ _ _ h => h) (Or.inl ⟨by rfl, ?_⟩) ?_ ?_
    rotate_left
    · intro w'
      go_simp
      with_reducible rfl
    rotate_left
    · simp only [Act.put, List.setIfInBounds_toArray, List.set_cons_zero, List.set_cons_succ, i64_w, i32_w]
      rfl
    refine pure_ (i := 8) (N := some 15) (v := ?_) (a' := ?_) #[true, true, true, true, false, true, true, true, true, false, false, false] rfl rfl (any_of HT_.out (by kernel_rfl)) (fun _ _ _ h => h) (Or.inl ⟨by rfl, ?_⟩) ?_ ?_
    rotate_left
    · intro w'
      go_simp
      with_reducible rfl
    rotate_left
    · simp only [Act.put, List.setIfInBounds_toArray, List.set_cons_zero, List.set_cons_succ, i64_w, i32_w]
      rfl
    refine one_ (i := 4) (N := some 11) #[true, true, true, true, true, true, true, true, true, false, false, false] rfl rfl (one_of HT_.out (by kernel_rfl)) (by decide) (fun K hK => ?_)
    refine goes_ Tryz.func14 (by kernel_rfl) rfl #[.slice A0 (l0.take ((ji5) : Int).toNat).length c0] (by rfl) rfl rfl (by (try simp only [List.map_toArray, List.map_cons, List.map_nil]); first | done | (rw [show (l0.take ((ji5) : Int).toNat).length = (ji5).toNat from (by rw [List.length_take]; have h_ : ((ji5) : Int) ≤ (l0.length : Int) := of_decide_eq_true (by first | (with_reducible assumption) | assumption); omega)] <;> rfl) | (simp only [hji5]; rfl) | rfl | (simp only [List.length_drop, List.length_take]; rfl)) ?_
    refine (IH.out A0 c0 (l0.take ((ji5) : Int).toNat) _ J1.out (Kd.C_below HR173.out HB.out) HC173.out J2.out (HL.out.step HB.out)).mono ?_
    rintro e w16 ⟨t174, n1, n2, rfl, hb⟩
    have N1 := asd (And.intro n1 n2)
    clear n1 n2
    refine ⟨_, rfl, ?_⟩
    have n0_ := asd (below_step hbw hb)
    clear HB
    have HB := n0_
    clear n0_
    (try clear hb)
    (try clear hb2)
    (try clear hk)
    (try clear hi)
    refine hK.out _ _ trivial (fun hHeld => ?_)
    clear hK K
    refine norm_ (a' := ?_) ?_ ?_
    rotate_left
    · show Act.put _ (some 11) _ = _
      simp only [Act.put, List.setIfInBounds_toArray, List.set_cons_zero, List.set_cons_succ, i64_w, i32_w]
      rfl
    refine one_ (i := 9) (N := some 16) #[true, true, true, true, true, true, true, true, true, true, false, false] rfl rfl (one_of HT_.out (by kernel_rfl)) (by decide) (fun K hK => ?_)
    refine goes_ Tryz.func14 (by kernel_rfl) rfl #[.slice A15 (l0.drop ((ji5) : Int).toNat).length (c0 - (ji5).toNat)] (by rfl) rfl rfl (by (try simp only [List.map_toArray, List.map_cons, List.map_nil]); first | done | (rw [show (l0.drop ((ji5) : Int).toNat).length = (l0.length - (ji5).toNat) from List.length_drop] <;> rfl) | (simp only [hji5]; rfl) | rfl | (simp only [List.length_drop, List.length_take]; rfl)) ?_
    refine (IH.out A15 (c0 - (ji5).toNat) (l0.drop ((ji5) : Int).toNat) _ J3.out (Kd.C_below HR175.out HB.out) HC175.out J4.out (HL.out.step HB.out)).mono ?_
    rintro e w17 ⟨t176, n1, n2, rfl, hb⟩
    have N2 := asd (And.intro n1 n2)
    clear n1 n2
    refine ⟨_, rfl, ?_⟩
    have n0_ := asd (below_step hbw hb)
    clear HB
    have HB := n0_
    clear n0_
    (try clear hb)
    (try clear hb2)
    (try clear hk)
    (try clear hi)
    refine hK.out _ _ trivial (fun hHeld => ?_)
    clear hK K
    refine norm_ (a' := ?_) ?_ ?_
    rotate_left
    · show Act.put _ (some 16) _ = _
      simp only [Act.put, List.setIfInBounds_toArray, List.set_cons_zero, List.set_cons_succ, i64_w, i32_w]
      rfl
    refine one_ (i := 10) (N := some 17) #[true, true, true, true, true, true, true, true, true, true, true, false] rfl rfl (one_of HT_.out (by kernel_rfl)) (by decide) (fun K hK => ?_)
    refine goes_ Tryz.func39 (by kernel_rfl) rfl #[.float .f64 t174, .float .f64 t176] (by rfl) rfl rfl eqA ?_
    refine (near_rel t174 t176 _ N1.out.2 N2.out.2 (HL.out.step HB.out)).mono ?_
    rintro e w18 ⟨t177, n1, n2, rfl, hb⟩
    have N3 := asd (And.intro n1 n2)
    clear n1 n2
    refine ⟨_, rfl, ?_⟩
    have n0_ := asd (below_step hbw hb)
    clear HB
    have HB := n0_
    clear n0_
    (try clear hb)
    (try clear hb2)
    (try clear hk)
    (try clear hi)
    refine hK.out _ _ trivial (fun hHeld => ?_)
    clear hK K
    refine norm_ (a' := ?_) ?_ ?_
    rotate_left
    · show Act.put _ (some 17) _ = _
      simp only [Act.put, List.setIfInBounds_toArray, List.set_cons_zero, List.set_cons_succ, i64_w, i32_w]
      rfl
    refine pure_ (i := 11) (N := some 2) (v := ?_) (a' := ?_) #[true, true, true, true, true, true, true, true, true, true, true, true] rfl rfl (any_of HT_.out (by kernel_rfl)) (fun _ _ _ h => h) (Or.inl ⟨by rfl, ?_⟩) ?_ ?_
    rotate_left
    · intro w'
      go_simp
      with_reducible rfl
    rotate_left
    · simp only [Act.put, List.setIfInBounds_toArray, List.set_cons_zero, List.set_cons_succ, i64_w, i32_w]
      rfl
    refine done_ (done_of HT_.out (by kernel_rfl)) ?_
    try go_wp2
    go_ret
    refine ⟨t177, ?_, N3.out.2, rfl, HB.out⟩
    have := relN_sum N1.out.2 N2.out.2 (halvesT_lt n _ J2.out) (halvesT_lt n _ J4.out) N1.out.1 N2.out.1
    exact HT.out ▸ relN_trans N3.out.1 this
end Go.Proofs.YthmeocigliephaaGreatDoor.Big
end
section
namespace Go.Proofs.YthmeocigliephaaGreatDoor.Big
open Go.RowKit Go.Proofs.YthmeocigliephaaGreatDoorW.PrintWords Go.Proofs.YthmeocigliephaaGreatDoorW.PrintLast Go.Proofs.YthmeocigliephaaGreatDoorW.PrintMore
open Go.Proofs.YthmeocigliephaaGreatDoor.PSu Go.Proofs.YthmeocigliephaaGreatDoor.Plain
def sureM : List Nat := [4607182418800017408, 6103021453049119613, 4607182418800017408, 15326393489903895421]
theorem sureM_row : rowT sureM = 0 := by decide +kernel
theorem sureM_kept : keptT sureM 0 0 = 4611686018427387904 := by decide +kernel
theorem sureM_halves : halvesT 4 sureM = 0 := by decide +kernel
theorem sureM_sum : sumT 4846369599423283200 4607182418800017408 = 4846369599423283200 := by decide +kernel
theorem sureM_lost : lostT 4846369599423283200 4607182418800017408 = 4607182418800017408 := by decide +kernel
theorem sureM_exact : exactW sureM 2 (canN (sumZ sureM) (-1074)) = (4611686018427387904, 0) := by decide +kernel
theorem sureM_arg : exactW sureM 0 (canN (sumZ sureM) (-1074)) = (0, 1) := by decide +kernel
theorem sureM_fin : ∀ b ∈ sureM, b < 18446744073709551616 := by decide +kernel
theorem sureM_lit (w : World) : Kd.C Kd.float (w.alloc (.cells #[.float .f64 4607182418800017408, .float .f64 6103021453049119613, .float .f64 4607182418800017408, .float .f64 15326393489903895421] 25 (0, 0))) (some ⟨w.heap.size, 0, none⟩) sureM.length sureM := by
  refine Kd.C_of_reads (d := (0 : Nat)) ⟨rfl, by decide, fun _ => ⟨_, rfl, fun j hj => ?_⟩⟩
  have hb := blk_new w (.cells #[.float .f64 4607182418800017408, .float .f64 6103021453049119613, .float .f64 4607182418800017408, .float .f64 15326393489903895421] 25 (0, 0))
  have h4 : j < 4 := hj
  have hc := blk_cell hb
  have : j = 0 ∨ j = 1 ∨ j = 2 ∨ j = 3 := by omega
  rcases this with rfl | rfl | rfl | rfl
  · exact hc 0
  · exact hc 1
  · exact hc 2
  · exact hc 3
set_option maxRecDepth 100000 in
set_option maxHeartbeats 1000000 in
theorem sure_rel (w : World) (hL : Laid w) : Calls Tryz.prog 19 #[] w fun e w' => e = .returned (.bool true) ∧ Below w.heap.size w w' := by
  have HL := asd hL
  have B1 := asd ((Below.refl w.heap.size w).alloc (Nat.le_refl _) (.cells #[.float .f64 4607182418800017408, .float .f64 6103021453049119613, .float .f64 4607182418800017408, .float .f64 15326393489903895421] 25 (0, 0)))
  have C1 := asd (sureM_lit w)
  have E1 := asd sureM_exact
  have E2 := asd sureM_arg
  have V1 : (FloatKind.f64.format.order 0 0 == some .eq) = true := by decide +kernel
  have V2 : (FloatKind.f64.format.order 4611686018427387904 4611686018427387904 == some .eq) = true := by decide +kernel
  have V3 : (FloatKind.f64.format.order 4846369599423283200 4846369599423283200 == some .eq) = true := by decide +kernel
  have V4 : (FloatKind.f64.format.order 4607182418800017408 4607182418800017408 == some .eq) = true := by decide +kernel
  have N0 := asd (show nanB (rowT sureM) = false by rw [sureM_row]; decide +kernel)
  have N1 := asd (show nanB (keptT sureM 0 0) = false by rw [sureM_kept]; decide +kernel)
  have N2 := asd (show nanB (halvesT 4 sureM) = false by rw [sureM_halves]; decide +kernel)
  have N3 := asd (show nanB (sumT 4846369599423283200 4607182418800017408) = false by rw [sureM_sum]; decide +kernel)
  have tok1 : True := trivial
  clear hL
  go_enter Tryz.func19, Tryz.ntmps19
  go_wp2_with (first
    | (go_at_call 22; have _t := tok1; refine (exact_list (some ⟨w.heap.size, 0, none⟩) 4 sureM 2 _ C1.out (by decide) (by decide) sureM_fin (HL.out.step B1.out)).mono ?_; rw [E1.out]; rintro e w2 ⟨rfl, d⟩; have B2 := asd (below_post d B1.out); have C2 := asd (Kd.C_below C1.out d); clear d _t tok1)
    | (go_at_call 22; refine (exact_list (some ⟨w.heap.size, 0, none⟩) 4 sureM 0 _ C2.out (by decide) (by decide) sureM_fin (HL.out.step B2.out)).mono ?_; rw [E2.out]; rintro e w3 ⟨rfl, d⟩; have B3 := asd (below_post d B2.out); have C3 := asd (Kd.C_below C2.out d); clear d)
    | (go_at_call 20; refine (two_rel _ _ _ (by decide) (by decide) (HL.out.step B3.out)).mono ?_; rw [sureM_lost]; rintro e w4 ⟨r, h1, _, rfl, d⟩; obtain rfl := (relN_eq h1 N3.out).trans sureM_sum; have B4 := asd (below_post d B3.out); have C4 := asd (Kd.C_below C3.out d); clear d h1)
    | (go_at_call 12; refine (row_rel (some ⟨w.heap.size, 0, none⟩) 4 sureM _ C4.out (by decide) (by decide) sureM_fin (HL.out.step B4.out)).mono ?_; rintro e w5 ⟨r, h1, _, rfl, d⟩; obtain rfl := (relN_eq h1 N0.out).trans sureM_row; have B5 := asd (below_post d B4.out); have C5 := asd (Kd.C_below C4.out d); clear d h1)
    | (go_at_call 16; refine (kept_rel (some ⟨w.heap.size, 0, none⟩) 4 sureM _ C5.out (by decide) (by decide) sureM_fin (HL.out.step B5.out)).mono ?_; rintro e w6 ⟨r, h1, _, rfl, d⟩; obtain rfl := (relN_eq h1 N1.out).trans sureM_kept; have B6 := asd (below_post d B5.out); have C6 := asd (Kd.C_below C5.out d); clear d h1)
    | (go_at_call 14; refine (halves_rel 4 (some ⟨w.heap.size, 0, none⟩) 4 sureM _ ⟨by decide, by decide⟩ C6.out (by decide) sureM_fin (HL.out.step B6.out)).mono ?_; rintro e w7 ⟨r, h1, _, rfl, d⟩; obtain rfl := (relN_eq h1 N2.out).trans sureM_halves; have B7 := asd (below_post d B6.out); clear d h1))
  go_ret
  exact ⟨rfl, B7.out⟩
end Go.Proofs.YthmeocigliephaaGreatDoor.Big
end
section
namespace Go.Proofs.YthmeocigliephaaGreatDoor.Big
open Go.RowKit Go.Proofs.YthmeocigliephaaGreatDoorW.PrintWords Go.Proofs.YthmeocigliephaaGreatDoorW.PrintLast Go.Proofs.YthmeocigliephaaGreatDoorW.PrintMore
open Go.Proofs.YthmeocigliephaaGreatDoor.PSv Go.Proofs.YthmeocigliephaaGreatDoor.PSu Go.Proofs.YthmeocigliephaaGreatDoor.Plain
theorem two_any (a b : Nat) (ha : a < 18446744073709551616) (hb : b < 18446744073709551616) (w : World) (hL : Laid w) :
    Calls Tryz.prog 4 #[.float .f64 a, .float .f64 b] w fun e w' => e = .returned (.bool true) ∧ Below w.heap.size w w' := by
  obtain ⟨k, hk⟩ := Ev.rounds (rtwo_all ha hb)
  have HT := asd hk
  have HL := asd hL
  have HA := asd (And.intro ha hb)
  have HD := asd (And.intro (sumD_rel a b) (sumD_lt ha hb))
  obtain ⟨D, hD⟩ : ∃ D, sumD a b = D := ⟨_, rfl⟩
  rw [hD] at HT HD
  obtain ⟨L, hLL⟩ : ∃ L, lostT a b = L := ⟨_, rfl⟩
  rw [hLL] at HT
  have HLL := asd hLL
  have S0 := asd (same_law L)
  have tok1 : True := trivial
  clear ha hb hL hk hD hLL
  go_enter Tryz.func4, Tryz.ntmps4
  go_wp2_with (first
    | (go_at_call 20; refine (two_rel a b _ HA.out.1 HA.out.2 HL.out).mono ?_; rw [HLL.out]; rintro e w1 ⟨r, n1, n2, rfl, d⟩; have B1 := asd d; have SN := asd (same_nan n2 HD.out.2 (relN_trans n1 HD.out.1)); clear n1 n2 d)
    | (go_at_call 21; refine (cuspref05_Two.calls k a b _ _ _ HT.out).mono ?_; rintro e w2 ⟨rfl, d⟩; have B2 := asd (below_post d B1.out); clear d)
    | (go_at_call 11; have _t := tok1; refine (cusplaw05_same.calls _ _ true _ SN.out).mono ?_; rintro e w3 ⟨rfl, d⟩; have B3 := asd (below_post d.below B2.out); clear d _t tok1)
    | (go_at_call 11; refine (cusplaw05_same.calls _ _ true _ S0.out).mono ?_; rintro e w4 ⟨rfl, d⟩; have B4 := asd (below_post d.below B3.out); clear d)
    | (go_at_call 19; refine (sure_rel _ (HL.out.step B4.out)).mono ?_; rintro e w5 ⟨rfl, d⟩; have B5 := asd (below_post d B4.out); clear d))
  go_ret
  exact ⟨rfl, B5.out⟩
end Go.Proofs.YthmeocigliephaaGreatDoor.Big
end
