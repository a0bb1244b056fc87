/- Parts of the proof, behind one another; unused words are left out. -/
import Derived.Test.YthmeocigliephaaGreatDoorXs02
import Derived.BigQuiet
import Derived.Deep.QuietTactic
set_option linter.unusedVariables false
set_option linter.unusedSimpArgs false
set_option linter.unusedSectionVars false
set_option exponentiation.threshold 100000
set_option maxRecDepth 100000
set_option maxHeartbeats 8000000
open Go.RowKit Go.Proofs.YthmeocigliephaaGreatDoorW.PrintWords Go.Proofs.YthmeocigliephaaGreatDoorW.PrintLast Go.Proofs.YthmeocigliephaaGreatDoorW.PrintMore
section
namespace Go.Proofs.YthmeocigliephaaGreatDoor.PSu
attribute [local go_sem] f64bits_run f64from_run run_float_some max2_int min2_int max_two min_two max_three min_three max_four min_four
def dyad_Sub.f (k : Nat) (a0_0 : Bool) (l0_1 : List Int) (a0_2 : Int) (a1_0 : Bool) (l1_1 : List Int) (a1_2 : Int) : Option (Bool × List Int × Int × Int) := (dyad_valid.f k (([(⟨a0_0, l0_1, a0_2⟩ : S60), (⟨a1_0, l1_1, a1_2⟩ : S60)] : List (S60)))).bind fun t196 => (if t196 = true then ((dyad_Neg.f a1_0 l1_1 a1_2).bind fun bt197 => ((dyad_Add.f a0_0 l0_1 a0_2 bt197.1 bt197.2.1 bt197.2.2).bind fun bt202 => (some (bt202.1, bt202.2.1, bt202.2.2.1, bt202.2.2.2)))) else (some (false, ([] : List Int), 0, 1)))
def dyad_Sub.T3 : Bool × List (List Nat × List Nat) := (true, [([], []), ([], []), ([1], [1]), ([0, 2, 2], [0, 2]), ([3], [3]), ([3], [3]), ([4, 3, 0, 1, 2, 3, 4, 5], [4]), ([5, 6, 0, 1, 2, 3, 4, 5, 6], [5])])
def dyad_Sub.B3 : List Nat := [0, 0, 2, 7, 15, 15, 63, 127]
theorem dyad_Sub.tab3 : rtab .any (opsOf Tryz.f44 3) = dyad_Sub.T3 := by kernel_rfl
theorem dyad_Sub.bits3 : waitsOk dyad_Sub.T3.2 dyad_Sub.B3 = true := by kernel_rfl
theorem dyad_Sub.calls (k : Nat) (a0_0 : Bool) (P0_1_ : Nat → Prop) (A0_1 : Option Addr) (c0_1 : Nat) (l0_1 : List Int) (a0_2 : Int) (a1_0 : Bool) (P1_1_ : Nat → Prop) (A1_1 : Option Addr) (c1_1 : Nat) (l1_1 : List Int) (a1_2 : Int) (r1 : Bool) (r2 : List Int) (r3 : Int) (r4 : Int) (w : World) (hs0_1 : Kd.V (Kd.int .u32) 83 w w.heap.size (fun k_ => P0_1_ k_) (.slice A0_1 l0_1.length c0_1) l0_1) (hs1_1 : Kd.V (Kd.int .u32) 83 w w.heap.size (fun k_ => P1_1_ k_) (.slice A1_1 l1_1.length c1_1) l1_1) (h : dyad_Sub.f k a0_0 l0_1 a0_2 a1_0 l1_1 a1_2 = some (r1, r2, r3, r4)) (hL : Big.Laid w := by exact Big.Laid.step HL.out hbw) :
  Calls Tryz.prog 44 #[.agg #[.bool a0_0, .slice A0_1 l0_1.length c0_1, .int .i64 a0_2], .agg #[.bool a1_0, .slice A1_1 l1_1.length c1_1, .int .i64 a1_2]] w fun e w' => ∃ v1_ : Value, e = .returned (.tuple #[.agg #[.bool r1, v1_, .int .i64 r3], .int .i64 r4]) ∧ Kd.R (Kd.int .u32) 83 w' w.heap.size (fun k_ => (w.heap.size ≤ k_)) v1_ r2 ∧ Below w.heap.size w w' := by
 have HL := asd hL
 clear hL
 have hu60 := Tryz.underlying60
 have HO0_1 := asd (show Kd.V (Kd.int .u32) 83 w w.heap.size (fun k_ => ((P0_1_ k_ ∨ P1_1_ k_) ∨ w.heap.size ≤ k_)) (.slice A0_1 l0_1.length c0_1) l0_1 from Kd.V_mono hs0_1 (fun k_ hk => .inl (.inl hk)))
 have HO1_1 := asd (show Kd.V (Kd.int .u32) 83 w w.heap.size (fun k_ => ((P0_1_ k_ ∨ P1_1_ k_) ∨ w.heap.size ≤ k_)) (.slice A1_1 l1_1.length c1_1) l1_1 from Kd.V_mono hs1_1 (fun k_ hk => .inl (.inr hk)))
 have HB := asd (Below.refl w.heap.size w)
 have H : ((dyad_valid.f k (([(⟨a0_0, l0_1, a0_2⟩ : S60), (⟨a1_0, l1_1, a1_2⟩ : S60)] : List (S60)))).bind fun t196 => (if t196 = true then ((dyad_Neg.f a1_0 l1_1 a1_2).bind fun bt197 => ((dyad_Add.f a0_0 l0_1 a0_2 bt197.1 bt197.2.1 bt197.2.2).bind fun bt202 => (some (bt202.1, bt202.2.1, bt202.2.2.1, bt202.2.2.2)))) else (some (false, ([] : List Int), 0, 1)))) = some (r1, r2, r3, r4) := h
 clear h
 obtain ⟨y193, hy193⟩ : ∃ y_ : List (S60), y_ = (([(⟨a0_0, l0_1, a0_2⟩ : S60), (⟨a1_0, l1_1, a1_2⟩ : S60)] : List (S60))) := ⟨_, rfl⟩
 replace H : ((dyad_valid.f k y193).bind fun t196 => (if t196 = true then ((dyad_Neg.f a1_0 l1_1 a1_2).bind fun bt197 => ((dyad_Add.f a0_0 l0_1 a0_2 bt197.1 bt197.2.1 bt197.2.2).bind fun bt202 => (some (bt202.1, bt202.2.1, bt202.2.2.1, bt202.2.2.2)))) else (some (false, ([] : List Int), 0, 1)))) = some (r1, r2, r3, r4) := by first | (rw [hy193]; with_reducible exact H) | (have H2_ := (Option.bind_some _ _).symm.trans H; rw [hy193]; with_reducible exact H2_) | (have H2_ := (Option.bind_some _ _).symm.trans H; with_reducible exact H2_) | with_reducible exact H | (rw [hy193]; exact H) | exact H
 have Ny193 := asd hy193
 clear hy193
 replace H := Option.bind_eq_some_iff.mp H
 obtain ⟨t196, A30, H⟩ := H
 replace H : (if t196 = true then ((dyad_Neg.f a1_0 l1_1 a1_2).bind fun bt197 => ((dyad_Add.f a0_0 l0_1 a0_2 bt197.1 bt197.2.1 bt197.2.2).bind fun bt202 => (some (bt202.1, bt202.2.1, bt202.2.2.1, bt202.2.2.2)))) else (some (false, ([] : List Int), 0, 1))) = some (r1, r2, r3, r4) := H
 have A3 := asd A30
 clear A30
 by_cases c4 : t196 = true
 ·subst c4
  have H1 : ((dyad_Neg.f a1_0 l1_1 a1_2).bind fun bt197 => ((dyad_Add.f a0_0 l0_1 a0_2 bt197.1 bt197.2.1 bt197.2.2).bind fun bt202 => (some (bt202.1, bt202.2.1, bt202.2.2.1, bt202.2.2.2)))) = some (r1, r2, r3, r4) := by rw [if_pos rfl] at H; exact H
  clear H
  have H := H1
  clear H1
  replace H := Option.bind_eq_some_iff.mp H
  obtain ⟨⟨t197, t198, t201⟩, A50, H⟩ := H
  replace H : ((dyad_Add.f a0_0 l0_1 a0_2 t197 t198 t201).bind fun bt202 => (some (bt202.1, bt202.2.1, bt202.2.2.1, bt202.2.2.2))) = some (r1, r2, r3, r4) := H
  have A5 := asd A50
  clear A50
  replace H := Option.bind_eq_some_iff.mp H
  obtain ⟨⟨t202, t203, t206, t207⟩, A60, H⟩ := H
  replace H : (some (t202, t203, t206, t207)) = some (r1, r2, r3, r4) := H
  have A6 := asd A60
  clear A60
  simp only [Option.some.injEq, Prod.mk.injEq] at H
  obtain ⟨rfl, rfl, rfl, rfl⟩ := H
  go_enter Tryz.func44, Tryz.ntmps44
  try go_wp2_with (first | ((with_reducible refine gate_dst (N := 2) rfl ?_); refine box_event ?hg (N := 2) ?hd (cs := #[.bool a0_0, .slice A0_1 l0_1.length c0_1, .int .i64 a0_2]) (t := 60) ?hr ?_; (case hd => rfl); (case hg => rfl); (case hr => first | (go_simp; done) | (go_simp; rfl)); intro gb190 hg w7 hbox hb; have n0_ := asd (Kd.V_below (Kd.V_elderB (by (with_reducible repeat (first | apply Kd.V_alloc | apply Kd.V_drewN | apply Kd.V_drew)); exact HO0_1.out) gb190 (Nat.le_of_eq hg.symm)) hb); have n1_ := asd (Kd.V_below (Kd.V_elderB (by (with_reducible repeat (first | apply Kd.V_alloc | apply Kd.V_drewN | apply Kd.V_drew)); exact HO1_1.out) gb190 (Nat.le_of_eq hg.symm)) hb); have n2_ := asd (below_step hbw hb); have n3_ := asd (hbox); have n4_ := asd ((by rw [hg]; exact (below_size hbw) : w.heap.size ≤ gb190)); have n5_ := asd ((by rw [hg]; exact (below_size hbw) : w.heap.size ≤ gb190)); clear HO0_1; clear HO1_1; clear HB; have HO0_1 := n0_; have HO1_1 := n1_; have HB := n2_; have BK190 := n3_; have GW190 := n4_; have GE190 := n5_; clear n0_ n1_ n2_ n3_ n4_ n5_; clear hb hbox hg) | ((with_reducible refine gate_dst (N := 3) rfl ?_); refine box_event ?hg (N := 3) ?hd (cs := #[.bool a1_0, .slice A1_1 l1_1.length c1_1, .int .i64 a1_2]) (t := 60) ?hr ?_; (case hd => rfl); (case hg => rfl); (case hr => first | (go_simp; done) | (go_simp; rfl)); intro gb191 hg w8 hbox hb; have n0_ := asd (Kd.V_below (Kd.V_elderB (by (with_reducible repeat (first | apply Kd.V_alloc | apply Kd.V_drewN | apply Kd.V_drew)); exact HO0_1.out) gb191 (Nat.le_of_eq hg.symm)) hb); have n1_ := asd (Kd.V_below (Kd.V_elderB (by (with_reducible repeat (first | apply Kd.V_alloc | apply Kd.V_drewN | apply Kd.V_drew)); exact HO1_1.out) gb191 (Nat.le_of_eq hg.symm)) hb); have n2_ := asd (blk_below (g := gb190) (o := .cells #[.bool a0_0, .slice A0_1 l0_1.length c0_1, .int .i64 a0_2] 60 (0, 0)) (blkU BK190.out) hb); have n3_ := asd (below_step (by repeat (first | (with_reducible first | exact HB.out | apply below_alloc | apply pw_below_drewN | apply below_drew1 | refine below_set ?_ GE190.out) | exact HB.out)) hb); have n4_ := asd (hbox); have n5_ := asd ((by rw [hg]; exact (below_size (by repeat (first | (with_reducible first | exact HB.out | apply below_alloc | apply pw_below_drewN | apply below_drew1 | refine below_set ?_ GE190.out) | exact HB.out))) : w.heap.size ≤ gb191)); have n6_ := asd ((by rw [hg]; exact (below_size (by repeat (first | (with_reducible first | exact HB.out | apply below_alloc | apply pw_below_drewN | apply below_drew1 | refine below_set ?_ GE190.out) | exact HB.out))) : w.heap.size ≤ gb191)); have n7_ := asd ((by rw [hg]; exact Nat.ne_of_lt (blk_lt (g := gb190) (o := .cells #[.bool a0_0, .slice A0_1 l0_1.length c0_1, .int .i64 a0_2] 60 (0, 0)) (blkU BK190.out)) : gb190 ≠ gb191)); have n8_ := asd ((by rw [hg]; exact Nat.ne_of_gt (blk_lt (g := gb190) (o := .cells #[.bool a0_0, .slice A0_1 l0_1.length c0_1, .int .i64 a0_2] 60 (0, 0)) (blkU BK190.out)) : gb191 ≠ gb190)); clear HO0_1; clear HO1_1; clear BK190; clear HB; have HO0_1 := n0_; have HO1_1 := n1_; have BK190 := n2_; have HB := n3_; have BK191 := n4_; have GW191 := n5_; have GE191 := n6_; have NB190_191 := n7_; have NB191_190 := n8_; clear n0_ n1_ n2_ n3_ n4_ n5_ n6_ n7_ n8_; clear hb hbox hg) | ((with_reducible refine gate_dst (N := 4) rfl ?_); refine box_event ?hg (N := 4) ?hd (cs := #[.bool false, .slice none 0 0, .int .i64 0]) (t := 60) ?hr ?_; (case hd => rfl); (case hg => rfl); (case hr => first | (go_simp; done) | (go_simp; rfl)); intro gb192 hg w9 hbox hb; have n0_ := asd (Kd.V_below (Kd.V_elderB (by (with_reducible repeat (first | apply Kd.V_alloc | apply Kd.V_drewN | apply Kd.V_drew)); exact HO0_1.out) gb192 (Nat.le_of_eq hg.symm)) hb); have n1_ := asd (Kd.V_below (Kd.V_elderB (by (with_reducible repeat (first | apply Kd.V_alloc | apply Kd.V_drewN | apply Kd.V_drew)); exact HO1_1.out) gb192 (Nat.le_of_eq hg.symm)) hb); have n2_ := asd (blk_below (g := gb190) (o := .cells #[.bool a0_0, .slice A0_1 l0_1.length c0_1, .int .i64 a0_2] 60 (0, 0)) (blkU BK190.out) hb); have n3_ := asd (blk_below (g := gb191) (o := .cells #[.bool a1_0, .slice A1_1 l1_1.length c1_1, .int .i64 a1_2] 60 (0, 0)) (blkU BK191.out) hb); have n4_ := asd (below_step (by repeat (first | (with_reducible first | exact HB.out | apply below_alloc | apply pw_below_drewN | apply below_drew1 | refine below_set ?_ GE190.out | refine below_set ?_ GE191.out) | exact HB.out)) hb); have n5_ := asd (hbox); have n6_ := asd ((by rw [hg]; exact (below_size (by repeat (first | (with_reducible first | exact HB.out | apply below_alloc | apply pw_below_drewN | apply below_drew1 | refine below_set ?_ GE190.out | refine below_set ?_ GE191.out) | exact HB.out))) : w.heap.size ≤ gb192)); have n7_ := asd ((by rw [hg]; exact (below_size (by repeat (first | (with_reducible first | exact HB.out | apply below_alloc | apply pw_below_drewN | apply below_drew1 | refine below_set ?_ GE190.out | refine below_set ?_ GE191.out) | exact HB.out))) : w.heap.size ≤ gb192)); have n8_ := asd ((by rw [hg]; exact Nat.ne_of_lt (blk_lt (g := gb190) (o := .cells #[.bool a0_0, .slice A0_1 l0_1.length c0_1, .int .i64 a0_2] 60 (0, 0)) (blkU BK190.out)) : gb190 ≠ gb192)); have n9_ := asd ((by rw [hg]; exact Nat.ne_of_gt (blk_lt (g := gb190) (o := .cells #[.bool a0_0, .slice A0_1 l0_1.length c0_1, .int .i64 a0_2] 60 (0, 0)) (blkU BK190.out)) : gb192 ≠ gb190)); have n10_ := asd ((by rw [hg]; exact Nat.ne_of_lt (blk_lt (g := gb191) (o := .cells #[.bool a1_0, .slice A1_1 l1_1.length c1_1, .int .i64 a1_2] 60 (0, 0)) (blkU BK191.out)) : gb191 ≠ gb192)); have n11_ := asd ((by rw [hg]; exact Nat.ne_of_gt (blk_lt (g := gb191) (o := .cells #[.bool a1_0, .slice A1_1 l1_1.length c1_1, .int .i64 a1_2] 60 (0, 0)) (blkU BK191.out)) : gb192 ≠ gb191)); clear HO0_1; clear HO1_1; clear BK190; clear BK191; clear HB; have HO0_1 := n0_; have HO1_1 := n1_; have BK190 := n2_; have BK191 := n3_; have HB := n4_; have BK192 := n5_; have GW192 := n6_; have GE192 := n7_; have NB190_192 := n8_; have NB192_190 := n9_; have NB191_192 := n10_; have NB192_191 := n11_; clear n0_ n1_ n2_ n3_ n4_ n5_ n6_ n7_ n8_ n9_ n10_ n11_; clear hb hbox hg; have hnb10 := NB190_191.out; have hnc10 := NB191_190.out; have hnb11 := NB190_192.out; have hnc11 := NB192_190.out; have hcz12_0 : w9.cell? ⟨gb190, 0, none⟩ = some (.bool a0_0) := (blk_cell BK190.out 0).trans rfl; have hcz12_1 : w9.cell? ⟨gb190, 1, none⟩ = some (.slice A0_1 l0_1.length c0_1) := (blk_cell BK190.out 1).trans rfl; have hcz12_2 : w9.cell? ⟨gb190, 2, none⟩ = some (.int .i64 a0_2) := (blk_cell BK190.out 2).trans rfl; have hfz12_0 := blk_frozen BK190.out 0; have hfz12_1 := blk_frozen BK190.out 1; have hfz12_2 := blk_frozen BK190.out 2; have hnb13 := NB191_192.out; have hnc13 := NB192_191.out; have hcz14_0 : w9.cell? ⟨gb191, 0, none⟩ = some (.bool a1_0) := (blk_cell BK191.out 0).trans rfl; have hcz14_1 : w9.cell? ⟨gb191, 1, none⟩ = some (.slice A1_1 l1_1.length c1_1) := (blk_cell BK191.out 1).trans rfl; have hcz14_2 : w9.cell? ⟨gb191, 2, none⟩ = some (.int .i64 a1_2) := (blk_cell BK191.out 2).trans rfl; have hfz14_0 := blk_frozen BK191.out 0; have hfz14_1 := blk_frozen BK191.out 1; have hfz14_2 := blk_frozen BK191.out 2) | ((with_reducible refine gate_dst (N := 8) rfl ?_); refine Kd.N_lit k60 _ 60 ?hg (N' := 8) ?hd (xs := ([(⟨a0_0, l0_1, a0_2⟩ : S60), (⟨a1_0, l1_1, a1_2⟩ : S60)] : List (S60))) (inner := [.bool a0_0, .slice A0_1 l0_1.length c0_1, .int .i64 a0_2, .bool a1_0, .slice A1_1 l1_1.length c1_1, .int .i64 a1_2]) (ok := (fun k_ => ((P0_1_ k_ ∨ P1_1_ k_) ∨ w.heap.size ≤ k_) ∧ k_ ≠ gb190 ∧ k_ ≠ gb191 ∧ k_ ≠ gb192)) (okp := (fun k_ => ((P0_1_ k_ ∨ P1_1_ k_) ∨ w.heap.size ≤ k_) ∧ k_ ≠ gb190 ∧ k_ ≠ gb191 ∧ k_ ≠ gb192)) ?hr ?hp (fun _ hk => hk) ((show ∀ k_, w9.heap.size ≤ k_ → (fun k_ => ((P0_1_ k_ ∨ P1_1_ k_) ∨ w.heap.size ≤ k_) ∧ k_ ≠ gb190 ∧ k_ ≠ gb191 ∧ k_ ≠ gb192) k_ from fun k_ hk => ⟨(.inr (Nat.le_trans (below_size (by repeat (first | (with_reducible first | exact HB.out | apply below_alloc | apply pw_below_drewN | apply below_drew1 | refine below_set ?_ GE190.out | refine below_set ?_ GE191.out | refine below_set ?_ GE192.out) | exact HB.out))) hk)), Kd.freshB (g := gb190) (o := .cells #[.bool a0_0, .slice A0_1 l0_1.length c0_1, .int .i64 a0_2] 60 (0, 0)) (blkU BK190.out) k_ hk, Kd.freshB (g := gb191) (o := .cells #[.bool a1_0, .slice A1_1 l1_1.length c1_1, .int .i64 a1_2] 60 (0, 0)) (blkU BK191.out) k_ hk, Kd.freshB (g := gb192) (o := .cells #[.bool false, .slice none 0 0, .int .i64 0] 60 (0, 0)) (blkU BK192.out) k_ hk⟩) _ (Nat.le_refl _)) (Below.refl _ _) (Nat.le_refl _) (by simp) ?_; (case hd => rfl); (case hg => rfl); (case hr => first | (go_simp; done) | (go_simp; rfl)); (case hp => exact (Reps.c3 (show Kd.FK k60 _ _ (⟨a0_0, l0_1, a0_2⟩ : S60) [.bool a0_0, .slice A0_1 l0_1.length c0_1, .int .i64 a0_2] from (k60_mkF _ _ (⟨a0_0, l0_1, a0_2⟩ : S60) (Kd.V_reads' (Kd.V_mono (ok' := (fun k_ => ((P0_1_ k_ ∨ P1_1_ k_) ∨ w.heap.size ≤ k_) ∧ k_ ≠ gb190 ∧ k_ ≠ gb191 ∧ k_ ≠ gb192)) (HO0_1.out) (fun k_ hk => ⟨hk.1.1.1, ⟨hk.1.1.2, ⟨hk.1.2, hk.2⟩⟩⟩))).2.1 (Kd.V_F (Kd.V_mono (ok' := (fun k_ => ((P0_1_ k_ ∨ P1_1_ k_) ∨ w.heap.size ≤ k_) ∧ k_ ≠ gb190 ∧ k_ ≠ gb191 ∧ k_ ≠ gb192)) (HO0_1.out) (fun k_ hk => ⟨hk.1.1.1, ⟨hk.1.1.2, ⟨hk.1.2, hk.2⟩⟩⟩))))) (Reps.c3 (show Kd.FK k60 _ _ (⟨a1_0, l1_1, a1_2⟩ : S60) [.bool a1_0, .slice A1_1 l1_1.length c1_1, .int .i64 a1_2] from (k60_mkF _ _ (⟨a1_0, l1_1, a1_2⟩ : S60) (Kd.V_reads' (Kd.V_mono (ok' := (fun k_ => ((P0_1_ k_ ∨ P1_1_ k_) ∨ w.heap.size ≤ k_) ∧ k_ ≠ gb190 ∧ k_ ≠ gb191 ∧ k_ ≠ gb192)) (HO1_1.out) (fun k_ hk => ⟨hk.1.1.1, ⟨hk.1.1.2, ⟨hk.1.2, hk.2⟩⟩⟩))).2.1 (Kd.V_F (Kd.V_mono (ok' := (fun k_ => ((P0_1_ k_ ∨ P1_1_ k_) ∨ w.heap.size ≤ k_) ∧ k_ ≠ gb190 ∧ k_ ≠ gb191 ∧ k_ ≠ gb192)) (HO1_1.out) (fun k_ hk => ⟨hk.1.1.1, ⟨hk.1.1.2, ⟨hk.1.2, hk.2⟩⟩⟩))))) (Reps.none _ _)))); intro v194 w15 ho16 hb hg_ hnew_; clear hg_ hnew_; (first | rw [← Ny193.out] at ho16 | (simp only [Int.reduceToNat] at ho16; rw [← Ny193.out] at ho16)); have n0_ := asd (Kd.V_elder' (by (with_reducible repeat (first | apply Kd.V_alloc | apply Kd.V_drewN | apply Kd.V_drew)); exact HO0_1.out) (Kd.N_base ho16) hb); have n1_ := asd (Kd.V_elder' (by (with_reducible repeat (first | apply Kd.V_alloc | apply Kd.V_drewN | apply Kd.V_drew)); exact HO1_1.out) (Kd.N_base ho16) hb); have n2_ := asd (Kd.N_lower ho16 (below_size (by repeat (first | (with_reducible first | exact HB.out | apply below_alloc | apply pw_below_drewN | apply below_drew1 | refine below_set ?_ GE190.out | refine below_set ?_ GE191.out | refine below_set ?_ GE192.out) | exact HB.out)))); have n3_ := asd (blk_below (g := gb190) (o := .cells #[.bool a0_0, .slice A0_1 l0_1.length c0_1, .int .i64 a0_2] 60 (0, 0)) (blkU BK190.out) hb); have n4_ := asd (blk_below (g := gb191) (o := .cells #[.bool a1_0, .slice A1_1 l1_1.length c1_1, .int .i64 a1_2] 60 (0, 0)) (blkU BK191.out) hb); have n5_ := asd (blk_below (g := gb192) (o := .cells #[.bool false, .slice none 0 0, .int .i64 0] 60 (0, 0)) (blkU BK192.out) hb); have n6_ := asd (below_step (by repeat (first | (with_reducible first | exact HB.out | apply below_alloc | apply pw_below_drewN | apply below_drew1 | refine below_set ?_ GE190.out | refine below_set ?_ GE191.out | refine below_set ?_ GE192.out) | exact HB.out)) hb); clear HO0_1; clear HO1_1; clear BK190; clear BK191; clear BK192; clear HB; have HO0_1 := n0_; have HO1_1 := n1_; have HO195 := n2_; have BK190 := n3_; have BK191 := n4_; have BK192 := n5_; have HB := n6_; clear n0_ n1_ n2_ n3_ n4_ n5_ n6_; clear hb ho16; obtain ⟨Ao17, co17, eo17⟩ := Kd.N_slice HO195.out; subst eo17) | ((with_reducible refine gate_callee (f := 88) rfl ?_); refine goesL_ (some 9) rfl rfl Tryz.func88 (by kernel_rfl) rfl #[.slice Ao17 y193.length co17] rfl eqA ?_; (with_reducible refine (dyad_valid.calls k _ _ y193 true _ ?side1 ?side2 A3.out).mono ?_); (case side1 => repeat (first | exact (Kd.N_reads' HO195.out).2.2 | (with_reducible refine Kd.C_alloc ?_ _) | (with_reducible refine Kd.C_drewN ?_ _) | (with_reducible refine Kd.C_drew ?_))); (case side2 => exact (Kd.N_reads' HO195.out).2.1); rintro e w18 ⟨rfl, hb⟩; refine ⟨_, rfl, ?_⟩; have n0_ := asd (Kd.V_below (by (with_reducible repeat (first | apply Kd.V_alloc | apply Kd.V_drewN | apply Kd.V_drew)); exact HO0_1.out) hb); have n1_ := asd (Kd.V_below (by (with_reducible repeat (first | apply Kd.V_alloc | apply Kd.V_drewN | apply Kd.V_drew)); exact HO1_1.out) hb); have n2_ := asd (Kd.N_below (by (with_reducible repeat (first | apply Kd.N_alloc | apply Kd.N_drewN | apply Kd.N_drew)); exact HO195.out) hb); have n3_ := asd (blk_below (g := gb190) (o := .cells #[.bool a0_0, .slice A0_1 l0_1.length c0_1, .int .i64 a0_2] 60 (0, 0)) (blkU BK190.out) hb); have n4_ := asd (blk_below (g := gb191) (o := .cells #[.bool a1_0, .slice A1_1 l1_1.length c1_1, .int .i64 a1_2] 60 (0, 0)) (blkU BK191.out) hb); have n5_ := asd (blk_below (g := gb192) (o := .cells #[.bool false, .slice none 0 0, .int .i64 0] 60 (0, 0)) (blkU BK192.out) hb); have n6_ := asd (below_step (by repeat (first | (with_reducible first | exact HB.out | apply below_alloc | apply pw_below_drewN | apply below_drew1 | refine below_set ?_ GE190.out | refine below_set ?_ GE191.out | refine below_set ?_ GE192.out) | exact HB.out)) hb); clear HO0_1; clear HO1_1; clear HO195; clear BK190; clear BK191; clear BK192; clear HB; have HO0_1 := n0_; have HO1_1 := n1_; have HO195 := n2_; have BK190 := n3_; have BK191 := n4_; have BK192 := n5_; have HB := n6_; clear n0_ n1_ n2_ n3_ n4_ n5_ n6_; (try clear hb); (try clear hb2); (try clear hk); (try clear hi)))
  have n0_ := asd (Kd.V_drew HO0_1.out)
  have n1_ := asd (Kd.V_drew HO1_1.out)
  have n2_ := asd (Kd.N_drew HO195.out)
  have n3_ := asd (blk_drew BK190.out)
  have n4_ := asd (blk_drew BK191.out)
  have n5_ := asd (blk_drew BK192.out)
  have n6_ := asd (below_drew1 HB.out)
  clear HO0_1
  clear HO1_1
  clear HO195
  clear BK190
  clear BK191
  clear BK192
  clear HB
  have HO0_1 := n0_
  have HO1_1 := n1_
  have HO195 := n2_
  have BK190 := n3_
  have BK191 := n4_
  have BK192 := n5_
  have HB := n6_
  clear n0_ n1_ n2_ n3_ n4_ n5_ n6_
  refine start_ (n := 8) (S := fun w' => w'.cell? ⟨gb190, 0, none⟩ = some (.bool a0_0) ∧ w'.cell? ⟨gb190, 1, none⟩ = some (.slice A0_1 l0_1.length c0_1) ∧ w'.cell? ⟨gb190, 2, none⟩ = some (.int .i64 a0_2) ∧ w'.cell? ⟨gb191, 0, none⟩ = some (.bool a1_0) ∧ w'.cell? ⟨gb191, 1, none⟩ = some (.slice A1_1 l1_1.length c1_1) ∧ w'.cell? ⟨gb191, 2, none⟩ = some (.int .i64 a1_2)) (ds := []) #[false, false, false, false, false, false, false, false] (by kernel_rfl) rfl rfl ⟨(blk_cell BK190.out 0).trans rfl, (blk_cell BK190.out 1).trans rfl, (blk_cell BK190.out 2).trans rfl, (blk_cell BK191.out 0).trans rfl, (blk_cell BK191.out 1).trans rfl, (blk_cell BK191.out 2).trans rfl⟩ (fun hHeld => ?_); refine with_tabW dyad_Sub.tab3 dyad_Sub.bits3 (fun HT_ HW_ => ?_)
  generalize w18.drew = w19 at HO0_1 HO1_1 HO195 BK190 BK191 BK192 HB hHeld ⊢
  refine take_ (i := 0) (N := some 12) (v := ?_) (a' := ?_) #[true, false, false, false, false, false, false, false] rfl rfl (take_ofW HT_.out HW_.out (by kernel_rfl)) (fun _ _ _ h => h) (Or.inl ⟨by rfl, ?_⟩) hHeld ?_ ?_
  rotate_left
  ·rintro w' ⟨s0, s1, s2, s3, s4, s5⟩
   go_simp
   with_reducible rfl
  rotate_left
  ·simp only [Act.put, List.setIfInBounds_toArray, List.set_cons_zero, List.set_cons_succ, i64_w, i32_w]
   rfl
  refine take_ (i := 1) (N := some 13) (v := ?_) (a' := ?_) #[true, true, false, false, false, false, false, false] rfl rfl (take_ofW HT_.out HW_.out (by kernel_rfl)) (fun _ _ _ h => h) (Or.inl ⟨by rfl, ?_⟩) hHeld ?_ ?_
  rotate_left
  ·rintro w' ⟨s0, s1, s2, s3, s4, s5⟩
   go_simp
   with_reducible rfl
  rotate_left
  ·simp only [Act.put, List.setIfInBounds_toArray, List.set_cons_zero, List.set_cons_succ, i64_w, i32_w]
   rfl
  refine one_ (i := 2) (N := some 14) #[true, true, true, false, false, false, false, false] rfl rfl (one_of HT_.out (by kernel_rfl)) (by decide) (fun K hK => ?_)
  refine goes_ Tryz.func89 (by kernel_rfl) rfl #[.agg #[.bool a1_0, .slice A1_1 l1_1.length c1_1, .int .i64 a1_2]] (by rfl) rfl rfl eqA ?_
  with_reducible refine (dyad_Neg.calls a1_0 _ _ l1_1 a1_2 t197 t198 t201 _ ?side1 ?side2 A5.out).mono ?_
  (case side1 => repeat (first | exact (Kd.V_reads' HO1_1.out).2.2 | (with_reducible refine Kd.C_alloc ?_ _) | (with_reducible refine Kd.C_drewN ?_ _) | (with_reducible refine Kd.C_drew ?_)))
  (case side2 => exact (Kd.V_reads' HO1_1.out).2.1)
  rintro e w20 ⟨v199, rfl, ho0, hb⟩
  refine ⟨_, rfl, ?_⟩
  have n0_ := asd (Kd.V_elder' (by (with_reducible repeat (first | apply Kd.V_alloc | apply Kd.V_drewN | apply Kd.V_drew)); exact HO0_1.out) (Kd.R_base ho0) hb)
  have n1_ := asd (Kd.V_elder' (by (with_reducible repeat (first | apply Kd.V_alloc | apply Kd.V_drewN | apply Kd.V_drew)); exact HO1_1.out) (Kd.R_base ho0) hb)
  have n2_ := asd (Kd.N_elder' (by (with_reducible repeat (first | apply Kd.N_alloc | apply Kd.N_drewN | apply Kd.N_drew)); exact HO195.out) (Kd.R_base ho0) hb)
  have n3_ := asd (Kd.R_lower (Kd.R_newM (M := fun k_ => (w.heap.size ≤ k_)) ho0 (below_size (by repeat (first | (with_reducible first | exact HB.out | apply below_alloc | apply pw_below_drewN | apply below_drew1 | refine below_set ?_ GE190.out | refine below_set ?_ GE191.out | refine below_set ?_ GE192.out) | exact HB.out))) (fun k_ h_ => h_)) (below_size (by repeat (first | (with_reducible first | exact HB.out | apply below_alloc | apply pw_below_drewN | apply below_drew1 | refine below_set ?_ GE190.out | refine below_set ?_ GE191.out | refine below_set ?_ GE192.out) | exact HB.out))))
  have n4_ := asd (blk_below (g := gb190) (o := .cells #[.bool a0_0, .slice A0_1 l0_1.length c0_1, .int .i64 a0_2] 60 (0, 0)) (blkU BK190.out) hb)
  have n5_ := asd (blk_below (g := gb191) (o := .cells #[.bool a1_0, .slice A1_1 l1_1.length c1_1, .int .i64 a1_2] 60 (0, 0)) (blkU BK191.out) hb)
  have n6_ := asd (blk_below (g := gb192) (o := .cells #[.bool false, .slice none 0 0, .int .i64 0] 60 (0, 0)) (blkU BK192.out) hb)
  have n7_ := asd (below_step (by repeat (first | (with_reducible first | exact HB.out | apply below_alloc | apply pw_below_drewN | apply below_drew1 | refine below_set ?_ GE190.out | refine below_set ?_ GE191.out | refine below_set ?_ GE192.out) | exact HB.out)) hb)
  clear HO0_1
  clear HO1_1
  clear HO195
  clear BK190
  clear BK191
  clear BK192
  clear HB
  have HO0_1 := n0_
  have HO1_1 := n1_
  have HO195 := n2_
  have HO200 := n3_
  have BK190 := n4_
  have BK191 := n5_
  have BK192 := n6_
  have HB := n7_
  clear n0_ n1_ n2_ n3_ n4_ n5_ n6_ n7_
  (try clear hb)
  (try clear hb2)
  (try clear hk)
  (try clear hi)
  (try clear ho0)
  obtain ⟨Ao21, co21, eo21⟩ := Kd.R_slice HO200.out
  (first | subst eo21 | (injection eo21 with f1_ f2_ f3_; have f4_ := f1_.symm; have f5_ := f3_.symm; clear f1_ f2_ f3_; subst f4_; subst f5_))
  refine hK.out _ _ ⟨(blk_cell BK190.out 0).trans rfl, (blk_cell BK190.out 1).trans rfl, (blk_cell BK190.out 2).trans rfl, (blk_cell BK191.out 0).trans rfl, (blk_cell BK191.out 1).trans rfl, (blk_cell BK191.out 2).trans rfl⟩ (fun hHeld => ?_)
  clear hK K
  refine norm_ (a' := ?_) ?_ ?_
  rotate_left
  ·show Act.put _ (some 14) _ = _
   simp only [Act.put, List.setIfInBounds_toArray, List.set_cons_zero, List.set_cons_succ, i64_w, i32_w]
   rfl
  refine one_ (i := 3) (N := some 15) #[true, true, true, true, false, false, false, false] rfl rfl (one_of HT_.out (by kernel_rfl)) (by decide) (fun K hK => ?_)
  refine goes_ Tryz.func79 (by kernel_rfl) rfl #[.agg #[.bool a0_0, .slice A0_1 l0_1.length c0_1, .int .i64 a0_2], .agg #[.bool t197, .slice Ao21 t198.length co21, .int .i64 t201]] (by rfl) rfl rfl eqA ?_
  with_reducible refine (dyad_Add.calls a0_0 _ _ l0_1 a0_2 t197 _ _ t198 t201 t202 t203 t206 t207 _ ?side1 ?side2 ?side3 ?side4 A6.out).mono ?_
  (case side1 => repeat (first | exact (Kd.V_reads' HO0_1.out).2.2 | (with_reducible refine Kd.C_alloc ?_ _) | (with_reducible refine Kd.C_drewN ?_ _) | (with_reducible refine Kd.C_drew ?_)))
  (case side2 => exact (Kd.V_reads' HO0_1.out).2.1)
  (case side3 => repeat (first | exact (Kd.R_reads' HO200.out).2.2 | (with_reducible refine Kd.C_alloc ?_ _) | (with_reducible refine Kd.C_drewN ?_ _) | (with_reducible refine Kd.C_drew ?_)))
  (case side4 => exact (Kd.R_reads' HO200.out).2.1)
  rintro e w22 ⟨v204, rfl, ho0, hb⟩
  refine ⟨_, rfl, ?_⟩
  have n0_ := asd (Kd.V_elder' (by (with_reducible repeat (first | apply Kd.V_alloc | apply Kd.V_drewN | apply Kd.V_drew)); exact HO0_1.out) (Kd.R_base ho0) hb)
  have n1_ := asd (Kd.V_elder' (by (with_reducible repeat (first | apply Kd.V_alloc | apply Kd.V_drewN | apply Kd.V_drew)); exact HO1_1.out) (Kd.R_base ho0) hb)
  have n2_ := asd (Kd.N_elder' (by (with_reducible repeat (first | apply Kd.N_alloc | apply Kd.N_drewN | apply Kd.N_drew)); exact HO195.out) (Kd.R_base ho0) hb)
  have n3_ := asd (Kd.R_elder' (rUp HO200.out) (Kd.R_base ho0) hb)
  have n4_ := asd (Kd.R_lower (Kd.R_new' (Kd.R_newM (M := fun k_ => (w.heap.size ≤ k_)) ho0 (below_size (by repeat (first | (with_reducible first | exact HB.out | apply below_alloc | apply pw_below_drewN | apply below_drew1 | refine below_set ?_ GE190.out | refine below_set ?_ GE191.out | refine below_set ?_ GE192.out) | exact HB.out))) (fun k_ h_ => h_)) (Kd.R_lt (rUp HO200.out))) (below_size (by repeat (first | (with_reducible first | exact HB.out | apply below_alloc | apply pw_below_drewN | apply below_drew1 | refine below_set ?_ GE190.out | refine below_set ?_ GE191.out | refine below_set ?_ GE192.out) | exact HB.out))))
  have n5_ := asd (blk_below (g := gb190) (o := .cells #[.bool a0_0, .slice A0_1 l0_1.length c0_1, .int .i64 a0_2] 60 (0, 0)) (blkU BK190.out) hb)
  have n6_ := asd (blk_below (g := gb191) (o := .cells #[.bool a1_0, .slice A1_1 l1_1.length c1_1, .int .i64 a1_2] 60 (0, 0)) (blkU BK191.out) hb)
  have n7_ := asd (blk_below (g := gb192) (o := .cells #[.bool false, .slice none 0 0, .int .i64 0] 60 (0, 0)) (blkU BK192.out) hb)
  have n8_ := asd (below_step (by repeat (first | (with_reducible first | exact HB.out | apply below_alloc | apply pw_below_drewN | apply below_drew1 | refine below_set ?_ GE190.out | refine below_set ?_ GE191.out | refine below_set ?_ GE192.out) | exact HB.out)) hb)
  clear HO0_1
  clear HO1_1
  clear HO195
  clear HO200
  clear BK190
  clear BK191
  clear BK192
  clear HB
  have HO0_1 := n0_
  have HO1_1 := n1_
  have HO195 := n2_
  have HO200 := n3_
  have HO205 := n4_
  have BK190 := n5_
  have BK191 := n6_
  have BK192 := n7_
  have HB := n8_
  clear n0_ n1_ n2_ n3_ n4_ n5_ n6_ n7_ n8_
  (try clear hb)
  (try clear hb2)
  (try clear hk)
  (try clear hi)
  (try clear ho0)
  obtain ⟨Ao24, co24, eo24⟩ := Kd.R_slice HO205.out
  (first | subst eo24 | (injection eo24 with f1_ f2_ f3_; have f4_ := f1_.symm; have f5_ := f3_.symm; clear f1_ f2_ f3_; subst f4_; subst f5_))
  refine hK.out _ _ ⟨(blk_cell BK190.out 0).trans rfl, (blk_cell BK190.out 1).trans rfl, (blk_cell BK190.out 2).trans rfl, (blk_cell BK191.out 0).trans rfl, (blk_cell BK191.out 1).trans rfl, (blk_cell BK191.out 2).trans rfl⟩ (fun hHeld => ?_)
  clear hK K
  refine norm_ (a' := ?_) ?_ ?_
  rotate_left
  ·show Act.put _ (some 15) _ = _
   simp only [Act.put, List.setIfInBounds_toArray, List.set_cons_zero, List.set_cons_succ, i64_w, i32_w]
   rfl
  refine pure_ (i := 4) (N := some 16) (v := ?_) (a' := ?_) #[true, true, true, true, true, false, false, false] rfl rfl (any_of HT_.out (by kernel_rfl)) (fun _ _ _ h => h) (Or.inl ⟨by rfl, ?_⟩) ?_ ?_
  rotate_left
  ·intro w'
   go_simp
   with_reducible rfl
  rotate_left
  ·simp only [Act.put, List.setIfInBounds_toArray, List.set_cons_zero, List.set_cons_succ, i64_w, i32_w]
   rfl
  refine pure_ (i := 5) (N := some 17) (v := ?_) (a' := ?_) #[true, true, true, true, true, true, false, false] rfl rfl (any_of HT_.out (by kernel_rfl)) (fun _ _ _ h => h) (Or.inl ⟨by rfl, ?_⟩) ?_ ?_
  rotate_left
  ·intro w'
   go_simp
   with_reducible rfl
  rotate_left
  ·simp only [Act.put, List.setIfInBounds_toArray, List.set_cons_zero, List.set_cons_succ, i64_w, i32_w]
   rfl
  refine one_ (i := 6) (N := none) #[true, true, true, true, true, true, true, false] rfl rfl (one_of HT_.out (by kernel_rfl)) (by decide) (fun K hK => ?_)
  have hs23 : w22.cell? ⟨gb192, 0, none⟩ = some (.bool false) := (blk_cell BK192.out 0).trans rfl
  have hfs23 := blk_frozen BK192.out 0
  have hns23_0 := NB190_192.out
  have hns23_1 := NB191_192.out
  have hms23_0 := NB192_190.out
  have hms23_1 := NB192_191.out
  have hs25 : w22.cell? ⟨gb192, 1, none⟩ = some (.slice none 0 0) := (blk_cell BK192.out 1).trans rfl
  have hfs25 := blk_frozen BK192.out 1
  have hns25_0 := NB190_192.out
  have hns25_1 := NB191_192.out
  have hms25_0 := NB192_190.out
  have hms25_1 := NB192_191.out
  have hs26 : w22.cell? ⟨gb192, 2, none⟩ = some (.int .i64 0) := (blk_cell BK192.out 2).trans rfl
  have hfs26 := blk_frozen BK192.out 2
  have hns26_0 := NB190_192.out
  have hns26_1 := NB191_192.out
  have hms26_0 := NB192_190.out
  have hms26_1 := NB192_191.out
  refine skip_ (w1 := ?_) (by rfl) rfl ?_ ?_
  rotate_left
  ·go_simp
   rfl
  refine hK.out _ _ ⟨((cell_far (p := ⟨gb192, _, none⟩) NB190_192.out _).trans (((cell_far (p := ⟨gb192, _, none⟩) NB190_192.out _).trans (((cell_far (p := ⟨gb192, _, none⟩) NB190_192.out _).trans (hHeld.1)))))), ((cell_far (p := ⟨gb192, _, none⟩) NB190_192.out _).trans (((cell_far (p := ⟨gb192, _, none⟩) NB190_192.out _).trans (((cell_far (p := ⟨gb192, _, none⟩) NB190_192.out _).trans (hHeld.2.1)))))), ((cell_far (p := ⟨gb192, _, none⟩) NB190_192.out _).trans (((cell_far (p := ⟨gb192, _, none⟩) NB190_192.out _).trans (((cell_far (p := ⟨gb192, _, none⟩) NB190_192.out _).trans (hHeld.2.2.1)))))), ((cell_far (p := ⟨gb192, _, none⟩) NB191_192.out _).trans (((cell_far (p := ⟨gb192, _, none⟩) NB191_192.out _).trans (((cell_far (p := ⟨gb192, _, none⟩) NB191_192.out _).trans (hHeld.2.2.2.1)))))), ((cell_far (p := ⟨gb192, _, none⟩) NB191_192.out _).trans (((cell_far (p := ⟨gb192, _, none⟩) NB191_192.out _).trans (((cell_far (p := ⟨gb192, _, none⟩) NB191_192.out _).trans (hHeld.2.2.2.2.1)))))), ((cell_far (p := ⟨gb192, _, none⟩) NB191_192.out _).trans (((cell_far (p := ⟨gb192, _, none⟩) NB191_192.out _).trans (((cell_far (p := ⟨gb192, _, none⟩) NB191_192.out _).trans (hHeld.2.2.2.2.2))))))⟩ (fun hHeld => ?_)
  clear hK K
  refine pure_ (i := 7) (N := some 5) (v := ?_) (a' := ?_) #[true, true, true, true, true, true, true, true] rfl rfl (any_of HT_.out (by kernel_rfl)) (fun _ _ _ h => h) (Or.inl ⟨by rfl, ?_⟩) ?_ ?_
  rotate_left
  ·intro w'
   go_simp
   with_reducible rfl
  rotate_left
  ·simp only [Act.put, List.setIfInBounds_toArray, List.set_cons_zero, List.set_cons_succ, i64_w, i32_w]
   rfl
  refine done_ (done_of HT_.out (by kernel_rfl)) ?_
  try go_wp2
  refine bodyPost_ret (results_ct rfl _ _ gb192 60 #[.bool t202, .slice Ao24 t203.length co24, .int .i64 t206] (0, 0) _ rfl (by (with_reducible repeat (first | refine blk_drewN ?_ _ | refine blk_drew ?_ | refine blk_alloc ?_ _)); refine blk_put (cs := #[.bool t202, .slice Ao24 t203.length co24, .int .i64 0]) ?_ 2 _ rfl; (with_reducible repeat (first | refine blk_drewN ?_ _ | refine blk_drew ?_ | refine blk_alloc ?_ _)); refine blk_put (cs := #[.bool t202, .slice none 0 0, .int .i64 0]) ?_ 1 _ rfl; (with_reducible repeat (first | refine blk_drewN ?_ _ | refine blk_drew ?_ | refine blk_alloc ?_ _)); refine blk_put (cs := #[.bool false, .slice none 0 0, .int .i64 0]) ?_ 0 _ rfl; (with_reducible repeat (first | refine blk_drewN ?_ _ | refine blk_drew ?_ | refine blk_alloc ?_ _)); exact BK192.out) Tryz.underlying60 rfl (by kernel_rfl)) rfl ?_
  exact ⟨_, eqC, by (with_reducible repeat (first | apply Kd.R_alloc | apply Kd.R_drewN | apply Kd.R_drew)); exact Kd.R_mono (Kd.R_far (p := ⟨gb192, 2, none⟩) (Kd.R_far (p := ⟨gb192, 1, none⟩) (Kd.R_far (p := ⟨gb192, 0, none⟩) (Kd.R_types HO205.out BK192.out (by decide)) (fun _ hk => hk.2) (.bool t202)) (fun _ hk => hk.2) (.slice Ao24 t203.length co24)) (fun _ hk => hk.2) (.int .i64 t206)) (fun _ hk => hk.1.1.1), by repeat (first | (with_reducible first | exact HB.out | apply below_alloc | apply pw_below_drewN | apply below_drew1 | refine below_set ?_ GE190.out | refine below_set ?_ GE191.out | refine below_set ?_ GE192.out) | exact HB.out)⟩
 ·replace c4 := Bool.eq_false_iff.mpr c4
  subst c4
  have H1 : (some (false, ([] : List Int), 0, 1)) = some (r1, r2, r3, r4) := by rw [if_neg (show ¬ (false = true) by decide)] at H; exact H
  clear H
  have H := H1
  clear H1
  simp only [Option.some.injEq, Prod.mk.injEq] at H
  obtain ⟨rfl, rfl, rfl, rfl⟩ := H
  go_enter Tryz.func44, Tryz.ntmps44
  go_wp2_with (first | ((with_reducible refine gate_dst (N := 2) rfl ?_); refine box_event ?hg (N := 2) ?hd (cs := #[.bool a0_0, .slice A0_1 l0_1.length c0_1, .int .i64 a0_2]) (t := 60) ?hr ?_; (case hd => rfl); (case hg => rfl); (case hr => first | (go_simp; done) | (go_simp; rfl)); intro gb190 hg w27 hbox hb; have n0_ := asd (Kd.V_below (Kd.V_elderB (by (with_reducible repeat (first | apply Kd.V_alloc | apply Kd.V_drewN | apply Kd.V_drew)); exact HO0_1.out) gb190 (Nat.le_of_eq hg.symm)) hb); have n1_ := asd (Kd.V_below (Kd.V_elderB (by (with_reducible repeat (first | apply Kd.V_alloc | apply Kd.V_drewN | apply Kd.V_drew)); exact HO1_1.out) gb190 (Nat.le_of_eq hg.symm)) hb); have n2_ := asd (below_step hbw hb); have n3_ := asd (hbox); have n4_ := asd ((by rw [hg]; exact (below_size hbw) : w.heap.size ≤ gb190)); have n5_ := asd ((by rw [hg]; exact (below_size hbw) : w.heap.size ≤ gb190)); clear HO0_1; clear HO1_1; clear HB; have HO0_1 := n0_; have HO1_1 := n1_; have HB := n2_; have BK190 := n3_; have GW190 := n4_; have GE190 := n5_; clear n0_ n1_ n2_ n3_ n4_ n5_; clear hb hbox hg) | ((with_reducible refine gate_dst (N := 3) rfl ?_); refine box_event ?hg (N := 3) ?hd (cs := #[.bool a1_0, .slice A1_1 l1_1.length c1_1, .int .i64 a1_2]) (t := 60) ?hr ?_; (case hd => rfl); (case hg => rfl); (case hr => first | (go_simp; done) | (go_simp; rfl)); intro gb191 hg w28 hbox hb; have n0_ := asd (Kd.V_below (Kd.V_elderB (by (with_reducible repeat (first | apply Kd.V_alloc | apply Kd.V_drewN | apply Kd.V_drew)); exact HO0_1.out) gb191 (Nat.le_of_eq hg.symm)) hb); have n1_ := asd (Kd.V_below (Kd.V_elderB (by (with_reducible repeat (first | apply Kd.V_alloc | apply Kd.V_drewN | apply Kd.V_drew)); exact HO1_1.out) gb191 (Nat.le_of_eq hg.symm)) hb); have n2_ := asd (blk_below (g := gb190) (o := .cells #[.bool a0_0, .slice A0_1 l0_1.length c0_1, .int .i64 a0_2] 60 (0, 0)) (blkU BK190.out) hb); have n3_ := asd (below_step (by repeat (first | (with_reducible first | exact HB.out | apply below_alloc | apply pw_below_drewN | apply below_drew1 | refine below_set ?_ GE190.out) | exact HB.out)) hb); have n4_ := asd (hbox); have n5_ := asd ((by rw [hg]; exact (below_size (by repeat (first | (with_reducible first | exact HB.out | apply below_alloc | apply pw_below_drewN | apply below_drew1 | refine below_set ?_ GE190.out) | exact HB.out))) : w.heap.size ≤ gb191)); have n6_ := asd ((by rw [hg]; exact (below_size (by repeat (first | (with_reducible first | exact HB.out | apply below_alloc | apply pw_below_drewN | apply below_drew1 | refine below_set ?_ GE190.out) | exact HB.out))) : w.heap.size ≤ gb191)); have n7_ := asd ((by rw [hg]; exact Nat.ne_of_lt (blk_lt (g := gb190) (o := .cells #[.bool a0_0, .slice A0_1 l0_1.length c0_1, .int .i64 a0_2] 60 (0, 0)) (blkU BK190.out)) : gb190 ≠ gb191)); have n8_ := asd ((by rw [hg]; exact Nat.ne_of_gt (blk_lt (g := gb190) (o := .cells #[.bool a0_0, .slice A0_1 l0_1.length c0_1, .int .i64 a0_2] 60 (0, 0)) (blkU BK190.out)) : gb191 ≠ gb190)); clear HO0_1; clear HO1_1; clear BK190; clear HB; have HO0_1 := n0_; have HO1_1 := n1_; have BK190 := n2_; have HB := n3_; have BK191 := n4_; have GW191 := n5_; have GE191 := n6_; have NB190_191 := n7_; have NB191_190 := n8_; clear n0_ n1_ n2_ n3_ n4_ n5_ n6_ n7_ n8_; clear hb hbox hg) | ((with_reducible refine gate_dst (N := 4) rfl ?_); refine box_event ?hg (N := 4) ?hd (cs := #[.bool false, .slice none 0 0, .int .i64 0]) (t := 60) ?hr ?_; (case hd => rfl); (case hg => rfl); (case hr => first | (go_simp; done) | (go_simp; rfl)); intro gb192 hg w29 hbox hb; have n0_ := asd (Kd.V_below (Kd.V_elderB (by (with_reducible repeat (first | apply Kd.V_alloc | apply Kd.V_drewN | apply Kd.V_drew)); exact HO0_1.out) gb192 (Nat.le_of_eq hg.symm)) hb); have n1_ := asd (Kd.V_below (Kd.V_elderB (by (with_reducible repeat (first | apply Kd.V_alloc | apply Kd.V_drewN | apply Kd.V_drew)); exact HO1_1.out) gb192 (Nat.le_of_eq hg.symm)) hb); have n2_ := asd (blk_below (g := gb190) (o := .cells #[.bool a0_0, .slice A0_1 l0_1.length c0_1, .int .i64 a0_2] 60 (0, 0)) (blkU BK190.out) hb); have n3_ := asd (blk_below (g := gb191) (o := .cells #[.bool a1_0, .slice A1_1 l1_1.length c1_1, .int .i64 a1_2] 60 (0, 0)) (blkU BK191.out) hb); have n4_ := asd (below_step (by repeat (first | (with_reducible first | exact HB.out | apply below_alloc | apply pw_below_drewN | apply below_drew1 | refine below_set ?_ GE190.out | refine below_set ?_ GE191.out) | exact HB.out)) hb); have n5_ := asd (hbox); have n6_ := asd ((by rw [hg]; exact (below_size (by repeat (first | (with_reducible first | exact HB.out | apply below_alloc | apply pw_below_drewN | apply below_drew1 | refine below_set ?_ GE190.out | refine below_set ?_ GE191.out) | exact HB.out))) : w.heap.size ≤ gb192)); have n7_ := asd ((by rw [hg]; exact (below_size (by repeat (first | (with_reducible first | exact HB.out | apply below_alloc | apply pw_below_drewN | apply below_drew1 | refine below_set ?_ GE190.out | refine below_set ?_ GE191.out) | exact HB.out))) : w.heap.size ≤ gb192)); have n8_ := asd ((by rw [hg]; exact Nat.ne_of_lt (blk_lt (g := gb190) (o := .cells #[.bool a0_0, .slice A0_1 l0_1.length c0_1, .int .i64 a0_2] 60 (0, 0)) (blkU BK190.out)) : gb190 ≠ gb192)); have n9_ := asd ((by rw [hg]; exact Nat.ne_of_gt (blk_lt (g := gb190) (o := .cells #[.bool a0_0, .slice A0_1 l0_1.length c0_1, .int .i64 a0_2] 60 (0, 0)) (blkU BK190.out)) : gb192 ≠ gb190)); have n10_ := asd ((by rw [hg]; exact Nat.ne_of_lt (blk_lt (g := gb191) (o := .cells #[.bool a1_0, .slice A1_1 l1_1.length c1_1, .int .i64 a1_2] 60 (0, 0)) (blkU BK191.out)) : gb191 ≠ gb192)); have n11_ := asd ((by rw [hg]; exact Nat.ne_of_gt (blk_lt (g := gb191) (o := .cells #[.bool a1_0, .slice A1_1 l1_1.length c1_1, .int .i64 a1_2] 60 (0, 0)) (blkU BK191.out)) : gb192 ≠ gb191)); clear HO0_1; clear HO1_1; clear BK190; clear BK191; clear HB; have HO0_1 := n0_; have HO1_1 := n1_; have BK190 := n2_; have BK191 := n3_; have HB := n4_; have BK192 := n5_; have GW192 := n6_; have GE192 := n7_; have NB190_192 := n8_; have NB192_190 := n9_; have NB191_192 := n10_; have NB192_191 := n11_; clear n0_ n1_ n2_ n3_ n4_ n5_ n6_ n7_ n8_ n9_ n10_ n11_; clear hb hbox hg; have hnb30 := NB190_191.out; have hnc30 := NB191_190.out; have hnb31 := NB190_192.out; have hnc31 := NB192_190.out; have hcz32_0 : w29.cell? ⟨gb190, 0, none⟩ = some (.bool a0_0) := (blk_cell BK190.out 0).trans rfl; have hcz32_1 : w29.cell? ⟨gb190, 1, none⟩ = some (.slice A0_1 l0_1.length c0_1) := (blk_cell BK190.out 1).trans rfl; have hcz32_2 : w29.cell? ⟨gb190, 2, none⟩ = some (.int .i64 a0_2) := (blk_cell BK190.out 2).trans rfl; have hfz32_0 := blk_frozen BK190.out 0; have hfz32_1 := blk_frozen BK190.out 1; have hfz32_2 := blk_frozen BK190.out 2; have hnb33 := NB191_192.out; have hnc33 := NB192_191.out; have hcz34_0 : w29.cell? ⟨gb191, 0, none⟩ = some (.bool a1_0) := (blk_cell BK191.out 0).trans rfl; have hcz34_1 : w29.cell? ⟨gb191, 1, none⟩ = some (.slice A1_1 l1_1.length c1_1) := (blk_cell BK191.out 1).trans rfl; have hcz34_2 : w29.cell? ⟨gb191, 2, none⟩ = some (.int .i64 a1_2) := (blk_cell BK191.out 2).trans rfl; have hfz34_0 := blk_frozen BK191.out 0; have hfz34_1 := blk_frozen BK191.out 1; have hfz34_2 := blk_frozen BK191.out 2) | ((with_reducible refine gate_dst (N := 8) rfl ?_); refine Kd.N_lit k60 _ 60 ?hg (N' := 8) ?hd (xs := ([(⟨a0_0, l0_1, a0_2⟩ : S60), (⟨a1_0, l1_1, a1_2⟩ : S60)] : List (S60))) (inner := [.bool a0_0, .slice A0_1 l0_1.length c0_1, .int .i64 a0_2, .bool a1_0, .slice A1_1 l1_1.length c1_1, .int .i64 a1_2]) (ok := (fun k_ => ((P0_1_ k_ ∨ P1_1_ k_) ∨ w.heap.size ≤ k_) ∧ k_ ≠ gb190 ∧ k_ ≠ gb191 ∧ k_ ≠ gb192)) (okp := (fun k_ => ((P0_1_ k_ ∨ P1_1_ k_) ∨ w.heap.size ≤ k_) ∧ k_ ≠ gb190 ∧ k_ ≠ gb191 ∧ k_ ≠ gb192)) ?hr ?hp (fun _ hk => hk) ((show ∀ k_, w29.heap.size ≤ k_ → (fun k_ => ((P0_1_ k_ ∨ P1_1_ k_) ∨ w.heap.size ≤ k_) ∧ k_ ≠ gb190 ∧ k_ ≠ gb191 ∧ k_ ≠ gb192) k_ from fun k_ hk => ⟨(.inr (Nat.le_trans (below_size (by repeat (first | (with_reducible first | exact HB.out | apply below_alloc | apply pw_below_drewN | apply below_drew1 | refine below_set ?_ GE190.out | refine below_set ?_ GE191.out | refine below_set ?_ GE192.out) | exact HB.out))) hk)), Kd.freshB (g := gb190) (o := .cells #[.bool a0_0, .slice A0_1 l0_1.length c0_1, .int .i64 a0_2] 60 (0, 0)) (blkU BK190.out) k_ hk, Kd.freshB (g := gb191) (o := .cells #[.bool a1_0, .slice A1_1 l1_1.length c1_1, .int .i64 a1_2] 60 (0, 0)) (blkU BK191.out) k_ hk, Kd.freshB (g := gb192) (o := .cells #[.bool false, .slice none 0 0, .int .i64 0] 60 (0, 0)) (blkU BK192.out) k_ hk⟩) _ (Nat.le_refl _)) (Below.refl _ _) (Nat.le_refl _) (by simp) ?_; (case hd => rfl); (case hg => rfl); (case hr => first | (go_simp; done) | (go_simp; rfl)); (case hp => exact (Reps.c3 (show Kd.FK k60 _ _ (⟨a0_0, l0_1, a0_2⟩ : S60) [.bool a0_0, .slice A0_1 l0_1.length c0_1, .int .i64 a0_2] from (k60_mkF _ _ (⟨a0_0, l0_1, a0_2⟩ : S60) (Kd.V_reads' (Kd.V_mono (ok' := (fun k_ => ((P0_1_ k_ ∨ P1_1_ k_) ∨ w.heap.size ≤ k_) ∧ k_ ≠ gb190 ∧ k_ ≠ gb191 ∧ k_ ≠ gb192)) (HO0_1.out) (fun k_ hk => ⟨hk.1.1.1, ⟨hk.1.1.2, ⟨hk.1.2, hk.2⟩⟩⟩))).2.1 (Kd.V_F (Kd.V_mono (ok' := (fun k_ => ((P0_1_ k_ ∨ P1_1_ k_) ∨ w.heap.size ≤ k_) ∧ k_ ≠ gb190 ∧ k_ ≠ gb191 ∧ k_ ≠ gb192)) (HO0_1.out) (fun k_ hk => ⟨hk.1.1.1, ⟨hk.1.1.2, ⟨hk.1.2, hk.2⟩⟩⟩))))) (Reps.c3 (show Kd.FK k60 _ _ (⟨a1_0, l1_1, a1_2⟩ : S60) [.bool a1_0, .slice A1_1 l1_1.length c1_1, .int .i64 a1_2] from (k60_mkF _ _ (⟨a1_0, l1_1, a1_2⟩ : S60) (Kd.V_reads' (Kd.V_mono (ok' := (fun k_ => ((P0_1_ k_ ∨ P1_1_ k_) ∨ w.heap.size ≤ k_) ∧ k_ ≠ gb190 ∧ k_ ≠ gb191 ∧ k_ ≠ gb192)) (HO1_1.out) (fun k_ hk => ⟨hk.1.1.1, ⟨hk.1.1.2, ⟨hk.1.2, hk.2⟩⟩⟩))).2.1 (Kd.V_F (Kd.V_mono (ok' := (fun k_ => ((P0_1_ k_ ∨ P1_1_ k_) ∨ w.heap.size ≤ k_) ∧ k_ ≠ gb190 ∧ k_ ≠ gb191 ∧ k_ ≠ gb192)) (HO1_1.out) (fun k_ hk => ⟨hk.1.1.1, ⟨hk.1.1.2, ⟨hk.1.2, hk.2⟩⟩⟩))))) (Reps.none _ _)))); intro v194 w35 ho36 hb hg_ hnew_; clear hg_ hnew_; (first | rw [← Ny193.out] at ho36 | (simp only [Int.reduceToNat] at ho36; rw [← Ny193.out] at ho36)); have n0_ := asd (Kd.V_elder' (by (with_reducible repeat (first | apply Kd.V_alloc | apply Kd.V_drewN | apply Kd.V_drew)); exact HO0_1.out) (Kd.N_base ho36) hb); have n1_ := asd (Kd.V_elder' (by (with_reducible repeat (first | apply Kd.V_alloc | apply Kd.V_drewN | apply Kd.V_drew)); exact HO1_1.out) (Kd.N_base ho36) hb); have n2_ := asd (Kd.N_lower ho36 (below_size (by repeat (first | (with_reducible first | exact HB.out | apply below_alloc | apply pw_below_drewN | apply below_drew1 | refine below_set ?_ GE190.out | refine below_set ?_ GE191.out | refine below_set ?_ GE192.out) | exact HB.out)))); have n3_ := asd (blk_below (g := gb190) (o := .cells #[.bool a0_0, .slice A0_1 l0_1.length c0_1, .int .i64 a0_2] 60 (0, 0)) (blkU BK190.out) hb); have n4_ := asd (blk_below (g := gb191) (o := .cells #[.bool a1_0, .slice A1_1 l1_1.length c1_1, .int .i64 a1_2] 60 (0, 0)) (blkU BK191.out) hb); have n5_ := asd (blk_below (g := gb192) (o := .cells #[.bool false, .slice none 0 0, .int .i64 0] 60 (0, 0)) (blkU BK192.out) hb); have n6_ := asd (below_step (by repeat (first | (with_reducible first | exact HB.out | apply below_alloc | apply pw_below_drewN | apply below_drew1 | refine below_set ?_ GE190.out | refine below_set ?_ GE191.out | refine below_set ?_ GE192.out) | exact HB.out)) hb); clear HO0_1; clear HO1_1; clear BK190; clear BK191; clear BK192; clear HB; have HO0_1 := n0_; have HO1_1 := n1_; have HO195 := n2_; have BK190 := n3_; have BK191 := n4_; have BK192 := n5_; have HB := n6_; clear n0_ n1_ n2_ n3_ n4_ n5_ n6_; clear hb ho36; obtain ⟨Ao37, co37, eo37⟩ := Kd.N_slice HO195.out; subst eo37) | ((with_reducible refine gate_callee (f := 88) rfl ?_); refine goesL_ (some 9) rfl rfl Tryz.func88 (by kernel_rfl) rfl #[.slice Ao37 y193.length co37] rfl eqA ?_; (with_reducible refine (dyad_valid.calls k _ _ y193 false _ ?side1 ?side2 A3.out).mono ?_); (case side1 => repeat (first | exact (Kd.N_reads' HO195.out).2.2 | (with_reducible refine Kd.C_alloc ?_ _) | (with_reducible refine Kd.C_drewN ?_ _) | (with_reducible refine Kd.C_drew ?_))); (case side2 => exact (Kd.N_reads' HO195.out).2.1); rintro e w38 ⟨rfl, hb⟩; refine ⟨_, rfl, ?_⟩; have n0_ := asd (Kd.V_below (by (with_reducible repeat (first | apply Kd.V_alloc | apply Kd.V_drewN | apply Kd.V_drew)); exact HO0_1.out) hb); have n1_ := asd (Kd.V_below (by (with_reducible repeat (first | apply Kd.V_alloc | apply Kd.V_drewN | apply Kd.V_drew)); exact HO1_1.out) hb); have n2_ := asd (Kd.N_below (by (with_reducible repeat (first | apply Kd.N_alloc | apply Kd.N_drewN | apply Kd.N_drew)); exact HO195.out) hb); have n3_ := asd (blk_below (g := gb190) (o := .cells #[.bool a0_0, .slice A0_1 l0_1.length c0_1, .int .i64 a0_2] 60 (0, 0)) (blkU BK190.out) hb); have n4_ := asd (blk_below (g := gb191) (o := .cells #[.bool a1_0, .slice A1_1 l1_1.length c1_1, .int .i64 a1_2] 60 (0, 0)) (blkU BK191.out) hb); have n5_ := asd (blk_below (g := gb192) (o := .cells #[.bool false, .slice none 0 0, .int .i64 0] 60 (0, 0)) (blkU BK192.out) hb); have n6_ := asd (below_step (by repeat (first | (with_reducible first | exact HB.out | apply below_alloc | apply pw_below_drewN | apply below_drew1 | refine below_set ?_ GE190.out | refine below_set ?_ GE191.out | refine below_set ?_ GE192.out) | exact HB.out)) hb); clear HO0_1; clear HO1_1; clear HO195; clear BK190; clear BK191; clear BK192; clear HB; have HO0_1 := n0_; have HO1_1 := n1_; have HO195 := n2_; have BK190 := n3_; have BK191 := n4_; have BK192 := n5_; have HB := n6_; clear n0_ n1_ n2_ n3_ n4_ n5_ n6_; (try clear hb); (try clear hb2); (try clear hk); (try clear hi); have hcz39_0 : w38.cell? ⟨gb192, 0, none⟩ = some (.bool false) := (blk_cell BK192.out 0).trans rfl; have hcz39_1 : w38.cell? ⟨gb192, 1, none⟩ = some (.slice none 0 0) := (blk_cell BK192.out 1).trans rfl; have hcz39_2 : w38.cell? ⟨gb192, 2, none⟩ = some (.int .i64 0) := (blk_cell BK192.out 2).trans rfl; have hfz39_0 := blk_frozen BK192.out 0; have hfz39_1 := blk_frozen BK192.out 1; have hfz39_2 := blk_frozen BK192.out 2))
  refine bodyPost_ret (results_ct rfl _ _ gb192 60 #[.bool false, .slice none 0 0, .int .i64 0] (0, 0) _ rfl (by (with_reducible repeat (first | refine blk_drewN ?_ _ | refine blk_drew ?_ | refine blk_alloc ?_ _)); refine blk_put (cs := #[.bool false, .slice none 0 0, .int .i64 0]) ?_ 2 _ rfl; (with_reducible repeat (first | refine blk_drewN ?_ _ | refine blk_drew ?_ | refine blk_alloc ?_ _)); refine blk_put (cs := #[.bool false, .slice none 0 0, .int .i64 0]) ?_ 1 _ rfl; (with_reducible repeat (first | refine blk_drewN ?_ _ | refine blk_drew ?_ | refine blk_alloc ?_ _)); refine blk_put (cs := #[.bool false, .slice none 0 0, .int .i64 0]) ?_ 0 _ rfl; (with_reducible repeat (first | refine blk_drewN ?_ _ | refine blk_drew ?_ | refine blk_alloc ?_ _)); exact BK192.out) Tryz.underlying60 rfl (by kernel_rfl)) rfl ?_
  exact ⟨_, eqC, by first | exact Kd.R_nil _ _ _ _ _ | exact Kd.N_nil _ _ _ _ _ | exact Kd.V_nil _ _ _ _ _ | exact Kd.Q_nil _ _ _ _ _ | exact Kd.S_nil _ _ _ _ _, by repeat (first | (with_reducible first | exact HB.out | apply below_alloc | apply pw_below_drewN | apply below_drew1 | refine below_set ?_ GE190.out | refine below_set ?_ GE191.out | refine below_set ?_ GE192.out) | exact HB.out)⟩
def sums_num.f (a0 : Nat) : Option (Bool × List Int × Int) := (dyad_Of.f a0).bind fun bt209 => (some (bt209.1, bt209.2.1, bt209.2.2.1))
theorem sums_num.calls (a0 : Nat) (r1 : Bool) (r2 : List Int) (r3 : Int) (w : World) (h : sums_num.f a0 = some (r1, r2, r3)) (hL : Big.Laid w := by exact Big.Laid.step HL.out hbw) :
  Calls Tryz.prog 46 #[.float .f64 a0] w fun e w' => ∃ v1_ : Value, e = .returned (.agg #[.bool r1, v1_, .int .i64 r3]) ∧ Kd.R (Kd.int .u32) 83 w' w.heap.size (fun _ => True) v1_ r2 ∧ Below w.heap.size w w' := by
 have HL := asd hL
 clear hL
 have hu60 := Tryz.underlying60
 have HB := asd (Below.refl w.heap.size w)
 have H : ((dyad_Of.f a0).bind fun bt209 => (some (bt209.1, bt209.2.1, bt209.2.2.1))) = some (r1, r2, r3) := h
 clear h
 replace H := Option.bind_eq_some_iff.mp H
 obtain ⟨⟨t209, t210, t213, t214⟩, A20, H⟩ := H
 replace H : (some (t209, t210, t213)) = some (r1, r2, r3) := H
 have A2 := asd A20
 clear A20
 simp only [Option.some.injEq, Prod.mk.injEq] at H
 obtain ⟨rfl, rfl, rfl⟩ := H
 go_enter Tryz.func46, Tryz.ntmps46
 go_wp2_with (first | ((with_reducible refine gate_dst (N := 2) rfl ?_); refine box_event ?hg (N := 2) ?hd (cs := #[.bool false, .slice none 0 0, .int .i64 0]) (t := 60) ?hr ?_; (case hd => rfl); (case hg => rfl); (case hr => first | (go_simp; done) | (go_simp; rfl)); intro gb208 hg w3 hbox hb; have n0_ := asd (below_step hbw hb); have n1_ := asd (hbox); have n2_ := asd ((by rw [hg]; exact (below_size hbw) : w.heap.size ≤ gb208)); have n3_ := asd ((by rw [hg]; exact (below_size hbw) : w.heap.size ≤ gb208)); clear HB; have HB := n0_; have BK208 := n1_; have GW208 := n2_; have GE208 := n3_; clear n0_ n1_ n2_ n3_; clear hb hbox hg) | ((with_reducible refine gate_callee (f := 90) rfl ?_); refine goesL_ (some 7) rfl rfl Tryz.func90 (by kernel_rfl) rfl #[.float .f64 a0] rfl eqA ?_; (with_reducible refine (dyad_Of.calls a0 t209 t210 t213 t214 _ A2.out).mono ?_); rintro e w4 ⟨v211, rfl, ho0, hb⟩; refine ⟨_, rfl, ?_⟩; have n0_ := asd (Kd.R_lower ho0 (below_size (by repeat (first | (with_reducible first | exact HB.out | apply below_alloc | apply pw_below_drewN | apply below_drew1 | refine below_set ?_ GE208.out) | exact HB.out)))); have n1_ := asd (blk_below (g := gb208) (o := .cells #[.bool false, .slice none 0 0, .int .i64 0] 60 (0, 0)) (blkU BK208.out) hb); have n2_ := asd (below_step (by repeat (first | (with_reducible first | exact HB.out | apply below_alloc | apply pw_below_drewN | apply below_drew1 | refine below_set ?_ GE208.out) | exact HB.out)) hb); clear BK208; clear HB; have HO212 := n0_; have BK208 := n1_; have HB := n2_; clear n0_ n1_ n2_; (try clear hb); (try clear hb2); (try clear hk); (try clear hi); (try clear ho0)) | ((with_reducible refine gate_dst (N := 3) rfl ?_); refine box_event ?hg (N := 3) ?hd (cs := #[.bool false, .slice none 0 0, .int .i64 0]) (t := 60) ?hr ?_; (case hd => rfl); (case hg => rfl); (case hr => first | (go_simp; done) | (go_simp; rfl)); intro gb215 hg w5 hbox hb; have n0_ := asd (Kd.R_below (rUp HO212.out) hb); have n1_ := asd (blk_below (g := gb208) (o := .cells #[.bool false, .slice none 0 0, .int .i64 0] 60 (0, 0)) (blkU BK208.out) hb); have n2_ := asd (below_step (by repeat (first | (with_reducible first | exact HB.out | apply below_alloc | apply pw_below_drewN | apply below_drew1 | refine below_set ?_ GE208.out) | exact HB.out)) hb); have n3_ := asd (hbox); have n4_ := asd ((by rw [hg]; exact (below_size (by repeat (first | (with_reducible first | exact HB.out | apply below_alloc | apply pw_below_drewN | apply below_drew1 | refine below_set ?_ GE208.out) | exact HB.out))) : w.heap.size ≤ gb215)); have n5_ := asd ((by rw [hg]; exact (below_size (by repeat (first | (with_reducible first | exact HB.out | apply below_alloc | apply pw_below_drewN | apply below_drew1 | refine below_set ?_ GE208.out) | exact HB.out))) : w.heap.size ≤ gb215)); have n6_ := asd ((by rw [hg]; exact Nat.ne_of_lt (blk_lt (g := gb208) (o := .cells #[.bool false, .slice none 0 0, .int .i64 0] 60 (0, 0)) (blkU BK208.out)) : gb208 ≠ gb215)); have n7_ := asd ((by rw [hg]; exact Nat.ne_of_gt (blk_lt (g := gb208) (o := .cells #[.bool false, .slice none 0 0, .int .i64 0] 60 (0, 0)) (blkU BK208.out)) : gb215 ≠ gb208)); clear HO212; clear BK208; clear HB; have HO212 := n0_; have BK208 := n1_; have HB := n2_; have BK215 := n3_; have GW215 := n4_; have GE215 := n5_; have NB208_215 := n6_; have NB215_208 := n7_; clear n0_ n1_ n2_ n3_ n4_ n5_ n6_ n7_; clear hb hbox hg; have hnb6 := NB215_208.out; have hnc6 := NB208_215.out; have hcz7_0 : w5.cell? ⟨gb215, 0, none⟩ = some (.bool false) := (blk_cell BK215.out 0).trans rfl; have hcz7_1 : w5.cell? ⟨gb215, 1, none⟩ = some (.slice none 0 0) := (blk_cell BK215.out 1).trans rfl; have hcz7_2 : w5.cell? ⟨gb215, 2, none⟩ = some (.int .i64 0) := (blk_cell BK215.out 2).trans rfl; have hfz7_0 := blk_frozen BK215.out 0; have hfz7_1 := blk_frozen BK215.out 1; have hfz7_2 := blk_frozen BK215.out 2; obtain ⟨Ao8, co8, eo8⟩ := Kd.R_slice HO212.out; subst eo8; have hcz9_0 : w5.cell? ⟨gb208, 0, none⟩ = some (.bool false) := (blk_cell BK208.out 0).trans rfl; have hcz9_1 : w5.cell? ⟨gb208, 1, none⟩ = some (.slice none 0 0) := (blk_cell BK208.out 1).trans rfl; have hcz9_2 : w5.cell? ⟨gb208, 2, none⟩ = some (.int .i64 0) := (blk_cell BK208.out 2).trans rfl; have hfz9_0 := blk_frozen BK208.out 0; have hfz9_1 := blk_frozen BK208.out 1; have hfz9_2 := blk_frozen BK208.out 2))
 refine bodyPost_ret (results_cell_row rfl _ _ gb208 60 #[.bool t209, .slice Ao8 t210.length co8, .int .i64 t213] (0, 0) _ rfl (by (with_reducible repeat (first | refine blk_drewN ?_ _ | refine blk_drew ?_ | refine blk_alloc ?_ _)); refine blk_put (cs := #[.bool t209, .slice Ao8 t210.length co8, .int .i64 0]) ?_ 2 _ rfl; (with_reducible repeat (first | refine blk_drewN ?_ _ | refine blk_drew ?_ | refine blk_alloc ?_ _)); refine blk_put (cs := #[.bool t209, .slice none 0 0, .int .i64 0]) ?_ 1 _ rfl; (with_reducible repeat (first | refine blk_drewN ?_ _ | refine blk_drew ?_ | refine blk_alloc ?_ _)); refine blk_put (cs := #[.bool false, .slice none 0 0, .int .i64 0]) ?_ 0 _ rfl; (with_reducible repeat (first | refine blk_drewN ?_ _ | refine blk_drew ?_ | refine blk_alloc ?_ _)); refine blk_far ?_ NB208_215.out _; (with_reducible repeat (first | refine blk_drewN ?_ _ | refine blk_drew ?_ | refine blk_alloc ?_ _)); refine blk_far ?_ NB208_215.out _; (with_reducible repeat (first | refine blk_drewN ?_ _ | refine blk_drew ?_ | refine blk_alloc ?_ _)); refine blk_far ?_ NB208_215.out _; (with_reducible repeat (first | refine blk_drewN ?_ _ | refine blk_drew ?_ | refine blk_alloc ?_ _)); exact BK208.out) Tryz.underlying60 rfl (by kernel_rfl)) rfl ?_
 exact ⟨_, eqC, by (with_reducible repeat (first | apply Kd.R_alloc | apply Kd.R_drewN | apply Kd.R_drew)); exact Kd.R_mono (Kd.R_far (p := ⟨gb208, 2, none⟩) (Kd.R_far (p := ⟨gb208, 1, none⟩) (Kd.R_far (p := ⟨gb208, 0, none⟩) (Kd.R_far (p := ⟨gb215, 2, none⟩) (Kd.R_far (p := ⟨gb215, 1, none⟩) (Kd.R_far (p := ⟨gb215, 0, none⟩) (Kd.R_types (Kd.R_types HO212.out BK215.out (by decide)) BK208.out (by decide)) (fun _ hk => hk.1.2) (.bool t209)) (fun _ hk => hk.1.2) (.slice Ao8 t210.length co8)) (fun _ hk => hk.1.2) (.int .i64 t213)) (fun _ hk => hk.2) (.bool t209)) (fun _ hk => hk.2) (.slice Ao8 t210.length co8)) (fun _ hk => hk.2) (.int .i64 t213)) (fun _ hk => trivial), by repeat (first | (with_reducible first | exact HB.out | apply below_alloc | apply pw_below_drewN | apply below_drew1 | refine below_set ?_ GE208.out | refine below_set ?_ GE215.out) | exact HB.out)⟩
def sums_total.l0 : Nat → List Nat → Int → Int → Bool → List Int → Int → Option (Bool × List Int × Int)
 | 0, _, _, _, _, _, _ => none
 | k + 1, x6, x7, x8, x218000, x218001, x218002 => if x8 < x7 then (if 0 ≤ x8 then (if x8 < (x6.length : Int) then ((sums_num.f (rdOf (0 : Nat) x6 x8)).bind fun bt219 => ((dyad_Add.f x218000 x218001 x218002 bt219.1 bt219.2.1 bt219.2.2).bind fun bt224 => (sums_total.l0 k x6 x7 (wrap64 (x8 + 1)) bt224.1 bt224.2.1 bt224.2.2.1))) else (none)) else (none)) else (some (x218000, x218001, x218002))
def sums_total.f (k : Nat) (l0 : List Nat) : Option (Bool × List Int × Int) := sums_total.l0 k l0 (l0.length : Int) 0 false ([] : List Int) 0
def sums_total.T5 : Bool × List (List Nat × List Nat) := (true, [([], []), ([], []), ([1], [1]), ([0, 2, 2], [0, 2]), ([3], [3]), ([4], [4]), ([4], [4]), ([5, 3, 0, 1, 2, 3, 4, 5], [5])])
def sums_total.B5 : List Nat := [0, 0, 2, 7, 15, 31, 31, 63]
theorem sums_total.tab5 : rtab .any (opsOf Tryz.f45 5) = sums_total.T5 := by kernel_rfl
theorem sums_total.bits5 : waitsOk sums_total.T5.2 sums_total.B5 = true := by kernel_rfl
theorem sums_total.calls (k : Nat) (A0 : Option Addr) (c0 : Nat) (l0 : List Nat) (r1 : Bool) (r2 : List Int) (r3 : Int) (w : World) (hr0 : Kd.C Kd.float w A0 l0.length l0) (hc0 : l0.length ≤ c0) (h : sums_total.f k l0 = some (r1, r2, r3)) (hL : Big.Laid w := by exact Big.Laid.step HL.out hbw) :
  Calls Tryz.prog 45 #[.slice A0 l0.length c0] w fun e w' => ∃ v1_ : Value, e = .returned (.agg #[.bool r1, v1_, .int .i64 r3]) ∧ Kd.R (Kd.int .u32) 83 w' w.heap.size (fun _ => True) v1_ r2 ∧ Below w.heap.size w w' := by
 have HL := asd hL
 clear hL
 have hu60 := Tryz.underlying60
 have HR0 := asd hr0
 have HC0 := asd hc0
 clear hr0 hc0
 have HB := asd (Below.refl w.heap.size w)
 have H : (sums_total.l0 k l0 (l0.length : Int) 0 false ([] : List Int) 0) = some (r1, r2, r3) := h
 clear h
 have H' := asd H
 clear H
 go_enter Tryz.func45, Tryz.ntmps45
 go_wp2_with (first | ((with_reducible refine gate_dst (N := 2) rfl ?_); refine box_event ?hg (N := 2) ?hd (cs := #[.bool false, .slice none 0 0, .int .i64 0]) (t := 60) ?hr ?_; (case hd => rfl); (case hg => rfl); (case hr => first | (go_simp; done) | (go_simp; rfl)); intro gb216 hg w2 hbox hb; have n0_ := asd (below_step hbw hb); have n1_ := asd (hbox); have n2_ := asd ((by rw [hg]; exact (below_size hbw) : w.heap.size ≤ gb216)); have n3_ := asd ((by rw [hg]; exact (below_size hbw) : w.heap.size ≤ gb216)); clear HB; have HB := n0_; have BK216 := n1_; have GW216 := n2_; have GE216 := n3_; clear n0_ n1_ n2_ n3_; clear hb hbox hg) | ((with_reducible refine gate_dst (N := 3) rfl ?_); refine box_event ?hg (N := 3) ?hd (cs := #[.bool false, .slice none 0 0, .int .i64 0]) (t := 60) ?hr ?_; (case hd => rfl); (case hg => rfl); (case hr => first | (go_simp; done) | (go_simp; rfl)); intro gb217 hg w3 hbox hb; have n0_ := asd (blk_below (g := gb216) (o := .cells #[.bool false, .slice none 0 0, .int .i64 0] 60 (0, 0)) (blkU BK216.out) hb); have n1_ := asd (below_step (by repeat (first | (with_reducible first | exact HB.out | apply below_alloc | apply pw_below_drewN | apply below_drew1 | refine below_set ?_ GE216.out) | exact HB.out)) hb); have n2_ := asd (hbox); have n3_ := asd ((by rw [hg]; exact (below_size (by repeat (first | (with_reducible first | exact HB.out | apply below_alloc | apply pw_below_drewN | apply below_drew1 | refine below_set ?_ GE216.out) | exact HB.out))) : w.heap.size ≤ gb217)); have n4_ := asd ((by rw [hg]; exact (below_size (by repeat (first | (with_reducible first | exact HB.out | apply below_alloc | apply pw_below_drewN | apply below_drew1 | refine below_set ?_ GE216.out) | exact HB.out))) : w.heap.size ≤ gb217)); have n5_ := asd ((by rw [hg]; exact Nat.ne_of_lt (blk_lt (g := gb216) (o := .cells #[.bool false, .slice none 0 0, .int .i64 0] 60 (0, 0)) (blkU BK216.out)) : gb216 ≠ gb217)); have n6_ := asd ((by rw [hg]; exact Nat.ne_of_gt (blk_lt (g := gb216) (o := .cells #[.bool false, .slice none 0 0, .int .i64 0] 60 (0, 0)) (blkU BK216.out)) : gb217 ≠ gb216)); clear BK216; clear HB; have BK216 := n0_; have HB := n1_; have BK217 := n2_; have GW217 := n3_; have GE217 := n4_; have NB216_217 := n5_; have NB217_216 := n6_; clear n0_ n1_ n2_ n3_ n4_ n5_ n6_; clear hb hbox hg))
 go_loopg [8] k (fun kq v8 w' => ∃ (x8_1 : Int) (x218000_1 : Bool) (x218001_1 : List Int) (x218002_1 : Int) (u218001 : Value), v8 = .int .i64 x8_1 ∧ Aside0 (sums_total.l0 kq l0 (l0.length : Int) x8_1 x218000_1 x218001_1 x218002_1 = some (r1, r2, r3)) ∧ Aside0 (kq ≤ k) ∧ Aside0 (Kd.R (Kd.int .u32) 83 w' w.heap.size (fun _ => True) u218001 x218001_1) ∧ Aside0 (w'.heap[gb216]? = some (.cells #[.bool false, (.slice none 0 0), .int .i64 0] 60 (0, 0))) ∧ Aside0 (w'.heap[gb217]? = some (.cells #[.bool x218000_1, u218001, .int .i64 x218002_1] 60 (0, 0))) ∧ Aside0 (Below w.heap.size w w'))
 case atStart => exact ⟨(0), (false), (([] : List Int)), (0), (.slice none 0 0), eqB, H', ⟨Nat.le_refl _⟩, ⟨by first | exact Kd.R_nil _ _ _ _ _ | exact Kd.N_nil _ _ _ _ _ | exact Kd.V_nil _ _ _ _ _ | exact Kd.Q_nil _ _ _ _ _ | exact Kd.S_nil _ _ _ _ _⟩, ⟨by (with_reducible repeat (first | refine blk_drewN ?_ _ | refine blk_drew ?_ | refine blk_alloc ?_ _)); exact BK216.out⟩, ⟨by (with_reducible repeat (first | refine blk_drewN ?_ _ | refine blk_drew ?_ | refine blk_alloc ?_ _)); exact BK217.out⟩, ⟨by repeat (first | (with_reducible first | exact HB.out | apply below_alloc | apply pw_below_drewN | apply below_drew1 | refine below_set ?_ GE216.out | refine below_set ?_ GE217.out) | exact HB.out)⟩⟩
 case round =>
  clear H'
  try clear p2
  obtain ⟨x8_1, x218000_1, x218001_1, x218002_1, u218001, rfl, HA, HK1, HO_218001, BK216, BK217, HB⟩ := hrel
  cases gk with
  | zero => exact absurd HA.out (by simp [sums_total.l0])
  | succ k1 =>
   have H := HA.out
   clear HA
   simp only [sums_total.l0] at H
   by_cases c4 : x8_1 < (l0.length : Int)
   ·rw [if_pos c4] at H
    have c4b0 : decide (x8_1 < (l0.length : Int)) = true := decide_eq_true c4
    clear c4
    by_cases c5 : 0 ≤ x8_1
    ·rw [if_pos c5] at H
     have c5b0 : decide (0 ≤ x8_1) = true := decide_eq_true c5
     clear c5
     by_cases c6 : x8_1 < (l0.length : Int)
     ·rw [if_pos c6] at H
      have c6b0 : decide (x8_1 < (l0.length : Int)) = true := decide_eq_true c6
      clear c6
      replace H := Option.bind_eq_some_iff.mp H
      obtain ⟨⟨t219, t220, t223⟩, A70, H⟩ := H
      replace H : ((dyad_Add.f x218000_1 x218001_1 x218002_1 t219 t220 t223).bind fun bt224 => (sums_total.l0 k1 l0 (l0.length : Int) (wrap64 (x8_1 + 1)) bt224.1 bt224.2.1 bt224.2.2.1)) = some (r1, r2, r3) := H
      have A7 := asd A70
      clear A70
      replace H := Option.bind_eq_some_iff.mp H
      obtain ⟨⟨t224, t225, t228, t229⟩, A80, H⟩ := H
      replace H : (sums_total.l0 k1 l0 (l0.length : Int) (wrap64 (x8_1 + 1)) t224 t225 t228) = some (r1, r2, r3) := H
      have A8 := asd A80
      clear A80
      have H' := asd H
      clear H
      have p218 : 0 ≤ (x8_1 : Int) := of_decide_eq_true (by first | (with_reducible assumption) | assumption)
      have q218 : x8_1 < (l0.length : Int) := of_decide_eq_true (by first | (with_reducible assumption) | assumption)
      obtain ⟨ad218, e218, hx218_0⟩ := Kd.at_float HR0.out x8_1 p218 q218
      cases e218
      replace hx218_0 := (HB.out.cell (World.block_lt_of_cell? w _ hx218_0)).trans hx218_0
      replace p218 := eq_true p218
      replace q218 := eq_true q218
      try go_wp2
      have n0_ := asd (Kd.R_drew HO_218001.out)
      have n1_ := asd (blk_drew BK216.out)
      have n2_ := asd (blk_drew BK217.out)
      have n3_ := asd (below_drew1 HB.out)
      clear HO_218001
      clear BK216
      clear BK217
      clear HB
      have HO_218001 := n0_
      have BK216 := n1_
      have BK217 := n2_
      have HB := n3_
      clear n0_ n1_ n2_ n3_
      refine start_ (n := 8) (S := fun w' => w'.cell? ⟨gb217, 0, none⟩ = some (.bool x218000_1) ∧ w'.cell? ⟨gb217, 1, none⟩ = some (u218001) ∧ w'.cell? ⟨gb217, 2, none⟩ = some (.int .i64 x218002_1)) (ds := [7]) #[false, false, false, false, false, false, false, false] (by kernel_rfl) rfl rfl ⟨(blk_cell BK217.out 0).trans rfl, (blk_cell BK217.out 1).trans rfl, (blk_cell BK217.out 2).trans rfl⟩ (fun hHeld => ?_); refine with_tabW sums_total.tab5 sums_total.bits5 (fun HT_ HW_ => ?_)
      generalize wr.drew = w9 at HO_218001 BK216 BK217 HB hHeld ⊢
      refine pure_ (i := 1) (N := some 14) (v := ?_) (a' := ?_) #[false, true, false, false, false, false, false, false] rfl rfl (any_of HT_.out (by kernel_rfl)) (fun _ _ _ h => h) (Or.inl ⟨by rfl, ?_⟩) ?_ ?_
      rotate_left
      ·intro w'
       go_simp
       with_reducible rfl
      rotate_left
      ·simp only [Act.put, List.setIfInBounds_toArray, List.set_cons_zero, List.set_cons_succ, i64_w, i32_w]
       rfl
      refine take_ (i := 0) (N := some 13) (v := ?_) (a' := ?_) #[true, true, false, false, false, false, false, false] rfl rfl (take_ofW HT_.out HW_.out (by kernel_rfl)) (fun _ _ _ h => h) (Or.inl ⟨by rfl, ?_⟩) hHeld ?_ ?_
      rotate_left
      ·rintro w' ⟨s0, s1, s2⟩
       go_simp
       with_reducible rfl
      rotate_left
      ·simp only [Act.put, List.setIfInBounds_toArray, List.set_cons_zero, List.set_cons_succ, i64_w, i32_w]
       rfl
      refine one_ (i := 2) (N := some 15) #[true, true, true, false, false, false, false, false] rfl rfl (one_of HT_.out (by kernel_rfl)) (by decide) (fun K hK => ?_)
      refine goes_ Tryz.func46 (by kernel_rfl) rfl #[.float .f64 (rdOf (0 : Nat) l0 x8_1)] (by rfl) rfl rfl eqA ?_
      with_reducible refine (sums_num.calls (rdOf (0 : Nat) l0 x8_1) t219 t220 t223 _ A7.out).mono ?_
      rintro e w10 ⟨v221, rfl, ho0, hb⟩
      refine ⟨_, rfl, ?_⟩
      have n0_ := asd (Kd.R_elder' (rUp HO_218001.out) (Kd.R_base ho0) hb)
      have n1_ := asd (Kd.R_lower (Kd.R_new' ho0 (Kd.R_lt (rUp HO_218001.out))) (below_size (by repeat (first | (with_reducible first | exact HB.out | apply below_alloc | apply pw_below_drewN | apply below_drew1 | refine below_set ?_ GE216.out | refine below_set ?_ GE217.out) | exact HB.out))))
      have n2_ := asd (blk_below (g := gb216) (o := .cells #[.bool false, .slice none 0 0, .int .i64 0] 60 (0, 0)) (blkU BK216.out) hb)
      have n3_ := asd (blk_below (g := gb217) (o := .cells #[.bool x218000_1, u218001, .int .i64 x218002_1] 60 (0, 0)) (blkU BK217.out) hb)
      have n4_ := asd (below_step (by repeat (first | (with_reducible first | exact HB.out | apply below_alloc | apply pw_below_drewN | apply below_drew1 | refine below_set ?_ GE216.out | refine below_set ?_ GE217.out) | exact HB.out)) hb)
      clear HO_218001
      clear BK216
      clear BK217
      clear HB
      have HO_218001 := n0_
      have HO222 := n1_
      have BK216 := n2_
      have BK217 := n3_
      have HB := n4_
      clear n0_ n1_ n2_ n3_ n4_
      (try clear hb)
      (try clear hb2)
      (try clear hk)
      (try clear hi)
      (try clear ho0)
      obtain ⟨Ao11, co11, eo11⟩ := Kd.R_slice HO_218001.out
      (first | subst eo11 | (injection eo11 with f1_ f2_ f3_; have f4_ := f1_.symm; have f5_ := f3_.symm; clear f1_ f2_ f3_; subst f4_; subst f5_))
      obtain ⟨Ao12, co12, eo12⟩ := Kd.R_slice HO222.out
      (first | subst eo12 | (injection eo12 with f1_ f2_ f3_; have f4_ := f1_.symm; have f5_ := f3_.symm; clear f1_ f2_ f3_; subst f4_; subst f5_))
      refine hK.out _ _ ⟨(blk_cell BK217.out 0).trans rfl, (blk_cell BK217.out 1).trans rfl, (blk_cell BK217.out 2).trans rfl⟩ (fun hHeld => ?_)
      clear hK K
      refine norm_ (a' := ?_) ?_ ?_
      rotate_left
      ·show Act.put _ (some 15) _ = _
       simp only [Act.put, List.setIfInBounds_toArray, List.set_cons_zero, List.set_cons_succ, i64_w, i32_w]
       rfl
      refine one_ (i := 3) (N := some 16) #[true, true, true, true, false, false, false, false] rfl rfl (one_of HT_.out (by kernel_rfl)) (by decide) (fun K hK => ?_)
      refine goes_ Tryz.func79 (by kernel_rfl) rfl #[.agg #[.bool x218000_1, .slice Ao11 x218001_1.length co11, .int .i64 x218002_1], .agg #[.bool t219, .slice Ao12 t220.length co12, .int .i64 t223]] (by rfl) rfl rfl eqA ?_
      with_reducible refine (dyad_Add.calls x218000_1 _ _ x218001_1 x218002_1 t219 _ _ t220 t223 t224 t225 t228 t229 _ ?side1 ?side2 ?side3 ?side4 A8.out).mono ?_
      (case side1 => repeat (first | exact (Kd.R_reads' HO_218001.out).2.2 | (with_reducible refine Kd.C_alloc ?_ _) | (with_reducible refine Kd.C_drewN ?_ _) | (with_reducible refine Kd.C_drew ?_)))
      (case side2 => exact (Kd.R_reads' HO_218001.out).2.1)
      (case side3 => repeat (first | exact (Kd.R_reads' HO222.out).2.2 | (with_reducible refine Kd.C_alloc ?_ _) | (with_reducible refine Kd.C_drewN ?_ _) | (with_reducible refine Kd.C_drew ?_)))
      (case side4 => exact (Kd.R_reads' HO222.out).2.1)
      rintro e w13 ⟨v226, rfl, ho0, hb⟩
      refine ⟨_, rfl, ?_⟩
      have n0_ := asd (Kd.R_elder' (rUp HO_218001.out) (Kd.R_base ho0) hb)
      have n1_ := asd (Kd.R_elder' (rUp HO222.out) (Kd.R_base ho0) hb)
      have n2_ := asd (Kd.R_lower (Kd.R_new' (Kd.R_new' ho0 (Kd.R_lt (rUp HO_218001.out))) (Kd.R_lt (rUp HO222.out))) (below_size (by repeat (first | (with_reducible first | exact HB.out | apply below_alloc | apply pw_below_drewN | apply below_drew1 | refine below_set ?_ GE216.out | refine below_set ?_ GE217.out) | exact HB.out))))
      have n3_ := asd (blk_below (g := gb216) (o := .cells #[.bool false, .slice none 0 0, .int .i64 0] 60 (0, 0)) (blkU BK216.out) hb)
      have n4_ := asd (blk_below (g := gb217) (o := .cells #[.bool x218000_1, .slice Ao11 x218001_1.length co11, .int .i64 x218002_1] 60 (0, 0)) (blkU BK217.out) hb)
      have n5_ := asd (below_step (by repeat (first | (with_reducible first | exact HB.out | apply below_alloc | apply pw_below_drewN | apply below_drew1 | refine below_set ?_ GE216.out | refine below_set ?_ GE217.out) | exact HB.out)) hb)
      clear HO_218001
      clear HO222
      clear BK216
      clear BK217
      clear HB
      have HO_218001 := n0_
      have HO222 := n1_
      have HO227 := n2_
      have BK216 := n3_
      have BK217 := n4_
      have HB := n5_
      clear n0_ n1_ n2_ n3_ n4_ n5_
      (try clear hb)
      (try clear hb2)
      (try clear hk)
      (try clear hi)
      (try clear ho0)
      obtain ⟨Ao15, co15, eo15⟩ := Kd.R_slice HO227.out
      (first | subst eo15 | (injection eo15 with f1_ f2_ f3_; have f4_ := f1_.symm; have f5_ := f3_.symm; clear f1_ f2_ f3_; subst f4_; subst f5_))
      refine hK.out _ _ ⟨(blk_cell BK217.out 0).trans rfl, (blk_cell BK217.out 1).trans rfl, (blk_cell BK217.out 2).trans rfl⟩ (fun hHeld => ?_)
      clear hK K
      refine norm_ (a' := ?_) ?_ ?_
      rotate_left
      ·show Act.put _ (some 16) _ = _
       simp only [Act.put, List.setIfInBounds_toArray, List.set_cons_zero, List.set_cons_succ, i64_w, i32_w]
       rfl
      refine pure_ (i := 4) (N := some 12) (v := ?_) (a' := ?_) #[true, true, true, true, true, false, false, false] rfl rfl (any_of HT_.out (by kernel_rfl)) (fun _ _ _ h => h) (Or.inl ⟨by rfl, ?_⟩) ?_ ?_
      rotate_left
      ·intro w'
       go_simp
       with_reducible rfl
      rotate_left
      ·simp only [Act.put, List.setIfInBounds_toArray, List.set_cons_zero, List.set_cons_succ, i64_w, i32_w]
       rfl
      refine pure_ (i := 5) (N := some 17) (v := ?_) (a' := ?_) #[true, true, true, true, true, true, false, false] rfl rfl (any_of HT_.out (by kernel_rfl)) (fun _ _ _ h => h) (Or.inl ⟨by rfl, ?_⟩) ?_ ?_
      rotate_left
      ·intro w'
       go_simp
       with_reducible rfl
      rotate_left
      ·simp only [Act.put, List.setIfInBounds_toArray, List.set_cons_zero, List.set_cons_succ, i64_w, i32_w]
       rfl
      refine pure_ (i := 6) (N := some 18) (v := ?_) (a' := ?_) #[true, true, true, true, true, true, true, false] rfl rfl (any_of HT_.out (by kernel_rfl)) (fun _ _ _ h => h) (Or.inl ⟨by rfl, ?_⟩) ?_ ?_
      rotate_left
      ·intro w'
       go_simp
       with_reducible rfl
      rotate_left
      ·simp only [Act.put, List.setIfInBounds_toArray, List.set_cons_zero, List.set_cons_succ, i64_w, i32_w]
       rfl
      refine last_ (i := 7) (N := none) #[true, true, true, true, true, true, true, true] rfl rfl (one_of HT_.out (by kernel_rfl)) (by decide) (fun K hK => ?_)
      have hs14 : w13.cell? ⟨gb217, 0, none⟩ = some (.bool x218000_1) := (blk_cell BK217.out 0).trans rfl
      have hfs14 := blk_frozen BK217.out 0
      have hns14_0 := NB216_217.out
      have hms14_0 := NB217_216.out
      have hs16 : w13.cell? ⟨gb217, 1, none⟩ = some (.slice Ao11 x218001_1.length co11) := (blk_cell BK217.out 1).trans rfl
      have hfs16 := blk_frozen BK217.out 1
      have hns16_0 := NB216_217.out
      have hms16_0 := NB217_216.out
      have hs17 : w13.cell? ⟨gb217, 2, none⟩ = some (.int .i64 x218002_1) := (blk_cell BK217.out 2).trans rfl
      have hfs17 := blk_frozen BK217.out 2
      have hns17_0 := NB216_217.out
      have hms17_0 := NB217_216.out
      refine skip_ (w1 := ?_) (by rfl) rfl ?_ ?_
      rotate_left
      ·go_simp
       rfl
      refine hK.out _ _ ?_
      clear hK K
      refine done_ (done_of HT_.out (by kernel_rfl)) ?_
      try go_wp2
      go_roundg k1
      case measure => have := HK1.out; omega
      case rel => exact ⟨(wrap64 (x8_1 + 1)), (t224), (t225), (t228), (.slice Ao15 t225.length co15), eqB, H', ⟨by have := HK1.out; omega⟩, ⟨by (with_reducible repeat (first | apply Kd.R_alloc | apply Kd.R_drewN | apply Kd.R_drew)); exact Kd.R_mono (Kd.R_far (p := ⟨gb217, 2, none⟩) (Kd.R_far (p := ⟨gb217, 1, none⟩) (Kd.R_far (p := ⟨gb217, 0, none⟩) (Kd.R_types HO227.out BK217.out (by decide)) (fun _ hk => hk.2) (.bool t224)) (fun _ hk => hk.2) (.slice Ao15 t225.length co15)) (fun _ hk => hk.2) (.int .i64 t228)) (fun _ hk => trivial)⟩, ⟨by (with_reducible repeat (first | refine blk_drewN ?_ _ | refine blk_drew ?_ | refine blk_alloc ?_ _)); refine blk_far ?_ NB216_217.out _; (with_reducible repeat (first | refine blk_drewN ?_ _ | refine blk_drew ?_ | refine blk_alloc ?_ _)); refine blk_far ?_ NB216_217.out _; (with_reducible repeat (first | refine blk_drewN ?_ _ | refine blk_drew ?_ | refine blk_alloc ?_ _)); refine blk_far ?_ NB216_217.out _; (with_reducible repeat (first | refine blk_drewN ?_ _ | refine blk_drew ?_ | refine blk_alloc ?_ _)); exact BK216.out⟩, ⟨by (with_reducible repeat (first | refine blk_drewN ?_ _ | refine blk_drew ?_ | refine blk_alloc ?_ _)); refine blk_put (cs := #[.bool t224, .slice Ao15 t225.length co15, .int .i64 x218002_1]) ?_ 2 _ rfl; (with_reducible repeat (first | refine blk_drewN ?_ _ | refine blk_drew ?_ | refine blk_alloc ?_ _)); refine blk_put (cs := #[.bool t224, .slice Ao11 x218001_1.length co11, .int .i64 x218002_1]) ?_ 1 _ rfl; (with_reducible repeat (first | refine blk_drewN ?_ _ | refine blk_drew ?_ | refine blk_alloc ?_ _)); refine blk_put (cs := #[.bool x218000_1, .slice Ao11 x218001_1.length co11, .int .i64 x218002_1]) ?_ 0 _ rfl; (with_reducible repeat (first | refine blk_drewN ?_ _ | refine blk_drew ?_ | refine blk_alloc ?_ _)); exact BK217.out⟩, ⟨by repeat (first | (with_reducible first | exact HB.out | apply below_alloc | apply pw_below_drewN | apply below_drew1 | refine below_set ?_ GE216.out | refine below_set ?_ GE217.out) | exact HB.out)⟩⟩
     ·rw [if_neg c6] at H
      exact absurd H (by simp)
    ·rw [if_neg c5] at H
     exact absurd H (by simp)
   ·rw [if_neg c4] at H
    have c4b0 : decide (x8_1 < (l0.length : Int)) = false := decide_eq_false c4
    clear c4
    simp only [Option.some.injEq, Prod.mk.injEq] at H
    obtain ⟨rfl, rfl, rfl⟩ := H
    have hnb18 := NB217_216.out
    have hnc18 := NB216_217.out
    have hcz19_0 : wr.cell? ⟨gb217, 0, none⟩ = some (.bool x218000_1) := (blk_cell BK217.out 0).trans rfl
    have hcz19_1 : wr.cell? ⟨gb217, 1, none⟩ = some (u218001) := (blk_cell BK217.out 1).trans rfl
    have hcz19_2 : wr.cell? ⟨gb217, 2, none⟩ = some (.int .i64 x218002_1) := (blk_cell BK217.out 2).trans rfl
    have hfz19_0 := blk_frozen BK217.out 0
    have hfz19_1 := blk_frozen BK217.out 1
    have hfz19_2 := blk_frozen BK217.out 2
    have hcz20_0 : wr.cell? ⟨gb216, 0, none⟩ = some (.bool false) := (blk_cell BK216.out 0).trans rfl
    have hcz20_1 : wr.cell? ⟨gb216, 1, none⟩ = some (.slice none 0 0) := (blk_cell BK216.out 1).trans rfl
    have hcz20_2 : wr.cell? ⟨gb216, 2, none⟩ = some (.int .i64 0) := (blk_cell BK216.out 2).trans rfl
    have hfz20_0 := blk_frozen BK216.out 0
    have hfz20_1 := blk_frozen BK216.out 1
    have hfz20_2 := blk_frozen BK216.out 2
    obtain ⟨Ao21, co21, eo21⟩ := Kd.R_slice HO_218001.out
    subst eo21
    go_wp2
    refine bodyPost_ret (results_cell_row rfl _ _ gb216 60 #[.bool x218000_1, .slice Ao21 x218001_1.length co21, .int .i64 x218002_1] (0, 0) _ rfl (by (with_reducible repeat (first | refine blk_drewN ?_ _ | refine blk_drew ?_ | refine blk_alloc ?_ _)); refine blk_put (cs := #[.bool x218000_1, .slice Ao21 x218001_1.length co21, .int .i64 0]) ?_ 2 _ rfl; (with_reducible repeat (first | refine blk_drewN ?_ _ | refine blk_drew ?_ | refine blk_alloc ?_ _)); refine blk_put (cs := #[.bool x218000_1, .slice none 0 0, .int .i64 0]) ?_ 1 _ rfl; (with_reducible repeat (first | refine blk_drewN ?_ _ | refine blk_drew ?_ | refine blk_alloc ?_ _)); refine blk_put (cs := #[.bool false, .slice none 0 0, .int .i64 0]) ?_ 0 _ rfl; (with_reducible repeat (first | refine blk_drewN ?_ _ | refine blk_drew ?_ | refine blk_alloc ?_ _)); exact BK216.out) Tryz.underlying60 rfl (by kernel_rfl)) rfl ?_
    exact ⟨_, eqC, by (with_reducible repeat (first | apply Kd.R_alloc | apply Kd.R_drewN | apply Kd.R_drew)); exact Kd.R_mono (Kd.R_far (p := ⟨gb216, 2, none⟩) (Kd.R_far (p := ⟨gb216, 1, none⟩) (Kd.R_far (p := ⟨gb216, 0, none⟩) (Kd.R_types HO_218001.out BK216.out (by decide)) (fun _ hk => hk.2) (.bool x218000_1)) (fun _ hk => hk.2) (.slice Ao21 x218001_1.length co21)) (fun _ hk => hk.2) (.int .i64 x218002_1)) (fun _ hk => trivial), by repeat (first | (with_reducible first | exact HB.out | apply below_alloc | apply pw_below_drewN | apply below_drew1 | refine below_set ?_ GE216.out | refine below_set ?_ GE217.out) | exact HB.out)⟩
def sums_Two.j0 : Nat → Nat → Nat → Nat → Bool → Option (Nat × Nat)
 | 0, _, _, _, _ => none
 | k + 1, x0, x1, x6, x20 => if x20 = true then (some (x6, (0 : Nat))) else ((sums_total.f k (([x0, x1] : List Nat))).bind fun bt235 => ((sums_num.f x6).bind fun bt240 => ((dyad_Sub.f k bt235.1 bt235.2.1 bt235.2.2 bt240.1 bt240.2.1 bt240.2.2).bind fun bt245 => ((dyad_Round.f bt245.1 bt245.2.1 bt245.2.2.1 2).bind fun bt252 => (some (x6, bt252.1))))))
def sums_Two.f (k : Nat) (a0 : Nat) (a1 : Nat) : Option (Nat × Nat) := (sums_near.f k a0 a1).bind fun t230 => (if ((FloatKind.f64.format.order t230 t230) != some .eq) = true then (sums_Two.j0 k a0 a1 t230 true) else ((math_IsInf.f t230 0).bind fun t231 => (sums_Two.j0 k a0 a1 t230 t231)))
end Go.Proofs.YthmeocigliephaaGreatDoor.PSu
end
section
namespace Go.Proofs.YthmeocigliephaaGreatDoor.Big
open Go.Proofs.YthmeocigliephaaGreatDoor.PSu Go.Proofs.YthmeocigliephaaGreatDoor.Plain
def faultL (l : List Nat) : Int := if 65536 < l.length then 2 else if l.any nanB = true then 4 else if l.any infB? = true then 5 else 0
theorem faultL_eq (A : Option Addr) (c : Nat) (l : List Nat) : faultF [(A, c, l)] = faultL l := by
  unfold faultF faultL
  simp only [List.any_cons, List.any_nil, Bool.or_false, longB, scanF, Bool.false_or]
  by_cases h : 65536 < l.length
  · rw [if_pos h, if_pos (decide_eq_true h)]
  · rw [if_neg h, if_neg (by simpa using h)]
theorem fault_one (g : Nat) (A : Option Addr) (c : Nat) (l : List Nat) (q : Int) (w : World) (hg : w.cell? ⟨g, 0, none⟩ = some (.slice A l.length c)) (hr : Kd.C Kd.float w A l.length l) (hc : l.length ≤ c) (hn : l.length < 4611686018427387904) (hq : faultL l = q) :
    Calls Tryz.prog 50 #[.slice (some ⟨g, 0, none⟩) 1 1] w fun e w' => e = .returned (.int .i64 q) ∧ Below w.heap.size w w' := by
  have h := fault_any g [(A, c, l)] w
    (fun i hi => by
      obtain rfl : i = 0 := Nat.lt_one_iff.1 hi
      exact hg)
    (fun i hi => by
      obtain rfl : i = 0 := Nat.lt_one_iff.1 hi
      exact ⟨hr, hc, hn⟩) (by simp)
  rw [faultL_eq, hq] at h
  exact h
def exactW (l : List Nat) (mode : Int) (T : Bool × List Int × Int) : Nat × Int :=
  if 1 ≤ mode ∧ mode ≤ 3 then
    (if faultL l = 0 then
      (if T.2.1.length = 0 then (if 0 < l.length ∧ l.any oneB = false then (9223372036854775808, 0) else (0, 0)) else roundN T.1 T.2.1 T.2.2 mode)
     else (0, faultL l))
  else (0, 1)
theorem round_yes {m : Int} (h : 1 ≤ m ∧ m ≤ 3) : round_Valid.f m = some 0 := by
  unfold round_Valid.f
  by_cases h1 : m = 1
  · rw [if_pos h1]
  · by_cases h2 : m = 2
    · rw [if_neg h1, if_pos h2]
    · rw [if_neg h1, if_neg h2, if_pos (by omega)]
theorem round_no {m : Int} (h : ¬ (1 ≤ m ∧ m ≤ 3)) : round_Valid.f m = some 1 := by
  unfold round_Valid.f
  rw [if_neg (by omega), if_neg (by omega), if_neg (by omega)]
theorem sign_law {n : Bool} {m : List Int} {e : Int} (h : IsN n m e) : dyad_Sign.f 1 n m e = some (if m.length = 0 then (0 : Int) else if n = true then -1 else 1) := by
  unfold dyad_Sign.f
  rw [show PSu.dyad_Valid.f n m e = some true from h.1, Option.bind_some, if_pos rfl]
  simp only [dyad_Sign.j0]
  by_cases hm : m.length = 0
  · rw [if_pos hm, if_pos (by simp [List.length_eq_zero_iff.1 hm])]
  · rw [if_neg hm, if_neg (by simp; exact fun h => hm (by rw [h]; rfl))]
    split <;> rfl
section
variable (A : Option Addr) (c : Nat) (l : List Nat) (mode : Int) (w : World) (hr : Kd.C Kd.float w A l.length l) (hc : l.length ≤ c) (hn : l.length < 4611686018427387904) (hL : Laid w)
include hr hc hn hL
theorem exact_mode (hm : ¬ (1 ≤ mode ∧ mode ≤ 3))
    : Calls Tryz.prog 22 #[.slice A l.length c, .int .i64 mode] w (RetF (0, 1) w) := by
  have HR := asd hr
  have HC := asd hc
  have HL := asd hL
  have HN := asd hn
  have RV := asd (round_no hm)
  clear hr hc hn hL hm
  go_enter Tryz.func22, Tryz.ntmps22
  go_wp2_with (first
    | (go_at_call 49; refine (round_Valid.calls mode 1 _ RV.out).mono ?_; rintro e w1 ⟨rfl, d⟩; have HB := asd d.below; clear d))
  go_ret2
  exact ⟨rfl, HB.out⟩
theorem exact_fault (hm : 1 ≤ mode ∧ mode ≤ 3) (q : Int) (hq : faultL l = q) (hq0 : q ≠ 0)
    : Calls Tryz.prog 22 #[.slice A l.length c, .int .i64 mode] w (RetF (0, q) w) := by
  have HR := asd hr
  have HC := asd hc
  have HL := asd hL
  have HN := asd hn
  have RV := asd (round_yes hm)
  have HF := asd hq
  have hq1 : (q != 0) = true := by simpa using hq0
  clear hr hc hn hL hm hq hq0
  go_enter Tryz.func22, Tryz.ntmps22
  go_wp2_with (first
    | (go_at_call 49; refine (round_Valid.calls mode 0 _ RV.out).mono ?_; rintro e w1 ⟨rfl, d⟩; have HB := asd d.below; clear d)
    | (go_at_call 50; refine (fault_one _ A c l q _ (by exact blk_cell (blk_new _ _) 0) (Kd.C_below HR.out (by exact HB.out.alloc HB.out.size _)) HC.out HN.out HF.out).mono ?_; rintro e w2 ⟨rfl, d⟩; have HB2 := asd (below_post d (HB.out.alloc HB.out.size _)); clear d))
  go_ret2
  exact ⟨rfl, HB2.out⟩
theorem exact_empty (hm : 1 ≤ mode ∧ mode ≤ 3) (hq : faultL l = 0) (k : Nat) (n : Bool) (m : List Int) (ex : Int) (tt : sums_total.f k l = some (n, m, ex)) (tn : IsN n m ex) (hz : m.length = 0) (hl : l.length = 0)
    : Calls Tryz.prog 22 #[.slice A l.length c, .int .i64 mode] w (RetF (0, 0) w) := by
  have HR := asd hr
  have HC := asd hc
  have HL := asd hL
  have HN := asd hn
  have RV := asd (round_yes hm)
  have HF := asd hq
  have TT := asd tt
  obtain ⟨SG, hSG⟩ : ∃ s, (0 : Int) = s := ⟨_, rfl⟩
  have SGN := asd (show dyad_Sign.f 1 n m ex = some SG by rw [← hSG, sign_law tn, if_pos hz])
  have hs0 : (SG != 0) = false := by rw [← hSG]; rfl
  have c1 : decide ((l.length : Int) > 0) = false := decide_eq_false (by omega)
  have c2 : decide (0 < l.length) = false := decide_eq_false (by omega)
  clear hr hc hn hL hm hq tt tn hz hSG hl
  go_enter Tryz.func22, Tryz.ntmps22
  go_wp2_with (first
    | (go_at_call 49; refine (round_Valid.calls mode 0 _ RV.out).mono ?_; rintro e w1 ⟨rfl, d⟩; have HB := asd d.below; clear d)
    | (go_at_call 50; refine (fault_one _ A c l 0 _ (by exact blk_cell (blk_new _ _) 0) (Kd.C_below HR.out (by exact HB.out.alloc HB.out.size _)) HC.out HN.out HF.out).mono ?_; rintro e w2 ⟨rfl, d⟩; have HB2 := asd (below_post d (HB.out.alloc HB.out.size _)); clear d)
    | (go_at_call 45; refine (sums_total.calls k A c l n m ex _ (Kd.C_below HR.out HB2.out) HC.out TT.out (HL.out.step HB2.out)).mono ?_; rintro e w3 ⟨v3, rfl, r3, d⟩; obtain ⟨Au, cu, hu⟩ := Kd.R_slice r3; subst hu; have HB3 := asd (below_post d HB2.out); have R3 := asd r3; clear d r3; have N4 := asd (show NumB (w3.alloc (Obj.cells #[Value.bool n, Value.slice Au m.length cu, Value.int IntKind.i64 ex] 60 (0, 0))) w3.heap.size n (.slice Au m.length cu) ex from blk_new _ _); have HB4 := asd (HB3.out.alloc HB3.out.size (Obj.cells #[Value.bool n, Value.slice Au m.length cu, Value.int IntKind.i64 ex] 60 (0, 0))); have C4 := asd (Kd.C_below (Kd.R_reads' R3.out).2.2 ((Below.refl w3.heap.size w3).alloc (Nat.le_refl _) (Obj.cells #[Value.bool n, Value.slice Au m.length cu, Value.int IntKind.i64 ex] 60 (0, 0)))); have CAP := asd (Kd.R_reads' R3.out).2.1)
    | (go_at_call 51; refine (dyad_Sign.calls 1 n Au cu m ex SG _ C4.out CAP.out SGN.out).mono ?_; rintro e5 w5 ⟨rfl, d⟩; have HB5 := asd (below_post d HB4.out); have N5 := asd (N4.out.below d); have q0 := N5.out.c0; have q1 := N5.out.c1; have q2 := N5.out.c2; have bb5 := asd d; clear d))
  go_ret2
  exact ⟨rfl, HB5.out⟩
theorem exact_zero (hm : 1 ≤ mode ∧ mode ≤ 3) (hq : faultL l = 0) (k : Nat) (n : Bool) (m : List Int) (ex : Int) (tt : sums_total.f k l = some (n, m, ex)) (tn : IsN n m ex) (hz : m.length = 0) (hl : 0 < l.length) (hu : l.any oneB = true)
    : Calls Tryz.prog 22 #[.slice A l.length c, .int .i64 mode] w (RetF (0, 0) w) := by
  have HR := asd hr
  have HC := asd hc
  have HL := asd hL
  have HN := asd hn
  have RV := asd (round_yes hm)
  have HF := asd hq
  have TT := asd tt
  obtain ⟨SG, hSG⟩ : ∃ s, (0 : Int) = s := ⟨_, rfl⟩
  have SGN := asd (show dyad_Sign.f 1 n m ex = some SG by rw [← hSG, sign_law tn, if_pos hz])
  have hs0 : (SG != 0) = false := by rw [← hSG]; rfl
  have c1 : decide ((l.length : Int) > 0) = true := by simp; omega
  have c2 : decide (0 < l.length) = true := by simp; omega
  have HU := asd hu
  clear hr hc hn hL hm hq tt tn hz hSG hl hu
  go_enter Tryz.func22, Tryz.ntmps22
  go_wp2_with (first
    | (go_at_call 49; refine (round_Valid.calls mode 0 _ RV.out).mono ?_; rintro e w1 ⟨rfl, d⟩; have HB := asd d.below; clear d)
    | (go_at_call 50; refine (fault_one _ A c l 0 _ (by exact blk_cell (blk_new _ _) 0) (Kd.C_below HR.out (by exact HB.out.alloc HB.out.size _)) HC.out HN.out HF.out).mono ?_; rintro e w2 ⟨rfl, d⟩; have HB2 := asd (below_post d (HB.out.alloc HB.out.size _)); clear d)
    | (go_at_call 45; refine (sums_total.calls k A c l n m ex _ (Kd.C_below HR.out HB2.out) HC.out TT.out (HL.out.step HB2.out)).mono ?_; rintro e w3 ⟨v3, rfl, r3, d⟩; obtain ⟨Au, cu, hu⟩ := Kd.R_slice r3; subst hu; have HB3 := asd (below_post d HB2.out); have R3 := asd r3; clear d r3; have N4 := asd (show NumB (w3.alloc (Obj.cells #[Value.bool n, Value.slice Au m.length cu, Value.int IntKind.i64 ex] 60 (0, 0))) w3.heap.size n (.slice Au m.length cu) ex from blk_new _ _); have HB4 := asd (HB3.out.alloc HB3.out.size (Obj.cells #[Value.bool n, Value.slice Au m.length cu, Value.int IntKind.i64 ex] 60 (0, 0))); have C4 := asd (Kd.C_below (Kd.R_reads' R3.out).2.2 ((Below.refl w3.heap.size w3).alloc (Nat.le_refl _) (Obj.cells #[Value.bool n, Value.slice Au m.length cu, Value.int IntKind.i64 ex] 60 (0, 0)))); have CAP := asd (Kd.R_reads' R3.out).2.1)
    | (go_at_call 51; refine (dyad_Sign.calls 1 n Au cu m ex SG _ C4.out CAP.out SGN.out).mono ?_; rintro e5 w5 ⟨rfl, d⟩; have HB5 := asd (below_post d HB4.out); have N5 := asd (N4.out.below d); have q0 := N5.out.c0; have q1 := N5.out.c1; have q2 := N5.out.c2; have bb5 := asd d; clear d)
    | (go_at_call 52; refine (contains_one A c l _ (Kd.C_below HR.out HB5.out) HC.out HN.out).mono ?_; rw [HU.out]; rintro e6 w6 ⟨rfl, d⟩; have HB6 := asd (below_post d HB5.out); clear d))
  go_ret2
  exact ⟨rfl, HB6.out⟩
theorem exact_nought (hm : 1 ≤ mode ∧ mode ≤ 3) (hq : faultL l = 0) (k : Nat) (n : Bool) (m : List Int) (ex : Int) (tt : sums_total.f k l = some (n, m, ex)) (tn : IsN n m ex) (hz : m.length = 0) (hl : 0 < l.length) (hu : l.any oneB = false)
    : Calls Tryz.prog 22 #[.slice A l.length c, .int .i64 mode] w (RetF (9223372036854775808, 0) w) := by
  have HR := asd hr
  have HC := asd hc
  have HL := asd hL
  have HN := asd hn
  have RV := asd (round_yes hm)
  have HF := asd hq
  have TT := asd tt
  obtain ⟨SG, hSG⟩ : ∃ s, (0 : Int) = s := ⟨_, rfl⟩
  have SGN := asd (show dyad_Sign.f 1 n m ex = some SG by rw [← hSG, sign_law tn, if_pos hz])
  have hs0 : (SG != 0) = false := by rw [← hSG]; rfl
  have c1 : decide ((l.length : Int) > 0) = true := by simp; omega
  have c2 : decide (0 < l.length) = true := by simp; omega
  have HU := asd hu
  clear hr hc hn hL hm hq tt tn hz hSG hl hu
  go_enter Tryz.func22, Tryz.ntmps22
  go_wp2_with (first
    | (go_at_call 49; refine (round_Valid.calls mode 0 _ RV.out).mono ?_; rintro e w1 ⟨rfl, d⟩; have HB := asd d.below; clear d)
    | (go_at_call 50; refine (fault_one _ A c l 0 _ (by exact blk_cell (blk_new _ _) 0) (Kd.C_below HR.out (by exact HB.out.alloc HB.out.size _)) HC.out HN.out HF.out).mono ?_; rintro e w2 ⟨rfl, d⟩; have HB2 := asd (below_post d (HB.out.alloc HB.out.size _)); clear d)
    | (go_at_call 45; refine (sums_total.calls k A c l n m ex _ (Kd.C_below HR.out HB2.out) HC.out TT.out (HL.out.step HB2.out)).mono ?_; rintro e w3 ⟨v3, rfl, r3, d⟩; obtain ⟨Au, cu, hu⟩ := Kd.R_slice r3; subst hu; have HB3 := asd (below_post d HB2.out); have R3 := asd r3; clear d r3; have N4 := asd (show NumB (w3.alloc (Obj.cells #[Value.bool n, Value.slice Au m.length cu, Value.int IntKind.i64 ex] 60 (0, 0))) w3.heap.size n (.slice Au m.length cu) ex from blk_new _ _); have HB4 := asd (HB3.out.alloc HB3.out.size (Obj.cells #[Value.bool n, Value.slice Au m.length cu, Value.int IntKind.i64 ex] 60 (0, 0))); have C4 := asd (Kd.C_below (Kd.R_reads' R3.out).2.2 ((Below.refl w3.heap.size w3).alloc (Nat.le_refl _) (Obj.cells #[Value.bool n, Value.slice Au m.length cu, Value.int IntKind.i64 ex] 60 (0, 0)))); have CAP := asd (Kd.R_reads' R3.out).2.1)
    | (go_at_call 51; refine (dyad_Sign.calls 1 n Au cu m ex SG _ C4.out CAP.out SGN.out).mono ?_; rintro e5 w5 ⟨rfl, d⟩; have HB5 := asd (below_post d HB4.out); have N5 := asd (N4.out.below d); have q0 := N5.out.c0; have q1 := N5.out.c1; have q2 := N5.out.c2; have bb5 := asd d; clear d)
    | (go_at_call 52; refine (contains_one A c l _ (Kd.C_below HR.out HB5.out) HC.out HN.out).mono ?_; rw [HU.out]; rintro e6 w6 ⟨rfl, d⟩; have HB6 := asd (below_post d HB5.out); clear d)
    | (go_at_call 55; refine (math_Copysign.calls 0 13830554455654793216 9223372036854775808 _ (by decide)).mono ?_; rintro e7 w7 ⟨rfl, d⟩; have HB7 := asd (below_post d.below HB6.out); clear d))
  go_ret2
  exact ⟨rfl, HB7.out⟩
theorem exact_round (hm : 1 ≤ mode ∧ mode ≤ 3) (hq : faultL l = 0) (k : Nat) (n : Bool) (m : List Int) (ex : Int) (tt : sums_total.f k l = some (n, m, ex)) (tn : IsN n m ex) (hz : ¬ m.length = 0) (r1 : Nat) (r2 : Int) (hrv : roundN n m ex mode = (r1, r2))
    : Calls Tryz.prog 22 #[.slice A l.length c, .int .i64 mode] w (RetF (r1, r2) w) := by
  have HR := asd hr
  have HC := asd hc
  have HL := asd hL
  have HN := asd hn
  have RV := asd (round_yes hm)
  have HF := asd hq
  have TT := asd tt
  obtain ⟨SG, hSG⟩ : ∃ s, (if n = true then (-1 : Int) else 1) = s := ⟨_, rfl⟩
  have SGN := asd (show dyad_Sign.f 1 n m ex = some SG by rw [← hSG, sign_law tn, if_neg hz])
  have hs0 : (SG != 0) = true := by rw [← hSG]; split <;> rfl
  have RVV := asd (show dyad_Round.f n m ex mode = some (r1, r2) by unfold dyad_Round.f; rw [if_pos tn, hrv])
  clear hr hc hn hL hm hq tt tn hz hSG hrv
  go_enter Tryz.func22, Tryz.ntmps22
  go_wp2_with (first
    | (go_at_call 49; refine (round_Valid.calls mode 0 _ RV.out).mono ?_; rintro e w1 ⟨rfl, d⟩; have HB := asd d.below; clear d)
    | (go_at_call 50; refine (fault_one _ A c l 0 _ (by exact blk_cell (blk_new _ _) 0) (Kd.C_below HR.out (by exact HB.out.alloc HB.out.size _)) HC.out HN.out HF.out).mono ?_; rintro e w2 ⟨rfl, d⟩; have HB2 := asd (below_post d (HB.out.alloc HB.out.size _)); clear d)
    | (go_at_call 45; refine (sums_total.calls k A c l n m ex _ (Kd.C_below HR.out HB2.out) HC.out TT.out (HL.out.step HB2.out)).mono ?_; rintro e w3 ⟨v3, rfl, r3, d⟩; obtain ⟨Au, cu, hu⟩ := Kd.R_slice r3; subst hu; have HB3 := asd (below_post d HB2.out); have R3 := asd r3; clear d r3; have N4 := asd (show NumB (w3.alloc (Obj.cells #[Value.bool n, Value.slice Au m.length cu, Value.int IntKind.i64 ex] 60 (0, 0))) w3.heap.size n (.slice Au m.length cu) ex from blk_new _ _); have HB4 := asd (HB3.out.alloc HB3.out.size (Obj.cells #[Value.bool n, Value.slice Au m.length cu, Value.int IntKind.i64 ex] 60 (0, 0))); have C4 := asd (Kd.C_below (Kd.R_reads' R3.out).2.2 ((Below.refl w3.heap.size w3).alloc (Nat.le_refl _) (Obj.cells #[Value.bool n, Value.slice Au m.length cu, Value.int IntKind.i64 ex] 60 (0, 0)))); have CAP := asd (Kd.R_reads' R3.out).2.1)
    | (go_at_call 51; refine (dyad_Sign.calls 1 n Au cu m ex SG _ C4.out CAP.out SGN.out).mono ?_; rintro e5 w5 ⟨rfl, d⟩; have HB5 := asd (below_post d HB4.out); have N5 := asd (N4.out.below d); have q0 := N5.out.c0; have q1 := N5.out.c1; have q2 := N5.out.c2; have bb5 := asd d; clear d)
    | (go_at_call 47; refine (dyad_Round.calls n Au cu m ex mode r1 r2 _ (Kd.C_below C4.out bb5.out) CAP.out RVV.out).mono ?_; rintro e6 w6 ⟨rfl, d⟩; have HB6 := asd (below_post d HB5.out); clear d))
  go_ret2
  exact ⟨rfl, HB6.out⟩
theorem exact_any (T : Bool × List Int × Int) (k : Nat) (hT : faultL l = 0 → sums_total.f k l = some T ∧ IsN T.1 T.2.1 T.2.2) :
    Calls Tryz.prog 22 #[.slice A l.length c, .int .i64 mode] w (RetF (exactW l mode T) w) := by
  unfold exactW
  by_cases hm : 1 ≤ mode ∧ mode ≤ 3
  · rw [if_pos hm]
    by_cases hf : faultL l = 0
    · rw [if_pos hf]
      obtain ⟨tt, tn⟩ := hT hf
      obtain ⟨n, m, ex⟩ := T
      by_cases hz : m.length = 0
      · rw [if_pos hz]
        by_cases hl : 0 < l.length
        · rcases hu : l.any oneB with _ | _
          · rw [if_pos ⟨hl, rfl⟩]; exact exact_nought A c l mode w hr hc hn hL hm hf k n m ex tt tn hz hl hu
          · rw [if_neg (by simp)]; exact exact_zero A c l mode w hr hc hn hL hm hf k n m ex tt tn hz hl hu
        · rw [if_neg (fun h => hl h.1)]; exact exact_empty A c l mode w hr hc hn hL hm hf k n m ex tt tn hz (by omega)
      · rw [if_neg hz]
        rcases hrv : roundN n m ex mode with ⟨r1, r2⟩
        exact exact_round A c l mode w hr hc hn hL hm hf k n m ex tt tn hz r1 r2 hrv
    · rw [if_neg hf]; exact exact_fault A c l mode w hr hc hn hL hm _ rfl hf
  · rw [if_neg hm]; exact exact_mode A c l mode w hr hc hn hL hm
end
end Go.Proofs.YthmeocigliephaaGreatDoor.Big
end
section
namespace Go.Proofs.YthmeocigliephaaGreatDoor.Big
open Go.Proofs.YthmeocigliephaaGreatDoor.PNa Go.Proofs.YthmeocigliephaaGreatDoor.Plain
def canN (z e : Int) : Bool × List Int × Int :=
  if z = 0 then (false, [], 0) else (decide (z < 0), dig (z.natAbs / 2 ^ tz z.natAbs), e + tz z.natAbs)
theorem canN_zero (e : Int) : canN 0 e = (false, [], 0) := if_pos rfl
theorem canN_ne {z : Int} (h : z ≠ 0) (e : Int) : canN z e = (decide (z < 0), dig (z.natAbs / 2 ^ tz z.natAbs), e + tz z.natAbs) := if_neg h
def odd (n : Nat) : Nat := n / 2 ^ tz n
theorem odd_mul {n : Nat} (h : n ≠ 0) : odd n * 2 ^ tz n = n := by
  obtain ⟨m, hm⟩ := tz_spec h
  unfold odd
  exact Nat.div_mul_cancel ⟨2 * m + 1, hm⟩
theorem odd_ne {n : Nat} (h : n ≠ 0) : odd n ≠ 0 := by
  intro h0; have := odd_mul h; rw [h0] at this; omega
theorem odd_odd {n : Nat} (h : n ≠ 0) : odd n % 2 = 1 := by
  obtain ⟨m, hm⟩ := tz_spec h
  have h2 := odd_mul h
  have hp : 0 < 2 ^ tz n := Nat.pow_pos (by omega)
  have e1 : odd n * 2 ^ tz n = (2 * m + 1) * 2 ^ tz n := by rw [h2, Nat.mul_comm (2 * m + 1)]; exact hm
  have := Nat.mul_right_cancel hp e1
  omega
theorem tz_shift {n : Nat} (h : n ≠ 0) (j : Nat) : tz (n * 2 ^ j) = tz n + j := by
  obtain ⟨m, hm⟩ := tz_spec h
  have : n * 2 ^ j = 2 ^ (tz n + j) * (2 * m + 1) := by
    rw [Nat.pow_add]
    calc n * 2 ^ j = (2 ^ tz n * (2 * m + 1)) * 2 ^ j := by rw [← hm]
      _ = _ := by rw [Nat.mul_assoc, Nat.mul_comm (2 * m + 1), ← Nat.mul_assoc]
  rw [this, tz_unique]
theorem odd_shift {n : Nat} (h : n ≠ 0) (j : Nat) : odd (n * 2 ^ j) = odd n := by
  have hp : 0 < 2 ^ tz (n * 2 ^ j) := Nat.pow_pos (by omega)
  have hn : n * 2 ^ j ≠ 0 := Nat.mul_ne_zero h (by have := Nat.pow_pos (n := j) (show 0 < 2 by omega); omega)
  apply Nat.mul_right_cancel hp
  rw [odd_mul hn, tz_shift h, Nat.pow_add, ← Nat.mul_assoc, odd_mul h]
theorem natAbs_shift (z : Int) (j : Nat) : (z * 2 ^ j).natAbs = z.natAbs * 2 ^ j := by rw [Int.natAbs_mul, Int.natAbs_pow]; rfl
theorem shift_ne {z : Int} (h : z ≠ 0) (j : Nat) : z * 2 ^ j ≠ 0 := Int.mul_ne_zero h (by have := Int.pow_pos (n := 2) (m := j) (by omega); omega)
theorem shift_lt (z : Int) (j : Nat) : decide (z * 2 ^ j < 0) = decide (z < 0) := by
  have hp : (0 : Int) < 2 ^ j := Int.pow_pos (by omega)
  by_cases h : z < 0
  · rw [decide_eq_true h, decide_eq_true (Int.mul_neg_of_neg_of_pos h hp)]
  · rw [decide_eq_false h, decide_eq_false (by have := Int.mul_nonneg (show 0 ≤ z by omega) (Int.le_of_lt hp); omega)]
theorem canN_shift (z e : Int) (j : Nat) : canN (z * 2 ^ j) e = canN z (e + j) := by
  by_cases h : z = 0
  · subst h; rw [Int.zero_mul, canN_zero, canN_zero]
  · have hn : z.natAbs ≠ 0 := by omega
    rw [canN_ne (shift_ne h j), canN_ne h, shift_lt, natAbs_shift]
    have h1 := odd_shift hn j
    unfold odd at h1
    rw [h1, tz_shift hn]
    congr 2; omega
theorem mkN_can {z e : Int} (h1 : bl z.natAbs ≤ 65536) (h2 : -65536 ≤ e) (h3 : e + (bl z.natAbs : Int) ≤ 65536) :
    mkN z e = ((canN z e).1, (canN z e).2.1, (canN z e).2.2, 0) := by
  unfold mkN
  by_cases h : z = 0
  · subst h; rfl
  · have hn : z.natAbs ≠ 0 := by omega
    have h4 := bl_mul_pow (odd_ne hn) (tz z.natAbs)
    rw [odd_mul hn] at h4
    unfold odd at h4
    rw [if_neg h, if_pos ⟨by omega, by omega, by omega⟩, canN_ne h]
theorem rd_last (l : List Int) (h : l ≠ []) : rd l ((l.length : Int) - 1) = l.getD (l.length - 1) 0 := by
  have := List.length_pos_iff.2 h
  rw [show ((l.length : Int) - 1) = ((l.length - 1 : Nat) : Int) by omega, rd_nat]
theorem bits_and1_u32 (d : Nat) (h : d < 4294967296) : bits .and .u32 (d : Int) 1 = ((d % 2 : Nat) : Int) := by
  have h1 : (BitVec.ofInt 32 (d : Int)).toNat = d := by
    rw [BitVec.ofInt_natCast, BitVec.toNat_ofNat]; exact Nat.mod_eq_of_lt (by omega)
  show IntKind.u32.wrap ((BitVec.ofInt 32 (d : Int) &&& BitVec.ofInt 32 (1 : Int)).toNat : Int) = _
  rw [BitVec.toNat_and, h1, show (BitVec.ofInt 32 1).toNat = 1 from rfl, Nat.and_one_is_mod, IntKind.wrap_u32]
  omega
theorem valid_dig {n : Nat} (h0 : n % 2 = 1) (hb : bl n ≤ 65536) (neg : Bool) {e : Int} (h2 : -65536 ≤ e) (h3 : e ≤ 65536) : IsN neg (dig n) e := by
  refine ⟨?_, dg_dig n⟩
  have hn : n ≠ 0 := by omega
  have hne := dig_ne hn
  have hl : (dig n).length ≤ 2048 := dig_length_le (Nat.lt_of_lt_of_le (bl_le.1 hb) (by exact Nat.pow_le_pow_right (by omega) (by omega)))
  have hl0 := List.length_pos_iff.2 hne
  have hlast : (dig n).getD ((dig n).length - 1) 0 ≠ 0 := by
    rcases (nrm_iff (dg_dig n)).1 (nrm_dig n) with h | h
    · exact absurd h hne
    · exact h
  have hlow : rd (dig n) 0 = ((n % 4294967296 : Nat) : Int) := by
    rw [show (0 : Int) = ((0 : Nat) : Int) from rfl, rd_nat, dig_pos hn]; rfl
  unfold dyad_Valid.f
  rw [if_neg (by omega), if_pos (by omega), w64_of (by omega) (by omega), if_pos (by omega), if_pos (by omega), rd_last _ hne, if_neg hlast, if_pos (by omega), hlow, bits_and1_u32 _ (by omega), if_pos (by omega), if_pos (by omega)]
  congr 1
  exact decide_eq_true h3
theorem isN_can {z e : Int} (h1 : bl z.natAbs ≤ 65536) (h2 : -65536 ≤ e) (h3 : e + (bl z.natAbs : Int) ≤ 65536) : IsN (canN z e).1 (canN z e).2.1 (canN z e).2.2 := by
  by_cases h : z = 0
  · subst h; rw [canN_zero]; exact ⟨rfl, Dg.nil⟩
  · have hn : z.natAbs ≠ 0 := by omega
    have h4 := bl_mul_pow (odd_ne hn) (tz z.natAbs)
    rw [odd_mul hn] at h4
    have h5 := odd_odd hn
    rw [canN_ne h]
    exact valid_dig h5 (by show bl (odd z.natAbs) ≤ 65536; omega) _ (by show -65536 ≤ e + (tz z.natAbs : Int); omega) (by show e + (tz z.natAbs : Int) ≤ 65536; omega)
theorem zv_can {z : Int} (h : z ≠ 0) (e : Int) : zv (canN z e).1 (canN z e).2.1 * 2 ^ tz z.natAbs = z ∧ val (canN z e).2.1 = odd z.natAbs ∧ (canN z e).2.2 = e + tz z.natAbs := by
  have hn : z.natAbs ≠ 0 := by omega
  rw [canN_ne h]
  refine ⟨?_, by show val (dig _) = _; rw [val_dig]; rfl, rfl⟩
  show zv (decide (z < 0)) (dig (odd z.natAbs)) * 2 ^ tz z.natAbs = z
  have h1 := odd_mul hn
  have e1 : ((odd z.natAbs : Nat) : Int) * 2 ^ tz z.natAbs = (z.natAbs : Int) := by
    have h := congrArg (fun n : Nat => (n : Int)) h1
    simp only [Int.natCast_mul, Int.natCast_pow] at h
    exact h
  unfold zv
  rw [val_dig]
  by_cases hz : z < 0
  · rw [decide_eq_true hz, if_pos rfl, Int.neg_mul, e1]; omega
  · rw [decide_eq_false hz, if_neg (by simp), e1]; omega
theorem mkN_shift (z e : Int) (j : Nat) : mkN (z * 2 ^ j) e = mkN z (e + j) := by
  by_cases h : z = 0
  · subst h; rw [Int.zero_mul]; rfl
  · have hn : z.natAbs ≠ 0 := by omega
    have h1 := odd_shift hn j
    unfold odd at h1
    unfold mkN
    rw [if_neg h, if_neg (shift_ne h j), natAbs_shift, h1, tz_shift hn, shift_lt]
    have hc : (bl (z.natAbs / 2 ^ tz z.natAbs) ≤ 65536 ∧ e ≤ 65536 - ((tz z.natAbs + j : Nat) : Int) ∧ -65536 - ((tz z.natAbs + j : Nat) : Int) ≤ e) ↔ (bl (z.natAbs / 2 ^ tz z.natAbs) ≤ 65536 ∧ e + (j : Int) ≤ 65536 - ((tz z.natAbs : Nat) : Int) ∧ -65536 - ((tz z.natAbs : Nat) : Int) ≤ e + (j : Int)) := by
      constructor
      · rintro ⟨a, b, c⟩; exact ⟨a, by omega, by omega⟩
      · rintro ⟨a, b, c⟩; exact ⟨a, by omega, by omega⟩
    simp only [hc]
    congr 1
    congr 2
    congr 1
    omega
theorem bl_can {z : Int} (h : z ≠ 0) (e : Int) : (bl (val (canN z e).2.1) : Int) + (canN z e).2.2 = bl z.natAbs + e := by
  have hn : z.natAbs ≠ 0 := by omega
  obtain ⟨_, h2, h3⟩ := zv_can h e
  have h4 := bl_mul_pow (odd_ne hn) (tz z.natAbs)
  rw [odd_mul hn] at h4
  rw [h2, h3, h4]; omega
theorem val_can_zero {z : Int} (e : Int) : val (canN z e).2.1 = 0 ↔ z = 0 := by
  constructor
  · intro h
    by_cases hz : z = 0
    · exact hz
    · have hn : z.natAbs ≠ 0 := by omega
      have := (zv_can hz e).2.1
      exact absurd (this.symm.trans h) (odd_ne hn)
  · rintro rfl; rw [canN_zero]; rfl
theorem can_nil {z : Int} (e : Int) : (canN z e).2.1 = [] ↔ z = 0 := by
  constructor
  · intro h; exact (val_can_zero e).1 (by rw [h]; rfl)
  · rintro rfl; rw [canN_zero]
theorem addV_can {x y e : Int} (hx : bl x.natAbs ≤ 60000) (hy : bl y.natAbs ≤ 60000) (he : -65000 ≤ e) (he1 : e ≤ 4000) :
    addV (canN x e).1 (canN x e).2.1 (canN x e).2.2 (canN y e).1 (canN y e).2.1 (canN y e).2.2 = mkN (x + y) e := by
  have hfar : farV (canN x e).2.1 (canN x e).2.2 (canN y e).2.1 (canN y e).2.2 = false := by
    unfold farV
    by_cases hx0 : x = 0
    · subst hx0; rw [canN_zero]; rfl
    · by_cases hy0 : y = 0
      · subst hy0; rw [canN_zero]; simp
      · have b1 := bl_can hx0 e
        have b2 := bl_can hy0 e
        have c1 := (zv_can hx0 e).2.2
        have c2 := (zv_can hy0 e).2.2
        rw [b1, b2]
        have : ¬ (mx ((bl x.natAbs : Int) + e) ((bl y.natAbs : Int) + e) - mn (canN x e).2.2 (canN y e).2.2 > 65538) := by
          rw [c1, c2]; unfold mx mn; split <;> split <;> omega
        rw [decide_eq_false this, Bool.and_false]
  unfold addV
  rw [hfar, if_neg (by simp)]
  unfold lvl
  by_cases hx0 : x = 0
  · rw [if_pos ((val_can_zero e).2 hx0)]
    by_cases hy0 : y = 0
    · rw [if_pos ((val_can_zero e).2 hy0)]; subst hx0; subst hy0; rfl
    · rw [if_neg (fun h => hy0 ((val_can_zero e).1 h))]
      obtain ⟨h1, h2, h3⟩ := zv_can hy0 e
      simp only
      rw [h3, ← mkN_shift, Int.zero_add, h1, hx0, Int.zero_add]
  · rw [if_neg (fun h => hx0 ((val_can_zero e).1 h))]
    obtain ⟨h1, h2, h3⟩ := zv_can hx0 e
    by_cases hy0 : y = 0
    · rw [if_pos ((val_can_zero e).2 hy0)]
      simp only
      rw [h3, ← mkN_shift, Int.add_zero, h1, hy0, Int.add_zero]
    · rw [if_neg (fun h => hy0 ((val_can_zero e).1 h))]
      obtain ⟨k1, k2, k3⟩ := zv_can hy0 e
      simp only
      have hm : ∃ j : Nat, mn (canN x e).2.2 (canN y e).2.2 = e + j ∧ ((canN x e).2.2 - mn (canN x e).2.2 (canN y e).2.2).toNat + j = tz x.natAbs ∧ ((canN y e).2.2 - mn (canN x e).2.2 (canN y e).2.2).toNat + j = tz y.natAbs := by
        rw [h3, k3]
        unfold mn
        split
        · exact ⟨tz y.natAbs, by omega, by omega, by omega⟩
        · exact ⟨tz x.natAbs, by omega, by omega, by omega⟩
      obtain ⟨j, j1, j2, j3⟩ := hm
      have hs : (zv (canN x e).1 (canN x e).2.1 * 2 ^ ((canN x e).2.2 - mn (canN x e).2.2 (canN y e).2.2).toNat + zv (canN y e).1 (canN y e).2.1 * 2 ^ ((canN y e).2.2 - mn (canN x e).2.2 (canN y e).2.2).toNat) * 2 ^ j = x + y := by
        rw [Int.add_mul, Int.mul_assoc, Int.mul_assoc, ← Int.pow_add, ← Int.pow_add, j2, j3, h1, k1]
      rw [j1] at hs ⊢
      rw [← mkN_shift, hs]
end Go.Proofs.YthmeocigliephaaGreatDoor.Big
end
section
namespace Go.Proofs.YthmeocigliephaaGreatDoor.Big
open Go.Proofs.YthmeocigliephaaGreatDoor.PSu Go.Proofs.YthmeocigliephaaGreatDoor.Plain Ieee
def flz (b : Nat) : Int := floV b * 2 ^ (expoV b + 1074).toNat
def sumZ : List Nat → Int
  | [] => 0
  | b :: l => flz b + sumZ l
theorem sumZ_append (l r : List Nat) : sumZ (l ++ r) = sumZ l + sumZ r := by
  induction l with
  | nil => simp [sumZ]
  | cons b l ih => rw [List.cons_append, sumZ, sumZ, ih]; omega
theorem expoV_range {b : Nat} (h : Fin64 b) : -1074 ≤ expoV b ∧ expoV b ≤ 971 := by
  have := expo_le h
  unfold expoV; split <;> omega
theorem can_flo {b : Nat} (h : Fin64 b) : canN (floV b) (expoV b) = canN (flz b) (-1074) := by
  have := expoV_range h
  unfold flz
  rw [canN_shift]; congr 1; omega
theorem flo_bl {b : Nat} : bl (floV b).natAbs ≤ 53 := by rw [floV_natAbs]; exact bl_le.2 (manti_lt b)
theorem flz_lt {b : Nat} (h : Fin64 b) : (flz b).natAbs < 2 ^ 2098 := by
  have := expoV_range h
  unfold flz
  rw [natAbs_shift, floV_natAbs]
  have h1 : manti b < 2 ^ 53 := manti_lt b
  have h2 : 2 ^ (expoV b + 1074).toNat ≤ 2 ^ 2045 := Nat.pow_le_pow_right (by omega) (by omega)
  calc manti b * 2 ^ (expoV b + 1074).toNat ≤ manti b * 2 ^ 2045 := Nat.mul_le_mul_left _ h2
    _ < 2 ^ 53 * 2 ^ 2045 := Nat.mul_lt_mul_of_pos_right h1 (Nat.pow_pos (by omega))
    _ = 2 ^ 2098 := by rw [← Nat.pow_add]
theorem sumZ_lt (l : List Nat) (h : ∀ b ∈ l, Fin64 b) : (sumZ l).natAbs ≤ l.length * 2 ^ 2098 := by
  induction l with
  | nil => simp [sumZ]
  | cons b l ih =>
    have h1 := flz_lt (h b List.mem_cons_self)
    have h2 := ih (fun b hb => h b (List.mem_cons_of_mem _ hb))
    have h3 := Int.natAbs_add_le (flz b) (sumZ l)
    rw [sumZ, List.length_cons, Nat.add_mul, Nat.one_mul]
    omega
theorem sumZ_bl (l : List Nat) (h : ∀ b ∈ l, Fin64 b) (hl : l.length ≤ 65536) : bl (sumZ l).natAbs ≤ 2115 := by
  refine bl_le.2 (Nat.lt_of_le_of_lt (sumZ_lt l h) ?_)
  calc l.length * 2 ^ 2098 ≤ 2 ^ 16 * 2 ^ 2098 := Nat.mul_le_mul_right _ (by omega)
    _ = 2 ^ 2114 := by rw [← Nat.pow_add]
    _ < 2 ^ 2115 := Nat.pow_lt_pow_right (by omega) (by omega)
theorem of_law {b : Nat} (h : Fin64 b) : dyad_Of.f b = some ((canN (flz b) (-1074)).1, (canN (flz b) (-1074)).2.1, (canN (flz b) (-1074)).2.2, 0) := by
  have := expoV_range h
  have hb := @flo_bl b
  unfold dyad_Of.f
  rw [if_pos h, mkN_can (by omega) (by omega) (by omega), can_flo h]
theorem num_law {b : Nat} (h : Fin64 b) : sums_num.f b = some (canN (flz b) (-1074)) := by
  unfold sums_num.f
  rw [of_law h]; rfl
theorem dadd_law {x y : Int} (hx : bl x.natAbs ≤ 50000) (hy : bl y.natAbs ≤ 50000) : dyad_Add.f (canN x (-1074)).1 (canN x (-1074)).2.1 (canN x (-1074)).2.2 (canN y (-1074)).1 (canN y (-1074)).2.1 (canN y (-1074)).2.2 = some ((canN (x + y) (-1074)).1, (canN (x + y) (-1074)).2.1, (canN (x + y) (-1074)).2.2, 0) := by
  have hs : bl (x + y).natAbs ≤ 50001 := by
    have := bl_add hx hy
    refine bl_le.2 (Nat.lt_of_le_of_lt (Int.natAbs_add_le x y) (bl_le.1 this))
  unfold dyad_Add.f
  rw [if_pos ⟨isN_can (by omega) (by omega) (by omega), isN_can (by omega) (by omega) (by omega)⟩, addV_can (by omega) (by omega) (by omega) (by omega), mkN_can (by omega) (by omega) (by omega)]
theorem rdOf_get (l : List Nat) (i : Nat) (h : i < l.length) : rdOf (0 : Nat) l (i : Int) = l[i] := by
  unfold rdOf
  rw [Int.toNat_natCast, List.getD_eq_getElem?_getD, List.getElem?_eq_getElem h]; rfl
theorem total_ev (l : List Nat) (hf : ∀ b ∈ l, Fin64 b) (hl : l.length ≤ 65536) : ∀ d i : Nat, i + d = l.length →
    sums_total.l0 (d + 1) l (l.length : Int) (i : Int) (canN (sumZ (l.take i)) (-1074)).1 (canN (sumZ (l.take i)) (-1074)).2.1 (canN (sumZ (l.take i)) (-1074)).2.2 = some (canN (sumZ l) (-1074)) := by
  intro d
  induction d with
  | zero =>
    intro i hi
    have : i = l.length := by omega
    subst this
    rw [sums_total.l0, if_neg (by omega), List.take_length]
  | succ d ih =>
    intro i hi
    have hil : i < l.length := by omega
    have hb := hf l[i] (List.getElem_mem hil)
    have ht : ∀ b ∈ l.take i, Fin64 b := fun b hb => hf b (List.mem_of_mem_take hb)
    have e1 : sumZ (l.take i) + flz l[i] = sumZ (l.take (i + 1)) := by
      rw [List.take_succ_eq_append_getElem hil, sumZ_append]; simp [sumZ]
    have b1 := sumZ_bl (l.take i) ht (by rw [List.length_take]; omega)
    have b2 : bl (flz l[i]).natAbs ≤ 2098 := bl_le.2 (flz_lt hb)
    rw [sums_total.l0, if_pos (by omega), if_pos (by omega), if_pos (by omega), rdOf_get l i hil, num_law hb, Option.bind_some, dadd_law (by omega) (by omega), Option.bind_some, e1, w64_succ (by omega)]
    exact ih (i + 1) (by omega)
theorem total_law (l : List Nat) (hf : ∀ b ∈ l, Fin64 b) (hl : l.length ≤ 65536) : sums_total.f (l.length + 1) l = some (canN (sumZ l) (-1074)) := by
  have h := total_ev l hf hl l.length 0 (by omega)
  unfold sums_total.f
  simpa [sumZ, canN_zero] using h
theorem fin_of {b : Nat} (h : b < 18446744073709551616) (h1 : nanB b = false) (h2 : infB? b = false) : Fin64 b := by
  refine ⟨h, ?_⟩
  rcases Nat.lt_trichotomy (b % 9223372036854775808) 9218868437227405312 with h3 | h3 | h3
  · exact h3
  · exfalso
    unfold infB? math_IsInf.f math_Abs.f at h2
    rw [if_pos rfl, Option.bind_some, bits_abs b h] at h2
    simp only [Int.toNat_natCast, Option.getD_some] at h2
    have : FloatKind.f64.format.order (b % 9223372036854775808) 9218868437227405311 = some .gt := by
      rw [h3]; decide
    rw [this] at h2
    cases h2
  · exfalso
    have : FloatKind.f64.format.order b b = none := by
      show double.order b b = none
      have hr : ∃ s f, double.read b = .nan s f := by
        unfold Format.read
        simp only [sw, bn, ir, lp]
        rw [if_neg (by omega), if_neg (by omega)]
        rw [if_neg (by omega)]
        exact ⟨_, _, rfl⟩
      obtain ⟨s, f, hr⟩ := hr
      unfold Format.order
      rw [hr]
      rfl
    unfold nanB at h1
    rw [this] at h1
    cases h1
theorem fault_zero {l : List Nat} (hw : ∀ b ∈ l, b < 18446744073709551616) (h : faultL l = 0) : l.length ≤ 65536 ∧ ∀ b ∈ l, Fin64 b := by
  unfold faultL at h
  split at h
  · cases h
  · split at h
    · cases h
    · split at h
      · cases h
      · rename_i h1 h2 h3
        refine ⟨by omega, fun b hb => fin_of (hw b hb) ?_ ?_⟩
        · cases hn : nanB b
          · rfl
          · exact absurd (List.any_eq_true.2 ⟨b, hb, hn⟩) h2
        · cases hn : infB? b
          · rfl
          · exact absurd (List.any_eq_true.2 ⟨b, hb, hn⟩) h3
theorem exact_list (A : Option Addr) (c : Nat) (l : List Nat) (mode : Int) (w : World) (hr : Kd.C Kd.float w A l.length l) (hc : l.length ≤ c) (hn : l.length < 4611686018427387904) (hw : ∀ b ∈ l, b < 18446744073709551616) (hL : Laid w) :
    Calls Tryz.prog 22 #[.slice A l.length c, .int .i64 mode] w (RetF (exactW l mode (canN (sumZ l) (-1074))) w) :=
  exact_any A c l mode w hr hc hn hL _ (l.length + 1) (fun h => by
    obtain ⟨h1, h2⟩ := fault_zero hw h
    have := sumZ_bl l h2 h1
    exact ⟨total_law l h2 h1, isN_can (by omega) (by omega) (by omega)⟩)
end Go.Proofs.YthmeocigliephaaGreatDoor.Big
end
section
namespace Go.Proofs.YthmeocigliephaaGreatDoor.PSu
attribute [local go_sem] f64bits_run f64from_run run_float_some max2_int min2_int max_two min_two max_three min_three max_four min_four
def cuspref02_Sgn.f (a0_0 : Bool) (l0_1 : List Int) (a0_2 : Int) : Option (Int) := if (l0_1.length : Int) = 0 then (some 0) else (if a0_0 = true then (some (-1)) else (some 1))
theorem cuspref02_Sgn.calls (a0_0 : Bool) (A0_1 : Option Addr) (c0_1 : Nat) (l0_1 : List Int) (a0_2 : Int) (r : Int) (w : World) (hr0_1 : Kd.C (Kd.int .u32) w A0_1 l0_1.length l0_1) (hc0_1 : l0_1.length ≤ c0_1) (h : cuspref02_Sgn.f a0_0 l0_1 a0_2 = some r) :
  Calls Tryz.prog 32 #[.agg #[.bool a0_0, .slice A0_1 l0_1.length c0_1, .int .i64 a0_2]] w fun e w' => e = .returned (.int .i64 r) ∧ Below w.heap.size w w' := by
 have hu41 := Tryz.underlying41
 have HR0_1 := asd hr0_1
 have HC0_1 := asd hc0_1
 clear hr0_1 hc0_1
 have HB := asd (Below.refl w.heap.size w)
 have H : (if (l0_1.length : Int) = 0 then (some 0) else (if a0_0 = true then (some (-1)) else (some 1))) = some r := h
 clear h
 by_cases c2 : (l0_1.length : Int) = 0
 ·rw [if_pos c2] at H
  have c2b0 : ((l0_1.length : Int) == 0) = true := beq_iff_eq.mpr c2
  have c2b1 : ((l0_1.length : Int) != 0) = false := bne_eq_false_iff_eq.mpr c2
  clear c2
  obtain rfl := Option.some.inj H
  go_enter Tryz.func32, Tryz.ntmps32
  go_wp2_with (first | ((with_reducible refine gate_dst (N := 1) rfl ?_); refine box_event ?hg (N := 1) ?hd (cs := #[.bool a0_0, .slice A0_1 l0_1.length c0_1, .int .i64 a0_2]) (t := 41) ?hr ?_; (case hd => rfl); (case hg => rfl); (case hr => first | (go_simp; done) | (go_simp; rfl)); intro gb254 hg w3 hbox hb; have n0_ := asd (below_step hbw hb); have n1_ := asd (hbox); have n2_ := asd ((by rw [hg]; exact (below_size hbw) : w.heap.size ≤ gb254)); have n3_ := asd ((by rw [hg]; exact (below_size hbw) : w.heap.size ≤ gb254)); clear HB; have HB := n0_; have BK254 := n1_; have GW254 := n2_; have GE254 := n3_; clear n0_ n1_ n2_ n3_; clear hb hbox hg; have hcz4_0 : w3.cell? ⟨gb254, 0, none⟩ = some (.bool a0_0) := (blk_cell BK254.out 0).trans rfl; have hcz4_1 : w3.cell? ⟨gb254, 1, none⟩ = some (.slice A0_1 l0_1.length c0_1) := (blk_cell BK254.out 1).trans rfl; have hcz4_2 : w3.cell? ⟨gb254, 2, none⟩ = some (.int .i64 a0_2) := (blk_cell BK254.out 2).trans rfl; have hfz4_0 := blk_frozen BK254.out 0; have hfz4_1 := blk_frozen BK254.out 1; have hfz4_2 := blk_frozen BK254.out 2))
  go_ret
  exact ⟨eqC, by repeat (first | (with_reducible first | exact HB.out | apply below_alloc | apply pw_below_drewN | apply below_drew1 | refine below_set ?_ GE254.out) | exact HB.out)⟩
 ·rw [if_neg c2] at H
  have c2b0 : ((l0_1.length : Int) == 0) = false := beq_eq_false_iff_ne.mpr c2
  have c2b1 : ((l0_1.length : Int) != 0) = true := bne_iff_ne.mpr c2
  have c2b2 : ¬ (l0_1 = []) := fun h_ => c2 (by rw [h_]; rfl)
  by_cases c5 : a0_0 = true
  ·subst c5
   have H1 : (some (-1)) = some r := by rw [if_pos rfl] at H; exact H
   clear H
   have H := H1
   clear H1
   obtain rfl := Option.some.inj H
   go_enter Tryz.func32, Tryz.ntmps32
   go_wp2_with (first | ((with_reducible refine gate_dst (N := 1) rfl ?_); refine box_event ?hg (N := 1) ?hd (cs := #[.bool true, .slice A0_1 l0_1.length c0_1, .int .i64 a0_2]) (t := 41) ?hr ?_; (case hd => rfl); (case hg => rfl); (case hr => first | (go_simp; done) | (go_simp; rfl)); intro gb254 hg w6 hbox hb; have n0_ := asd (below_step hbw hb); have n1_ := asd (hbox); have n2_ := asd ((by rw [hg]; exact (below_size hbw) : w.heap.size ≤ gb254)); have n3_ := asd ((by rw [hg]; exact (below_size hbw) : w.heap.size ≤ gb254)); clear HB; have HB := n0_; have BK254 := n1_; have GW254 := n2_; have GE254 := n3_; clear n0_ n1_ n2_ n3_; clear hb hbox hg; have hcz7_0 : w6.cell? ⟨gb254, 0, none⟩ = some (.bool true) := (blk_cell BK254.out 0).trans rfl; have hcz7_1 : w6.cell? ⟨gb254, 1, none⟩ = some (.slice A0_1 l0_1.length c0_1) := (blk_cell BK254.out 1).trans rfl; have hcz7_2 : w6.cell? ⟨gb254, 2, none⟩ = some (.int .i64 a0_2) := (blk_cell BK254.out 2).trans rfl; have hfz7_0 := blk_frozen BK254.out 0; have hfz7_1 := blk_frozen BK254.out 1; have hfz7_2 := blk_frozen BK254.out 2))
   go_ret
   exact ⟨eqC, by repeat (first | (with_reducible first | exact HB.out | apply below_alloc | apply pw_below_drewN | apply below_drew1 | refine below_set ?_ GE254.out) | exact HB.out)⟩
  ·replace c5 := Bool.eq_false_iff.mpr c5
   subst c5
   have H1 : (some 1) = some r := by rw [if_neg (show ¬ (false = true) by decide)] at H; exact H
   clear H
   have H := H1
   clear H1
   obtain rfl := Option.some.inj H
   go_enter Tryz.func32, Tryz.ntmps32
   go_wp2_with (first | ((with_reducible refine gate_dst (N := 1) rfl ?_); refine box_event ?hg (N := 1) ?hd (cs := #[.bool false, .slice A0_1 l0_1.length c0_1, .int .i64 a0_2]) (t := 41) ?hr ?_; (case hd => rfl); (case hg => rfl); (case hr => first | (go_simp; done) | (go_simp; rfl)); intro gb254 hg w8 hbox hb; have n0_ := asd (below_step hbw hb); have n1_ := asd (hbox); have n2_ := asd ((by rw [hg]; exact (below_size hbw) : w.heap.size ≤ gb254)); have n3_ := asd ((by rw [hg]; exact (below_size hbw) : w.heap.size ≤ gb254)); clear HB; have HB := n0_; have BK254 := n1_; have GW254 := n2_; have GE254 := n3_; clear n0_ n1_ n2_ n3_; clear hb hbox hg; have hcz9_0 : w8.cell? ⟨gb254, 0, none⟩ = some (.bool false) := (blk_cell BK254.out 0).trans rfl; have hcz9_1 : w8.cell? ⟨gb254, 1, none⟩ = some (.slice A0_1 l0_1.length c0_1) := (blk_cell BK254.out 1).trans rfl; have hcz9_2 : w8.cell? ⟨gb254, 2, none⟩ = some (.int .i64 a0_2) := (blk_cell BK254.out 2).trans rfl; have hfz9_0 := blk_frozen BK254.out 0; have hfz9_1 := blk_frozen BK254.out 1; have hfz9_2 := blk_frozen BK254.out 2))
   go_ret
   exact ⟨eqC, by repeat (first | (with_reducible first | exact HB.out | apply below_alloc | apply pw_below_drewN | apply below_drew1 | refine below_set ?_ GE254.out) | exact HB.out)⟩
def cuspref02_size.l0 : Nat → Int → Int → Option (Int)
 | 0, _, _ => none
 | k + 1, x3, x4 => if x4 > 0 then (cuspref02_size.l0 k (wrap64 (x3 + 1)) (x4 / 2)) else (some x3)
def cuspref02_size.f (k : Nat) (l0 : List Int) : Option (Int) := if (l0.length : Int) = 0 then (some 0) else (if 0 ≤ (wrap64 ((l0.length : Int) - 1)) then (if (wrap64 ((l0.length : Int) - 1)) < (l0.length : Int) then (cuspref02_size.l0 k (wrap64 (32 * (wrap64 ((l0.length : Int) - 1)))) (rd l0 (wrap64 ((l0.length : Int) - 1)))) else (none)) else (none))
theorem cuspref02_size.mono_l : ∀ k, (∀ y0 y1, LeO (cuspref02_size.l0 k y0 y1) (cuspref02_size.l0 (k + 1) y0 y1))
 | 0 => fun _ _ r h => by simp [cuspref02_size.l0] at h
 | k + 1 => by
  have ih0 := cuspref02_size.mono_l k
  ·intro y0 y1
   unfold cuspref02_size.l0
   repeat' first
   | (with_reducible exact ih0 _ _)
   | (with_reducible exact LeO.refl _)
   | (with_reducible exact LeO.none _)
   | (with_reducible refine LeO.ite ?_ ?_)
   | (with_reducible refine LeO.bind ?_ (fun _ => ?_))
   | exact ih0 _ _
   | exact LeO.none _
   | refine LeO.ite ?_ ?_
   | refine LeO.bind ?_ (fun _ => ?_)
theorem cuspref02_size.mono : ∀ a0 k, LeO (cuspref02_size.f k a0) (cuspref02_size.f (k + 1) a0) := by
 intro a0 k
 have ih0 := cuspref02_size.mono_l k
 unfold cuspref02_size.f
 repeat' first
   | (with_reducible exact ih0 _ _)
   | (with_reducible exact LeO.refl _)
   | (with_reducible exact LeO.none _)
   | (with_reducible refine LeO.ite ?_ ?_)
   | (with_reducible refine LeO.bind ?_ (fun _ => ?_))
   | exact ih0 _ _
   | exact LeO.none _
   | refine LeO.ite ?_ ?_
   | refine LeO.bind ?_ (fun _ => ?_)
theorem cuspref02_size.calls (k : Nat) (A0 : Option Addr) (c0 : Nat) (l0 : List Int) (r : Int) (w : World) (hr0 : Kd.C (Kd.int .u32) w A0 l0.length l0) (hc0 : l0.length ≤ c0) (h : cuspref02_size.f k l0 = some r) :
  Calls Tryz.prog 129 #[.slice A0 l0.length c0] w fun e w' => e = .returned (.int .i64 r) ∧ Drawn0 w w' := by
 have HR0 := asd hr0
 have HC0 := asd hc0
 clear hr0 hc0
 have H : (if (l0.length : Int) = 0 then (some 0) else (if 0 ≤ (wrap64 ((l0.length : Int) - 1)) then (if (wrap64 ((l0.length : Int) - 1)) < (l0.length : Int) then (cuspref02_size.l0 k (wrap64 (32 * (wrap64 ((l0.length : Int) - 1)))) (rd l0 (wrap64 ((l0.length : Int) - 1)))) else (none)) else (none))) = some r := h
 clear h
 by_cases c2 : (l0.length : Int) = 0
 ·rw [if_pos c2] at H
  have c2b0 : ((l0.length : Int) == 0) = true := beq_iff_eq.mpr c2
  have c2b1 : ((l0.length : Int) != 0) = false := bne_eq_false_iff_eq.mpr c2
  clear c2
  obtain rfl := Option.some.inj H
  go_enter Tryz.func129, Tryz.ntmps129
  go_wp2
  go_ret
  exact ⟨eqB, dn0⟩
 ·rw [if_neg c2] at H
  have c2b0 : ((l0.length : Int) == 0) = false := beq_eq_false_iff_ne.mpr c2
  have c2b1 : ((l0.length : Int) != 0) = true := bne_iff_ne.mpr c2
  have c2b2 : ¬ (l0 = []) := fun h_ => c2 (by rw [h_]; rfl)
  obtain ⟨ji3, hji3⟩ : ∃ j_ : Int, (wrap64 ((l0.length : Int) - 1)) = j_ := ⟨_, rfl⟩
  replace H : (if 0 ≤ (ji3) then (if (ji3) < (l0.length : Int) then (cuspref02_size.l0 k (wrap64 (32 * (ji3))) (rd l0 (ji3))) else (none)) else (none)) = some r := by first | (rw [hji3] at H; exact H) | (simp only [hji3] at H ⊢; exact H)
  have hji3w : (IntKind.i64.wrap ((l0.length : Int) - 1)) = ji3 := (i64_w _).trans hji3
  by_cases c4 : 0 ≤ (ji3)
  ·rw [if_pos c4] at H
   have c4b0 : decide (0 ≤ (ji3)) = true := decide_eq_true c4
   clear c4
   by_cases c5 : (ji3) < (l0.length : Int)
   ·rw [if_pos c5] at H
    have c5b0 : decide ((ji3) < (l0.length : Int)) = true := decide_eq_true c5
    clear c5
    have H' := asd H
    clear H
    have p255 : 0 ≤ ((ji3) : Int) := of_decide_eq_true (by first | (with_reducible assumption) | assumption)
    have q255 : (ji3) < (l0.length : Int) := of_decide_eq_true (by first | (with_reducible assumption) | assumption)
    obtain ⟨ad255, e255, hx255_0⟩ := Kd.at_int HR0.out (ji3) p255 q255
    cases e255
    replace p255 := eq_true p255
    replace q255 := eq_true q255
    go_enter Tryz.func129, Tryz.ntmps129
    go_wp2
    go_loopg [3, 4] k (fun kq v3 v4 w' => ∃ (x3_1 : Int) (x4_1 : Int), v3 = .int .i64 x3_1 ∧ v4 = .int .u32 x4_1 ∧ Aside0 (cuspref02_size.l0 kq x3_1 x4_1 = some r) ∧ Aside0 (kq ≤ k) ∧ Drawn0 w w')
    case atStart => exact ⟨(wrap64 (32 * (ji3))), (rd l0 (ji3)), (by first | rfl | (simp; done) | (simp only [← hji3] <;> (first | rfl | simp)) | (simp [*]; done)), (by first | rfl | (simp; done) | (simp only [← hji3] <;> (first | rfl | simp)) | (simp [*]; done)), H', ⟨Nat.le_refl _⟩, dn0⟩
    case round =>
     clear H'
     try clear c1
     try clear c2
     try clear c2b0
     try clear c2b1
     try clear c2b2
     try clear p2
     try clear q2
     try clear hx2
     try clear c4
     try clear c4b0
     try clear c5
     try clear c5b0
     try clear hx255_0
     try clear p255
     try clear q255
     obtain ⟨x3_1, x4_1, rfl, rfl, HA, HK1, ⟨m1, rfl⟩⟩ := hrel
     cases gk with
     | zero => exact absurd HA.out (by simp [cuspref02_size.l0])
     | succ k1 =>
      have H := HA.out
      clear HA
      simp only [cuspref02_size.l0] at H
      by_cases c6 : x4_1 > 0
      ·rw [if_pos c6] at H
       have c6b0 : decide (0 < x4_1) = true := decide_eq_true c6
       clear c6
       have H' := asd H
       clear H
       go_wp2
       go_roundg k1
       case measure => have := HK1.out; omega
       case rel => exact ⟨(wrap64 (x3_1 + 1)), (x4_1 / 2), eqB, eqB, H', ⟨by have := HK1.out; omega⟩, dn0⟩
      ·rw [if_neg c6] at H
       have c6b0 : decide (0 < x4_1) = false := decide_eq_false c6
       clear c6
       obtain rfl := Option.some.inj H
       go_wp2
       go_ret
       exact ⟨by first | rfl | (simp; done) | (simp only [← hji3] <;> (first | rfl | simp)) | (simp [*]; done), dn0⟩
   ·rw [if_neg c5] at H
    exact absurd H (by simp)
  ·rw [if_neg c4] at H
   exact absurd H (by simp)
def cuspref02_High.f (k : Nat) (a0_0 : Bool) (l0_1 : List Int) (a0_2 : Int) : Option (Int) := if (l0_1.length : Int) = 0 then (some 0) else ((cuspref02_size.f k l0_1).bind fun t257 => (some (wrap64 (t257 + a0_2))))
theorem cuspref02_High.mono : ∀ a0 a1 a2 k, LeO (cuspref02_High.f k a0 a1 a2) (cuspref02_High.f (k + 1) a0 a1 a2) := by
 intro a0 a1 a2 k
 unfold cuspref02_High.f
 repeat' first
   | (with_reducible exact cuspref02_size.mono _ _)
   | (with_reducible exact LeO.refl _)
   | (with_reducible exact LeO.none _)
   | (with_reducible refine LeO.ite ?_ ?_)
   | (with_reducible refine LeO.bind ?_ (fun _ => ?_))
   | exact cuspref02_size.mono _ _
   | exact LeO.none _
   | refine LeO.ite ?_ ?_
   | refine LeO.bind ?_ (fun _ => ?_)
theorem cuspref02_High.calls (k : Nat) (a0_0 : Bool) (A0_1 : Option Addr) (c0_1 : Nat) (l0_1 : List Int) (a0_2 : Int) (r : Int) (w : World) (hr0_1 : Kd.C (Kd.int .u32) w A0_1 l0_1.length l0_1) (hc0_1 : l0_1.length ≤ c0_1) (h : cuspref02_High.f k a0_0 l0_1 a0_2 = some r) :
  Calls Tryz.prog 101 #[.agg #[.bool a0_0, .slice A0_1 l0_1.length c0_1, .int .i64 a0_2]] w fun e w' => e = .returned (.int .i64 r) ∧ Below w.heap.size w w' := by
 have hu41 := Tryz.underlying41
 have HR0_1 := asd hr0_1
 have HC0_1 := asd hc0_1
 clear hr0_1 hc0_1
 have HB := asd (Below.refl w.heap.size w)
 have H : (if (l0_1.length : Int) = 0 then (some 0) else ((cuspref02_size.f k l0_1).bind fun t257 => (some (wrap64 (t257 + a0_2))))) = some r := h
 clear h
 by_cases c2 : (l0_1.length : Int) = 0
 ·rw [if_pos c2] at H
  have c2b0 : ((l0_1.length : Int) == 0) = true := beq_iff_eq.mpr c2
  have c2b1 : ((l0_1.length : Int) != 0) = false := bne_eq_false_iff_eq.mpr c2
  clear c2
  obtain rfl := Option.some.inj H
  go_enter Tryz.func101, Tryz.ntmps101
  go_wp2_with (first | ((with_reducible refine gate_dst (N := 1) rfl ?_); refine box_event ?hg (N := 1) ?hd (cs := #[.bool a0_0, .slice A0_1 l0_1.length c0_1, .int .i64 a0_2]) (t := 41) ?hr ?_; (case hd => rfl); (case hg => rfl); (case hr => first | (go_simp; done) | (go_simp; rfl)); intro gb256 hg w3 hbox hb; have n0_ := asd (below_step hbw hb); have n1_ := asd (hbox); have n2_ := asd ((by rw [hg]; exact (below_size hbw) : w.heap.size ≤ gb256)); have n3_ := asd ((by rw [hg]; exact (below_size hbw) : w.heap.size ≤ gb256)); clear HB; have HB := n0_; have BK256 := n1_; have GW256 := n2_; have GE256 := n3_; clear n0_ n1_ n2_ n3_; clear hb hbox hg; have hcz4_0 : w3.cell? ⟨gb256, 0, none⟩ = some (.bool a0_0) := (blk_cell BK256.out 0).trans rfl; have hcz4_1 : w3.cell? ⟨gb256, 1, none⟩ = some (.slice A0_1 l0_1.length c0_1) := (blk_cell BK256.out 1).trans rfl; have hcz4_2 : w3.cell? ⟨gb256, 2, none⟩ = some (.int .i64 a0_2) := (blk_cell BK256.out 2).trans rfl; have hfz4_0 := blk_frozen BK256.out 0; have hfz4_1 := blk_frozen BK256.out 1; have hfz4_2 := blk_frozen BK256.out 2))
  repeat (go_quiet (first | ((with_reducible refine gate_dst (N := 1) rfl ?_); refine box_event ?hg (N := 1) ?hd (cs := #[.bool a0_0, .slice A0_1 l0_1.length c0_1, .int .i64 a0_2]) (t := 41) ?hr ?_; (case hd => rfl); (case hg => rfl); (case hr => first | (go_simp; done) | (go_simp; rfl)); intro gb256 hg w3 hbox hb; have n0_ := asd (below_step hbw hb); have n1_ := asd (hbox); have n2_ := asd ((by rw [hg]; exact (below_size hbw) : w.heap.size ≤ gb256)); have n3_ := asd ((by rw [hg]; exact (below_size hbw) : w.heap.size ≤ gb256)); clear HB; have HB := n0_; have BK256 := n1_; have GW256 := n2_; have GE256 := n3_; clear n0_ n1_ n2_ n3_; clear hb hbox hg; have hcz4_0 : w3.cell? ⟨gb256, 0, none⟩ = some (.bool a0_0) := (blk_cell BK256.out 0).trans rfl; have hcz4_1 : w3.cell? ⟨gb256, 1, none⟩ = some (.slice A0_1 l0_1.length c0_1) := (blk_cell BK256.out 1).trans rfl; have hcz4_2 : w3.cell? ⟨gb256, 2, none⟩ = some (.int .i64 a0_2) := (blk_cell BK256.out 2).trans rfl; have hfz4_0 := blk_frozen BK256.out 0; have hfz4_1 := blk_frozen BK256.out 1; have hfz4_2 := blk_frozen BK256.out 2)); try go_wp2_with (first | ((with_reducible refine gate_dst (N := 1) rfl ?_); refine box_event ?hg (N := 1) ?hd (cs := #[.bool a0_0, .slice A0_1 l0_1.length c0_1, .int .i64 a0_2]) (t := 41) ?hr ?_; (case hd => rfl); (case hg => rfl); (case hr => first | (go_simp; done) | (go_simp; rfl)); intro gb256 hg w3 hbox hb; have n0_ := asd (below_step hbw hb); have n1_ := asd (hbox); have n2_ := asd ((by rw [hg]; exact (below_size hbw) : w.heap.size ≤ gb256)); have n3_ := asd ((by rw [hg]; exact (below_size hbw) : w.heap.size ≤ gb256)); clear HB; have HB := n0_; have BK256 := n1_; have GW256 := n2_; have GE256 := n3_; clear n0_ n1_ n2_ n3_; clear hb hbox hg; have hcz4_0 : w3.cell? ⟨gb256, 0, none⟩ = some (.bool a0_0) := (blk_cell BK256.out 0).trans rfl; have hcz4_1 : w3.cell? ⟨gb256, 1, none⟩ = some (.slice A0_1 l0_1.length c0_1) := (blk_cell BK256.out 1).trans rfl; have hcz4_2 : w3.cell? ⟨gb256, 2, none⟩ = some (.int .i64 a0_2) := (blk_cell BK256.out 2).trans rfl; have hfz4_0 := blk_frozen BK256.out 0; have hfz4_1 := blk_frozen BK256.out 1; have hfz4_2 := blk_frozen BK256.out 2)))
  go_ret
  exact ⟨eqC, by repeat (first | (with_reducible first | exact HB.out | apply below_alloc | apply pw_below_drewN | apply below_drew1 | refine below_set ?_ GE256.out) | exact HB.out)⟩
 ·rw [if_neg c2] at H
  have c2b0 : ((l0_1.length : Int) == 0) = false := beq_eq_false_iff_ne.mpr c2
  have c2b1 : ((l0_1.length : Int) != 0) = true := bne_iff_ne.mpr c2
  have c2b2 : ¬ (l0_1 = []) := fun h_ => c2 (by rw [h_]; rfl)
  replace H := Option.bind_eq_some_iff.mp H
  obtain ⟨t257, A50, H⟩ := H
  replace H : (some (wrap64 (t257 + a0_2))) = some r := H
  have A5 := asd A50
  clear A50
  obtain rfl := Option.some.inj H
  go_enter Tryz.func101, Tryz.ntmps101
  go_wp2_with (first | ((with_reducible refine gate_dst (N := 1) rfl ?_); refine box_event ?hg (N := 1) ?hd (cs := #[.bool a0_0, .slice A0_1 l0_1.length c0_1, .int .i64 a0_2]) (t := 41) ?hr ?_; (case hd => rfl); (case hg => rfl); (case hr => first | (go_simp; done) | (go_simp; rfl)); intro gb256 hg w6 hbox hb; have n0_ := asd (below_step hbw hb); have n1_ := asd (hbox); have n2_ := asd ((by rw [hg]; exact (below_size hbw) : w.heap.size ≤ gb256)); have n3_ := asd ((by rw [hg]; exact (below_size hbw) : w.heap.size ≤ gb256)); clear HB; have HB := n0_; have BK256 := n1_; have GW256 := n2_; have GE256 := n3_; clear n0_ n1_ n2_ n3_; clear hb hbox hg; have hcz7_0 : w6.cell? ⟨gb256, 0, none⟩ = some (.bool a0_0) := (blk_cell BK256.out 0).trans rfl; have hcz7_1 : w6.cell? ⟨gb256, 1, none⟩ = some (.slice A0_1 l0_1.length c0_1) := (blk_cell BK256.out 1).trans rfl; have hcz7_2 : w6.cell? ⟨gb256, 2, none⟩ = some (.int .i64 a0_2) := (blk_cell BK256.out 2).trans rfl; have hfz7_0 := blk_frozen BK256.out 0; have hfz7_1 := blk_frozen BK256.out 1; have hfz7_2 := blk_frozen BK256.out 2) | (go_at_call 129; (with_reducible refine (cuspref02_size.calls k _ _ l0_1 t257 _ ?side1 ?side2 A5.out).mono ?_); (case side1 => repeat (first | exact (Kd.C_below HR0_1.out HB.out) | (with_reducible refine Kd.C_alloc ?_ _) | (with_reducible refine Kd.C_drewN ?_ _) | (with_reducible refine Kd.C_drew ?_))); (case side2 => exact HC0_1.out); rintro e w' ⟨rfl, ⟨nd, rfl⟩⟩; (try first | exact ⟨rfl, _, World.drewN_drewN _ _ _⟩ | exact ⟨rfl, _, Eq.trans (World.drewN_drewN _ _ _) (congrArg (World.drewN _) (Nat.add_assoc _ _ _))⟩)))
  repeat (go_quiet (first | ((with_reducible refine gate_dst (N := 1) rfl ?_); refine box_event ?hg (N := 1) ?hd (cs := #[.bool a0_0, .slice A0_1 l0_1.length c0_1, .int .i64 a0_2]) (t := 41) ?hr ?_; (case hd => rfl); (case hg => rfl); (case hr => first | (go_simp; done) | (go_simp; rfl)); intro gb256 hg w6 hbox hb; have n0_ := asd (below_step hbw hb); have n1_ := asd (hbox); have n2_ := asd ((by rw [hg]; exact (below_size hbw) : w.heap.size ≤ gb256)); have n3_ := asd ((by rw [hg]; exact (below_size hbw) : w.heap.size ≤ gb256)); clear HB; have HB := n0_; have BK256 := n1_; have GW256 := n2_; have GE256 := n3_; clear n0_ n1_ n2_ n3_; clear hb hbox hg; have hcz7_0 : w6.cell? ⟨gb256, 0, none⟩ = some (.bool a0_0) := (blk_cell BK256.out 0).trans rfl; have hcz7_1 : w6.cell? ⟨gb256, 1, none⟩ = some (.slice A0_1 l0_1.length c0_1) := (blk_cell BK256.out 1).trans rfl; have hcz7_2 : w6.cell? ⟨gb256, 2, none⟩ = some (.int .i64 a0_2) := (blk_cell BK256.out 2).trans rfl; have hfz7_0 := blk_frozen BK256.out 0; have hfz7_1 := blk_frozen BK256.out 1; have hfz7_2 := blk_frozen BK256.out 2) | (go_at_call 129; (with_reducible refine (cuspref02_size.calls k _ _ l0_1 t257 _ ?side1 ?side2 A5.out).mono ?_); (case side1 => repeat (first | exact (Kd.C_below HR0_1.out HB.out) | (with_reducible refine Kd.C_alloc ?_ _) | (with_reducible refine Kd.C_drewN ?_ _) | (with_reducible refine Kd.C_drew ?_))); (case side2 => exact HC0_1.out); rintro e w' ⟨rfl, ⟨nd, rfl⟩⟩; (try first | exact ⟨rfl, _, World.drewN_drewN _ _ _⟩ | exact ⟨rfl, _, Eq.trans (World.drewN_drewN _ _ _) (congrArg (World.drewN _) (Nat.add_assoc _ _ _))⟩))); try go_wp2_with (first | ((with_reducible refine gate_dst (N := 1) rfl ?_); refine box_event ?hg (N := 1) ?hd (cs := #[.bool a0_0, .slice A0_1 l0_1.length c0_1, .int .i64 a0_2]) (t := 41) ?hr ?_; (case hd => rfl); (case hg => rfl); (case hr => first | (go_simp; done) | (go_simp; rfl)); intro gb256 hg w6 hbox hb; have n0_ := asd (below_step hbw hb); have n1_ := asd (hbox); have n2_ := asd ((by rw [hg]; exact (below_size hbw) : w.heap.size ≤ gb256)); have n3_ := asd ((by rw [hg]; exact (below_size hbw) : w.heap.size ≤ gb256)); clear HB; have HB := n0_; have BK256 := n1_; have GW256 := n2_; have GE256 := n3_; clear n0_ n1_ n2_ n3_; clear hb hbox hg; have hcz7_0 : w6.cell? ⟨gb256, 0, none⟩ = some (.bool a0_0) := (blk_cell BK256.out 0).trans rfl; have hcz7_1 : w6.cell? ⟨gb256, 1, none⟩ = some (.slice A0_1 l0_1.length c0_1) := (blk_cell BK256.out 1).trans rfl; have hcz7_2 : w6.cell? ⟨gb256, 2, none⟩ = some (.int .i64 a0_2) := (blk_cell BK256.out 2).trans rfl; have hfz7_0 := blk_frozen BK256.out 0; have hfz7_1 := blk_frozen BK256.out 1; have hfz7_2 := blk_frozen BK256.out 2) | (go_at_call 129; (with_reducible refine (cuspref02_size.calls k _ _ l0_1 t257 _ ?side1 ?side2 A5.out).mono ?_); (case side1 => repeat (first | exact (Kd.C_below HR0_1.out HB.out) | (with_reducible refine Kd.C_alloc ?_ _) | (with_reducible refine Kd.C_drewN ?_ _) | (with_reducible refine Kd.C_drew ?_))); (case side2 => exact HC0_1.out); rintro e w' ⟨rfl, ⟨nd, rfl⟩⟩; (try first | exact ⟨rfl, _, World.drewN_drewN _ _ _⟩ | exact ⟨rfl, _, Eq.trans (World.drewN_drewN _ _ _) (congrArg (World.drewN _) (Nat.add_assoc _ _ _))⟩))))
  go_ret
  exact ⟨eqC, by repeat (first | (with_reducible first | exact HB.out | apply below_alloc | apply pw_below_drewN | apply below_drew1 | refine below_set ?_ GE256.out) | exact HB.out)⟩
def cuspref02_trim.l0 : Nat → List Int → Int → Option (List Int)
 | 0, _, _ => none
 | k + 1, x0, x3 => if x3 > 0 then (if 0 ≤ (wrap64 (x3 - 1)) then (if (wrap64 (x3 - 1)) < (x0.length : Int) then (if (rd x0 (wrap64 (x3 - 1))) = 0 then (cuspref02_trim.l0 k x0 (wrap64 (x3 - 1))) else (if 0 ≤ x3 then (if x3 ≤ (x0.length : Int) then (some (x0.take (x3 : Int).toNat)) else (none)) else (none))) else (none)) else (none)) else (if 0 ≤ x3 then (if x3 ≤ (x0.length : Int) then (some (x0.take (x3 : Int).toNat)) else (none)) else (none))
def cuspref02_trim.f (k : Nat) (l0 : List Int) : Option (List Int) := cuspref02_trim.l0 k l0 (l0.length : Int)
theorem cuspref02_trim.mono_l : ∀ k, (∀ y0 y1, LeO (cuspref02_trim.l0 k y0 y1) (cuspref02_trim.l0 (k + 1) y0 y1))
 | 0 => fun _ _ r h => by simp [cuspref02_trim.l0] at h
 | k + 1 => by
  have ih0 := cuspref02_trim.mono_l k
  ·intro y0 y1
   unfold cuspref02_trim.l0
   repeat' first
   | (with_reducible exact ih0 _ _)
   | (with_reducible exact LeO.refl _)
   | (with_reducible exact LeO.none _)
   | (with_reducible refine LeO.ite ?_ ?_)
   | (with_reducible refine LeO.bind ?_ (fun _ => ?_))
   | exact ih0 _ _
   | exact LeO.none _
   | refine LeO.ite ?_ ?_
   | refine LeO.bind ?_ (fun _ => ?_)
theorem cuspref02_trim.mono : ∀ a0 k, LeO (cuspref02_trim.f k a0) (cuspref02_trim.f (k + 1) a0) := by
 intro a0 k
 have ih0 := cuspref02_trim.mono_l k
 unfold cuspref02_trim.f
 repeat' first
   | (with_reducible exact ih0 _ _)
   | (with_reducible exact LeO.refl _)
   | (with_reducible exact LeO.none _)
   | (with_reducible refine LeO.ite ?_ ?_)
   | (with_reducible refine LeO.bind ?_ (fun _ => ?_))
   | exact ih0 _ _
   | exact LeO.none _
   | refine LeO.ite ?_ ?_
   | refine LeO.bind ?_ (fun _ => ?_)
theorem cuspref02_trim.calls (k : Nat) (P0_ : Nat → Prop) (u9000_ : Value) (l0 : List Int) (r : List Int) (w0 w : World) (hB : Below w0.heap.size w0 w) (ho0 : Kd.R (Kd.int .u32) 83 w w0.heap.size P0_ u9000_ l0) (h : cuspref02_trim.f k l0 = some r) :
  Calls Tryz.prog 99 #[u9000_] w fun e w' => ∃ v0_ : Value, e = .returned (v0_) ∧ Kd.R (Kd.int .u32) 83 w' w0.heap.size (fun k_ => (P0_ k_ ∨ w.heap.size ≤ k_)) v0_ r ∧ Below w0.heap.size w0 w' ∧ Kept w w' (fun k_ => P0_ k_) := by
 have HO0 := asd (show Kd.R (Kd.int .u32) 83 w w0.heap.size (fun k_ => (P0_ k_ ∨ w.heap.size ≤ k_)) u9000_ l0 from Kd.R_mono ho0 (fun k_ hk => (.inl hk)))
 have HK := asd (Kept.refl w (fun k_ => P0_ k_))
 have HW0 := asd hB.size
 have HB := asd hB
 clear hB
 have H : (cuspref02_trim.l0 k l0 (l0.length : Int)) = some r := h
 clear h
 have H' := asd H
 clear H
 obtain ⟨Ao2, co2, eo2⟩ := Kd.R_slice HO0.out
 subst eo2
 go_enter Tryz.func99, Tryz.ntmps99
 go_wp2
 go_loopg [3] k (fun kq v3 w' => ∃ (x3_1 : Int), v3 = .int .i64 x3_1 ∧ Aside0 (cuspref02_trim.l0 kq l0 x3_1 = some r) ∧ Aside0 (kq ≤ k) ∧ Aside0 (Kd.R (Kd.int .u32) 83 w' w0.heap.size (fun k_ => (P0_ k_ ∨ w.heap.size ≤ k_)) (.slice Ao2 l0.length co2) l0) ∧ Aside0 (Kept w w' (fun k_ => P0_ k_)) ∧ Aside0 (Below w0.heap.size w0 w'))
 case atStart => exact ⟨((l0.length : Int)), eqB, H', ⟨Nat.le_refl _⟩, ⟨by (with_reducible repeat (first | apply Kd.R_alloc | apply Kd.R_drewN | apply Kd.R_drew)); exact HO0.out⟩, ⟨by repeat (first | (with_reducible first | exact HK.out | apply Kept.alloc | apply Kept.drewN | apply Kept.drew) | exact HK.out)⟩, ⟨hbw⟩⟩
 case round =>
  clear H'
  try clear p2
  obtain ⟨x3_1, rfl, HA, HK1, HO_0, HK, HB⟩ := hrel
  cases gk with
  | zero => exact absurd HA.out (by simp [cuspref02_trim.l0])
  | succ k1 =>
   have H := HA.out
   clear HA
   simp only [cuspref02_trim.l0] at H
   by_cases c3 : x3_1 > 0
   ·rw [if_pos c3] at H
    have c3b0 : decide (0 < x3_1) = true := decide_eq_true c3
    clear c3
    obtain ⟨ji4, hji4⟩ : ∃ j_ : Int, (wrap64 (x3_1 - 1)) = j_ := ⟨_, rfl⟩
    replace H : (if 0 ≤ (ji4) then (if (ji4) < (l0.length : Int) then (if (rd l0 (ji4)) = 0 then (cuspref02_trim.l0 k1 l0 ji4) else (if 0 ≤ x3_1 then (if x3_1 ≤ (l0.length : Int) then (some (l0.take (x3_1 : Int).toNat)) else (none)) else (none))) else (none)) else (none)) = some r := by first | (rw [hji4] at H; exact H) | (simp only [hji4] at H ⊢; exact H)
    have hji4w : (IntKind.i64.wrap (x3_1 - 1)) = ji4 := (i64_w _).trans hji4
    by_cases c5 : 0 ≤ (ji4)
    ·rw [if_pos c5] at H
     have c5b0 : decide (0 ≤ (ji4)) = true := decide_eq_true c5
     clear c5
     by_cases c6 : (ji4) < (l0.length : Int)
     ·rw [if_pos c6] at H
      have c6b0 : decide ((ji4) < (l0.length : Int)) = true := decide_eq_true c6
      clear c6
      by_cases c7 : (rd l0 (ji4)) = 0
      ·rw [if_pos c7] at H
       have c7b0 : ((rd l0 (ji4)) == 0) = true := beq_iff_eq.mpr c7
       have c7b1 : ((rd l0 (ji4)) != 0) = false := bne_eq_false_iff_eq.mpr c7
       clear c7
       have H' := asd H
       clear H
       have p258 : 0 ≤ ((ji4) : Int) := of_decide_eq_true (by first | (with_reducible assumption) | assumption)
       have q258 : (ji4) < (l0.length : Int) := of_decide_eq_true (by first | (with_reducible assumption) | assumption)
       obtain ⟨ad258, e258, hx258_0⟩ := Kd.at_int (Kd.R_reads' HO_0.out).2.2 (ji4) p258 q258
       cases e258
       replace p258 := eq_true p258
       replace q258 := eq_true q258
       go_wp2
       go_roundg k1
       case measure => have := HK1.out; omega
       case rel => exact ⟨(ji4), (by first | rfl | (simp; done) | (simp only [← hji4] <;> (first | rfl | simp)) | (simp [*]; done)), H', ⟨by have := HK1.out; omega⟩, ⟨by (with_reducible repeat (first | apply Kd.R_alloc | apply Kd.R_drewN | apply Kd.R_drew)); exact HO_0.out⟩, ⟨by repeat (first | (with_reducible first | exact HK.out | apply Kept.alloc | apply Kept.drewN | apply Kept.drew) | exact HK.out)⟩, ⟨hbw⟩⟩
      ·rw [if_neg c7] at H
       have c7b0 : ((rd l0 (ji4)) == 0) = false := beq_eq_false_iff_ne.mpr c7
       have c7b1 : ((rd l0 (ji4)) != 0) = true := bne_iff_ne.mpr c7
       by_cases c8 : 0 ≤ x3_1
       ·rw [if_pos c8] at H
        have c8b0 := eq_true c8
        have c8b1 : decide (0 ≤ x3_1) = true := decide_eq_true c8
        clear c8
        by_cases c9 : x3_1 ≤ (l0.length : Int)
        ·rw [if_pos c9] at H
         have c9b0 := eq_true c9
         have c9b1 : decide (x3_1 ≤ (l0.length : Int)) = true := decide_eq_true c9
         clear c9
         obtain ⟨y259, hy259⟩ : ∃ y_ : List Int, y_ = (l0.take (x3_1 : Int).toNat) := ⟨_, rfl⟩
         replace H : (some y259) = some r := by first | (rw [hy259]; with_reducible exact H) | (have H2_ := (Option.bind_some _ _).symm.trans H; rw [hy259]; with_reducible exact H2_) | (have H2_ := (Option.bind_some _ _).symm.trans H; with_reducible exact H2_) | with_reducible exact H | (rw [hy259]; exact H) | exact H
         have Ny259 := asd hy259
         clear hy259
         obtain rfl := Option.some.inj H
         have p258 : 0 ≤ ((ji4) : Int) := of_decide_eq_true (by first | (with_reducible assumption) | assumption)
         have q258 : (ji4) < (l0.length : Int) := of_decide_eq_true (by first | (with_reducible assumption) | assumption)
         obtain ⟨ad258, e258, hx258_0⟩ := Kd.at_int (Kd.R_reads' HO_0.out).2.2 (ji4) p258 q258
         cases e258
         replace p258 := eq_true p258
         replace q258 := eq_true q258
         have q10 : (x3_1 : Int) ≤ ((l0.length : Int) : Int) := of_decide_eq_true (by first | (with_reducible assumption) | assumption)
         obtain ⟨i010, hi010, _, hsz10, _⟩ := info_parts info83
         have hcut10 := cut_to (P := Tryz.prog) 39 83 .i64 Tryz.underlying39 hi010 (some ad258) l0.length co2 x3_1 (of_decide_eq_true (by first | (with_reducible assumption) | assumption)) q10 (Kd.R_reads' HO_0.out).2.1
         have hr10 := Kd.R_take (m := (x3_1 : Int).toNat) HO_0.out (by omega)
         have hy10 : y259.length = (x3_1 : Int).toNat := (by rw [Ny259.out, List.length_take]; omega)
         rw [← Ny259.out] at hr10
         rw [← hy10] at hr10 hcut10
         clear hy10 hi010 hsz10 HO_0
         have HO261 := asd hr10
         clear hr10
         replace q10 := eq_true q10
         go_wp2
         go_ret
         exact ⟨_, by first | rfl | (simp [errW_none, errW_some] <;> rfl) | (simp only [← hji4]; first | rfl | (simp [errW_none, errW_some] <;> rfl)) | (simp [*, errW_none, errW_some] <;> rfl), by (with_reducible repeat (first | apply Kd.R_alloc | apply Kd.R_drewN | apply Kd.R_drew)); exact HO261.out, hbw, by repeat (first | (with_reducible first | exact HK.out | apply Kept.alloc | apply Kept.drewN | apply Kept.drew) | exact HK.out)⟩
        ·rw [if_neg c9] at H
         exact absurd H (by simp)
       ·rw [if_neg c8] at H
        exact absurd H (by simp)
     ·rw [if_neg c6] at H
      exact absurd H (by simp)
    ·rw [if_neg c5] at H
     exact absurd H (by simp)
   ·rw [if_neg c3] at H
    have c3b0 : decide (0 < x3_1) = false := decide_eq_false c3
    clear c3
    by_cases c11 : 0 ≤ x3_1
    ·rw [if_pos c11] at H
     have c11b0 := eq_true c11
     have c11b1 : decide (0 ≤ x3_1) = true := decide_eq_true c11
     clear c11
     by_cases c12 : x3_1 ≤ (l0.length : Int)
     ·rw [if_pos c12] at H
      have c12b0 := eq_true c12
      have c12b1 : decide (x3_1 ≤ (l0.length : Int)) = true := decide_eq_true c12
      clear c12
      obtain ⟨y262, hy262⟩ : ∃ y_ : List Int, y_ = (l0.take (x3_1 : Int).toNat) := ⟨_, rfl⟩
      replace H : (some y262) = some r := by first | (rw [hy262]; with_reducible exact H) | (have H2_ := (Option.bind_some _ _).symm.trans H; rw [hy262]; with_reducible exact H2_) | (have H2_ := (Option.bind_some _ _).symm.trans H; with_reducible exact H2_) | with_reducible exact H | (rw [hy262]; exact H) | exact H
      have Ny262 := asd hy262
      clear hy262
      obtain rfl := Option.some.inj H
      have q13 : (x3_1 : Int) ≤ ((l0.length : Int) : Int) := of_decide_eq_true (by first | (with_reducible assumption) | assumption)
      obtain ⟨i013, hi013, _, hsz13, _⟩ := info_parts info83
      have hcut13 := cut_to (P := Tryz.prog) 39 83 .i64 Tryz.underlying39 hi013 Ao2 l0.length co2 x3_1 (of_decide_eq_true (by first | (with_reducible assumption) | assumption)) q13 (Kd.R_reads' HO_0.out).2.1
      have hr13 := Kd.R_take (m := (x3_1 : Int).toNat) HO_0.out (by omega)
      have hy13 : y262.length = (x3_1 : Int).toNat := (by rw [Ny262.out, List.length_take]; omega)
      rw [← Ny262.out] at hr13
      rw [← hy13] at hr13 hcut13
      clear hy13 hi013 hsz13 HO_0
      have HO264 := asd hr13
      clear hr13
      replace q13 := eq_true q13
      go_wp2
      go_ret
      exact ⟨_, eqC, by (with_reducible repeat (first | apply Kd.R_alloc | apply Kd.R_drewN | apply Kd.R_drew)); exact HO264.out, hbw, by repeat (first | (with_reducible first | exact HK.out | apply Kept.alloc | apply Kept.drewN | apply Kept.drew) | exact HK.out)⟩
     ·rw [if_neg c12] at H
      exact absurd H (by simp)
    ·rw [if_neg c11] at H
     exact absurd H (by simp)
def cuspref02_up.l0 : Nat → List Int → List Int → Int → Int → Int → Option (List Int)
 | 0, _, _, _, _, _ => none
 | k + 1, x0, x5, x6, x7, x8 => if x8 < (x0.length : Int) then (if 0 ≤ x8 then (if 0 ≤ x6 then (if x5.length < 35184372088832 then (cuspref02_up.l0 k x0 (x5 ++ [(Go.bits .or .u64 (shl .u64 (IntKind.u64.wrap (rd x0 x8)) x6) (IntKind.u64.wrap (x7))) % 4294967296]) x6 (((Go.bits .or .u64 (shl .u64 (IntKind.u64.wrap (rd x0 x8)) x6) (IntKind.u64.wrap (x7))) / 4294967296) % 4294967296) (wrap64 (x8 + 1))) else (none)) else (none)) else (none)) else (if x5.length < 35184372088832 then ((cuspref02_trim.f k (x5 ++ [x7])).bind fun t275 => (some t275)) else (none))
def cuspref02_up.f (k : Nat) (l0 : List Int) (a1 : Int) : Option (List Int) := if (l0.length : Int) = 0 then (some ([] : List Int)) else (if 0 ≤ (wrap64 (Int.tdiv a1 32)) then (if (wrap64 (Int.tdiv a1 32) : Int).toNat ≤ 70368744177664 then (cuspref02_up.l0 k l0 (List.replicate (wrap64 (Int.tdiv a1 32) : Int).toNat 0) (IntKind.u64.wrap (Int.tmod a1 32)) 0 0) else (none)) else (none))
theorem cuspref02_up.mono_l : ∀ k, (∀ y0 y1 y2 y3 y4, LeO (cuspref02_up.l0 k y0 y1 y2 y3 y4) (cuspref02_up.l0 (k + 1) y0 y1 y2 y3 y4))
 | 0 => fun _ _ _ _ _ r h => by simp [cuspref02_up.l0] at h
 | k + 1 => by
  have ih0 := cuspref02_up.mono_l k
  ·intro y0 y1 y2 y3 y4
   unfold cuspref02_up.l0
   repeat' first
   | (with_reducible exact ih0 _ _ _ _ _)
   | (with_reducible exact cuspref02_trim.mono _ _)
   | (with_reducible exact LeO.refl _)
   | (with_reducible exact LeO.none _)
   | (with_reducible refine LeO.ite ?_ ?_)
   | (with_reducible refine LeO.bind ?_ (fun _ => ?_))
   | exact ih0 _ _ _ _ _
   | exact cuspref02_trim.mono _ _
   | exact LeO.none _
   | refine LeO.ite ?_ ?_
   | refine LeO.bind ?_ (fun _ => ?_)
theorem cuspref02_up.mono : ∀ a0 a1 k, LeO (cuspref02_up.f k a0 a1) (cuspref02_up.f (k + 1) a0 a1) := by
 intro a0 a1 k
 have ih0 := cuspref02_up.mono_l k
 unfold cuspref02_up.f
 repeat' first
   | (with_reducible exact ih0 _ _ _ _ _)
   | (with_reducible exact cuspref02_trim.mono _ _)
   | (with_reducible exact LeO.refl _)
   | (with_reducible exact LeO.none _)
   | (with_reducible refine LeO.ite ?_ ?_)
   | (with_reducible refine LeO.bind ?_ (fun _ => ?_))
   | exact ih0 _ _ _ _ _
   | exact cuspref02_trim.mono _ _
   | exact LeO.none _
   | refine LeO.ite ?_ ?_
   | refine LeO.bind ?_ (fun _ => ?_)
theorem cuspref02_up.calls (k : Nat) (A0 : Option Addr) (c0 : Nat) (l0 : List Int) (a1 : Int) (r : List Int) (w : World) (hr0 : Kd.C (Kd.int .u32) w A0 l0.length l0) (hc0 : l0.length ≤ c0) (h : cuspref02_up.f k l0 a1 = some r) :
  Calls Tryz.prog 64 #[.slice A0 l0.length c0, .int .i64 a1] w fun e w' => ∃ v0_ : Value, e = .returned (v0_) ∧ Kd.R (Kd.int .u32) 83 w' w.heap.size (fun _ => True) v0_ r ∧ Below w.heap.size w w' := by
 have HR0 := asd hr0
 have HC0 := asd hc0
 clear hr0 hc0
 have HB := asd (Below.refl w.heap.size w)
 have H : (if (l0.length : Int) = 0 then (some ([] : List Int)) else (if 0 ≤ (wrap64 (Int.tdiv a1 32)) then (if (wrap64 (Int.tdiv a1 32) : Int).toNat ≤ 70368744177664 then (cuspref02_up.l0 k l0 (List.replicate (wrap64 (Int.tdiv a1 32) : Int).toNat 0) (IntKind.u64.wrap (Int.tmod a1 32)) 0 0) else (none)) else (none))) = some r := h
 clear h
 by_cases c3 : (l0.length : Int) = 0
 ·rw [if_pos c3] at H
  have c3b0 : ((l0.length : Int) == 0) = true := beq_iff_eq.mpr c3
  have c3b1 : ((l0.length : Int) != 0) = false := bne_eq_false_iff_eq.mpr c3
  clear c3
  obtain rfl := Option.some.inj H
  go_enter Tryz.func64, Tryz.ntmps64
  go_wp2
  go_ret
  exact ⟨_, eqC, by first | exact Kd.R_nil _ _ _ _ _ | exact Kd.N_nil _ _ _ _ _ | exact Kd.V_nil _ _ _ _ _ | exact Kd.Q_nil _ _ _ _ _ | exact Kd.S_nil _ _ _ _ _, hbw⟩
 ·rw [if_neg c3] at H
  have c3b0 : ((l0.length : Int) == 0) = false := beq_eq_false_iff_ne.mpr c3
  have c3b1 : ((l0.length : Int) != 0) = true := bne_iff_ne.mpr c3
  have c3b2 : ¬ (l0 = []) := fun h_ => c3 (by rw [h_]; rfl)
  obtain ⟨ji4, hji4⟩ : ∃ j_ : Int, (wrap64 (Int.tdiv a1 32)) = j_ := ⟨_, rfl⟩
  replace H : (if 0 ≤ (ji4) then (if (ji4 : Int).toNat ≤ 70368744177664 then (cuspref02_up.l0 k l0 (List.replicate (ji4 : Int).toNat 0) (IntKind.u64.wrap (Int.tmod a1 32)) 0 0) else (none)) else (none)) = some r := by first | (rw [hji4] at H; exact H) | (simp only [hji4] at H ⊢; exact H)
  have hji4w : (IntKind.i64.wrap (Int.tdiv a1 32)) = ji4 := (i64_w _).trans hji4
  by_cases c5 : 0 ≤ (ji4)
  ·rw [if_pos c5] at H
   have c5b0 := eq_true c5
   have c5b1 : decide (0 ≤ (ji4)) = true := decide_eq_true c5
   clear c5
   by_cases c6 : (ji4 : Int).toNat ≤ 70368744177664
   ·rw [if_pos c6] at H
    have c6b0 := eq_true c6
    have c6b1 : decide ((ji4 : Int).toNat ≤ 70368744177664) = true := decide_eq_true c6
    clear c6
    obtain ⟨y265, hy265⟩ : ∃ y_ : List Int, y_ = (List.replicate (ji4 : Int).toNat 0) := ⟨_, rfl⟩
    replace H : (cuspref02_up.l0 k l0 y265 (IntKind.u64.wrap (Int.tmod a1 32)) 0 0) = some r := by first | (rw [hy265]; with_reducible exact H) | (have H2_ := (Option.bind_some _ _).symm.trans H; rw [hy265]; with_reducible exact H2_) | (have H2_ := (Option.bind_some _ _).symm.trans H; with_reducible exact H2_) | with_reducible exact H | (rw [hy265]; exact H) | exact H
    have Ny265 := asd hy265
    clear hy265
    have H' := asd H
    clear H
    go_enter Tryz.func64, Tryz.ntmps64
    go_wp2_with (first | ((with_reducible refine gate_dst (N := 15) rfl ?_); refine Kd.R_make (Kd.int .u32) _ 83 rfl (N := 15) rfl 39 _ _ rfl ji4 rfl rfl Tryz.underlying39 (.int .u32 0) 4 info83 rfl (by decide) (by omega) 0 (ok := fun _ => True) (okp := fun _ => True) rfl (fun _ hk => hk) trivial (of_decide_eq_true (by first | (with_reducible assumption) | assumption)) (Nat.le_trans (Nat.mul_le_mul_right _ (of_decide_eq_true (by first | (with_reducible assumption) | assumption) : ji4.toNat ≤ 70368744177664)) (by omega)) (Below.refl _ _) (Nat.le_refl _) ?_; intro v266 w7 ho8 hb hg_ hnew_; clear hg_ hnew_; (first | rw [← Ny265.out] at ho8 | (simp only [Int.reduceToNat] at ho8; rw [← Ny265.out] at ho8)); have n0_ := asd (Kd.R_lower ho8 (below_size hbw)); have n1_ := asd (below_step hbw hb); clear HB; have HO267 := n0_; have HB := n1_; clear n0_ n1_; clear hb ho8))
    go_loopg [5, 7, 8] k (fun kq v5 v7 v8 w' => ∃ (x5_1 : List Int) (x7_1 : Int) (x8_1 : Int), v7 = .int .u32 x7_1 ∧ v8 = .int .i64 x8_1 ∧ Aside0 (cuspref02_up.l0 kq l0 x5_1 (IntKind.u64.wrap (Int.tmod a1 32)) x7_1 x8_1 = some r) ∧ Aside0 (kq ≤ k) ∧ Aside0 (Kd.R (Kd.int .u32) 83 w' w.heap.size (fun _ => True) v5 x5_1) ∧ Aside0 (Below w.heap.size w w'))
    case atStart => exact ⟨(y265), (0), (0), eqB, eqB, H', ⟨Nat.le_refl _⟩, ⟨by (with_reducible repeat (first | apply Kd.R_alloc | apply Kd.R_drewN | apply Kd.R_drew)); exact HO267.out⟩, ⟨hbw⟩⟩
    case round =>
     clear H'
     try clear p2
     try clear c3
     try clear c3b0
     try clear c3b1
     try clear c3b2
     try clear c5
     try clear c5b0
     try clear c5b1
     try clear c6
     try clear c6b0
     try clear c6b1
     try clear p6
     obtain ⟨x5_1, x7_1, x8_1, rfl, rfl, HA, HK1, HO_5, HB⟩ := hrel
     cases gk with
     | zero => exact absurd HA.out (by simp [cuspref02_up.l0])
     | succ k1 =>
      have H := HA.out
      clear HA
      simp only [cuspref02_up.l0] at H
      by_cases c9 : x8_1 < (l0.length : Int)
      ·rw [if_pos c9] at H
       have c9b0 : decide (x8_1 < (l0.length : Int)) = true := decide_eq_true c9
       clear c9
       by_cases c10 : 0 ≤ x8_1
       ·rw [if_pos c10] at H
        have c10b0 : decide (0 ≤ x8_1) = true := decide_eq_true c10
        clear c10
        obtain ⟨ji11, hji11⟩ : ∃ j_ : Int, (IntKind.u64.wrap (Int.tmod a1 32)) = j_ := ⟨_, rfl⟩
        replace H : (if 0 ≤ (ji11) then (if x5_1.length < 35184372088832 then (cuspref02_up.l0 k1 l0 (x5_1 ++ [(Go.bits .or .u64 (shl .u64 (IntKind.u64.wrap (rd l0 x8_1)) (ji11)) (IntKind.u64.wrap (x7_1))) % 4294967296]) (ji11) (((Go.bits .or .u64 (shl .u64 (IntKind.u64.wrap (rd l0 x8_1)) (ji11)) (IntKind.u64.wrap (x7_1))) / 4294967296) % 4294967296) (wrap64 (x8_1 + 1))) else (none)) else (none)) = some r := by first | (rw [hji11] at H; exact H) | (simp only [hji11] at H ⊢; exact H)
        by_cases c12 : 0 ≤ (ji11)
        ·rw [if_pos c12] at H
         have c12b0 := eq_true c12
         have c12b1 : decide (0 ≤ (ji11)) = true := decide_eq_true c12
         clear c12
         obtain ⟨ji13, hji13⟩ : ∃ j_ : Int, (shl .u64 (IntKind.u64.wrap (rd l0 x8_1)) (ji11)) = j_ := ⟨_, rfl⟩
         replace H : (if x5_1.length < 35184372088832 then (cuspref02_up.l0 k1 l0 (x5_1 ++ [(Go.bits .or .u64 (ji13) (IntKind.u64.wrap (x7_1))) % 4294967296]) (ji11) (((Go.bits .or .u64 (ji13) (IntKind.u64.wrap (x7_1))) / 4294967296) % 4294967296) (wrap64 (x8_1 + 1))) else (none)) = some r := by first | (rw [hji13] at H; exact H) | (simp only [hji13] at H ⊢; exact H)
         have hji13_ : (IntKind.u64.wrap ((IntKind.u64.wrap (rd l0 x8_1)) * 2 ^ min (ji11).toNat 64)) = ji13 := hji13
         have hji13z : (ji11) ≤ 64 → (IntKind.u64.wrap ((IntKind.u64.wrap (rd l0 x8_1)) * 2 ^ (ji11).toNat)) = ji13 := shl_small hji13
         by_cases c14 : x5_1.length < 35184372088832
         ·rw [if_pos c14] at H
          have LMc14 := asd c14
          clear c14
          obtain ⟨y269, hy269⟩ : ∃ y_ : List Int, y_ = (x5_1 ++ [(Go.bits .or .u64 (ji13) (IntKind.u64.wrap (x7_1))) % 4294967296]) := ⟨_, rfl⟩
          replace H : (cuspref02_up.l0 k1 l0 y269 (ji11) (((Go.bits .or .u64 (ji13) (IntKind.u64.wrap (x7_1))) / 4294967296) % 4294967296) (wrap64 (x8_1 + 1))) = some r := by first | (rw [hy269]; with_reducible exact H) | (have H2_ := (Option.bind_some _ _).symm.trans H; rw [hy269]; with_reducible exact H2_) | (have H2_ := (Option.bind_some _ _).symm.trans H; with_reducible exact H2_) | with_reducible exact H | (rw [hy269]; exact H) | exact H
          have Ny269 := asd hy269
          clear hy269
          have H' := asd H
          clear H
          have p268 : 0 ≤ (x8_1 : Int) := of_decide_eq_true (by first | (with_reducible assumption) | assumption)
          have q268 : x8_1 < (l0.length : Int) := of_decide_eq_true (by first | (with_reducible assumption) | assumption)
          obtain ⟨ad268, e268, hx268_0⟩ := Kd.at_int HR0.out x8_1 p268 q268
          cases e268
          replace hx268_0 := (HB.out.cell (World.block_lt_of_cell? w _ hx268_0)).trans hx268_0
          replace p268 := eq_true p268
          replace q268 := eq_true q268
          go_wp2_with (first | ((with_reducible refine gate_builtin (b := .append) (xs := #[.tmp 35, .tmp 38]) rfl ?_); at_builtin; refine Kd.R_append (Kd.int .u32) (w0 := w) w.heap.size rfl (.tmp 35) (.tmp 38) 39 83 (.int .u32 0) 4 rfl Tryz.underlying39 info83 rfl (by decide) (by omega) u5 x5_1 ((Go.bits .or .u64 (ji13) (IntKind.u64.wrap (x7_1))) % 4294967296) [.int .u32 ((Go.bits .or .u64 (ji13) (IntKind.u64.wrap (x7_1))) % 4294967296)] (fun _ => True) (fun _ => False) rfl rfl ?aP (fun _ hk => hk.elim) ?aF ?aO ?aB ?aS ?aL ?_; (case aP => exact rfl); (case aB => exact hbw); (case aF => exact (fun _ _ => trivial)); (case aO => exact (rUp HO_5.out)); (case aS => exact (below_size hbw)); (case aL => have := LMc14.out; omega); intro v270 w15 ho hb hg hat; rw [← Ny269.out] at ho; have n0_ := asd (hb); have n1_ := asd (ho); clear HB; clear HO_5; have HB := n0_; have HO271 := n1_; clear n0_ n1_; clear ho hb hg hat))
          subst hji11
          go_roundg k1
          case measure => have := HK1.out; omega
          case rel => exact ⟨(y269), (((Go.bits .or .u64 (ji13) (IntKind.u64.wrap (x7_1))) / 4294967296) % 4294967296), (wrap64 (x8_1 + 1)), (by first | rfl | (simp; done) | (simp only [← hji13] <;> (first | rfl | simp)) | (simp [*]; done)), eqB, H', ⟨by have := HK1.out; omega⟩, ⟨by (with_reducible repeat (first | apply Kd.R_alloc | apply Kd.R_drewN | apply Kd.R_drew)); exact HO271.out⟩, ⟨hbw⟩⟩
         ·rw [if_neg c14] at H
          exact absurd H (by simp)
        ·rw [if_neg c12] at H
         exact absurd H (by simp)
       ·rw [if_neg c10] at H
        exact absurd H (by simp)
      ·rw [if_neg c9] at H
       have c9b0 : decide (x8_1 < (l0.length : Int)) = false := decide_eq_false c9
       clear c9
       by_cases c16 : x5_1.length < 35184372088832
       ·rw [if_pos c16] at H
        have LMc16 := asd c16
        clear c16
        obtain ⟨y272, hy272⟩ : ∃ y_ : List Int, y_ = (x5_1 ++ [x7_1]) := ⟨_, rfl⟩
        replace H : ((cuspref02_trim.f k1 y272).bind fun t275 => (some t275)) = some r := by first | (rw [hy272]; with_reducible exact H) | (have H2_ := (Option.bind_some _ _).symm.trans H; rw [hy272]; with_reducible exact H2_) | (have H2_ := (Option.bind_some _ _).symm.trans H; with_reducible exact H2_) | with_reducible exact H | (rw [hy272]; exact H) | exact H
        have Ny272 := asd hy272
        clear hy272
        replace H := Option.bind_eq_some_iff.mp H
        obtain ⟨t275, A170, H⟩ := H
        replace H : (some t275) = some r := H
        have A17 := asd A170
        clear A170
        obtain rfl := Option.some.inj H
        go_wp2_with (first | ((with_reducible refine gate_builtin (b := .append) (xs := #[.tmp 43, .tmp 45]) rfl ?_); at_builtin; refine Kd.R_append (Kd.int .u32) (w0 := w) w.heap.size rfl (.tmp 43) (.tmp 45) 39 83 (.int .u32 0) 4 rfl Tryz.underlying39 info83 rfl (by decide) (by omega) u5 x5_1 x7_1 [.int .u32 x7_1] (fun _ => True) (fun _ => False) rfl rfl ?aP (fun _ hk => hk.elim) ?aF ?aO ?aB ?aS ?aL ?_; (case aP => exact rfl); (case aB => exact hbw); (case aF => exact (fun _ _ => trivial)); (case aO => exact (rUp HO_5.out)); (case aS => exact (below_size hbw)); (case aL => have := LMc16.out; omega); intro v273 w18 ho hb hg hat; rw [← Ny272.out] at ho; have n0_ := asd (hb); have n1_ := asd (ho); clear HB; clear HO_5; have HB := n0_; have HO274 := n1_; clear n0_ n1_; clear ho hb hg hat; obtain ⟨Ao19, co19, eo19⟩ := Kd.R_slice HO274.out; subst eo19) | ((with_reducible refine gate_callee (f := 99) rfl ?_); refine goesL_ (some 47) rfl rfl Tryz.func99 (by kernel_rfl) rfl #[.slice Ao19 y272.length co19] rfl eqA ?_; (with_reducible refine (cuspref02_trim.calls k1 (fun k_ => some k_ = (.slice Ao19 y272.length co19 : Value).ownBlock) (.slice Ao19 y272.length co19) y272 t275 w _ ?side1 ?side2 A17.out).mono ?_); (case side1 => repeat (first | (with_reducible first | exact HB.out | apply below_alloc | apply pw_below_drewN | apply below_drew1) | exact HB.out)); (case side2 => exact Kd.R_tight rfl HO274.out); rintro e w20 ⟨v276, rfl, ho0, hb, hkp⟩; refine ⟨_, rfl, ?_⟩; have n0_ := asd (Kd.R_mono (ok' := fun k_ => True) ho0 (fun k_ hk_ => trivial)); have n1_ := asd (hb); clear HB; clear HO274; have HO277 := n0_; have HB := n1_; clear n0_ n1_; (try clear hb); (try clear hkp); (try clear ho0)))
        go_ret
        exact ⟨_, by first | rfl | (simp [errW_none, errW_some] <;> rfl) | (simp only [← hji4]; first | rfl | (simp [errW_none, errW_some] <;> rfl)) | (simp [*, errW_none, errW_some] <;> rfl), by (with_reducible repeat (first | apply Kd.R_alloc | apply Kd.R_drewN | apply Kd.R_drew)); exact HO277.out, hbw⟩
       ·rw [if_neg c16] at H
        exact absurd H (by simp)
   ·rw [if_neg c6] at H
    exact absurd H (by simp)
  ·rw [if_neg c5] at H
   exact absurd H (by simp)
def cuspref02_small.f (l0 : List Int) : Option (Int) := if (l0.length : Int) > 1 then (if 1 < (l0.length : Int) then (if (l0.length : Int) > 0 then (if 0 < (l0.length : Int) then (some (Go.bits .or .u64 (IntKind.u64.wrap ((IntKind.u64.wrap (rd l0 1)) * 4294967296)) (IntKind.u64.wrap (rd l0 0)))) else (none)) else (some (IntKind.u64.wrap ((IntKind.u64.wrap (rd l0 1)) * 4294967296)))) else (none)) else (if (l0.length : Int) > 0 then (if 0 < (l0.length : Int) then (some (Go.bits .or .u64 0 (IntKind.u64.wrap (rd l0 0)))) else (none)) else (some 0))
end Go.Proofs.YthmeocigliephaaGreatDoor.PSu
end
section
namespace Go.Proofs.YthmeocigliephaaGreatDoor.PSu
attribute [local go_sem] f64bits_run f64from_run run_float_some max2_int min2_int max_two min_two max_three min_three max_four min_four
def cuspref02_order.l0 : Nat → List Int → List Int → Int → Option (Int)
 | 0, _, _, _ => none
 | k + 1, x0, x1, x5 => if x5 ≥ 0 then (if 0 ≤ x5 then (if x5 < (x0.length : Int) then (if x5 < (x1.length : Int) then (if (rd x0 x5) = (rd x1 x5) then (cuspref02_order.l0 k x0 x1 (wrap64 (x5 - 1))) else (if (rd x0 x5) < (rd x1 x5) then (some (-1)) else (some 1))) else (none)) else (none)) else (none)) else (some 0)
def cuspref02_order.f (k : Nat) (l0 : List Int) (l1 : List Int) : Option (Int) := if (l0.length : Int) = (l1.length : Int) then (cuspref02_order.l0 k l0 l1 (wrap64 ((l0.length : Int) - 1))) else (if (l0.length : Int) < (l1.length : Int) then (some (-1)) else (some 1))
theorem cuspref02_order.mono_l : ∀ k, (∀ y0 y1 y2, LeO (cuspref02_order.l0 k y0 y1 y2) (cuspref02_order.l0 (k + 1) y0 y1 y2))
 | 0 => fun _ _ _ r h => by simp [cuspref02_order.l0] at h
 | k + 1 => by
  have ih0 := cuspref02_order.mono_l k
  ·intro y0 y1 y2
   unfold cuspref02_order.l0
   repeat' first
   | (with_reducible exact ih0 _ _ _)
   | (with_reducible exact LeO.refl _)
   | (with_reducible exact LeO.none _)
   | (with_reducible refine LeO.ite ?_ ?_)
   | (with_reducible refine LeO.bind ?_ (fun _ => ?_))
   | exact ih0 _ _ _
   | exact LeO.none _
   | refine LeO.ite ?_ ?_
   | refine LeO.bind ?_ (fun _ => ?_)
theorem cuspref02_order.mono : ∀ a0 a1 k, LeO (cuspref02_order.f k a0 a1) (cuspref02_order.f (k + 1) a0 a1) := by
 intro a0 a1 k
 have ih0 := cuspref02_order.mono_l k
 unfold cuspref02_order.f
 repeat' first
   | (with_reducible exact ih0 _ _ _)
   | (with_reducible exact LeO.refl _)
   | (with_reducible exact LeO.none _)
   | (with_reducible refine LeO.ite ?_ ?_)
   | (with_reducible refine LeO.bind ?_ (fun _ => ?_))
   | exact ih0 _ _ _
   | exact LeO.none _
   | refine LeO.ite ?_ ?_
   | refine LeO.bind ?_ (fun _ => ?_)
theorem cuspref02_order.calls (k : Nat) (A0 : Option Addr) (c0 : Nat) (l0 : List Int) (A1 : Option Addr) (c1 : Nat) (l1 : List Int) (r : Int) (w : World) (hr0 : Kd.C (Kd.int .u32) w A0 l0.length l0) (hc0 : l0.length ≤ c0) (hr1 : Kd.C (Kd.int .u32) w A1 l1.length l1) (hc1 : l1.length ≤ c1) (h : cuspref02_order.f k l0 l1 = some r) :
  Calls Tryz.prog 67 #[.slice A0 l0.length c0, .slice A1 l1.length c1] w fun e w' => e = .returned (.int .i64 r) ∧ Drawn0 w w' := by
 have HR0 := asd hr0
 have HC0 := asd hc0
 clear hr0 hc0
 have HR1 := asd hr1
 have HC1 := asd hc1
 clear hr1 hc1
 have H : (if (l0.length : Int) = (l1.length : Int) then (cuspref02_order.l0 k l0 l1 (wrap64 ((l0.length : Int) - 1))) else (if (l0.length : Int) < (l1.length : Int) then (some (-1)) else (some 1))) = some r := h
 clear h
 by_cases c3 : (l0.length : Int) = (l1.length : Int)
 ·rw [if_pos c3] at H
  have c3b0 : ((l0.length : Int) == (l1.length : Int)) = true := beq_iff_eq.mpr c3
  have c3b1 : ((l0.length : Int) != (l1.length : Int)) = false := bne_eq_false_iff_eq.mpr c3
  have c3b2 : (l0.length == l1.length) = true := by first | simpa using c3 | (simp at c3 ⊢; omega)
  clear c3
  have H' := asd H
  clear H
  go_enter Tryz.func67, Tryz.ntmps67
  go_wp2
  repeat (go_quiet (fail); try go_wp2)
  go_loopg [5] k (fun kq v5 w' => ∃ (x5_1 : Int), v5 = .int .i64 x5_1 ∧ Aside0 (cuspref02_order.l0 kq l0 l1 x5_1 = some r) ∧ Aside0 (kq ≤ k) ∧ Drawn0 w w')
  case atStart => exact ⟨(wrap64 ((l0.length : Int) - 1)), eqB, H', ⟨Nat.le_refl _⟩, dn0⟩
  case round =>
   clear H'
   try clear c1
   try clear p2
   try clear c3
   try clear c3b0
   try clear c3b1
   try clear c3b2
   obtain ⟨x5_1, rfl, HA, HK1, ⟨m1, rfl⟩⟩ := hrel
   cases gk with
   | zero => exact absurd HA.out (by simp [cuspref02_order.l0])
   | succ k1 =>
    have H := HA.out
    clear HA
    simp only [cuspref02_order.l0] at H
    by_cases c4 : x5_1 ≥ 0
    ·rw [if_pos c4] at H
     have c4b0 : decide (0 ≤ x5_1) = true := decide_eq_true c4
     clear c4
     by_cases c5 : 0 ≤ x5_1
     ·rw [if_pos c5] at H
      have c5b0 : decide (0 ≤ x5_1) = true := decide_eq_true c5
      clear c5
      by_cases c6 : x5_1 < (l0.length : Int)
      ·rw [if_pos c6] at H
       have c6b0 : decide (x5_1 < (l0.length : Int)) = true := decide_eq_true c6
       clear c6
       by_cases c7 : x5_1 < (l1.length : Int)
       ·rw [if_pos c7] at H
        have c7b0 : decide (x5_1 < (l1.length : Int)) = true := decide_eq_true c7
        clear c7
        by_cases c8 : (rd l0 x5_1) = (rd l1 x5_1)
        ·rw [if_pos c8] at H
         have c8b0 : ((rd l0 x5_1) == (rd l1 x5_1)) = true := beq_iff_eq.mpr c8
         have c8b1 : ((rd l0 x5_1) != (rd l1 x5_1)) = false := bne_eq_false_iff_eq.mpr c8
         clear c8
         have H' := asd H
         clear H
         have p342 : 0 ≤ (x5_1 : Int) := of_decide_eq_true (by first | (with_reducible assumption) | assumption)
         have q342 : x5_1 < (l0.length : Int) := of_decide_eq_true (by first | (with_reducible assumption) | assumption)
         obtain ⟨ad342, e342, hx342_0⟩ := Kd.at_int HR0.out x5_1 p342 q342
         cases e342
         replace p342 := eq_true p342
         replace q342 := eq_true q342
         have p343 : 0 ≤ (x5_1 : Int) := of_decide_eq_true (by first | (with_reducible assumption) | assumption)
         have q343 : x5_1 < (l1.length : Int) := of_decide_eq_true (by first | (with_reducible assumption) | assumption)
         obtain ⟨ad343, e343, hx343_0⟩ := Kd.at_int HR1.out x5_1 p343 q343
         cases e343
         replace p343 := eq_true p343
         replace q343 := eq_true q343
         go_wp2
         repeat (go_quiet (fail); try go_wp2)
         go_roundg k1
         case measure => have := HK1.out; omega
         case rel => exact ⟨(wrap64 (x5_1 - 1)), eqB, H', ⟨by have := HK1.out; omega⟩, dn0⟩
        ·rw [if_neg c8] at H
         have c8b0 : ((rd l0 x5_1) == (rd l1 x5_1)) = false := beq_eq_false_iff_ne.mpr c8
         have c8b1 : ((rd l0 x5_1) != (rd l1 x5_1)) = true := bne_iff_ne.mpr c8
         by_cases c9 : (rd l0 x5_1) < (rd l1 x5_1)
         ·rw [if_pos c9] at H
          have c9b0 : decide ((rd l0 x5_1) < (rd l1 x5_1)) = true := decide_eq_true c9
          clear c9
          obtain rfl := Option.some.inj H
          have p342 : 0 ≤ (x5_1 : Int) := of_decide_eq_true (by first | (with_reducible assumption) | assumption)
          have q342 : x5_1 < (l0.length : Int) := of_decide_eq_true (by first | (with_reducible assumption) | assumption)
          obtain ⟨ad342, e342, hx342_0⟩ := Kd.at_int HR0.out x5_1 p342 q342
          cases e342
          replace p342 := eq_true p342
          replace q342 := eq_true q342
          have p343 : 0 ≤ (x5_1 : Int) := of_decide_eq_true (by first | (with_reducible assumption) | assumption)
          have q343 : x5_1 < (l1.length : Int) := of_decide_eq_true (by first | (with_reducible assumption) | assumption)
          obtain ⟨ad343, e343, hx343_0⟩ := Kd.at_int HR1.out x5_1 p343 q343
          cases e343
          replace p343 := eq_true p343
          replace q343 := eq_true q343
          have p344 : 0 ≤ (x5_1 : Int) := of_decide_eq_true (by first | (with_reducible assumption) | assumption)
          have q344 : x5_1 < (l0.length : Int) := of_decide_eq_true (by first | (with_reducible assumption) | assumption)
          obtain ⟨ad344, e344, hx344_0⟩ := Kd.at_int HR0.out x5_1 p344 q344
          obtain rfl : ad342 = ad344 := (by injection e344)
          replace p344 := eq_true p344
          replace q344 := eq_true q344
          have p345 : 0 ≤ (x5_1 : Int) := of_decide_eq_true (by first | (with_reducible assumption) | assumption)
          have q345 : x5_1 < (l1.length : Int) := of_decide_eq_true (by first | (with_reducible assumption) | assumption)
          obtain ⟨ad345, e345, hx345_0⟩ := Kd.at_int HR1.out x5_1 p345 q345
          obtain rfl : ad343 = ad345 := (by injection e345)
          replace p345 := eq_true p345
          replace q345 := eq_true q345
          go_wp2
          repeat (go_quiet (fail); try go_wp2)
          go_ret
          exact ⟨eqB, dn0⟩
         ·rw [if_neg c9] at H
          have c9b0 : decide ((rd l0 x5_1) < (rd l1 x5_1)) = false := decide_eq_false c9
          clear c9
          obtain rfl := Option.some.inj H
          have p342 : 0 ≤ (x5_1 : Int) := of_decide_eq_true (by first | (with_reducible assumption) | assumption)
          have q342 : x5_1 < (l0.length : Int) := of_decide_eq_true (by first | (with_reducible assumption) | assumption)
          obtain ⟨ad342, e342, hx342_0⟩ := Kd.at_int HR0.out x5_1 p342 q342
          cases e342
          replace p342 := eq_true p342
          replace q342 := eq_true q342
          have p343 : 0 ≤ (x5_1 : Int) := of_decide_eq_true (by first | (with_reducible assumption) | assumption)
          have q343 : x5_1 < (l1.length : Int) := of_decide_eq_true (by first | (with_reducible assumption) | assumption)
          obtain ⟨ad343, e343, hx343_0⟩ := Kd.at_int HR1.out x5_1 p343 q343
          cases e343
          replace p343 := eq_true p343
          replace q343 := eq_true q343
          have p344 : 0 ≤ (x5_1 : Int) := of_decide_eq_true (by first | (with_reducible assumption) | assumption)
          have q344 : x5_1 < (l0.length : Int) := of_decide_eq_true (by first | (with_reducible assumption) | assumption)
          obtain ⟨ad344, e344, hx344_0⟩ := Kd.at_int HR0.out x5_1 p344 q344
          obtain rfl : ad342 = ad344 := (by injection e344)
          replace p344 := eq_true p344
          replace q344 := eq_true q344
          have p345 : 0 ≤ (x5_1 : Int) := of_decide_eq_true (by first | (with_reducible assumption) | assumption)
          have q345 : x5_1 < (l1.length : Int) := of_decide_eq_true (by first | (with_reducible assumption) | assumption)
          obtain ⟨ad345, e345, hx345_0⟩ := Kd.at_int HR1.out x5_1 p345 q345
          obtain rfl : ad343 = ad345 := (by injection e345)
          replace p345 := eq_true p345
          replace q345 := eq_true q345
          go_wp2
          repeat (go_quiet (fail); try go_wp2)
          go_ret
          exact ⟨eqB, dn0⟩
       ·rw [if_neg c7] at H
        exact absurd H (by simp)
      ·rw [if_neg c6] at H
       exact absurd H (by simp)
     ·rw [if_neg c5] at H
      exact absurd H (by simp)
    ·rw [if_neg c4] at H
     have c4b0 : decide (0 ≤ x5_1) = false := decide_eq_false c4
     clear c4
     obtain rfl := Option.some.inj H
     go_wp2
     repeat (go_quiet (fail); try go_wp2)
     go_ret
     exact ⟨eqB, dn0⟩
 ·rw [if_neg c3] at H
  have c3b0 : ((l0.length : Int) == (l1.length : Int)) = false := beq_eq_false_iff_ne.mpr c3
  have c3b1 : ((l0.length : Int) != (l1.length : Int)) = true := bne_iff_ne.mpr c3
  have c3b2 : (l0.length == l1.length) = false := by first | simpa using c3 | (simp at c3 ⊢; omega)
  by_cases c10 : (l0.length : Int) < (l1.length : Int)
  ·rw [if_pos c10] at H
   have c10b0 : decide ((l0.length : Int) < (l1.length : Int)) = true := decide_eq_true c10
   have c10b1 : decide (l0.length < l1.length) = true := decide_eq_true (Int.ofNat_lt.mp c10)
   clear c10
   obtain rfl := Option.some.inj H
   go_enter Tryz.func67, Tryz.ntmps67
   go_wp2
   repeat (go_quiet (fail); try go_wp2)
   go_ret
   exact ⟨eqB, dn0⟩
  ·rw [if_neg c10] at H
   have c10b0 : decide ((l0.length : Int) < (l1.length : Int)) = false := decide_eq_false c10
   have c10b1 : decide (l0.length < l1.length) = false := decide_eq_false (fun h => c10 (Int.ofNat_lt.mpr h))
   clear c10
   obtain rfl := Option.some.inj H
   go_enter Tryz.func67, Tryz.ntmps67
   go_wp2
   repeat (go_quiet (fail); try go_wp2)
   go_ret
   exact ⟨eqB, dn0⟩
def cuspref02_less.l0 : Nat → List Int → List Int → List Int → Int → Int → Option (List Int)
 | 0, _, _, _, _, _ => none
 | k + 1, x0, x1, x5, x6, x7 => if x7 < (x0.length : Int) then (if 0 ≤ x7 then (if x7 < (x1.length : Int) then (if x5.length < 35184372088832 then (cuspref02_less.l0 k x0 x1 (x5 ++ [(IntKind.u64.wrap ((IntKind.u64.wrap ((IntKind.u64.wrap (rd x0 x7)) - x6)) - (IntKind.u64.wrap (rd x1 x7)))) % 4294967296]) ((IntKind.u64.wrap ((IntKind.u64.wrap ((IntKind.u64.wrap (rd x0 x7)) - x6)) - (IntKind.u64.wrap (rd x1 x7)))) / 9223372036854775808) (wrap64 (x7 + 1))) else (none)) else (if x5.length < 35184372088832 then (cuspref02_less.l0 k x0 x1 (x5 ++ [(IntKind.u64.wrap ((IntKind.u64.wrap (rd x0 x7)) - x6)) % 4294967296]) ((IntKind.u64.wrap ((IntKind.u64.wrap (rd x0 x7)) - x6)) / 9223372036854775808) (wrap64 (x7 + 1))) else (none))) else (none)) else ((cuspref02_trim.f k x5).bind fun t354 => (some t354))
def cuspref02_less.f (k : Nat) (l0 : List Int) (l1 : List Int) : Option (List Int) := cuspref02_less.l0 k l0 l1 ([] : List Int) 0 0
theorem cuspref02_less.calls (k : Nat) (A0 : Option Addr) (c0 : Nat) (l0 : List Int) (A1 : Option Addr) (c1 : Nat) (l1 : List Int) (r : List Int) (w : World) (hr0 : Kd.C (Kd.int .u32) w A0 l0.length l0) (hc0 : l0.length ≤ c0) (hr1 : Kd.C (Kd.int .u32) w A1 l1.length l1) (hc1 : l1.length ≤ c1) (h : cuspref02_less.f k l0 l1 = some r) :
  Calls Tryz.prog 68 #[.slice A0 l0.length c0, .slice A1 l1.length c1] w fun e w' => ∃ v0_ : Value, e = .returned (v0_) ∧ Kd.R (Kd.int .u32) 83 w' w.heap.size (fun _ => True) v0_ r ∧ Below w.heap.size w w' := by
 have HR0 := asd hr0
 have HC0 := asd hc0
 clear hr0 hc0
 have HR1 := asd hr1
 have HC1 := asd hc1
 clear hr1 hc1
 have HB := asd (Below.refl w.heap.size w)
 have H : (cuspref02_less.l0 k l0 l1 ([] : List Int) 0 0) = some r := h
 clear h
 have H' := asd H
 clear H
 go_enter Tryz.func68, Tryz.ntmps68
 go_wp2
 go_loopg [5, 6, 7] k (fun kq v5 v6 v7 w' => ∃ (x5_1 : List Int) (x6_1 : Int) (x7_1 : Int), v6 = .int .u64 x6_1 ∧ v7 = .int .i64 x7_1 ∧ Aside0 (cuspref02_less.l0 kq l0 l1 x5_1 x6_1 x7_1 = some r) ∧ Aside0 (kq ≤ k) ∧ Aside0 (Kd.R (Kd.int .u32) 83 w' w.heap.size (fun _ => True) v5 x5_1) ∧ Aside0 (Below w.heap.size w w'))
 case atStart => exact ⟨(([] : List Int)), (0), (0), eqB, eqB, H', ⟨Nat.le_refl _⟩, ⟨by first | exact Kd.R_nil _ _ _ _ _ | exact Kd.N_nil _ _ _ _ _ | exact Kd.V_nil _ _ _ _ _ | exact Kd.Q_nil _ _ _ _ _ | exact Kd.S_nil _ _ _ _ _⟩, ⟨hbw⟩⟩
 case round =>
  clear H'
  try clear c1
  try clear p2
  obtain ⟨x5_1, x6_1, x7_1, rfl, rfl, HA, HK1, HO_5, HB⟩ := hrel
  cases gk with
  | zero => exact absurd HA.out (by simp [cuspref02_less.l0])
  | succ k1 =>
   have H := HA.out
   clear HA
   simp only [cuspref02_less.l0] at H
   by_cases c3 : x7_1 < (l0.length : Int)
   ·rw [if_pos c3] at H
    have c3b0 : decide (x7_1 < (l0.length : Int)) = true := decide_eq_true c3
    clear c3
    by_cases c4 : 0 ≤ x7_1
    ·rw [if_pos c4] at H
     have c4b0 : decide (0 ≤ x7_1) = true := decide_eq_true c4
     clear c4
     by_cases c5 : x7_1 < (l1.length : Int)
     ·rw [if_pos c5] at H
      have c5b0 : decide (x7_1 < (l1.length : Int)) = true := decide_eq_true c5
      clear c5
      by_cases c6 : x5_1.length < 35184372088832
      ·rw [if_pos c6] at H
       have LMc6 := asd c6
       clear c6
       obtain ⟨y348, hy348⟩ : ∃ y_ : List Int, y_ = (x5_1 ++ [(IntKind.u64.wrap ((IntKind.u64.wrap ((IntKind.u64.wrap (rd l0 x7_1)) - x6_1)) - (IntKind.u64.wrap (rd l1 x7_1)))) % 4294967296]) := ⟨_, rfl⟩
       replace H : (cuspref02_less.l0 k1 l0 l1 y348 ((IntKind.u64.wrap ((IntKind.u64.wrap ((IntKind.u64.wrap (rd l0 x7_1)) - x6_1)) - (IntKind.u64.wrap (rd l1 x7_1)))) / 9223372036854775808) (wrap64 (x7_1 + 1))) = some r := by first | (rw [hy348]; with_reducible exact H) | (have H2_ := (Option.bind_some _ _).symm.trans H; rw [hy348]; with_reducible exact H2_) | (have H2_ := (Option.bind_some _ _).symm.trans H; with_reducible exact H2_) | with_reducible exact H | (rw [hy348]; exact H) | exact H
       have Ny348 := asd hy348
       clear hy348
       have H' := asd H
       clear H
       have p346 : 0 ≤ (x7_1 : Int) := of_decide_eq_true (by first | (with_reducible assumption) | assumption)
       have q346 : x7_1 < (l0.length : Int) := of_decide_eq_true (by first | (with_reducible assumption) | assumption)
       obtain ⟨ad346, e346, hx346_0⟩ := Kd.at_int HR0.out x7_1 p346 q346
       cases e346
       replace hx346_0 := (HB.out.cell (World.block_lt_of_cell? w _ hx346_0)).trans hx346_0
       replace p346 := eq_true p346
       replace q346 := eq_true q346
       have p347 : 0 ≤ (x7_1 : Int) := of_decide_eq_true (by first | (with_reducible assumption) | assumption)
       have q347 : x7_1 < (l1.length : Int) := of_decide_eq_true (by first | (with_reducible assumption) | assumption)
       obtain ⟨ad347, e347, hx347_0⟩ := Kd.at_int HR1.out x7_1 p347 q347
       cases e347
       replace hx347_0 := (HB.out.cell (World.block_lt_of_cell? w _ hx347_0)).trans hx347_0
       replace p347 := eq_true p347
       replace q347 := eq_true q347
       go_wp2_with (first | ((with_reducible refine gate_builtin (b := .append) (xs := #[.tmp 33, .tmp 36]) rfl ?_); at_builtin; refine Kd.R_append (Kd.int .u32) (w0 := w) w.heap.size rfl (.tmp 33) (.tmp 36) 39 83 (.int .u32 0) 4 rfl Tryz.underlying39 info83 rfl (by decide) (by omega) u5 x5_1 ((IntKind.u64.wrap ((IntKind.u64.wrap ((IntKind.u64.wrap (rd l0 x7_1)) - x6_1)) - (IntKind.u64.wrap (rd l1 x7_1)))) % 4294967296) [.int .u32 ((IntKind.u64.wrap ((IntKind.u64.wrap ((IntKind.u64.wrap (rd l0 x7_1)) - x6_1)) - (IntKind.u64.wrap (rd l1 x7_1)))) % 4294967296)] (fun _ => True) (fun _ => False) rfl rfl ?aP (fun _ hk => hk.elim) ?aF ?aO ?aB ?aS ?aL ?_; (case aP => exact rfl); (case aB => exact hbw); (case aF => exact (fun _ _ => trivial)); (case aO => exact (rUp HO_5.out)); (case aS => exact (below_size hbw)); (case aL => have := LMc6.out; omega); intro v349 w7 ho hb hg hat; rw [← Ny348.out] at ho; have n0_ := asd (hb); have n1_ := asd (ho); clear HB; clear HO_5; have HB := n0_; have HO350 := n1_; clear n0_ n1_; clear ho hb hg hat))
       go_roundg k1
       case measure => have := HK1.out; omega
       case rel => exact ⟨(y348), ((IntKind.u64.wrap ((IntKind.u64.wrap ((IntKind.u64.wrap (rd l0 x7_1)) - x6_1)) - (IntKind.u64.wrap (rd l1 x7_1)))) / 9223372036854775808), (wrap64 (x7_1 + 1)), eqB, eqB, H', ⟨by have := HK1.out; omega⟩, ⟨by (with_reducible repeat (first | apply Kd.R_alloc | apply Kd.R_drewN | apply Kd.R_drew)); exact HO350.out⟩, ⟨hbw⟩⟩
      ·rw [if_neg c6] at H
       exact absurd H (by simp)
     ·rw [if_neg c5] at H
      have c5b0 : decide (x7_1 < (l1.length : Int)) = false := decide_eq_false c5
      clear c5
      by_cases c8 : x5_1.length < 35184372088832
      ·rw [if_pos c8] at H
       have LMc8 := asd c8
       clear c8
       obtain ⟨y351, hy351⟩ : ∃ y_ : List Int, y_ = (x5_1 ++ [(IntKind.u64.wrap ((IntKind.u64.wrap (rd l0 x7_1)) - x6_1)) % 4294967296]) := ⟨_, rfl⟩
       replace H : (cuspref02_less.l0 k1 l0 l1 y351 ((IntKind.u64.wrap ((IntKind.u64.wrap (rd l0 x7_1)) - x6_1)) / 9223372036854775808) (wrap64 (x7_1 + 1))) = some r := by first | (rw [hy351]; with_reducible exact H) | (have H2_ := (Option.bind_some _ _).symm.trans H; rw [hy351]; with_reducible exact H2_) | (have H2_ := (Option.bind_some _ _).symm.trans H; with_reducible exact H2_) | with_reducible exact H | (rw [hy351]; exact H) | exact H
       have Ny351 := asd hy351
       clear hy351
       have H' := asd H
       clear H
       have p346 : 0 ≤ (x7_1 : Int) := of_decide_eq_true (by first | (with_reducible assumption) | assumption)
       have q346 : x7_1 < (l0.length : Int) := of_decide_eq_true (by first | (with_reducible assumption) | assumption)
       obtain ⟨ad346, e346, hx346_0⟩ := Kd.at_int HR0.out x7_1 p346 q346
       cases e346
       replace hx346_0 := (HB.out.cell (World.block_lt_of_cell? w _ hx346_0)).trans hx346_0
       replace p346 := eq_true p346
       replace q346 := eq_true q346
       go_wp2_with (first | ((with_reducible refine gate_builtin (b := .append) (xs := #[.tmp 33, .tmp 36]) rfl ?_); at_builtin; refine Kd.R_append (Kd.int .u32) (w0 := w) w.heap.size rfl (.tmp 33) (.tmp 36) 39 83 (.int .u32 0) 4 rfl Tryz.underlying39 info83 rfl (by decide) (by omega) u5 x5_1 ((IntKind.u64.wrap ((IntKind.u64.wrap (rd l0 x7_1)) - x6_1)) % 4294967296) [.int .u32 ((IntKind.u64.wrap ((IntKind.u64.wrap (rd l0 x7_1)) - x6_1)) % 4294967296)] (fun _ => True) (fun _ => False) rfl rfl ?aP (fun _ hk => hk.elim) ?aF ?aO ?aB ?aS ?aL ?_; (case aP => exact rfl); (case aB => exact hbw); (case aF => exact (fun _ _ => trivial)); (case aO => exact (rUp HO_5.out)); (case aS => exact (below_size hbw)); (case aL => have := LMc8.out; omega); intro v352 w9 ho hb hg hat; rw [← Ny351.out] at ho; have n0_ := asd (hb); have n1_ := asd (ho); clear HB; clear HO_5; have HB := n0_; have HO353 := n1_; clear n0_ n1_; clear ho hb hg hat))
       go_roundg k1
       case measure => have := HK1.out; omega
       case rel => exact ⟨(y351), ((IntKind.u64.wrap ((IntKind.u64.wrap (rd l0 x7_1)) - x6_1)) / 9223372036854775808), (wrap64 (x7_1 + 1)), eqB, eqB, H', ⟨by have := HK1.out; omega⟩, ⟨by (with_reducible repeat (first | apply Kd.R_alloc | apply Kd.R_drewN | apply Kd.R_drew)); exact HO353.out⟩, ⟨hbw⟩⟩
      ·rw [if_neg c8] at H
       exact absurd H (by simp)
    ·rw [if_neg c4] at H
     exact absurd H (by simp)
   ·rw [if_neg c3] at H
    have c3b0 : decide (x7_1 < (l0.length : Int)) = false := decide_eq_false c3
    clear c3
    replace H := Option.bind_eq_some_iff.mp H
    obtain ⟨t354, A100, H⟩ := H
    replace H : (some t354) = some r := H
    have A10 := asd A100
    clear A100
    obtain rfl := Option.some.inj H
    obtain ⟨Ao11, co11, eo11⟩ := Kd.R_slice HO_5.out
    subst eo11
    go_wp2_with (first | ((with_reducible refine gate_callee (f := 99) rfl ?_); refine goesL_ (some 41) rfl rfl Tryz.func99 (by kernel_rfl) rfl #[.slice Ao11 x5_1.length co11] rfl eqA ?_; (with_reducible refine (cuspref02_trim.calls k1 (fun k_ => some k_ = (.slice Ao11 x5_1.length co11 : Value).ownBlock) (.slice Ao11 x5_1.length co11) x5_1 t354 w _ ?side1 ?side2 A10.out).mono ?_); (case side1 => repeat (first | (with_reducible first | exact HB.out | apply below_alloc | apply pw_below_drewN | apply below_drew1) | exact HB.out)); (case side2 => exact Kd.R_tight rfl HO_5.out); rintro e w12 ⟨v355, rfl, ho0, hb, hkp⟩; refine ⟨_, rfl, ?_⟩; have n0_ := asd (Kd.R_mono (ok' := fun k_ => True) ho0 (fun k_ hk_ => trivial)); have n1_ := asd (hb); clear HB; clear HO_5; have HO356 := n0_; have HB := n1_; clear n0_ n1_; (try clear hb); (try clear hkp); (try clear ho0)))
    go_ret
    exact ⟨_, eqC, by (with_reducible repeat (first | apply Kd.R_alloc | apply Kd.R_drewN | apply Kd.R_drew)); exact HO356.out, hbw⟩
end Go.Proofs.YthmeocigliephaaGreatDoor.PSu
end
section
namespace Go.Proofs.YthmeocigliephaaGreatDoor.Plain
open Go.Proofs.YthmeocigliephaaGreatDoor.PSu Go.Proofs.YthmeocigliephaaGreatDoor.Big
theorem rtrim_ev (l : List Int) (hd : Dg l) (hb : l.length < 4611686018427387904) : ∀ n : Nat, n ≤ l.length → val (l.drop n) = 0 → Ev (fun k => cuspref02_trim.l0 k l (n : Int)) (dig (val l)) := by
  intro n
  induction n with
  | zero =>
    intro _ h
    rw [List.drop_zero] at h
    rw [h, dig_zero]
    refine Ev.step (f := fun _ => some []) (fun k => ?_) (Ev.now _)
    rw [cuspref02_trim.l0, if_neg (by omega), if_pos (by omega), if_pos (by omega)]
    rfl
  | succ n ih =>
    intro hn h
    have ew : wrap64 (((n + 1 : Nat) : Int) - 1) = (n : Int) := by rw [w64_of (by omega) (by omega)]; omega
    have hs := val_drop_succ l n (by omega)
    rw [h] at hs
    obtain ⟨d, hdd, hd1⟩ := hd.nat n
    rw [hdd] at hs
    by_cases h0 : d = 0
    · subst h0
      refine Ev.step (fun k => ?_) (ih (by omega) (by rw [hs]; rfl))
      rw [cuspref02_trim.l0, if_pos (by omega), ew, if_pos (by omega), if_pos (by omega), rd_nat, hdd, if_pos (by omega)]
    · have hN : Nrm (l.take (n + 1)) := by
        refine (nrm_iff (hd.take _)).2 (.inr ?_)
        rw [List.length_take, Nat.min_eq_left (by omega), Nat.add_sub_cancel, List.getD_eq_getElem?_getD, List.getElem?_take_of_lt (by omega), ← List.getD_eq_getElem?_getD, hdd]
        omega
      have hv : val (l.take (n + 1)) = val l := by
        have := val_take_drop l (n + 1) (by omega)
        rw [h] at this; omega
      have e := dig_val hN
      rw [hv] at e
      rw [e]
      refine Ev.step (f := fun _ => some (l.take (n + 1))) (fun k => ?_) (Ev.now _)
      rw [cuspref02_trim.l0, if_pos (by omega), ew, if_pos (by omega), if_pos (by omega), rd_nat, hdd, if_neg (by omega), if_pos (by omega), if_pos (by omega), Int.toNat_natCast]
theorem rtrim_law {l : List Int} (hd : Dg l) (hb : l.length < 4611686018427387904) : Ev (fun k => cuspref02_trim.f k l) (dig (val l)) :=
  rtrim_ev l hd hb l.length (Nat.le_refl _) (by rw [List.drop_length]; rfl)
theorem up_digit (d c s : Nat) (hd : d < 4294967296) (hs : s < 32) (hc : c < 2 ^ s) :
    bits .or .u64 (shl .u64 (IntKind.u64.wrap (d : Int)) (s : Int)) (IntKind.u64.wrap (c : Int)) = ((d * 2 ^ s + c : Nat) : Int) ∧ (d * 2 ^ s + c) / 4294967296 < 2 ^ s := by
  have hs2 : 2 ^ s ≤ 2147483648 := Nat.pow_le_pow_right (by omega) (show s ≤ 31 by omega)
  have hdm : d * 2 ^ s ≤ 4294967295 * 2 ^ s := Nat.mul_le_mul_right _ (by omega)
  have hmin' : min (s : Int).toNat IntKind.u64.bits = s := by simp [IntKind.bits]; omega
  have h1 : shl .u64 (IntKind.u64.wrap (d : Int)) (s : Int) = ((d * 2 ^ s : Nat) : Int) := by
    unfold shl; rw [hmin', u64_of (x := (d : Int)) (by omega) (by omega), show (d : Int) * 2 ^ s = ((d * 2 ^ s : Nat) : Int) by rw [Int.natCast_mul, Int.natCast_pow]; rfl, u64_of (by omega) (by omega)]
  refine ⟨?_, ?_⟩
  · rw [h1, u64_of (x := (c : Int)) (by omega) (by omega), bits_or_u64_nat _ _ (by omega) (by omega), Nat.mul_comm d, or_add hc]
  · refine Nat.div_lt_of_lt_mul ?_
    omega
theorem rup_ev (p : List Int) (s K : Nat) (hp : Dg p) (hs : s < 32) (hb : K + p.length < 35184372088831) :
    ∀ (d i c : Nat) (y : List Int), d = p.length - i → i ≤ p.length → y.length = i → Dg y → c < 2 ^ s → val y + 2 ^ (32 * i) * c = val (p.take i) * 2 ^ s →
      Ev (fun k => cuspref02_up.l0 k p (List.replicate K 0 ++ y) (s : Int) (c : Int) (i : Int)) (dig (val p * 2 ^ (32 * K + s))) := by
  intro d
  induction d with
  | zero =>
    intro i c y hd hi hy hdy hc hv
    have hi' : i = p.length := by omega
    subst hi'
    rw [List.take_length] at hv
    have hs2 : 2 ^ s ≤ 2147483648 := Nat.pow_le_pow_right (by omega) (show s ≤ 31 by omega)
    have e : val (List.replicate K 0 ++ y ++ [(c : Int)]) = val p * 2 ^ (32 * K + s) := by
      rw [List.append_assoc, val_append, val_zeros, List.length_replicate, Nat.zero_add, val_snoc, hy, Int.toNat_natCast, hv, Nat.pow_add, Nat.mul_comm (2 ^ (32 * K)), Nat.mul_assoc, Nat.mul_comm (2 ^ s)]
    have ht := rtrim_law (l := List.replicate K 0 ++ y ++ [(c : Int)]) (((Dg.zeros K).append hdy).append (Dg.one (by omega) (by omega))) (by simp; omega)
    rw [e] at ht
    refine Ev.step (f := fun k => cuspref02_trim.f k (List.replicate K 0 ++ y ++ [(c : Int)])) (fun k => ?_) ht
    rw [cuspref02_up.l0, if_neg (by omega), if_pos (by simp; omega)]
    cases cuspref02_trim.f k (List.replicate K 0 ++ y ++ [(c : Int)]) <;> rfl
  | succ d ih =>
    intro i c y hd hi hy hdy hc hv
    obtain ⟨pd, hpd, hp1⟩ := hp.nat i
    have tp := val_take_succ' p i
    rw [hpd, Int.toNat_natCast] at tp
    obtain ⟨s1, s3⟩ := up_digit pd c s hp1 hs hc
    have hs2 : 2 ^ s ≤ 2147483648 := Nat.pow_le_pow_right (by omega) (show s ≤ 31 by omega)
    have hnew : val (y ++ [(((pd * 2 ^ s + c) % 4294967296 : Nat) : Int)]) + 2 ^ (32 * (i + 1)) * ((pd * 2 ^ s + c) / 4294967296) = val (p.take (i + 1)) * 2 ^ s := by
      rw [val_snoc, hy, tp, Int.toNat_natCast, pow32_succ, Nat.add_mul, ← hv]
      have h1 : 2 ^ (32 * i) * ((pd * 2 ^ s + c) % 4294967296) + 4294967296 * 2 ^ (32 * i) * ((pd * 2 ^ s + c) / 4294967296) = 2 ^ (32 * i) * (pd * 2 ^ s + c) := by
        rw [Nat.mul_comm 4294967296, Nat.mul_assoc, ← Nat.mul_add]; congr 1; omega
      rw [Nat.mul_add] at h1
      have h2 : 2 ^ (32 * i) * pd * 2 ^ s = 2 ^ (32 * i) * (pd * 2 ^ s) := Nat.mul_assoc _ _ _
      omega
    refine Ev.step (fun k => ?_) (ih (i + 1) ((pd * 2 ^ s + c) / 4294967296) _ (by omega) (by omega) (by simp [hy]) (hdy.append (Dg.one (by omega) (by omega))) s3 hnew)
    rw [cuspref02_up.l0, if_pos (by omega), if_pos (by omega), if_pos (by omega), if_pos (by simp; omega), rd_nat, hpd, s1, w64_succ (by omega), List.append_assoc,
      show ((pd * 2 ^ s + c : Nat) : Int) % 4294967296 = (((pd * 2 ^ s + c) % 4294967296 : Nat) : Int) from by omega, show ((pd * 2 ^ s + c : Nat) : Int) / 4294967296 % 4294967296 = (((pd * 2 ^ s + c) / 4294967296 : Nat) : Int) from by omega]
theorem rup_law (a n : Nat) (hb : (dig a).length + n / 32 < 35184372088831) : Ev (fun k => cuspref02_up.f k (dig a) (n : Int)) (dig (a * 2 ^ n)) := by
  unfold cuspref02_up.f
  by_cases h0 : a = 0
  · subst h0
    rw [Nat.zero_mul, dig_zero]
    exact Ev.congr (fun k => if_pos rfl) (Ev.now _)
  · have hne := dig_ne h0
    have hl : (dig a).length ≠ 0 := fun h => hne (List.length_eq_zero_iff.1 h)
    have h := rup_ev (dig a) (n % 32) (n / 32) (dg_dig a) (by omega) (by omega) _ 0 0 [] rfl (by omega) rfl Dg.nil (Nat.pow_pos (by omega)) (by simp)
    rw [val_dig, show 32 * (n / 32) + n % 32 = n by omega] at h
    have ew : wrap64 (Int.tdiv (n : Int) 32) = ((n / 32 : Nat) : Int) := by
      rw [Int.tdiv_eq_ediv_of_nonneg (by omega), show ((n : Int) / 32) = ((n / 32 : Nat) : Int) by omega, w64_nat (by omega)]
    have em : IntKind.u64.wrap (Int.tmod (n : Int) 32) = ((n % 32 : Nat) : Int) := by rw [Int.tmod_eq_emod_of_nonneg (by omega), u64_of (by omega) (by omega)]; omega
    refine Ev.congr (fun k => ?_) h
    rw [if_neg (by omega), ew, em, if_pos (by omega), Int.toNat_natCast, if_pos (by omega), List.append_nil]
    rfl
theorem rsize_ev : ∀ (d x : Nat), bl d = x → ∀ (n : Nat), n + x < 4611686018427387904 → Ev (fun k => cuspref02_size.l0 k (n : Int) (d : Int)) ((n + x : Nat) : Int) := by
  intro d
  induction d using Nat.strongRecOn with
  | ind d ih =>
    intro x hx n hn
    by_cases h0 : d = 0
    · subst h0
      have : x = 0 := hx.symm
      subst this
      refine Ev.step (f := fun _ => some (n : Int)) (fun k => ?_) (Ev.now _)
      rw [cuspref02_size.l0, if_neg (by omega)]
    · have hx2 : x = bl (d / 2) + 1 := by
        rw [← hx, bl_pos h0, Nat.log2_def d]
        by_cases h1 : 2 ≤ d
        · rw [if_pos h1, bl_pos (by omega)]
        · rw [if_neg h1]
          have : d / 2 = 0 := by omega
          rw [this]; rfl
      have := ih (d / 2) (by omega) _ rfl (n + 1) (by omega)
      rw [show n + 1 + bl (d / 2) = n + x by omega] at this
      refine Ev.step (fun k => ?_) this
      rw [cuspref02_size.l0, if_pos (by omega), w64_succ (by omega), show ((d : Int) / 2) = ((d / 2 : Nat) : Int) by omega]
theorem bl_digits {a : Nat} (h0 : a ≠ 0) : ∃ n td : Nat, (dig a).length = n + 1 ∧ (dig a).getD n 0 = (td : Int) ∧ td < 4294967296 ∧ td ≠ 0 ∧ bl a = 32 * n + bl td := by
  have hne := dig_ne h0
  obtain ⟨n, hn⟩ : ∃ n, (dig a).length = n + 1 := ⟨(dig a).length - 1, by have := List.length_pos_iff.2 hne; omega⟩
  obtain ⟨td, htd, ht1⟩ := (dg_dig a).nat n
  have hnz : td ≠ 0 := by
    rcases (nrm_iff (dg_dig a)).1 (nrm_dig a) with h | h
    · exact absurd h hne
    · rw [hn, Nat.add_sub_cancel, htd] at h; omega
  have hv := val_take_drop (dig a) n (by omega)
  have hd := val_drop_succ (dig a) n (by omega)
  rw [List.drop_of_length_le (l := dig a) (i := n + 1) (by omega), htd, val_nil, Nat.mul_zero, Nat.add_zero, Int.toNat_natCast] at hd
  rw [val_dig, hd] at hv
  have hlt := val_lt ((dg_dig a).take n)
  rw [List.length_take, Nat.min_eq_left (by omega)] at hlt
  refine ⟨n, td, hn, htd, ht1, hnz, ?_⟩
  have h1 := le_bl hnz
  have h2 := lt_bl td
  have h3 : bl td ≠ 0 := by rw [bl_pos hnz]; omega
  rw [show 32 * n + bl td = (32 * n + (bl td - 1)) + 1 by omega]
  apply bl_unique
  · rw [Nat.pow_add, hv]
    have := Nat.mul_le_mul_left (2 ^ (32 * n)) h1
    omega
  · rw [show 32 * n + (bl td - 1) + 1 = 32 * n + bl td by omega, Nat.pow_add, hv]
    have := Nat.mul_le_mul_left (2 ^ (32 * n)) (show td + 1 ≤ 2 ^ bl td by omega)
    rw [Nat.mul_add] at this
    omega
theorem rsize_law (a : Nat) (hb : (dig a).length < 35184372088830) : Ev (fun k => cuspref02_size.f k (dig a)) (bl a : Int) := by
  unfold cuspref02_size.f
  by_cases h0 : a = 0
  · subst h0; rw [dig_zero]; exact Ev.congr (fun k => if_pos rfl) (Ev.now _)
  · obtain ⟨n, td, hn, htd, ht1, hnz, hbt⟩ := bl_digits h0
    have hbl : bl td ≤ 32 := bl_le.2 (by omega)
    have h := rsize_ev td _ rfl (32 * n) (by omega)
    rw [← hbt] at h
    have ew : wrap64 (((dig a).length : Int) - 1) = (n : Int) := by rw [hn, w64_of (by omega) (by omega)]; omega
    refine Ev.congr (fun k => ?_) h
    rw [if_neg (by omega), ew, if_pos (by omega), if_pos (by omega), rd_nat, htd, w64_of (x := 32 * (n : Int)) (by omega) (by omega), show (32 * (n : Int)) = ((32 * n : Nat) : Int) by omega]
theorem rhigh_law (neg : Bool) (a : Nat) (e : Int) (h0 : a ≠ 0) (hb : (dig a).length < 1000000) (he : -4000000000 ≤ e) (he1 : e ≤ 4000000000) : Ev (fun k => cuspref02_High.f k neg (dig a) e) ((bl a : Int) + e) := by
  unfold cuspref02_High.f
  have hne := dig_ne h0
  have hl : (dig a).length ≠ 0 := fun h => hne (List.length_eq_zero_iff.1 h)
  have h2 : bl a ≤ 32 * (dig a).length := bl_le.2 (lt_dig_length a)
  refine Ev.congr (fun k => if_neg (by omega)) (Ev.bind (rsize_law a (by omega)) ?_)
  rw [w64_of (by omega) (by omega)]
  exact Ev.now _
theorem rorder_ev (a b : List Int) (ha : Dg a) (hb : Dg b) (he : a.length = b.length) (hl : a.length < 4611686018427387904) :
    ∀ i : Nat, i ≤ a.length → val (a.drop i) = val (b.drop i) → Ev (fun k => cuspref02_order.l0 k a b ((i : Int) - 1)) (cmpN (val a) (val b)) := by
  intro i
  induction i with
  | zero =>
    intro _ hv
    simp only [List.drop_zero] at hv
    rw [hv, cmpN_eq]
    refine Ev.step (f := fun _ => some 0) (fun k => ?_) (Ev.now _)
    rw [cuspref02_order.l0, if_neg (by omega)]
  | succ i ih =>
    intro hi hv
    have ea : ((i + 1 : Nat) : Int) - 1 = (i : Int) := by omega
    rw [ea]
    have da := val_drop_succ a i (by omega)
    have db := val_drop_succ b i (by omega)
    have ga := ha.get i
    have gb := hb.get i
    have ta := val_take_drop a i (by omega)
    have tb := val_take_drop b i (by omega)
    have la := val_lt (ha.take i)
    have lb := val_lt (hb.take i)
    rw [List.length_take, Nat.min_eq_left (by omega)] at la lb
    have hp := pow32_pos i
    by_cases e : a.getD i 0 = b.getD i 0
    · refine Ev.step (f := fun k => cuspref02_order.l0 k a b ((i : Int) - 1)) (fun k => ?_) (ih (by omega) (by rw [da, db, hv, e]))
      rw [cuspref02_order.l0, if_pos (by omega), if_pos (by omega), if_pos (by omega), if_pos (by omega), rd_nat, rd_nat, if_pos e, w64_of (by omega) (by omega)]
    · by_cases h : a.getD i 0 < b.getD i 0
      · have : val a < val b := by
          have h1 : val (a.drop i) + 1 ≤ val (b.drop i) := by omega
          have h2 : 2 ^ (32 * i) * (val (a.drop i) + 1) ≤ 2 ^ (32 * i) * val (b.drop i) := Nat.mul_le_mul_left _ h1
          rw [Nat.mul_add] at h2
          omega
        rw [cmpN_lt this]
        refine Ev.step (f := fun _ => some (-1)) (fun k => ?_) (Ev.now _)
        rw [cuspref02_order.l0, if_pos (by omega), if_pos (by omega), if_pos (by omega), if_pos (by omega), rd_nat, rd_nat, if_neg e, if_pos h]
      · have : val b < val a := by
          have h1 : val (b.drop i) + 1 ≤ val (a.drop i) := by omega
          have h2 : 2 ^ (32 * i) * (val (b.drop i) + 1) ≤ 2 ^ (32 * i) * val (a.drop i) := Nat.mul_le_mul_left _ h1
          rw [Nat.mul_add] at h2
          omega
        rw [cmpN_gt this]
        refine Ev.step (f := fun _ => some 1) (fun k => ?_) (Ev.now _)
        rw [cuspref02_order.l0, if_pos (by omega), if_pos (by omega), if_pos (by omega), if_pos (by omega), rd_nat, rd_nat, if_neg e, if_neg h]
theorem rorder_law (a b : Nat) (hl : (dig a).length < 4611686018427387904) : Ev (fun k => cuspref02_order.f k (dig a) (dig b)) (cmpN a b) := by
  unfold cuspref02_order.f
  by_cases he : (dig a).length = (dig b).length
  · have h := rorder_ev (dig a) (dig b) (dg_dig a) (dg_dig b) he hl (dig a).length (Nat.le_refl _) (by rw [List.drop_length, he, List.drop_length])
    rw [val_dig, val_dig] at h
    refine Ev.congr (f := fun k => cuspref02_order.l0 k (dig a) (dig b) (((dig a).length : Int) - 1)) (fun k => ?_) h
    rw [if_pos (by omega), w64_of (by omega) (by omega)]
  · by_cases h : (dig a).length < (dig b).length
    · rw [cmpN_lt (lt_of_length h)]
      exact Ev.congr (f := fun _ => some (-1)) (fun k => by rw [if_neg (by omega), if_pos (by omega)]) (Ev.now _)
    · rw [cmpN_gt (lt_of_length (by omega))]
      exact Ev.congr (f := fun _ => some 1) (fun k => by rw [if_neg (by omega), if_neg (by omega)]) (Ev.now _)
theorem rless_ev (p q : List Int) (hp : Dg p) (hq : Dg q) (hlen : q.length ≤ p.length) (hle : val q ≤ val p) (hb : p.length < 35184372088832) :
    ∀ (d i c : Nat) (x : List Int), d = p.length - i → i ≤ p.length → x.length = i → Dg x → c ≤ 1 → val x + val (q.take i) = val (p.take i) + 2 ^ (32 * i) * c →
      Ev (fun k => cuspref02_less.l0 k p q x (c : Int) (i : Int)) (dig (val p - val q)) := by
  intro d
  induction d with
  | zero =>
    intro i c x hd hi hx hdx hc hv
    have hi' : i = p.length := by omega
    subst hi'
    rw [List.take_length, List.take_of_length_le hlen] at hv
    have hx1 := val_lt hdx
    rw [hx] at hx1
    have hc0 : c = 0 := by
      rcases Nat.eq_zero_or_pos c with h | h
      · exact h
      · have : c = 1 := by omega
        subst this; omega
    subst hc0
    have e : val x = val p - val q := by omega
    refine Ev.step (f := fun k => cuspref02_trim.f k x) (fun k => ?_) (e ▸ rtrim_law hdx (by omega))
    rw [cuspref02_less.l0, if_neg (by omega)]
    cases cuspref02_trim.f k x <;> rfl
  | succ d ih =>
    intro i c x hd hi hx hdx hc hv
    obtain ⟨pd, hpd, hp1⟩ := hp.nat i
    obtain ⟨qd, hqd, hq1⟩ := hq.nat i
    have tp := val_take_succ' p i
    have tq := val_take_succ' q i
    rw [hpd, Int.toNat_natCast] at tp
    rw [hqd, Int.toNat_natCast] at tq
    have hnew : ∀ (s c' : Nat), s + c + qd = pd + 4294967296 * c' → val (x ++ [((s : Nat) : Int)]) + val (q.take (i + 1)) = val (p.take (i + 1)) + 2 ^ (32 * (i + 1)) * c' := by
      intro s c' hs
      rw [val_snoc, hx, tp, tq, Int.toNat_natCast, pow32_succ]
      have h1 : 2 ^ (32 * i) * (s + c + qd) = 2 ^ (32 * i) * (pd + 4294967296 * c') := by rw [hs]
      rw [Nat.mul_add, Nat.mul_add, Nat.mul_add] at h1
      have h2 : 4294967296 * 2 ^ (32 * i) * c' = 2 ^ (32 * i) * (4294967296 * c') := by rw [Nat.mul_comm 4294967296, Nat.mul_assoc]
      omega
    have hgo : ∀ (s c' : Nat), s + c + qd = pd + 4294967296 * c' → s < 4294967296 → c' ≤ 1 → Ev (fun k => cuspref02_less.l0 k p q (x ++ [((s : Nat) : Int)]) (c' : Int) ((i + 1 : Nat) : Int)) (dig (val p - val q)) :=
      fun s c' h1 h2 h3 => ih (i + 1) c' _ (by omega) (by omega) (by simp [hx]) (hdx.append (Dg.one (by omega) (by omega))) h3 (hnew s c' h1)
    have ep : IntKind.u64.wrap (pd : Int) = (pd : Int) := u64_of (by omega) (by omega)
    have eq : IntKind.u64.wrap (qd : Int) = (qd : Int) := u64_of (by omega) (by omega)
    have hq0 : ¬ i < q.length → qd = 0 := fun hlq => by
      rw [List.getD_eq_getElem?_getD, List.getElem?_eq_none (by omega)] at hqd; simp at hqd; omega
    by_cases hlt : pd < c + qd
    · refine Ev.step (fun k => ?_) (hgo (pd + 4294967296 - (c + qd)) 1 (by omega) (by omega) (by omega))
      rw [cuspref02_less.l0, if_pos (by omega), if_pos (by omega)]
      by_cases hlq : i < q.length
      · rw [if_pos (by omega), if_pos (by omega), rd_nat, rd_nat, hpd, hqd, ep, eq, w64_succ (by omega)]
        congr 1
        · congr 2
          rw [IntKind.wrap_u64, IntKind.wrap_u64]; omega
        · rw [IntKind.wrap_u64, IntKind.wrap_u64]; omega
      · have := hq0 hlq
        subst this
        rw [if_neg (by omega), if_pos (by omega), rd_nat, hpd, ep, w64_succ (by omega)]
        congr 1
        · congr 2
          rw [IntKind.wrap_u64]; omega
        · rw [IntKind.wrap_u64]; omega
    · refine Ev.step (fun k => ?_) (hgo (pd - (c + qd)) 0 (by omega) (by omega) (by omega))
      rw [cuspref02_less.l0, if_pos (by omega), if_pos (by omega)]
      by_cases hlq : i < q.length
      · rw [if_pos (by omega), if_pos (by omega), rd_nat, rd_nat, hpd, hqd, ep, eq, w64_succ (by omega)]
        congr 1
        · congr 2
          rw [IntKind.wrap_u64, IntKind.wrap_u64]; omega
        · rw [IntKind.wrap_u64, IntKind.wrap_u64]; omega
      · have := hq0 hlq
        subst this
        rw [if_neg (by omega), if_pos (by omega), rd_nat, hpd, ep, w64_succ (by omega)]
        congr 1
        · congr 2
          rw [IntKind.wrap_u64]; omega
        · rw [IntKind.wrap_u64]; omega
theorem rless_law (a b : Nat) (hle : b ≤ a) (hb : (dig a).length < 35184372088832) : Ev (fun k => cuspref02_less.f k (dig a) (dig b)) (dig (a - b)) := by
  have h := rless_ev (dig a) (dig b) (dg_dig a) (dg_dig b) (dig_length_mono hle) (by rw [val_dig, val_dig]; exact hle) hb _ 0 0 [] rfl (by omega) rfl Dg.nil (by omega) (by simp)
  rw [val_dig, val_dig] at h
  exact h
end Go.Proofs.YthmeocigliephaaGreatDoor.Plain
end
section
namespace Go.Proofs.YthmeocigliephaaGreatDoor.PSu
attribute [local go_sem] f64bits_run f64from_run run_float_some max2_int min2_int max_two min_two max_three min_three max_four min_four
mutual
def cuspref02_down.j1 : Nat → List Int → Int → Bool → Option (List Int × Bool)
 | 0, _, _, _ => none
 | k + 1, x0, x1, x6 => if (wrap64 (Int.tdiv x1 32)) ≥ (x0.length : Int) then (some (([] : List Int), x6)) else (if x6 = true then (if 0 ≤ (wrap64 (Int.tdiv x1 32)) then (if (wrap64 (Int.tdiv x1 32)) < (x0.length : Int) then (if 0 ≤ (IntKind.u64.wrap (Int.tmod x1 32)) then (cuspref02_down.j2 k x0 x1 ((Go.bits .and .u32 (rd x0 (wrap64 (Int.tdiv x1 32))) (((shl .u32 1 (IntKind.u64.wrap (Int.tmod x1 32))) - 1) % 4294967296)) == 0) (IntKind.u64.wrap (Int.tmod x1 32))) else (none)) else (none)) else (none)) else (cuspref02_down.j2 k x0 x1 false (IntKind.u64.wrap (Int.tmod x1 32))))
def cuspref02_down.j2 : Nat → List Int → Int → Bool → Int → Option (List Int × Bool)
 | 0, _, _, _, _ => none
 | k + 1, x0, x1, x6, x8 => cuspref02_down.l1 k x0 x6 x8 ([] : List Int) (wrap64 (Int.tdiv x1 32))
def cuspref02_down.l1 : Nat → List Int → Bool → Int → List Int → Int → Option (List Int × Bool)
 | 0, _, _, _, _, _ => none
 | k + 1, x0, x6, x8, x9, x10 => if x10 < (x0.length : Int) then (if 0 ≤ x10 then (if (wrap64 (x10 + 1)) < (x0.length : Int) then (if 0 ≤ (wrap64 (x10 + 1)) then (if 0 ≤ x8 then (if x9.length < 35184372088832 then (cuspref02_down.l1 k x0 x6 x8 (x9 ++ [(shr .u64 (Go.bits .or .u64 (IntKind.u64.wrap (rd x0 x10)) (IntKind.u64.wrap ((IntKind.u64.wrap (rd x0 (wrap64 (x10 + 1)))) * 4294967296))) x8) % 4294967296]) (wrap64 (x10 + 1))) else (none)) else (none)) else (none)) else (if 0 ≤ x8 then (if x9.length < 35184372088832 then (cuspref02_down.l1 k x0 x6 x8 (x9 ++ [(shr .u64 (IntKind.u64.wrap (rd x0 x10)) x8) % 4294967296]) (wrap64 (x10 + 1))) else (none)) else (none))) else (none)) else ((cuspref02_trim.f k x9).bind fun t291 => (some (t291, x6)))
def cuspref02_down.l0 : Nat → List Int → Int → Bool → Int → Option (List Int × Bool)
 | 0, _, _, _, _ => none
 | k + 1, x0, x1, x6, x7 => if x7 < (x0.length : Int) then (if x7 < (wrap64 (Int.tdiv x1 32)) then (if x6 = true then (if 0 ≤ x7 then (cuspref02_down.l0 k x0 x1 ((rd x0 x7) == 0) (wrap64 (x7 + 1))) else (none)) else (cuspref02_down.l0 k x0 x1 false (wrap64 (x7 + 1)))) else (cuspref02_down.j1 k x0 x1 x6)) else (cuspref02_down.j1 k x0 x1 x6)
end
def cuspref02_down.f (k : Nat) (l0 : List Int) (a1 : Int) : Option (List Int × Bool) := cuspref02_down.l0 k l0 a1 true 0
theorem cuspref02_down.mono_l : ∀ k, (∀ y0 y1 y2, LeO (cuspref02_down.j1 k y0 y1 y2) (cuspref02_down.j1 (k + 1) y0 y1 y2)) ∧ (∀ y0 y1 y2 y3, LeO (cuspref02_down.j2 k y0 y1 y2 y3) (cuspref02_down.j2 (k + 1) y0 y1 y2 y3)) ∧ (∀ y0 y1 y2 y3 y4, LeO (cuspref02_down.l1 k y0 y1 y2 y3 y4) (cuspref02_down.l1 (k + 1) y0 y1 y2 y3 y4)) ∧ (∀ y0 y1 y2 y3, LeO (cuspref02_down.l0 k y0 y1 y2 y3) (cuspref02_down.l0 (k + 1) y0 y1 y2 y3))
 | 0 => ⟨fun _ _ _ r h => by simp [cuspref02_down.j1] at h, fun _ _ _ _ r h => by simp [cuspref02_down.j2] at h, fun _ _ _ _ _ r h => by simp [cuspref02_down.l1] at h, fun _ _ _ _ r h => by simp [cuspref02_down.l0] at h⟩
 | k + 1 => by
  obtain ⟨ih0, ih1, ih2, ih3⟩ := cuspref02_down.mono_l k
  refine ⟨?_, ?_, ?_, ?_⟩
  ·intro y0 y1 y2
   unfold cuspref02_down.j1
   repeat' first
   | (with_reducible exact ih0 _ _ _)
   | (with_reducible exact ih1 _ _ _ _)
   | (with_reducible exact ih2 _ _ _ _ _)
   | (with_reducible exact ih3 _ _ _ _)
   | (with_reducible exact cuspref02_trim.mono _ _)
   | (with_reducible exact LeO.refl _)
   | (with_reducible exact LeO.none _)
   | (with_reducible refine LeO.ite ?_ ?_)
   | (with_reducible refine LeO.bind ?_ (fun _ => ?_))
   | exact ih0 _ _ _
   | exact ih1 _ _ _ _
   | exact ih2 _ _ _ _ _
   | exact ih3 _ _ _ _
   | exact cuspref02_trim.mono _ _
   | exact LeO.none _
   | refine LeO.ite ?_ ?_
   | refine LeO.bind ?_ (fun _ => ?_)
  ·intro y0 y1 y2 y3
   unfold cuspref02_down.j2
   repeat' first
   | (with_reducible exact ih0 _ _ _)
   | (with_reducible exact ih1 _ _ _ _)
   | (with_reducible exact ih2 _ _ _ _ _)
   | (with_reducible exact ih3 _ _ _ _)
   | (with_reducible exact cuspref02_trim.mono _ _)
   | (with_reducible exact LeO.refl _)
   | (with_reducible exact LeO.none _)
   | (with_reducible refine LeO.ite ?_ ?_)
   | (with_reducible refine LeO.bind ?_ (fun _ => ?_))
   | exact ih0 _ _ _
   | exact ih1 _ _ _ _
   | exact ih2 _ _ _ _ _
   | exact ih3 _ _ _ _
   | exact cuspref02_trim.mono _ _
   | exact LeO.none _
   | refine LeO.ite ?_ ?_
   | refine LeO.bind ?_ (fun _ => ?_)
  ·intro y0 y1 y2 y3 y4
   unfold cuspref02_down.l1
   repeat' first
   | (with_reducible exact ih0 _ _ _)
   | (with_reducible exact ih1 _ _ _ _)
   | (with_reducible exact ih2 _ _ _ _ _)
   | (with_reducible exact ih3 _ _ _ _)
   | (with_reducible exact cuspref02_trim.mono _ _)
   | (with_reducible exact LeO.refl _)
   | (with_reducible exact LeO.none _)
   | (with_reducible refine LeO.ite ?_ ?_)
   | (with_reducible refine LeO.bind ?_ (fun _ => ?_))
   | exact ih0 _ _ _
   | exact ih1 _ _ _ _
   | exact ih2 _ _ _ _ _
   | exact ih3 _ _ _ _
   | exact cuspref02_trim.mono _ _
   | exact LeO.none _
   | refine LeO.ite ?_ ?_
   | refine LeO.bind ?_ (fun _ => ?_)
  ·intro y0 y1 y2 y3
   unfold cuspref02_down.l0
   repeat' first
   | (with_reducible exact ih0 _ _ _)
   | (with_reducible exact ih1 _ _ _ _)
   | (with_reducible exact ih2 _ _ _ _ _)
   | (with_reducible exact ih3 _ _ _ _)
   | (with_reducible exact cuspref02_trim.mono _ _)
   | (with_reducible exact LeO.refl _)
   | (with_reducible exact LeO.none _)
   | (with_reducible refine LeO.ite ?_ ?_)
   | (with_reducible refine LeO.bind ?_ (fun _ => ?_))
   | exact ih0 _ _ _
   | exact ih1 _ _ _ _
   | exact ih2 _ _ _ _ _
   | exact ih3 _ _ _ _
   | exact cuspref02_trim.mono _ _
   | exact LeO.none _
   | refine LeO.ite ?_ ?_
   | refine LeO.bind ?_ (fun _ => ?_)
theorem cuspref02_down.mono : ∀ a0 a1 k, LeO (cuspref02_down.f k a0 a1) (cuspref02_down.f (k + 1) a0 a1) := by
 intro a0 a1 k
 obtain ⟨ih0, ih1, ih2, ih3⟩ := cuspref02_down.mono_l k
 unfold cuspref02_down.f
 repeat' first
   | (with_reducible exact ih0 _ _ _)
   | (with_reducible exact ih1 _ _ _ _)
   | (with_reducible exact ih2 _ _ _ _ _)
   | (with_reducible exact ih3 _ _ _ _)
   | (with_reducible exact cuspref02_trim.mono _ _)
   | (with_reducible exact LeO.refl _)
   | (with_reducible exact LeO.none _)
   | (with_reducible refine LeO.ite ?_ ?_)
   | (with_reducible refine LeO.bind ?_ (fun _ => ?_))
   | exact ih0 _ _ _
   | exact ih1 _ _ _ _
   | exact ih2 _ _ _ _ _
   | exact ih3 _ _ _ _
   | exact cuspref02_trim.mono _ _
   | exact LeO.none _
   | refine LeO.ite ?_ ?_
   | refine LeO.bind ?_ (fun _ => ?_)
theorem cuspref02_down.calls (k : Nat) (A0 : Option Addr) (c0 : Nat) (l0 : List Int) (a1 : Int) (r1 : List Int) (r2 : Bool) (w : World) (hr0 : Kd.C (Kd.int .u32) w A0 l0.length l0) (hc0 : l0.length ≤ c0) (h : cuspref02_down.f k l0 a1 = some (r1, r2)) :
  Calls Tryz.prog 100 #[.slice A0 l0.length c0, .int .i64 a1] w fun e w' => ∃ v0_ : Value, e = .returned (.tuple #[v0_, .bool r2]) ∧ Kd.R (Kd.int .u32) 83 w' w.heap.size (fun _ => True) v0_ r1 ∧ Below w.heap.size w w' := by
 have HR0 := asd hr0
 have HC0 := asd hc0
 clear hr0 hc0
 have HB := asd (Below.refl w.heap.size w)
 have H : (cuspref02_down.l0 k l0 a1 true 0) = some (r1, r2) := h
 clear h
 have HC3 := asd H
 clear H
 go_enter Tryz.func100, Tryz.ntmps100
 go_upto_block 0 with (fail)
 go_cut [6] (fun v6 wc => ∃ (kq : Nat) (x6_2 : Bool), v6 = .bool x6_2 ∧ Aside0 (cuspref02_down.j1 kq l0 a1 x6_2 = some (r1, r2)) ∧ Aside0 (kq ≤ k) ∧ Aside0 (Below w.heap.size w wc))
 case first =>
  have H := HC3.out
  clear HC3
  have H' := asd H
  clear H
  go_wp2
  go_loopg [6, 7] k (fun kq v6 v7 w' => ∃ (x6_1 : Bool) (x7_1 : Int), v6 = .bool x6_1 ∧ v7 = .int .i64 x7_1 ∧ Aside0 (cuspref02_down.l0 kq l0 a1 x6_1 x7_1 = some (r1, r2)) ∧ Aside0 (kq ≤ k) ∧ Aside0 (Below w.heap.size w w'))
  case atStart => exact ⟨(true), (0), eqB, eqB, H', ⟨Nat.le_refl _⟩, ⟨hbw⟩⟩
  case round =>
   clear H'
   try clear c1
   try clear p2
   obtain ⟨x6_1, x7_1, rfl, rfl, HA, HK1, HB⟩ := hrel
   cases gk with
   | zero => exact absurd HA.out (by simp [cuspref02_down.l0])
   | succ k1 =>
    have H := HA.out
    clear HA
    simp only [cuspref02_down.l0] at H
    by_cases c4 : x7_1 < (l0.length : Int)
    ·rw [if_pos c4] at H
     have c4b0 : decide (x7_1 < (l0.length : Int)) = true := decide_eq_true c4
     clear c4
     (first | rw [c4b0] | (simp only [i64_w, i32_w]; rw [c4b0]) | skip)
     by_cases c5 : x7_1 < (wrap64 (Int.tdiv a1 32))
     ·rw [if_pos c5] at H
      have c5b0 : decide (x7_1 < (wrap64 (Int.tdiv a1 32))) = true := decide_eq_true c5
      clear c5
      by_cases c6 : x6_1 = true
      ·subst c6
       have H1 : (if 0 ≤ x7_1 then (cuspref02_down.l0 k1 l0 a1 ((rd l0 x7_1) == 0) (wrap64 (x7_1 + 1))) else (none)) = some (r1, r2) := by rw [if_pos rfl] at H; exact H
       clear H
       have H := H1
       clear H1
       by_cases c7 : 0 ≤ x7_1
       ·rw [if_pos c7] at H
        have c7b0 : decide (0 ≤ x7_1) = true := decide_eq_true c7
        clear c7
        have H' := asd H
        clear H
        have p281 : 0 ≤ (x7_1 : Int) := of_decide_eq_true (by first | (with_reducible assumption) | assumption)
        have q281 : x7_1 < (l0.length : Int) := of_decide_eq_true (by first | (with_reducible assumption) | assumption)
        obtain ⟨ad281, e281, hx281_0⟩ := Kd.at_int HR0.out x7_1 p281 q281
        cases e281
        replace hx281_0 := (HB.out.cell (World.block_lt_of_cell? w _ hx281_0)).trans hx281_0
        replace p281 := eq_true p281
        replace q281 := eq_true q281
        go_wp2
        go_roundg k1
        case measure => have := HK1.out; omega
        case rel => exact ⟨(((rd l0 x7_1) == 0)), (wrap64 (x7_1 + 1)), eqB, eqB, H', ⟨by have := HK1.out; omega⟩, ⟨hbw⟩⟩
       ·rw [if_neg c7] at H
        exact absurd H (by simp)
      ·replace c6 := Bool.eq_false_iff.mpr c6
       subst c6
       have H1 : (cuspref02_down.l0 k1 l0 a1 false (wrap64 (x7_1 + 1))) = some (r1, r2) := by rw [if_neg (show ¬ (false = true) by decide)] at H; exact H
       clear H
       have H := H1
       clear H1
       have H' := asd H
       clear H
       go_wp2
       go_roundg k1
       case measure => have := HK1.out; omega
       case rel => exact ⟨(false), (wrap64 (x7_1 + 1)), eqB, eqB, H', ⟨by have := HK1.out; omega⟩, ⟨hbw⟩⟩
     ·rw [if_neg c5] at H
      have c5b0 : decide (x7_1 < (wrap64 (Int.tdiv a1 32))) = false := decide_eq_false c5
      clear c5
      have H' := asd H
      clear H
      go_wp2
      go_meet
      case rel => exact ⟨_, (x6_1), eqB, H', ⟨by have := HK1.out; first | omega | exact Nat.le_refl _⟩, ⟨hbw⟩⟩
    ·rw [if_neg c4] at H
     have c4b0 : decide (x7_1 < (l0.length : Int)) = false := decide_eq_false c4
     clear c4
     (first | rw [c4b0] | (simp only [i64_w, i32_w]; rw [c4b0]) | skip)
     have H' := asd H
     clear H
     go_wp2
     go_meet
     case rel => exact ⟨_, (x6_1), eqB, H', ⟨by have := HK1.out; first | omega | exact Nat.le_refl _⟩, ⟨hbw⟩⟩
 case rest =>
  clear HC3
  try clear c1
  try clear p2
  try clear q2
  try clear hx2
  try clear c4
  try clear c4b0
  try clear c5
  try clear c5b0
  try clear c6
  try clear p6
  try clear c7
  try clear c7b0
  try clear hx281_0
  try clear p2
  try clear p281
  try clear q281
  obtain ⟨kq, x6_2, rfl, HA, HJ2, HB⟩ := hcut
  cases kq with
  | zero => exact absurd HA.out (by simp [cuspref02_down.j1])
  | succ kj2 =>
   have H := HA.out
   clear HA
   simp only [cuspref02_down.j1] at H
   by_cases c8 : (wrap64 (Int.tdiv a1 32)) ≥ (l0.length : Int)
   ·rw [if_pos c8] at H
    have c8b0 : decide ((l0.length : Int) ≤ (wrap64 (Int.tdiv a1 32))) = true := decide_eq_true c8
    clear c8
    simp only [Option.some.injEq, Prod.mk.injEq] at H
    obtain ⟨rfl, rfl⟩ := H
    go_wp2
    go_ret2
    exact ⟨_, eqC, by first | exact Kd.R_nil _ _ _ _ _ | exact Kd.N_nil _ _ _ _ _ | exact Kd.V_nil _ _ _ _ _ | exact Kd.Q_nil _ _ _ _ _ | exact Kd.S_nil _ _ _ _ _, hbw⟩
   ·rw [if_neg c8] at H
    have c8b0 : decide ((l0.length : Int) ≤ (wrap64 (Int.tdiv a1 32))) = false := decide_eq_false c8
    clear c8
    have HC9 := asd H
    clear H
    go_upto_region 9 with (fail)
    go_cut [6] (fun v6 wc => ∃ (kq : Nat) (x6_8 : Bool), v6 = .bool x6_8 ∧ Aside0 (cuspref02_down.j2 kq l0 a1 x6_8 (IntKind.u64.wrap (Int.tmod a1 32)) = some (r1, r2)) ∧ Aside0 (kq ≤ kj2) ∧ Aside0 (Below w.heap.size w wc))
    case first =>
     have H := HC9.out
     clear HC9
     by_cases c10 : x6_2 = true
     ·subst c10
      have H1 : (if 0 ≤ (wrap64 (Int.tdiv a1 32)) then (if (wrap64 (Int.tdiv a1 32)) < (l0.length : Int) then (if 0 ≤ (IntKind.u64.wrap (Int.tmod a1 32)) then (cuspref02_down.j2 kj2 l0 a1 ((Go.bits .and .u32 (rd l0 (wrap64 (Int.tdiv a1 32))) (((shl .u32 1 (IntKind.u64.wrap (Int.tmod a1 32))) - 1) % 4294967296)) == 0) (IntKind.u64.wrap (Int.tmod a1 32))) else (none)) else (none)) else (none)) = some (r1, r2) := by rw [if_pos rfl] at H; exact H
      clear H
      have H := H1
      clear H1
      obtain ⟨ji11, hji11⟩ : ∃ j_ : Int, (wrap64 (Int.tdiv a1 32)) = j_ := ⟨_, rfl⟩
      replace H : (if 0 ≤ (ji11) then (if (ji11) < (l0.length : Int) then (if 0 ≤ (IntKind.u64.wrap (Int.tmod a1 32)) then (cuspref02_down.j2 kj2 l0 a1 ((Go.bits .and .u32 (rd l0 (ji11)) (((shl .u32 1 (IntKind.u64.wrap (Int.tmod a1 32))) - 1) % 4294967296)) == 0) (IntKind.u64.wrap (Int.tmod a1 32))) else (none)) else (none)) else (none)) = some (r1, r2) := by first | (rw [hji11] at H; exact H) | (simp only [hji11] at H ⊢; exact H)
      (try rw [hji11] at c8b0)
      have hji11w : (IntKind.i64.wrap (Int.tdiv a1 32)) = ji11 := (i64_w _).trans hji11
      by_cases c12 : 0 ≤ (ji11)
      ·rw [if_pos c12] at H
       have c12b0 : decide (0 ≤ (ji11)) = true := decide_eq_true c12
       clear c12
       (first | rw [c12b0] | (simp only [i64_w, i32_w]; rw [c12b0]) | skip)
       by_cases c13 : (ji11) < (l0.length : Int)
       ·rw [if_pos c13] at H
        have c13b0 : decide ((ji11) < (l0.length : Int)) = true := decide_eq_true c13
        clear c13
        obtain ⟨ji14, hji14⟩ : ∃ j_ : Int, (IntKind.u64.wrap (Int.tmod a1 32)) = j_ := ⟨_, rfl⟩
        replace H : (if 0 ≤ (ji14) then (cuspref02_down.j2 kj2 l0 a1 ((Go.bits .and .u32 (rd l0 (ji11)) (((shl .u32 1 (ji14)) - 1) % 4294967296)) == 0) ji14) else (none)) = some (r1, r2) := by first | (rw [hji14] at H; exact H) | (simp only [hji14] at H ⊢; exact H)
        by_cases c15 : 0 ≤ (ji14)
        ·rw [if_pos c15] at H
         have c15b0 := eq_true c15
         have c15b1 : decide (0 ≤ (ji14)) = true := decide_eq_true c15
         clear c15
         obtain ⟨ji16, hji16⟩ : ∃ j_ : Int, (shl .u32 1 (ji14)) = j_ := ⟨_, rfl⟩
         replace H : (cuspref02_down.j2 kj2 l0 a1 ((Go.bits .and .u32 (rd l0 (ji11)) (((ji16) - 1) % 4294967296)) == 0) ji14) = some (r1, r2) := by first | (rw [hji16] at H; exact H) | (simp only [hji16] at H ⊢; exact H)
         have hji16_ : (IntKind.u32.wrap (1 * 2 ^ min (ji14).toNat 32)) = ji16 := hji16
         have hji16z : (ji14) ≤ 32 → (IntKind.u32.wrap (1 * 2 ^ (ji14).toNat)) = ji16 := shl_small hji16
         have hji16u : (IntKind.u32.wrap (2 ^ min (ji14).toNat 32)) = ji16 := by have h_ := hji16_; rw [Int.one_mul] at h_; exact h_
         have hji16v : (ji14) ≤ 32 → (IntKind.u32.wrap (2 ^ (ji14).toNat)) = ji16 := fun hle_ => by have h_ := hji16z hle_; rw [Int.one_mul] at h_; exact h_
         have H' := asd H
         clear H
         have p282 : 0 ≤ ((ji11) : Int) := of_decide_eq_true (by first | (with_reducible assumption) | assumption)
         have q282 : (ji11) < (l0.length : Int) := of_decide_eq_true (by first | (with_reducible assumption) | assumption)
         obtain ⟨ad282, e282, hx282_0⟩ := Kd.at_int HR0.out (ji11) p282 q282
         cases e282
         replace hx282_0 := (HB.out.cell (World.block_lt_of_cell? w _ hx282_0)).trans hx282_0
         replace p282 := eq_true p282
         replace q282 := eq_true q282
         go_wp2
         go_meet
         case rel => exact ⟨_, (((Go.bits .and .u32 (rd l0 (ji11)) (((ji16) - 1) % 4294967296)) == 0)), (by first | rfl | (simp; done) | (simp only [← hji11, ← hji16] <;> (first | rfl | simp)) | (simp [*]; done)), (by first | exact H' | (rw [hji14]; exact H')), ⟨by have := HJ2.out; first | omega | exact Nat.le_refl _⟩, ⟨hbw⟩⟩
        ·rw [if_neg c15] at H
         exact absurd H (by simp)
       ·rw [if_neg c13] at H
        exact absurd H (by simp)
      ·rw [if_neg c12] at H
       exact absurd H (by simp)
     ·replace c10 := Bool.eq_false_iff.mpr c10
      subst c10
      have H1 : (cuspref02_down.j2 kj2 l0 a1 false (IntKind.u64.wrap (Int.tmod a1 32))) = some (r1, r2) := by rw [if_neg (show ¬ (false = true) by decide)] at H; exact H
      clear H
      have H := H1
      clear H1
      have H' := asd H
      clear H
      go_wp2
      go_meet
      case rel => exact ⟨_, (false), eqB, (by first | exact H' | (rw [hji14]; exact H')), ⟨by have := HJ2.out; first | omega | exact Nat.le_refl _⟩, ⟨hbw⟩⟩
    case rest =>
     clear HC9
     try clear c1
     try clear p2
     try clear q2
     try clear hx2
     try clear c4
     try clear c4b0
     try clear c5
     try clear c5b0
     try clear c6
     try clear p6
     try clear c7
     try clear c7b0
     try clear c8
     try clear c8b0
     try clear c10
     try clear c12
     try clear c12b0
     try clear c13
     try clear c13b0
     try clear c15
     try clear c15b0
     try clear c15b1
     try clear hx281_0
     try clear hx282_0
     try clear p2
     try clear p281
     try clear p282
     try clear p6
     try clear q2
     try clear q281
     try clear q282
     obtain ⟨kq, x6_8, rfl, HA, HJ8, HB⟩ := hcut
     cases kq with
     | zero => exact absurd HA.out (by simp [cuspref02_down.j2])
     | succ kj8 =>
      have H := HA.out
      clear HA
      simp only [cuspref02_down.j2] at H
      have H' := asd H
      clear H
      go_wp2
      go_loopg [9, 10] kj8 (fun kq v9 v10 w' => ∃ (x9_3 : List Int) (x10_3 : Int), v10 = .int .i64 x10_3 ∧ Aside0 (cuspref02_down.l1 kq l0 x6_8 (IntKind.u64.wrap (Int.tmod a1 32)) x9_3 x10_3 = some (r1, r2)) ∧ Aside0 (kq ≤ kj8) ∧ Aside0 (Kd.R (Kd.int .u32) 83 w' w.heap.size (fun _ => True) v9 x9_3) ∧ Aside0 (Below w.heap.size w w'))
      case atStart => exact ⟨(([] : List Int)), (wrap64 (Int.tdiv a1 32)), eqB, (by first | exact H' | (rw [hji14]; exact H')), ⟨Nat.le_refl _⟩, ⟨by first | exact Kd.R_nil _ _ _ _ _ | exact Kd.N_nil _ _ _ _ _ | exact Kd.V_nil _ _ _ _ _ | exact Kd.Q_nil _ _ _ _ _ | exact Kd.S_nil _ _ _ _ _⟩, ⟨hbw⟩⟩
      case round =>
       clear H'
       try clear c1
       try clear p2
       try clear q2
       try clear hx2
       try clear c4
       try clear c4b0
       try clear c5
       try clear c5b0
       try clear c6
       try clear p6
       try clear c7
       try clear c7b0
       try clear c8
       try clear c8b0
       try clear c10
       try clear c12
       try clear c12b0
       try clear c13
       try clear c13b0
       try clear c15
       try clear c15b0
       try clear c15b1
       try clear hx281_0
       try clear hx282_0
       try clear p2
       try clear p281
       try clear p282
       try clear p6
       try clear q2
       try clear q281
       try clear q282
       obtain ⟨x9_3, x10_3, rfl, HA, HK3, HO_9, HB⟩ := hrel
       cases gk with
       | zero => exact absurd HA.out (by simp [cuspref02_down.l1])
       | succ k3 =>
        have H := HA.out
        clear HA
        simp only [cuspref02_down.l1] at H
        by_cases c17 : x10_3 < (l0.length : Int)
        ·rw [if_pos c17] at H
         have c17b0 : decide (x10_3 < (l0.length : Int)) = true := decide_eq_true c17
         clear c17
         by_cases c18 : 0 ≤ x10_3
         ·rw [if_pos c18] at H
          have c18b0 : decide (0 ≤ x10_3) = true := decide_eq_true c18
          clear c18
          by_cases c19 : (wrap64 (x10_3 + 1)) < (l0.length : Int)
          ·rw [if_pos c19] at H
           have c19b0 : decide ((wrap64 (x10_3 + 1)) < (l0.length : Int)) = true := decide_eq_true c19
           clear c19
           obtain ⟨ji20, hji20⟩ : ∃ j_ : Int, (wrap64 (x10_3 + 1)) = j_ := ⟨_, rfl⟩
           replace H : (if 0 ≤ (ji20) then (if 0 ≤ (IntKind.u64.wrap (Int.tmod a1 32)) then (if x9_3.length < 35184372088832 then (cuspref02_down.l1 k3 l0 x6_8 (IntKind.u64.wrap (Int.tmod a1 32)) (x9_3 ++ [(shr .u64 (Go.bits .or .u64 (IntKind.u64.wrap (rd l0 x10_3)) (IntKind.u64.wrap ((IntKind.u64.wrap (rd l0 (ji20))) * 4294967296))) (IntKind.u64.wrap (Int.tmod a1 32))) % 4294967296]) ji20) else (none)) else (none)) else (none)) = some (r1, r2) := by first | (rw [hji20] at H; exact H) | (simp only [hji20] at H ⊢; exact H)
           (try rw [hji20] at c19b0)
           have hji20w : (IntKind.i64.wrap (x10_3 + 1)) = ji20 := (i64_w _).trans hji20
           by_cases c21 : 0 ≤ (ji20)
           ·rw [if_pos c21] at H
            have c21b0 : decide (0 ≤ (ji20)) = true := decide_eq_true c21
            clear c21
            obtain ⟨ji22, hji22⟩ : ∃ j_ : Int, (IntKind.u64.wrap (Int.tmod a1 32)) = j_ := ⟨_, rfl⟩
            replace H : (if 0 ≤ (ji22) then (if x9_3.length < 35184372088832 then (cuspref02_down.l1 k3 l0 x6_8 (ji22) (x9_3 ++ [(shr .u64 (Go.bits .or .u64 (IntKind.u64.wrap (rd l0 x10_3)) (IntKind.u64.wrap ((IntKind.u64.wrap (rd l0 (ji20))) * 4294967296))) (ji22)) % 4294967296]) ji20) else (none)) else (none)) = some (r1, r2) := by first | (rw [hji22] at H; exact H) | (simp only [hji22] at H ⊢; exact H)
            by_cases c23 : 0 ≤ (ji22)
            ·rw [if_pos c23] at H
             have c23b0 := eq_true c23
             have c23b1 : decide (0 ≤ (ji22)) = true := decide_eq_true c23
             clear c23
             obtain ⟨ji24, hji24⟩ : ∃ j_ : Int, (shr .u64 (Go.bits .or .u64 (IntKind.u64.wrap (rd l0 x10_3)) (IntKind.u64.wrap ((IntKind.u64.wrap (rd l0 (ji20))) * 4294967296))) (ji22)) = j_ := ⟨_, rfl⟩
             replace H : (if x9_3.length < 35184372088832 then (cuspref02_down.l1 k3 l0 x6_8 (ji22) (x9_3 ++ [(ji24) % 4294967296]) ji20) else (none)) = some (r1, r2) := by first | (rw [hji24] at H; exact H) | (simp only [hji24] at H ⊢; exact H)
             have hji24_ : ((Go.bits .or .u64 (IntKind.u64.wrap (rd l0 x10_3)) (IntKind.u64.wrap ((IntKind.u64.wrap (rd l0 (ji20))) * 4294967296))) / 2 ^ min (ji22).toNat 64) = ji24 := hji24
             have hji24z : (ji22) ≤ 64 → ((Go.bits .or .u64 (IntKind.u64.wrap (rd l0 x10_3)) (IntKind.u64.wrap ((IntKind.u64.wrap (rd l0 (ji20))) * 4294967296))) / 2 ^ (ji22).toNat) = ji24 := shr_small hji24
             by_cases c25 : x9_3.length < 35184372088832
             ·rw [if_pos c25] at H
              have LMc25 := asd c25
              clear c25
              obtain ⟨y285, hy285⟩ : ∃ y_ : List Int, y_ = (x9_3 ++ [(ji24) % 4294967296]) := ⟨_, rfl⟩
              replace H : (cuspref02_down.l1 k3 l0 x6_8 (ji22) y285 ji20) = some (r1, r2) := by first | (rw [hy285]; with_reducible exact H) | (have H2_ := (Option.bind_some _ _).symm.trans H; rw [hy285]; with_reducible exact H2_) | (have H2_ := (Option.bind_some _ _).symm.trans H; with_reducible exact H2_) | with_reducible exact H | (rw [hy285]; exact H) | exact H
              have Ny285 := asd hy285
              clear hy285
              have H' := asd H
              clear H
              have p283 : 0 ≤ (x10_3 : Int) := of_decide_eq_true (by first | (with_reducible assumption) | assumption)
              have q283 : x10_3 < (l0.length : Int) := of_decide_eq_true (by first | (with_reducible assumption) | assumption)
              obtain ⟨ad283, e283, hx283_0⟩ := Kd.at_int HR0.out x10_3 p283 q283
              cases e283
              replace hx283_0 := (HB.out.cell (World.block_lt_of_cell? w _ hx283_0)).trans hx283_0
              replace p283 := eq_true p283
              replace q283 := eq_true q283
              have p284 : 0 ≤ ((ji20) : Int) := of_decide_eq_true (by first | (with_reducible assumption) | assumption)
              have q284 : (ji20) < (l0.length : Int) := of_decide_eq_true (by first | (with_reducible assumption) | assumption)
              obtain ⟨ad284, e284, hx284_0⟩ := Kd.at_int HR0.out (ji20) p284 q284
              obtain rfl : ad283 = ad284 := (by injection e284)
              replace hx284_0 := (HB.out.cell (World.block_lt_of_cell? w _ hx284_0)).trans hx284_0
              replace p284 := eq_true p284
              replace q284 := eq_true q284
              go_wp2_with (first | ((with_reducible refine gate_builtin (b := .append) (xs := #[.tmp 81, .tmp 86]) rfl ?_); at_builtin; refine Kd.R_append (Kd.int .u32) (w0 := w) w.heap.size rfl (.tmp 81) (.tmp 86) 39 83 (.int .u32 0) 4 rfl Tryz.underlying39 info83 rfl (by decide) (by omega) u9 x9_3 ((ji24) % 4294967296) [.int .u32 ((ji24) % 4294967296)] (fun _ => True) (fun _ => False) rfl rfl ?aP (fun _ hk => hk.elim) ?aF ?aO ?aB ?aS ?aL ?_; (case aP => exact rfl); (case aB => exact hbw); (case aF => exact (fun _ _ => trivial)); (case aO => exact (rUp HO_9.out)); (case aS => exact (below_size hbw)); (case aL => have := LMc25.out; omega); intro v286 w26 ho hb hg hat; rw [← Ny285.out] at ho; have n0_ := asd (hb); have n1_ := asd (ho); clear HB; clear HO_9; have HB := n0_; have HO287 := n1_; clear n0_ n1_; clear ho hb hg hat))
              subst hji22
              go_roundg k3
              case measure => have := HJ2.out; have := HJ8.out; have := HK3.out; omega
              case rel => exact ⟨(y285), (ji20), (by first | rfl | (simp; done) | (simp only [← hji20] <;> (first | rfl | simp)) | (simp [*]; done)), H', ⟨by have := HJ2.out; have := HJ8.out; have := HK3.out; omega⟩, ⟨by (with_reducible repeat (first | apply Kd.R_alloc | apply Kd.R_drewN | apply Kd.R_drew)); exact HO287.out⟩, ⟨hbw⟩⟩
             ·rw [if_neg c25] at H
              exact absurd H (by simp)
            ·rw [if_neg c23] at H
             exact absurd H (by simp)
           ·rw [if_neg c21] at H
            exact absurd H (by simp)
          ·rw [if_neg c19] at H
           have c19b0 : decide ((wrap64 (x10_3 + 1)) < (l0.length : Int)) = false := decide_eq_false c19
           clear c19
           obtain ⟨ji27, hji27⟩ : ∃ j_ : Int, (IntKind.u64.wrap (Int.tmod a1 32)) = j_ := ⟨_, rfl⟩
           replace H : (if 0 ≤ (ji27) then (if x9_3.length < 35184372088832 then (cuspref02_down.l1 k3 l0 x6_8 (ji27) (x9_3 ++ [(shr .u64 (IntKind.u64.wrap (rd l0 x10_3)) (ji27)) % 4294967296]) (wrap64 (x10_3 + 1))) else (none)) else (none)) = some (r1, r2) := by first | (rw [hji27] at H; exact H) | (simp only [hji27] at H ⊢; exact H)
           by_cases c28 : 0 ≤ (ji27)
           ·rw [if_pos c28] at H
            have c28b0 := eq_true c28
            have c28b1 : decide (0 ≤ (ji27)) = true := decide_eq_true c28
            clear c28
            obtain ⟨ji29, hji29⟩ : ∃ j_ : Int, (shr .u64 (IntKind.u64.wrap (rd l0 x10_3)) (ji27)) = j_ := ⟨_, rfl⟩
            replace H : (if x9_3.length < 35184372088832 then (cuspref02_down.l1 k3 l0 x6_8 (ji27) (x9_3 ++ [(ji29) % 4294967296]) (wrap64 (x10_3 + 1))) else (none)) = some (r1, r2) := by first | (rw [hji29] at H; exact H) | (simp only [hji29] at H ⊢; exact H)
            have hji29_ : ((IntKind.u64.wrap (rd l0 x10_3)) / 2 ^ min (ji27).toNat 64) = ji29 := hji29
            have hji29z : (ji27) ≤ 64 → ((IntKind.u64.wrap (rd l0 x10_3)) / 2 ^ (ji27).toNat) = ji29 := shr_small hji29
            by_cases c30 : x9_3.length < 35184372088832
            ·rw [if_pos c30] at H
             have LMc30 := asd c30
             clear c30
             obtain ⟨y288, hy288⟩ : ∃ y_ : List Int, y_ = (x9_3 ++ [(ji29) % 4294967296]) := ⟨_, rfl⟩
             replace H : (cuspref02_down.l1 k3 l0 x6_8 (ji27) y288 (wrap64 (x10_3 + 1))) = some (r1, r2) := by first | (rw [hy288]; with_reducible exact H) | (have H2_ := (Option.bind_some _ _).symm.trans H; rw [hy288]; with_reducible exact H2_) | (have H2_ := (Option.bind_some _ _).symm.trans H; with_reducible exact H2_) | with_reducible exact H | (rw [hy288]; exact H) | exact H
             have Ny288 := asd hy288
             clear hy288
             have H' := asd H
             clear H
             have p283 : 0 ≤ (x10_3 : Int) := of_decide_eq_true (by first | (with_reducible assumption) | assumption)
             have q283 : x10_3 < (l0.length : Int) := of_decide_eq_true (by first | (with_reducible assumption) | assumption)
             obtain ⟨ad283, e283, hx283_0⟩ := Kd.at_int HR0.out x10_3 p283 q283
             cases e283
             replace hx283_0 := (HB.out.cell (World.block_lt_of_cell? w _ hx283_0)).trans hx283_0
             replace p283 := eq_true p283
             replace q283 := eq_true q283
             go_wp2_with (first | ((with_reducible refine gate_builtin (b := .append) (xs := #[.tmp 81, .tmp 86]) rfl ?_); at_builtin; refine Kd.R_append (Kd.int .u32) (w0 := w) w.heap.size rfl (.tmp 81) (.tmp 86) 39 83 (.int .u32 0) 4 rfl Tryz.underlying39 info83 rfl (by decide) (by omega) u9 x9_3 ((ji29) % 4294967296) [.int .u32 ((ji29) % 4294967296)] (fun _ => True) (fun _ => False) rfl rfl ?aP (fun _ hk => hk.elim) ?aF ?aO ?aB ?aS ?aL ?_; (case aP => exact rfl); (case aB => exact hbw); (case aF => exact (fun _ _ => trivial)); (case aO => exact (rUp HO_9.out)); (case aS => exact (below_size hbw)); (case aL => have := LMc30.out; omega); intro v289 w31 ho hb hg hat; rw [← Ny288.out] at ho; have n0_ := asd (hb); have n1_ := asd (ho); clear HB; clear HO_9; have HB := n0_; have HO290 := n1_; clear n0_ n1_; clear ho hb hg hat))
             subst hji27
             go_roundg k3
             case measure => have := HJ2.out; have := HJ8.out; have := HK3.out; omega
             case rel => exact ⟨(y288), (wrap64 (x10_3 + 1)), eqB, H', ⟨by have := HJ2.out; have := HJ8.out; have := HK3.out; omega⟩, ⟨by (with_reducible repeat (first | apply Kd.R_alloc | apply Kd.R_drewN | apply Kd.R_drew)); exact HO290.out⟩, ⟨hbw⟩⟩
            ·rw [if_neg c30] at H
             exact absurd H (by simp)
           ·rw [if_neg c28] at H
            exact absurd H (by simp)
         ·rw [if_neg c18] at H
          exact absurd H (by simp)
        ·rw [if_neg c17] at H
         have c17b0 : decide (x10_3 < (l0.length : Int)) = false := decide_eq_false c17
         clear c17
         replace H := Option.bind_eq_some_iff.mp H
         obtain ⟨t291, A320, H⟩ := H
         replace H : (some (t291, x6_8)) = some (r1, r2) := H
         have A32 := asd A320
         clear A320
         simp only [Option.some.injEq, Prod.mk.injEq] at H
         obtain ⟨rfl, rfl⟩ := H
         obtain ⟨Ao33, co33, eo33⟩ := Kd.R_slice HO_9.out
         subst eo33
         go_wp2_with (first | ((with_reducible refine gate_callee (f := 99) rfl ?_); refine goesL_ (some 89) rfl rfl Tryz.func99 (by kernel_rfl) rfl #[.slice Ao33 x9_3.length co33] rfl eqA ?_; (with_reducible refine (cuspref02_trim.calls k3 (fun k_ => some k_ = (.slice Ao33 x9_3.length co33 : Value).ownBlock) (.slice Ao33 x9_3.length co33) x9_3 t291 w _ ?side1 ?side2 A32.out).mono ?_); (case side1 => repeat (first | (with_reducible first | exact HB.out | apply below_alloc | apply pw_below_drewN | apply below_drew1) | exact HB.out)); (case side2 => exact Kd.R_tight rfl HO_9.out); rintro e w34 ⟨v292, rfl, ho0, hb, hkp⟩; refine ⟨_, rfl, ?_⟩; have n0_ := asd (Kd.R_mono (ok' := fun k_ => True) ho0 (fun k_ hk_ => trivial)); have n1_ := asd (hb); clear HB; clear HO_9; have HO293 := n0_; have HB := n1_; clear n0_ n1_; (try clear hb); (try clear hkp); (try clear ho0)))
         go_ret2
         exact ⟨_, eqC, by (with_reducible repeat (first | apply Kd.R_alloc | apply Kd.R_drewN | apply Kd.R_drew)); exact HO293.out, hbw⟩
def cuspref02_build.f (a0 : Bool) (a1 : Int) (a2 : Int) : Option (Nat) := if a1 ≥ 4503599627370496 then (if a0 = true then (some ((Go.bits .or .u64 (Go.bits .or .u64 (IntKind.u64.wrap ((IntKind.u64.wrap (wrap64 (a2 + 1075))) * 4503599627370496)) (Go.bits .and .u64 a1 4503599627370495)) 9223372036854775808 : Int).toNat)) else (some ((Go.bits .or .u64 (IntKind.u64.wrap ((IntKind.u64.wrap (wrap64 (a2 + 1075))) * 4503599627370496)) (Go.bits .and .u64 a1 4503599627370495) : Int).toNat))) else (if a0 = true then (some ((Go.bits .or .u64 a1 9223372036854775808 : Int).toNat)) else (some ((a1 : Int).toNat)))
def cuspref02_sign.f (a0 : Bool) : Option (Int) := if a0 = true then (some 1) else (some 0)
def math_Inf.f (a0 : Int) : Option (Nat) := if a0 ≥ 0 then (some ((9218868437227405312 : Int).toNat)) else (some ((18442240474082181120 : Int).toNat))
end Go.Proofs.YthmeocigliephaaGreatDoor.PSu
end
section
namespace Go.Proofs.YthmeocigliephaaGreatDoor.Plain
open Go.Proofs.YthmeocigliephaaGreatDoor.PSu Go.Proofs.YthmeocigliephaaGreatDoor.Big
theorem rdown_l1 (p : List Int) (s m : Nat) (x6 : Bool) (hp : Dg p) (hs : s < 32) (hb : p.length < 35184372088831) (hm : m ≤ p.length) :
    ∀ (d i : Nat) (x : List Int), d = p.length - (m + i) → m + i ≤ p.length → x.length = i → Dg x → val x = (val p / 2 ^ (32 * m) / 2 ^ s) % 2 ^ (32 * i) →
      Ev (fun k => cuspref02_down.l1 k p x6 (s : Int) x ((m + i : Nat) : Int)) (dig (val p / 2 ^ (32 * m) / 2 ^ s), x6) := by
  intro d
  induction d with
  | zero =>
    intro i x hd hi hx hdx hv
    have hi' : m + i = p.length := by omega
    have hlt : val p / 2 ^ (32 * m) / 2 ^ s < 2 ^ (32 * i) := by
      refine Nat.lt_of_le_of_lt (Nat.div_le_self _ _) ?_
      rw [← val_drop hp]
      have := val_lt (hp.drop m)
      rwa [List.length_drop, show p.length - m = i by omega] at this
    rw [Nat.mod_eq_of_lt hlt] at hv
    refine Ev.step (f := fun k => (cuspref02_trim.f k x).bind fun t => some (t, x6)) (fun k => ?_) ?_
    · rw [cuspref02_down.l1, if_neg (by omega)]
    · have ht := rtrim_law hdx (by omega)
      rw [hv] at ht
      exact Ev.bind ht (Ev.now _)
  | succ d ih =>
    intro i x hd hi hx hdx hv
    obtain ⟨pd, hpd, hp1⟩ := hp.nat (m + i)
    obtain ⟨pe, hpe, hp2⟩ := hp.nat (m + i + 1)
    have g1 := val_get hp (m + i)
    have g2 := val_get hp (m + i + 1)
    rw [hpd, Int.toNat_natCast] at g1
    rw [hpe, Int.toNat_natCast] at g2
    have hs1 : 0 < 2 ^ s := Nat.pow_pos (by omega)
    have hs2 : 2 ^ s * 2 ^ (32 - s) = 4294967296 := pow2_split (by omega)
    have hsp : 2 ^ (32 * (m + i)) = 2 ^ (32 * m) * 2 ^ (32 * i) := by rw [← Nat.pow_add]; congr 1; omega
    generalize hX : val p / 2 ^ (32 * (m + i)) = X at g1
    have hX2 : val p / 2 ^ (32 * (m + i + 1)) = X / 4294967296 := by rw [pow32_succ, Nat.mul_comm, ← Nat.div_div_eq_div_mul, hX]
    rw [hX2] at g2
    have hX3 : val p / 2 ^ (32 * m) / 2 ^ (32 * i) = X := by rw [Nat.div_div_eq_div_mul, ← hsp, hX]
    have ht : (pd + 4294967296 * pe) / 2 ^ s % 4294967296 = X / 2 ^ s % 4294967296 := by
      have h1 : X % 18446744073709551616 = pd + 4294967296 * pe := by omega
      rw [← h1]
      have h2 : X = 18446744073709551616 * (X / 18446744073709551616) + X % 18446744073709551616 := by omega
      generalize X / 18446744073709551616 = q at h2
      generalize X % 18446744073709551616 = r at h2 ⊢
      have h3 : (18446744073709551616 : Nat) = 2 ^ s * (2 ^ (32 - s) * 4294967296) := by rw [← Nat.mul_assoc, hs2]
      rw [h2, h3, Nat.mul_assoc, Nat.mul_add_div hs1, Nat.mul_comm (2 ^ (32 - s)), Nat.mul_assoc, Nat.mul_add_mod]
    have hnew : val (x ++ [(((pd + 4294967296 * pe) / 2 ^ s % 4294967296 : Nat) : Int)]) = (val p / 2 ^ (32 * m) / 2 ^ s) % 2 ^ (32 * (i + 1)) := by
      rw [val_snoc, hx, hv, Int.toNat_natCast, ht, ← hX3]
      generalize val p / 2 ^ (32 * m) = Y
      rw [Nat.div_div_eq_div_mul, Nat.mul_comm (2 ^ (32 * i)) (2 ^ s), ← Nat.div_div_eq_div_mul, pow32_succ, Nat.mul_comm 4294967296, Nat.mod_mul]
    refine Ev.step (fun k => ?_) (ih (i + 1) _ (by omega) (by omega) (by simp [hx]) (hdx.append (Dg.one (by omega) (by omega))) hnew)
    rw [cuspref02_down.l1, if_pos (by omega), if_pos (by omega), w64_succ (by omega)]
    have hmin' : min (s : Int).toNat IntKind.u64.bits = s := by simp [IntKind.bits]; omega
    by_cases hl : m + i + 1 < p.length
    · rw [if_pos (by omega), if_pos (by omega), if_pos (by omega), if_pos (by omega), rd_nat, rd_nat, hpd, hpe, u64_of (x := (pd : Int)) (by omega) (by omega), u64_of (x := (pe : Int)) (by omega) (by omega), u64_of (x := (pe : Int) * 4294967296) (by omega) (by omega)]
      have e : bits .or .u64 (pd : Int) ((pe : Int) * 4294967296) = ((pd + 4294967296 * pe : Nat) : Int) := by
        rw [show (pe : Int) * 4294967296 = ((2 ^ 32 * pe : Nat) : Int) by omega, bits_or_u64_nat _ _ (by omega) (by omega), Nat.or_comm, or_add (by omega)]; omega
      unfold shr
      rw [e, hmin', show ((2 : Int) ^ s) = ((2 ^ s : Nat) : Int) by rw [Int.natCast_pow]; rfl, ← Int.natCast_ediv]
      rw [show (((pd + 4294967296 * pe) / 2 ^ s : Nat) : Int) % 4294967296 = (((pd + 4294967296 * pe) / 2 ^ s % 4294967296 : Nat) : Int) from by omega]
      rfl
    · have hpe0 : pe = 0 := by
        rw [List.getD_eq_getElem?_getD, List.getElem?_eq_none (by omega)] at hpe; simp at hpe; omega
      subst hpe0
      rw [if_neg (by omega), if_pos (by omega), if_pos (by omega), rd_nat, hpd, u64_of (x := (pd : Int)) (by omega) (by omega)]
      unfold shr
      rw [hmin', show ((2 : Int) ^ s) = ((2 ^ s : Nat) : Int) by rw [Int.natCast_pow]; rfl, ← Int.natCast_ediv]
      rw [show ((pd / 2 ^ s : Nat) : Int) % 4294967296 = ((pd / 2 ^ s % 4294967296 : Nat) : Int) from by omega]
      simp only [Nat.mul_zero, Nat.add_zero]
      rfl
theorem mask_u32 (d s : Nat) (hd : d < 4294967296) (hs : s < 32) : (bits .and .u32 (d : Int) (((shl .u32 1 (s : Int)) - 1) % 4294967296) == 0) = decide (d % 2 ^ s = 0) := by
  have hs2 : 2 ^ s ≤ 2147483648 := Nat.pow_le_pow_right (by omega) (show s ≤ 31 by omega)
  have hs1 : 0 < 2 ^ s := Nat.pow_pos (by omega)
  have hmin : min (s : Int).toNat IntKind.u32.bits = s := by simp [IntKind.bits]; omega
  have e1 : ((shl .u32 1 (s : Int)) - 1) % 4294967296 = ((2 ^ s - 1 : Nat) : Int) := by
    unfold shl
    rw [hmin, show (1 : Int) * 2 ^ s = ((2 ^ s : Nat) : Int) by rw [Int.one_mul, Int.natCast_pow]; rfl, u32_of (by omega) (by omega)]
    omega
  have h1 : ∀ x : Nat, x < 4294967296 → (BitVec.ofInt 32 (x : Int)).toNat = x := fun x hx => by
    rw [BitVec.ofInt_natCast, BitVec.toNat_ofNat]; exact Nat.mod_eq_of_lt (by omega)
  have e2 : bits .and .u32 (d : Int) ((2 ^ s - 1 : Nat) : Int) = ((d % 2 ^ s : Nat) : Int) := by
    show IntKind.u32.wrap ((BitVec.ofInt 32 (d : Int) &&& BitVec.ofInt 32 ((2 ^ s - 1 : Nat) : Int)).toNat : Int) = _
    rw [BitVec.toNat_and, h1 d hd, h1 _ (by omega), Nat.and_two_pow_sub_one_eq_mod]
    have h3 : d % 2 ^ s < 4294967296 := Nat.lt_trans (Nat.mod_lt d hs1) (by omega)
    generalize d % 2 ^ s = r at h3 ⊢
    exact u32_of (by omega) (by omega)
  rw [e1, e2]
  by_cases h : d % 2 ^ s = 0
  · rw [decide_eq_true h, h]; rfl
  · rw [decide_eq_false h]
    generalize d % 2 ^ s = r at h
    rw [beq_eq_false_iff_ne]; omega
theorem rdown_j1 (a n : Nat) (x6 : Bool) (hb : (dig a).length < 35184372088830) (hn : n < 4611686018427387904) (h6 : x6 = decide (val ((dig a).take (n / 32)) = 0)) :
    Ev (fun k => cuspref02_down.j1 k (dig a) (n : Int) x6) (dig (a / 2 ^ n), decide (a % 2 ^ n = 0)) := by
  have hp := dg_dig a
  have ew : wrap64 (Int.tdiv (n : Int) 32) = ((n / 32 : Nat) : Int) := by
    rw [Int.tdiv_eq_ediv_of_nonneg (by omega), show ((n : Int) / 32) = ((n / 32 : Nat) : Int) by omega, w64_nat (by omega)]
  have em : IntKind.u64.wrap (Int.tmod (n : Int) 32) = ((n % 32 : Nat) : Int) := by rw [Int.tmod_eq_emod_of_nonneg (by omega), u64_of (by omega) (by omega)]; omega
  by_cases hl : (dig a).length ≤ n / 32
  · have h1 : a < 2 ^ n := Nat.lt_of_lt_of_le (lt_dig_length a) (Nat.pow_le_pow_right (by omega) (by omega))
    rw [Nat.div_eq_of_lt h1, Nat.mod_eq_of_lt h1, dig_zero]
    rw [List.take_of_length_le hl, val_dig] at h6
    refine Ev.step (f := fun _ => some ([], x6)) (fun k => ?_) (h6 ▸ Ev.now _)
    rw [cuspref02_down.j1, ew, if_pos (by omega)]
  · have hs := val_drop_succ (dig a) (n / 32) (by omega)
    obtain ⟨d, hd, hd1⟩ := hp.nat (n / 32)
    rw [hd, Int.toNat_natCast] at hs
    have hsplit := val_take_drop (dig a) (n / 32) (by omega)
    rw [val_dig] at hsplit
    have hlt := val_lt (hp.take (n / 32))
    rw [List.length_take, Nat.min_eq_left (by omega)] at hlt
    have hpw : 2 ^ n = 2 ^ (32 * (n / 32)) * 2 ^ (n % 32) := by rw [← Nat.pow_add]; congr 1; omega
    have hdiv : a / 2 ^ n = val (dig a) / 2 ^ (32 * (n / 32)) / 2 ^ (n % 32) := by rw [val_dig, Nat.div_div_eq_div_mul, ← hpw]
    have hmod : a % 2 ^ n = 0 ↔ val ((dig a).take (n / 32)) = 0 ∧ d % 2 ^ (n % 32) = 0 := by
      have hV : val ((dig a).drop (n / 32)) % 2 ^ (n % 32) = d % 2 ^ (n % 32) := by
        rw [hs]
        have : (4294967296 : Nat) = 2 ^ (n % 32) * 2 ^ (32 - n % 32) := by rw [← Nat.pow_add, show n % 32 + (32 - n % 32) = 32 by omega]
        rw [this, Nat.mul_assoc, Nat.add_mul_mod_self_left]
      have hm : a % 2 ^ n = val ((dig a).take (n / 32)) + 2 ^ (32 * (n / 32)) * (d % 2 ^ (n % 32)) := by
        rw [hpw, Nat.mod_mul, ← hV]
        have e1 : a % 2 ^ (32 * (n / 32)) = val ((dig a).take (n / 32)) := by
          have := congrArg (· % 2 ^ (32 * (n / 32))) hsplit
          simp only [Nat.add_mul_mod_self_left, Nat.mod_eq_of_lt hlt] at this
          exact this
        have e2 : a / 2 ^ (32 * (n / 32)) = val ((dig a).drop (n / 32)) := by rw [val_drop hp, val_dig]
        rw [e1, e2]
      have hpp := pow32_pos (n / 32)
      rw [hm]
      constructor
      · intro h
        refine ⟨by omega, ?_⟩
        rcases Nat.mul_eq_zero.1 (show 2 ^ (32 * (n / 32)) * (d % 2 ^ (n % 32)) = 0 by omega) with h1 | h1
        · omega
        · exact h1
      · rintro ⟨h1, h2⟩; rw [h1, h2]; rfl
    have hfin : ∀ x : Bool, x = decide (a % 2 ^ n = 0) → Ev (fun k => cuspref02_down.j2 k (dig a) (n : Int) x ((n % 32 : Nat) : Int)) (dig (a / 2 ^ n), decide (a % 2 ^ n = 0)) := by
      intro x hx
      have h := rdown_l1 (dig a) (n % 32) (n / 32) x hp (by omega) (by omega) (by omega) _ 0 [] rfl (by omega) rfl Dg.nil (by rw [Nat.mul_zero, Nat.pow_zero, Nat.mod_one]; rfl)
      rw [← hdiv, hx] at h
      rw [hx]
      refine Ev.step (fun k => ?_) h
      rw [cuspref02_down.j2, ew]
      rfl
    by_cases h0 : val ((dig a).take (n / 32)) = 0
    · rw [decide_eq_true h0] at h6
      subst h6
      refine Ev.step (fun k => ?_) (hfin (decide (d % 2 ^ (n % 32) = 0)) (by simp only [hmod, h0, true_and]))
      rw [cuspref02_down.j1, ew, if_neg (by omega), if_pos rfl, em, if_pos (by omega), if_pos (by omega), if_pos (by omega), rd_nat, hd, mask_u32 d _ hd1 (by omega)]
    · rw [decide_eq_false h0] at h6
      subst h6
      refine Ev.step (fun k => ?_) (hfin false (by simp only [hmod, h0, false_and]; rfl))
      rw [cuspref02_down.j1, ew, if_neg (by omega), if_neg (by simp), em]
theorem rdown_ev (a n : Nat) (hb : (dig a).length < 35184372088830) (hn : n < 4611686018427387904) : ∀ (d i : Nat), d = n / 32 - i → i ≤ n / 32 → ∀ x6, x6 = decide (val ((dig a).take i) = 0) →
    Ev (fun k => cuspref02_down.l0 k (dig a) (n : Int) x6 (i : Int)) (dig (a / 2 ^ n), decide (a % 2 ^ n = 0)) := by
  have hp := dg_dig a
  have ew : wrap64 (Int.tdiv (n : Int) 32) = ((n / 32 : Nat) : Int) := by
    rw [Int.tdiv_eq_ediv_of_nonneg (by omega), show ((n : Int) / 32) = ((n / 32 : Nat) : Int) by omega, w64_nat (by omega)]
  intro d
  induction d with
  | zero =>
    intro i hd hi x6 h6
    have : i = n / 32 := by omega
    subst this
    refine Ev.step (fun k => ?_) (rdown_j1 a n x6 hb hn h6)
    rw [cuspref02_down.l0, ew]
    by_cases hl : n / 32 < (dig a).length
    · rw [if_pos (by omega), if_neg (by omega)]
    · rw [if_neg (by omega)]
  | succ d ih =>
    intro i hd hi x6 h6
    by_cases hl : i < (dig a).length
    · obtain ⟨g, hg, hg1⟩ := hp.nat i
      have hs := val_take_succ' (dig a) i
      rw [hg, Int.toNat_natCast] at hs
      have hpp := pow32_pos i
      by_cases h0 : val ((dig a).take i) = 0
      · rw [decide_eq_true h0] at h6
        subst h6
        refine Ev.step (fun k => ?_) (ih (i + 1) (by omega) (by omega) ((g : Int) == 0) ?_)
        · rw [cuspref02_down.l0, ew, if_pos (by omega), if_pos (by omega), if_pos rfl, if_pos (by omega), rd_nat, hg, w64_succ (by omega)]
        · rw [hs, h0, Nat.zero_add]
          by_cases h : g = 0
          · subst h; rfl
          · rw [decide_eq_false (by have := Nat.mul_pos hpp (show 0 < g by omega); omega)]; simp; omega
      · rw [decide_eq_false h0] at h6
        subst h6
        refine Ev.step (fun k => ?_) (ih (i + 1) (by omega) (by omega) false ?_)
        · rw [cuspref02_down.l0, ew, if_pos (by omega), if_pos (by omega), if_neg (by simp), w64_succ (by omega)]
        · rw [hs, decide_eq_false (by omega)]
    · refine Ev.step (fun k => ?_) (rdown_j1 a n x6 hb hn ?_)
      · rw [cuspref02_down.l0, if_neg (by omega)]
      · rw [h6, List.take_of_length_le (by omega), List.take_of_length_le (by omega)]
theorem rdown_law (a n : Nat) (hb : (dig a).length < 35184372088830) (hn : n < 4611686018427387904) : Ev (fun k => cuspref02_down.f k (dig a) (n : Int)) (dig (a / 2 ^ n), decide (a % 2 ^ n = 0)) :=
  rdown_ev a n hb hn _ 0 rfl (by omega) true (by simp)
end Go.Proofs.YthmeocigliephaaGreatDoor.Plain
end
section
namespace Go.Proofs.YthmeocigliephaaGreatDoor.Big
open Go.Proofs.YthmeocigliephaaGreatDoor.PSu Go.Proofs.YthmeocigliephaaGreatDoor.Plain
attribute [local go_sem] f64bits_run f64from_run max2_int min2_int max_two min_two
def RB (w : World) (g : Nat) (n : Bool) (v : Value) (e : Int) : Prop := w.heap[g]? = some (.cells #[.bool n, v, .int .i64 e] 41 (0, 0))
theorem RB.c0 {w : World} {g : Nat} {n : Bool} {v : Value} {e : Int} (h : RB w g n v e) : w.cell? ⟨g, 0, none⟩ = some (.bool n) := blk_cell h 0
theorem RB.c1 {w : World} {g : Nat} {n : Bool} {v : Value} {e : Int} (h : RB w g n v e) : w.cell? ⟨g, 1, none⟩ = some v := blk_cell h 1
theorem RB.c2 {w : World} {g : Nat} {n : Bool} {v : Value} {e : Int} (h : RB w g n v e) : w.cell? ⟨g, 2, none⟩ = some (.int .i64 e) := blk_cell h 2
theorem RB.fr {w : World} {g : Nat} {n : Bool} {v : Value} {e : Int} (h : RB w g n v e) (i : Nat) : w.frozen? ⟨g, i, none⟩ = false := blk_frozen h i
theorem RB.below {w w' : World} {g : Nat} {n : Bool} {v : Value} {e : Int} (h : RB w g n v e) (k : Below w.heap.size w w') : RB w' g n v e := blk_below h k
end Go.Proofs.YthmeocigliephaaGreatDoor.Big
end
section
namespace Go.Proofs.YthmeocigliephaaGreatDoor.Big
open Go.Proofs.YthmeocigliephaaGreatDoor.PSu Go.Proofs.YthmeocigliephaaGreatDoor.Plain
theorem roundV_eq (neg : Bool) (n : Nat) (e mode : Int) : roundV neg n e mode = signV neg (magV n e (if neg = true then mode == 1 else mode == 3) (mode == 2)) := by
  unfold roundV signV
  cases neg <;> simp
def IsO (l : List Int) (e : Int) : Prop := (l.length = 0 ∨ (dig (val l) = l ∧ val l % 2 = 1)) ∧ l.length ≤ 100000 ∧ -1000000 ≤ e ∧ e ≤ 1000000
instance instDecIsO (l : List Int) (e : Int) : Decidable (IsO l e) := inferInstanceAs (Decidable (_ ∧ _))
end Go.Proofs.YthmeocigliephaaGreatDoor.Big
namespace Go.Proofs.YthmeocigliephaaGreatDoor
open Go.Proofs.YthmeocigliephaaGreatDoor.PSu Go.Proofs.YthmeocigliephaaGreatDoor.Plain Go.Proofs.YthmeocigliephaaGreatDoor.Big
def cuspref02_To.f (a0_0 : Bool) (l0_1 : List Int) (a0_2 : Int) (a1 : Int) : Option Nat :=
  if IsO l0_1 a0_2 ∧ 1 ≤ a1 ∧ a1 ≤ 3 then some (if l0_1.length = 0 then 0 else roundV a0_0 (val l0_1) a0_2 a1) else none
end Go.Proofs.YthmeocigliephaaGreatDoor
end
